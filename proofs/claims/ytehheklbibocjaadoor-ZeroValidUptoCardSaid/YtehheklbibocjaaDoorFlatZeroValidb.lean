/- Words, plain laws and walks behind the law ZeroValid, part 2. No condition. -/
import Derived.Test.YtehheklbibocjaaDoorFlatZeroValida
import Derived.Lib.OwnBridge
import Derived.Lib.AppendIntMem
import Derived.WalkSmall
import Derived.StillTailTactics

/- The walk of bits.OnesCount of numbers below 2^16. No condition. -/
namespace Go.Proofs.YtehheklbibocjaaDoor
open Go.RowKit Go.Deep Go.Proofs.YtehheklbibocjaaDoorW.PrintWords

/-- a value first reckoned, then used -/
def force {α : Type} (y : Nat) (k : Nat → α) : α := Nat.rec (k 0) (fun n _ => k (Nat.succ n)) y
theorem force_eq {α : Type} (y : Nat) (k : Nat → α) : force y k = k y := by cases y <;> rfl
def b1 (x : Nat) : Nat := Nat.add (Nat.land (Nat.div x 2) 6148914691236517205) (Nat.land x 6148914691236517205)
def b2 (y : Nat) : Nat := Nat.add (Nat.land (Nat.div y 4) 3689348814741910323) (Nat.land y 3689348814741910323)
def b3 (y : Nat) : Nat := Nat.land (Nat.add (Nat.div y 16) y) 1085102592571150095
def b4 (y : Nat) : Nat := Nat.add y (Nat.div y 256)
def b5 (y : Nat) : Nat := Nat.add y (Nat.div y 65536)
def b6 (y : Nat) : Nat := Nat.add y (Nat.div y 4294967296)
/-- what OnesCount64 reckons -/
def onesN (x : Nat) : Nat := force (b1 x) fun y => force (b2 y) fun y => force (b3 y) fun y => force (b4 y) fun y => force (b5 y) fun y => force (b6 y) fun y => Nat.land y 127
/-- the count known bit by bit, checked at all numbers -/
def popT : Nat → Nat → Nat → Bool
  | 0, x, c => Nat.beq (onesN x) c
  | d + 1, x, c => force (Nat.mul 2 x) fun y => and (popT d y c) (popT d (Nat.succ y) (Nat.succ c))
theorem popT_all : popT 16 0 0 = true := by decide +kernel
/-- the bits below place d -/
def popN (d y : Nat) : Nat := ((List.range d).filter fun i => y.testBit i).length
theorem popN_succ (d y : Nat) : popN (d + 1) y = popN d y + (if y.testBit d then 1 else 0) := by
  unfold popN
  rw [List.range_succ, List.filter_append, List.length_append]
  congr 1
  rw [List.filter_cons]
  split <;> rfl
theorem popN_mod (d y : Nat) : popN d (y % 2 ^ d) = popN d y := by
  unfold popN
  congr 1
  refine List.filter_congr fun i hi => ?_
  rw [Nat.testBit_mod_two_pow]
  simp [List.mem_range.1 hi]
theorem popT_sound : ∀ (d x c : Nat), popT d x c = true → ∀ y, y < 2 ^ d → onesN (2 ^ d * x + y) = c + popN d y := by
  intro d
  induction d with
  | zero =>
    intro x c h y hy
    obtain rfl : y = 0 := by simpa using hy
    have h' : onesN x = c := Nat.eq_of_beq_eq_true h
    rw [Nat.pow_zero, Nat.one_mul, Nat.add_zero, h']
    rfl
  | succ d ih =>
    intro x c h y hy
    have h' : (and (popT d (2 * x) c) (popT d (2 * x).succ c.succ)) = true := by
      have : popT (d + 1) x c = force (Nat.mul 2 x) fun y => and (popT d y c) (popT d (Nat.succ y) (Nat.succ c)) := rfl
      rw [this, force_eq] at h
      exact h
    obtain ⟨h0, h1⟩ := Bool.and_eq_true_iff.1 h'
    have hp : 2 ^ (d + 1) = 2 * 2 ^ d := by rw [Nat.pow_succ, Nat.mul_comm]
    rw [popN_succ]
    by_cases hlt : y < 2 ^ d
    · have := ih _ _ h0 y hlt
      rw [Nat.testBit_lt_two_pow hlt]
      have e : 2 ^ (d + 1) * x = 2 ^ d * (2 * x) := by rw [hp, Nat.mul_comm 2 (2 ^ d), Nat.mul_assoc]
      rw [e, this]
      rfl
    · have hy2 : y - 2 ^ d < 2 ^ d := by omega
      have := ih _ _ h1 (y - 2 ^ d) hy2
      have e : 2 ^ (d + 1) * x + y = 2 ^ d * (2 * x).succ + (y - 2 ^ d) := by
        rw [hp, Nat.mul_succ, Nat.mul_comm 2 (2 ^ d), Nat.mul_assoc]
        omega
      have hb : y.testBit d = true := by
        rw [Nat.testBit_eq_decide_div_mod_eq, decide_eq_true_eq]
        have : y / 2 ^ d = 1 := by
          rw [Nat.div_eq_sub_div (Nat.two_pow_pos d) (by omega), Nat.div_eq_of_lt hy2]
        rw [this]
      have hm : popN d (y - 2 ^ d) = popN d y := by
        rw [← popN_mod d y, Nat.mod_eq_sub_mod (by omega), Nat.mod_eq_of_lt hy2]
      rw [e, this, hm, hb, if_pos rfl]
      omega
theorem onesN_pop {x : Nat} (h : x < 2 ^ 16) : onesN x = pop x := by
  have := popT_sound 16 0 0 popT_all x h
  rw [Nat.mul_zero, Nat.zero_add, Nat.zero_add] at this
  exact this
theorem land_le (a b : Nat) : Nat.land a b ≤ a := Nat.and_le_left
theorem c1 {x : Nat} (h : x < 2 ^ 16) : IntKind.u64.wrap (bits .and .u64 ((x : Int) / 2) 6148914691236517205 + bits .and .u64 (x : Int) 6148914691236517205) = ((b1 x : Nat) : Int) ∧ b1 x < 2 ^ 18 := by
  have e1 : (x : Int) / 2 = ((x / 2 : Nat) : Int) := by omega
  have h1 := u64_and_nat (x / 2) 6148914691236517205 (by omega) (by decide)
  have h2 := u64_and_nat x 6148914691236517205 (by omega) (by decide)
  have l1 := land_le (x / 2) 6148914691236517205
  have l2 := land_le x 6148914691236517205
  have hb : b1 x = (x / 2 &&& 6148914691236517205) + (x &&& 6148914691236517205) := rfl
  have l1' : x / 2 &&& 6148914691236517205 ≤ x / 2 := l1
  have l2' : x &&& 6148914691236517205 ≤ x := l2
  rw [hb, e1]
  rw [show (6148914691236517205 : Int) = ((6148914691236517205 : Nat) : Int) from rfl, h1, h2, IntKind.wrap_u64]
  generalize x / 2 &&& 6148914691236517205 = u at l1'
  generalize x &&& 6148914691236517205 = v at l2'
  omega
theorem c2 {x : Nat} (h : x < 2 ^ 18) : IntKind.u64.wrap (bits .and .u64 ((x : Int) / 4) 3689348814741910323 + bits .and .u64 (x : Int) 3689348814741910323) = ((b2 x : Nat) : Int) ∧ b2 x < 2 ^ 20 := by
  have e1 : (x : Int) / 4 = ((x / 4 : Nat) : Int) := by omega
  have h1 := u64_and_nat (x / 4) 3689348814741910323 (by omega) (by decide)
  have h2 := u64_and_nat x 3689348814741910323 (by omega) (by decide)
  have hb : b2 x = (x / 4 &&& 3689348814741910323) + (x &&& 3689348814741910323) := rfl
  have l1' : x / 4 &&& 3689348814741910323 ≤ x / 4 := land_le _ _
  have l2' : x &&& 3689348814741910323 ≤ x := land_le _ _
  rw [hb, e1]
  rw [show (3689348814741910323 : Int) = ((3689348814741910323 : Nat) : Int) from rfl, h1, h2, IntKind.wrap_u64]
  generalize x / 4 &&& 3689348814741910323 = u at l1'
  generalize x &&& 3689348814741910323 = v at l2'
  omega
theorem c3 {x : Nat} (h : x < 2 ^ 20) : bits .and .u64 (IntKind.u64.wrap ((x : Int) / 16 + (x : Int))) 1085102592571150095 = ((b3 x : Nat) : Int) ∧ b3 x < 2 ^ 22 := by
  have e1 : IntKind.u64.wrap ((x : Int) / 16 + (x : Int)) = ((x / 16 + x : Nat) : Int) := by rw [IntKind.wrap_u64]; omega
  have h1 := u64_and_nat (x / 16 + x) 1085102592571150095 (by omega) (by decide)
  have hb : b3 x = (x / 16 + x) &&& 1085102592571150095 := rfl
  have l1' : (x / 16 + x) &&& 1085102592571150095 ≤ x / 16 + x := land_le _ _
  rw [hb, e1]
  rw [show (1085102592571150095 : Int) = ((1085102592571150095 : Nat) : Int) from rfl, h1]
  exact ⟨rfl, by omega⟩
theorem c4 {x : Nat} (h : x < 2 ^ 22) : IntKind.u64.wrap ((x : Int) + (x : Int) / 256) = ((b4 x : Nat) : Int) ∧ b4 x < 2 ^ 23 := by
  have hb : b4 x = x + x / 256 := rfl
  rw [hb, IntKind.wrap_u64]
  omega
theorem c5 {x : Nat} (h : x < 2 ^ 23) : IntKind.u64.wrap ((x : Int) + (x : Int) / 65536) = ((b5 x : Nat) : Int) ∧ b5 x < 2 ^ 24 := by
  have hb : b5 x = x + x / 65536 := rfl
  rw [hb, IntKind.wrap_u64]
  omega
theorem c6 {x : Nat} (h : x < 2 ^ 24) : IntKind.u64.wrap ((x : Int) + (x : Int) / 4294967296) = ((b6 x : Nat) : Int) ∧ b6 x < 2 ^ 25 := by
  have hb : b6 x = x + x / 4294967296 := rfl
  rw [hb, IntKind.wrap_u64]
  omega
theorem c7 {x : Nat} (h : x < 2 ^ 25) : bits .and .i64 (x : Int) 127 = ((Nat.land x 127 : Nat) : Int) := i64_and x 127 (by omega) (by decide)
theorem onesN_eq (x : Nat) : onesN x = Nat.land (b6 (b5 (b4 (b3 (b2 (b1 x)))))) 127 := by
  unfold onesN
  rw [force_eq, force_eq, force_eq, force_eq, force_eq, force_eq]

set_option maxRecDepth 100000 in
set_option maxHeartbeats 4000000 in
theorem ones64_ok (x : Nat) (w : World) (hx : x < 2 ^ 16) :
    Calls Tryd.prog 37 #[.int .u64 x] w fun e w' => e = .returned (.int .i64 (pop x : Nat)) ∧ Drawn0 w w' := by
  have hp := onesN_pop hx
  rw [← hp, onesN_eq]
  have HX := hide hx
  clear hp hx
  go_enter Tryd.func37, Tryd.ntmps37
  go_wp2_with (fail)
  go_ret
  obtain ⟨q1, l1⟩ := c1 HX.out
  rw [q1]
  generalize b1 x = y1 at l1 ⊢
  obtain ⟨q2, l2⟩ := c2 l1
  rw [q2]
  generalize b2 y1 = y2 at l2 ⊢
  obtain ⟨q3, l3⟩ := c3 l2
  rw [q3]
  generalize b3 y2 = y3 at l3 ⊢
  obtain ⟨q4, l4⟩ := c4 l3
  rw [q4]
  generalize b4 y3 = y4 at l4 ⊢
  obtain ⟨q5, l5⟩ := c5 l4
  rw [q5]
  generalize b5 y4 = y5 at l5 ⊢
  obtain ⟨q6, l6⟩ := c6 l5
  rw [q6]
  generalize b6 y5 = y6 at l6 ⊢
  have hw : wrap64 (y6 : Int) = (y6 : Int) := by unfold wrap64; omega
  rw [hw, c7 l6]
  exact ⟨rfl, Drawn0.refl _⟩
set_option maxRecDepth 100000 in
set_option maxHeartbeats 4000000 in
theorem ones_ok (x : Nat) (w : World) (hx : x < 2 ^ 16) :
    Calls Tryd.prog 28 #[.int .u64 x] w fun e w' => e = .returned (.int .i64 (pop x : Nat)) ∧ Drawn0 w w' := by
  have HC := hide (ones64_ok x w hx)
  clear hx
  go_enter Tryd.func28, Tryd.ntmps28
  go_wp2_with (go_at_call 37; refine Calls.mono HC.out ?_; rintro e w1 ⟨rfl, ⟨nd, rfl⟩⟩)
  go_ret
  exact ⟨rfl, ⟨⟨_, rfl⟩⟩⟩
end Go.Proofs.YtehheklbibocjaaDoor

/- What the inner function of zero.Alone reads and writes. No condition. -/
namespace Go.Proofs.YtehheklbibocjaaDoor
open Go.RowKit Go.Deep Go.Proofs.YtehheklbibocjaaDoorW.PrintWords

theorem grown_of_below {w w' : World} (h : Below w.heap.size w w') : w.grownBy w' none := ⟨h.os, h.tape, h.output, h.size, fun k hk _ => h.block k hk⟩
theorem own_below {w w' : World} {base e size n : Nat} {v : Value} {xs : List Value} (h : w.ownsRow base e size v n xs) (hb : Below w.heap.size w w') : w'.ownsRow base e size v n xs := h.kept (grown_of_below hb) (by cases v.ownBlock <;> simp)
theorem ints_one {w : World} {b : Nat} {y : Int} (hb : b < w.heap.size) (h : w.cell? ⟨b, 0, none⟩ = some (.int .i64 y)) : Ints w (some ⟨b, 0, none⟩) [y] :=
  ⟨by simp, fun i hi => by
    obtain rfl : i = 0 := by simp at hi; omega
    exact ⟨b, 0, rfl, hb, h⟩⟩
/-- a copy that the call owns -/
theorem clone_ok (A : Option Addr) (l : List Int) (c : Nat) (w : World) (hA : Ints w A l) (h0 : 0 < l.length) (hl : l.length ≤ 2000000) :
    Calls Tryd.prog 27 #[.slice A l.length c] w fun e w' => ∃ g d, e = .returned (.slice (some ⟨g, 0, none⟩) l.length d) ∧ w.heap.size ≤ g ∧ l.length ≤ d ∧ w'.ownsRow w.heap.size 3 1 (.slice (some ⟨g, 0, none⟩) l.length d) l.length (intCells l) ∧ Below w.heap.size w w' := by
  obtain ⟨b, off, rfl, _, _⟩ := hA.at_ 0 h0
  have hc : ∀ j, j < l.length → w.cell? ⟨b, off + j, none⟩ = some (.int .i64 (l.getD j 0)) := fun j hj => by
    obtain ⟨b1, off1, e, _, h⟩ := hA.at_ j hj
    injection e with e
    injection e with e1 e2 _
    subst e1 e2
    exact h
  refine (Tryd.slices_Clone_int b off l.length c l w (Nat.le_refl _) (by omega) hc).mono ?_
  rintro e w' ⟨v, rfl, ho, hne, hb⟩
  rw [List.take_length] at ho
  obtain ⟨g, d, rfl, hg, _, hd, _⟩ := Lib.holds_of_ownsRow ho hne
  exact ⟨g, d, rfl, hg, hd, ho, hb⟩
theorem alloc_at (w : World) (o : Obj) : (w.alloc o).heap[w.heap.size]? = some o := by
  show (w.heap.push o)[w.heap.size]? = some o
  simp
theorem alloc_old (w : World) (o : Obj) (g : Nat) (h : g < w.heap.size) : (w.alloc o).heap[g]? = w.heap[g]? := by
  show (w.heap.push o)[g]? = _
  rw [Array.getElem?_push_lt h, Array.getElem?_eq_getElem h]
theorem rows_same (W : World) (g i : Nat) (cs : Array Value) (t : TypeId) (v : Value) (h : W.heap[g]? = some (.cells cs t (0, 0))) : (W.setCell ⟨g, i, none⟩ v).heap[g]? = some (.cells (cs.setIfInBounds i v) t (0, 0)) := by
  simp [World.setCell, Array.getElem?_modify, h]
theorem cell_of (W : World) (g i : Nat) (t : TypeId) (cs : Array Value) (u : Value) (h : W.heap[g]? = some (.cells cs t (0, 0))) (hu : cs[i]? = some u) : W.cell? ⟨g, i, none⟩ = some u ∧ W.frozen? ⟨g, i, none⟩ = false := by
  constructor
  · simp [World.cell?, h, hu]
  · simp [World.frozen?, h]
theorem lt_of_block {W : World} {g : Nat} {o : Obj} (h : W.heap[g]? = some o) : g < W.heap.size := (Array.getElem?_eq_some_iff.1 h).1

/-- what the inner function reads and never writes -/
structure GS (w : World) (n : Nat) (M : List Nat) (NB L : Nat) (V : World) : Prop where
  below : Below w.heap.size w V
  low1 : w.heap.size + 1 ≤ NB
  low2 : NB < L
  size : L + 4 ≤ V.heap.size
  cg : V.cell? ⟨w.heap.size, 0, none⟩ = some (.int .i64 (n : Int))
  cl : V.cell? ⟨L, 0, none⟩ = some (.slice (some ⟨NB, 0, none⟩) n n)
  nrow : NRow V NB n M
  cf : V.cell? ⟨L + 3, 0, none⟩ = some (.func (.func 26) #[] #[.pointer (some ⟨L + 2, 0, none⟩), .pointer (some ⟨L + 1, 0, none⟩), .pointer (some ⟨w.heap.size, 0, none⟩), .pointer (some ⟨L + 3, 0, none⟩), .pointer (some ⟨L, 0, none⟩)])
/-- what it writes: what has joined, the best so far -/
structure GT (L : Nat) (V : World) (now best : List Int) (A : Option Addr) (c : Nat) (B : Option Addr) (d : Nat) : Prop where
  own : V.ownsRow (L + 4) 3 1 (.slice A now.length c) now.length (intCells now)
  bn : V.heap[L + 2]? = some (.cells #[.slice A now.length c] 33 (0, 0))
  bb : V.heap[L + 1]? = some (.cells #[.slice B best.length d] 33 (0, 0))
  ib : Ints V B best
  db : best.length ≤ d
  apart : ∀ a, B = some a → L + 4 ≤ a.block ∧ a.block < V.heap.size ∧ ∀ a', A = some a' → a'.block ≠ a.block

theorem GS.keep {w : World} {n : Nat} {M : List Nat} {NB L : Nat} {V V' : World} (h : GS w n M NB L V) (hb : Below w.heap.size w V') (hs : V.heap.size ≤ V'.heap.size) (hk : ∀ b, b < L + 4 → b ≠ L + 1 → b ≠ L + 2 → V'.heap[b]? = V.heap[b]?) : GS w n M NB L V' := by
  have h1 := h.low1
  have h2 := h.low2
  exact ⟨hb, h1, h2, Nat.le_trans h.size hs, (World.cell?_of_block (a := ⟨w.heap.size, 0, none⟩) (hk _ (by show w.heap.size < _; omega) (by show w.heap.size ≠ _; omega) (by show w.heap.size ≠ _; omega))).trans h.cg,
    (World.cell?_of_block (a := ⟨L, 0, none⟩) (hk L (by omega) (by omega) (by omega))).trans h.cl, World.rowIs.of_block h.nrow (hk NB (by omega) (by omega) (by omega)), (World.cell?_of_block (a := ⟨L + 3, 0, none⟩) (hk (L + 3) (by omega) (by omega) (by omega))).trans h.cf⟩
theorem GS.later {w : World} {n : Nat} {M : List Nat} {NB L : Nat} {V V' : World} (h : GS w n M NB L V) (b : Below V.heap.size V V') : GS w n M NB L V' :=
  h.keep (below_trans h.below b) b.size fun k hk _ _ => b.block k (Nat.lt_of_lt_of_le hk h.size)
theorem GT.later {L : Nat} {V V' : World} {now best : List Int} {A : Option Addr} {c : Nat} {B : Option Addr} {d : Nat} (h : GT L V now best A c B d) (b : Below V.heap.size V V') : GT L V' now best A c B d :=
  ⟨own_below h.own b, (b.block _ (lt_of_block h.bn)).trans h.bn, (b.block _ (lt_of_block h.bb)).trans h.bb, h.ib.below b, h.db, fun a e => ⟨(h.apart a e).1, Nat.lt_of_lt_of_le (h.apart a e).2.1 b.size, (h.apart a e).2.2⟩⟩
/-- the place of a row that the call owns -/
theorem own_at {w : World} {base n : Nat} {e : TypeId} {size : Nat} {A : Option Addr} {c : Nat} {xs : List Value} (h : w.ownsRow base e size (.slice A n c) n xs) : (A = none ∧ n = 0) ∨ ∃ g, A = some ⟨g, 0, none⟩ ∧ base ≤ g ∧ g < w.heap.size := by
  obtain ⟨_, h2⟩ := h
  rcases h2 with ⟨h0, h1⟩ | ⟨g, cap, cur, hv, hg, hh, _⟩
  · injection h0 with h0
    exact .inl ⟨h0, h1⟩
  · injection hv with hv
    exact .inr ⟨g, hv, hg, lt_of_block hh⟩

/-- the best is copied -/
theorem G.clone {w : World} {n : Nat} {M : List Nat} {NB L : Nat} {V W : World} {now best : List Int} {A : Option Addr} {c : Nat} {B : Option Addr} {d g d' : Nat} (hS : GS w n M NB L V) (hT : GT L V now best A c B d)
    (hb : Below V.heap.size V W) (hg : V.heap.size ≤ g) (hd : now.length ≤ d') (ho : W.ownsRow V.heap.size 3 1 (.slice (some ⟨g, 0, none⟩) now.length d') now.length (intCells now)) :
    GS w n M NB L (W.setCell ⟨L + 1, 0, none⟩ (.slice (some ⟨g, 0, none⟩) now.length d')) ∧ GT L (W.setCell ⟨L + 1, 0, none⟩ (.slice (some ⟨g, 0, none⟩) now.length d')) now now A c (some ⟨g, 0, none⟩) d' := by
  have h1 := hS.low1
  have h2 := hS.low2
  have hz := hS.size
  have hS1 := hS.later hb
  have hT1 := hT.later hb
  have key : ∀ q, q ≠ L + 1 → (W.setCell ⟨L + 1, 0, none⟩ (.slice (some ⟨g, 0, none⟩) now.length d')).heap[q]? = W.heap[q]? := fun q hq => Below.heap_setCell _ _ _ _ hq
  have hgs : g < W.heap.size := by
    rcases own_at ho with ⟨e, _⟩ | ⟨g', e, _, h⟩
    · cases e
    · injection e with e
      injection e with e
      subst e
      exact h
  have hae : ∀ a', A = some a' → a'.block < V.heap.size := fun a' e => by
    rcases own_at hT.own with ⟨e', _⟩ | ⟨g', e', _, h⟩
    · rw [e'] at e; cases e
    · rw [e'] at e; injection e with e; subst e; exact h
  have ho' : W.ownsRow V.heap.size 3 1 (.slice (some ⟨g, 0, none⟩) now.length d') now.length (intCells now) := ho
  refine ⟨hS1.keep (hS1.below.setCell (p := ⟨L + 1, 0, none⟩) (by show w.heap.size ≤ L + 1; omega) _) (by rw [World.size_setCell]; exact Nat.le_refl _) fun b _ hb1 _ => key b hb1, ⟨ownsRow_setCell_below hT1.own (a := ⟨L + 1, 0, none⟩) (by show L + 1 < L + 4; omega) _, (key _ (by omega)).trans hT1.bn, ?_, ?_, hd, ?_⟩⟩
  · have := rows_same W (L + 1) 0 _ _ (.slice (some ⟨g, 0, none⟩) now.length d') hT1.bb
    exact this
  · exact Ints.own (ownsRow_setCell_below ho' (a := ⟨L + 1, 0, none⟩) (by show L + 1 < V.heap.size; omega) _)
  · intro a e
    injection e with e
    subst e
    refine ⟨by show L + 4 ≤ g; omega, by rw [World.size_setCell]; exact hgs, fun a' e' => ?_⟩
    have := hae a' e'
    show a'.block ≠ g
    omega
/-- one joins -/
theorem G.push {w : World} {n : Nat} {M : List Nat} {NB L : Nat} {V W : World} {now best : List Int} {A A' : Option Addr} {c c' : Nat} {B : Option Addr} {d : Nat} {o : Obj} {x : Int} (hS : GS w n M NB L V) (hT : GT L V now best A c B d)
    (ho : W.ownsRow (L + 4) 3 1 (.slice A' (now ++ [x]).length c') (now ++ [x]).length (intCells (now ++ [x]))) (hg : (V.alloc o).grownBy W (Value.slice A now.length c).ownBlock)
    (hob : (Value.slice A' (now ++ [x]).length c').ownBlock = (Value.slice A now.length c).ownBlock ∨ (Value.slice A' (now ++ [x]).length c').ownBlock = some (V.alloc o).heap.size) :
    GS w n M NB L (W.setCell ⟨L + 2, 0, none⟩ (.slice A' (now ++ [x]).length c')) ∧ GT L (W.setCell ⟨L + 2, 0, none⟩ (.slice A' (now ++ [x]).length c')) (now ++ [x]) best A' c' B d ∧ W.heap[L + 2]? = some (.cells #[.slice A now.length c] 33 (0, 0)) := by
  have h1 := hS.low1
  have h2 := hS.low2
  have hz := hS.size
  have hsA : (V.alloc o).heap.size = V.heap.size + 1 := World.size_alloc _ _
  have hsz : V.heap.size + 1 ≤ W.heap.size := by have := hg.size; omega
  have old : ∀ b, b < V.heap.size → (∀ a, A = some a → a.block ≠ b) → W.heap[b]? = V.heap[b]? := fun b hb hne => by
    rw [hg.block b (by omega) (fun e => by
      cases A with
      | none => cases e
      | some a => injection e with e; exact hne a rfl e.symm), alloc_old V o b hb]
  have hAb : ∀ a, A = some a → L + 4 ≤ a.block := fun a e => by
    rcases own_at hT.own with ⟨e', _⟩ | ⟨g', e', h, _⟩
    · rw [e'] at e; cases e
    · rw [e'] at e; injection e with e; subst e; exact h
  have lowb : ∀ b, b < L + 4 → W.heap[b]? = V.heap[b]? := fun b hb => old b (by omega) (fun a e => by have := hAb a e; omega)
  have hbw : Below w.heap.size w W := by
    refine ⟨hg.os.trans hS.below.os, hg.tape.trans hS.below.tape, hg.output.trans hS.below.output, Nat.le_trans hS.below.size (by omega), fun k hk => ?_⟩
    exact (lowb k (by omega)).trans (hS.below.block k hk)
  have hS1 : GS w n M NB L W := hS.keep hbw (by omega) fun b hb _ _ => lowb b hb
  have key : ∀ q, q ≠ L + 2 → (W.setCell ⟨L + 2, 0, none⟩ (.slice A' (now ++ [x]).length c')).heap[q]? = W.heap[q]? := fun q hq => Below.heap_setCell _ _ _ _ hq
  refine ⟨hS1.keep (hbw.setCell (p := ⟨L + 2, 0, none⟩) (by show w.heap.size ≤ L + 2; omega) _) (by rw [World.size_setCell]; exact Nat.le_refl _) fun b _ _ hb2 => key b hb2, ⟨ownsRow_setCell_below ho (a := ⟨L + 2, 0, none⟩) (by show L + 2 < L + 4; omega) _, ?_, (key _ (by omega)).trans ((lowb _ (by omega)).trans hT.bb), ?_, hT.db, ?_⟩, (lowb _ (by omega)).trans hT.bn⟩
  · exact rows_same W (L + 2) 0 _ _ (.slice A' (now ++ [x]).length c') ((lowb _ (by omega)).trans hT.bn)
  · refine ⟨hT.ib.len, fun i hi => ?_⟩
    obtain ⟨b, off, e, h, hc⟩ := hT.ib.at_ i hi
    have ha := hT.apart _ e
    refine ⟨b, off, e, by rw [World.size_setCell]; omega, ?_⟩
    rw [World.cell?_of_block (a := ⟨b, off + i, none⟩) (key b (by have : L + 4 ≤ b := ha.1; omega)), World.cell?_of_block (a := ⟨b, off + i, none⟩) (old b h fun a' e' => ha.2.2 a' e')]
    exact hc
  · intro a e
    have ha := hT.apart a e
    refine ⟨ha.1, by rw [World.size_setCell]; omega, fun a' e' => ?_⟩
    subst e'
    rcases hob with q | q
    · cases A with
      | none => cases q
      | some a2 =>
        injection q with q
        rw [q]
        exact ha.2.2 a2 rfl
    · injection q with q
      rw [q, hsA]
      omega
/-- the last one leaves -/
theorem G.pop {w : World} {n : Nat} {M : List Nat} {NB L : Nat} {V : World} {now best : List Int} {A : Option Addr} {c : Nat} {B : Option Addr} {d : Nat} {x : Int} (hS : GS w n M NB L V) (hT : GT L V (now ++ [x]) best A c B d) :
    GS w n M NB L (V.setCell ⟨L + 2, 0, none⟩ (.slice A now.length c)) ∧ GT L (V.setCell ⟨L + 2, 0, none⟩ (.slice A now.length c)) now best A c B d := by
  have h1 := hS.low1
  have h2 := hS.low2
  have hz := hS.size
  have key : ∀ q, q ≠ L + 2 → (V.setCell ⟨L + 2, 0, none⟩ (.slice A now.length c)).heap[q]? = V.heap[q]? := fun q hq => Below.heap_setCell _ _ _ _ hq
  have hown := hT.own
  rw [List.length_append, List.length_singleton, intCells_append] at hown
  have hpop : V.ownsRow (L + 4) 3 1 (.slice A now.length c) now.length (intCells now) := by
    rcases own_at hown with ⟨_, e⟩ | ⟨g, e, _, _⟩
    · omega
    · subst e
      exact ownsRow_pop (by rw [intCells_length]; omega) hown
  refine ⟨hS.keep (hS.below.setCell (p := ⟨L + 2, 0, none⟩) (by show w.heap.size ≤ L + 2; omega) _) (by rw [World.size_setCell]; exact Nat.le_refl _) fun b _ _ hb2 => key b hb2, ⟨ownsRow_setCell_below hpop (a := ⟨L + 2, 0, none⟩) (by show L + 2 < L + 4; omega) _, ?_, (key _ (by omega)).trans hT.bb, ?_, hT.db, ?_⟩⟩
  · exact rows_same V (L + 2) 0 _ _ (.slice A now.length c) hT.bn
  · refine ⟨hT.ib.len, fun i hi => ?_⟩
    obtain ⟨b, off, e, h, hc⟩ := hT.ib.at_ i hi
    have ha := hT.apart _ e
    refine ⟨b, off, e, by rw [World.size_setCell]; exact h, ?_⟩
    rw [World.cell?_of_block (a := ⟨b, off + i, none⟩) (key b (by have : L + 4 ≤ b := ha.1; omega))]
    exact hc
  · intro a e
    have ha := hT.apart a e
    exact ⟨ha.1, by rw [World.size_setCell]; exact ha.2.1, ha.2.2⟩
end Go.Proofs.YtehheklbibocjaaDoor

/- The walk of zero.Alone's inner function. No condition. -/
namespace Go.Proofs.YtehheklbibocjaaDoor
open Go.RowKit Go.Deep Go.Proofs.YtehheklbibocjaaDoorW.PrintWords

theorem loopF_zero (M : List Nat) (n left : Nat) (now best : List Int) : loopF M n 0 left now best = best := rfl
theorem loopF_skip {M : List Nat} {n k left : Nat} {now best : List Int} (h : (left / 2 ^ (n - (k + 1))) % 2 = 0 ∨ now.length + pop (left / 2 ^ (n - (k + 1))) ≤ best.length) : loopF M n (k + 1) left now best = loopF M n k left now best := by
  rw [loopF, if_pos h]
theorem loopF_take {M : List Nat} {n k left : Nat} {now best : List Int} (h : ¬((left / 2 ^ (n - (k + 1))) % 2 = 0 ∨ now.length + pop (left / 2 ^ (n - (k + 1))) ≤ best.length)) : loopF M n (k + 1) left now best = loopF M n k left now (loopF M n k (without left (M.getD (n - (k + 1)) 0)) (now ++ [((n - (k + 1) : Nat) : Int)]) (upd (now ++ [((n - (k + 1) : Nat) : Int)]) best)) := by
  rw [loopF, if_neg h]
theorem without_lt {left m : Nat} (h : left < 2 ^ 16) : without left m < 2 ^ 16 := Nat.lt_of_le_of_lt Nat.and_le_left h
theorem andNot_u64 {left m : Nat} (h : left < 2 ^ 16) (hm : m < 2 ^ 16) : bits .andNot .u64 (left : Int) (m : Int) = ((without left m : Nat) : Int) := by
  have h64 : (2 : Nat) ^ 16 < 18446744073709551616 := by decide
  exact u64_andNot_nat left m (by omega) (by omega)
theorem and_one {x : Nat} (h : x < 2 ^ 16) : bits .and .u64 (x : Int) 1 = ((x % 2 : Nat) : Int) := by
  have h1 := u64_and_nat x 1 (by omega) (by decide)
  rw [Nat.and_one_is_mod] at h1
  exact h1
theorem div_lt16 {x v : Nat} (h : x < 2 ^ 16) : x / 2 ^ v < 2 ^ 16 := Nat.lt_of_le_of_lt (Nat.div_le_self _ _) h

theorem own_cap {w : World} {base n : Nat} {e : TypeId} {size : Nat} {A : Option Addr} {c : Nat} {xs : List Value} (h : w.ownsRow base e size (.slice A n c) n xs) : n ≤ c := by
  obtain ⟨A', c', e', h', _⟩ := own_shape h
  injection e' with _ _ e'
  subst e'
  exact h'
/-- behind the inner call: what the last one's leaving reads -/
theorem G.back {w : World} {n : Nat} {M : List Nat} {NB L : Nat} {V : World} {now best : List Int} {A : Option Addr} {c : Nat} {B : Option Addr} {d : Nat} {x : Int} (hS : GS w n M NB L V) (hT : GT L V (now ++ [x]) best A c B d) :
    ∃ g, A = some ⟨g, 0, none⟩ ∧ V.cell? ⟨L + 2, 0, none⟩ = some (.slice A (now.length + 1) c) ∧ V.frozen? ⟨L + 2, 0, none⟩ = false ∧ (now.length : Int) ≤ (c : Int) ∧ GS w n M NB L (V.setCell ⟨L + 2, 0, none⟩ (.slice A now.length c)) ∧ GT L (V.setCell ⟨L + 2, 0, none⟩ (.slice A now.length c)) now best A c B d := by
  obtain ⟨hS7, hT7⟩ := G.pop hS hT
  have hl : (now ++ [x]).length = now.length + 1 := by rw [List.length_append, List.length_singleton]
  have hbn := hT.bn
  have hcap := own_cap hT.own
  have hat := own_at hT.own
  rw [hl] at hbn hcap hat
  rcases hat with ⟨_, e⟩ | ⟨g, e, _⟩
  · exact absurd e (Nat.succ_ne_zero _)
  · obtain ⟨t1, t2⟩ := cell_of V (L + 2) 0 _ _ _ hbn rfl
    exact ⟨g, e, t1, t2, by omega, hS7, hT7⟩
theorem wrap_sum {a b : Nat} (ha : a ≤ 16) (hb : b ≤ 16) : wrap64 ((a : Int) + (b : Int)) = (a : Int) + (b : Int) := by unfold wrap64; omega
theorem pop_le (x : Nat) : pop x ≤ 16 := by
  have := List.length_filter_le (fun i => x.testBit i) (List.range 16)
  rw [List.length_range] at this
  exact this

set_option maxRecDepth 100000 in
set_option maxHeartbeats 8000000 in
theorem grow_ok (w : World) (n : Nat) (M : List Nat) (NB L : Nat) (hn : n ≤ 16) (hlow : Low M) : ∀ (k from_ : Nat), from_ + k = n → ∀ (V : World) (left : Nat) (now best : List Int) (A : Option Addr) (c : Nat) (B : Option Addr) (d : Nat), left < 2 ^ 16 → now.length ≤ from_ → best.length ≤ n → GS w n M NB L V → GT L V now best A c B d →
    Calls Tryd.prog 26 #[.int .i64 (from_ : Int), .int .u64 (left : Int), .pointer (some ⟨L + 2, 0, none⟩), .pointer (some ⟨L + 1, 0, none⟩), .pointer (some ⟨w.heap.size, 0, none⟩), .pointer (some ⟨L + 3, 0, none⟩), .pointer (some ⟨L, 0, none⟩)] V fun e V' =>
      (∃ v, e = .returned v) ∧ GS w n M NB L V' ∧ (loopF M n k left now (upd now best)).length ≤ n ∧ ∃ A c B d, GT L V' now (loopF M n k left now (upd now best)) A c B d := by
  intro k
  induction k using Nat.strongRecOn with
  | ind k ih =>
  intro from_ hf V left now best A c B d hleft hnow hbest hS hT
  obtain ⟨RES, hRES⟩ : ∃ r, loopF M n k left now (upd now best) = r := ⟨_, rfl⟩
  rw [hRES]
  have HIH := hide (fun v (h1 : from_ ≤ v) (h2 : v < n) => ih (n - (v + 1)) (by omega) (v + 1) (by omega))
  have HLOW := hide hlow
  have HLEFT := hide hleft
  have f0 : (0 : Int) ≤ (from_ : Int) := Int.natCast_nonneg _
  have n0 : (n : Int) ≤ 16 := by omega
  have HNOW := hide hnow
  clear ih hleft hlow
  have hSz := hS.size
  have hSlow := hS.low1
  have hSlow2 := hS.low2
  have u1 := cell_of V (L + 2) 0 _ _ _ hT.bn rfl
  have u2 := cell_of V (L + 1) 0 _ _ _ hT.bb rfl
  obtain ⟨u1c, u1f⟩ := u1
  obtain ⟨u2c, u2f⟩ := u2
  have hkf : n - from_ = k := by omega
  by_cases hlt : best.length < now.length
  · have hup : upd now best = now := by unfold upd; rw [if_pos hlt]
    rw [hup] at hRES
    have hlti : (best.length : Int) < (now.length : Int) := by omega
    have hcl := clone_ok A now c V (Ints.own hT.own) (by omega) (by omega)
    have HCL := hide hcl
    have HS := hide hS
    have HT := hide hT
    have HR := hide hRES
    clear hcl hS hT hRES hup hlt
    go_enter Tryd.func26, Tryd.ntmps26
    go_wp2_with (go_at_call 27; refine Calls.mono HCL.out ?_; rintro e w1 ⟨g, d', rfl, hg, hd', ho, hb1⟩; obtain ⟨hS1, hT1⟩ := G.clone HS.out HT.out hb1 hg hd' ho; have u3 := cell_of w1 (L + 1) 0 _ _ _ (HT.out.later hb1).bb rfl; obtain ⟨u3c, u3f⟩ := u3)
    have HSTART : Hid (∃ A c B d bj, bj.length ≤ n ∧ GT L (w1.setCell ⟨L + 1, 0, none⟩ (.slice (some ⟨g, 0, none⟩) now.length d')) now bj A c B d ∧ loopF M n (n - from_) left now bj = RES) := hide ⟨A, c, some ⟨g, 0, none⟩, d', now, by have := HNOW.out; omega, hT1, by rw [hkf]; exact HR.out⟩
    clear hT1 u3c u3f hb1 ho
    go_loopw [9] (fun jv wr => ∃ v : Nat, from_ ≤ v ∧ v ≤ n ∧ jv = .int .i64 v ∧ GS w n M NB L wr ∧ Hid (∃ A c B d bj, bj.length ≤ n ∧ GT L wr now bj A c B d ∧ loopF M n (n - v) left now bj = RES)) (fun jv _ => n - (intOf jv).toNat)
    case atStart => exact ⟨from_, Nat.le_refl _, by omega, rfl, hS1, HSTART⟩
    case round =>
      obtain ⟨v, hv, hvn, rfl, hSj, HJ⟩ := hrel
      obtain ⟨wj, rfl⟩ : ∃ wj : World, wj = wr := ⟨_, rfl⟩
      obtain ⟨Aj, cj, Bj, dj, bj, hbj, hTj, hRj⟩ := HJ.out
      clear HSTART hS1 HJ u1c u1f u2c u2f
      obtain ⟨u1c, u1f⟩ := cell_of wj (L + 2) 0 _ _ _ hTj.bn rfl
      obtain ⟨u2c, u2f⟩ := cell_of wj (L + 1) 0 _ _ _ hTj.bb rfl
      have u3c := hSj.cg
      have zj := hSj.size
      have v0 : (0 : Int) ≤ (v : Int) := Int.natCast_nonneg _
      by_cases hvl : v < n
      · have v1 : (v : Int) < (n : Int) := by omega
        have hk1 : n - v = (n - (v + 1)) + 1 := by omega
        have hvv : n - ((n - (v + 1)) + 1) = v := by omega
        rw [hk1] at hRj
        obtain ⟨x, hx⟩ : ∃ x, left / 2 ^ v = x := ⟨_, rfl⟩
        have HK1 := hide (And.intro hk1 hvv)
        have hx16 : x < 2 ^ 16 := by rw [← hx]; exact div_lt16 HLEFT.out
        have hxi : (left : Int) / 2 ^ v = (x : Int) := by rw [← hx]; simp
        have ha1 := and_one hx16
        by_cases hodd : x % 2 = 0
        · have hcd : (left / 2 ^ (n - ((n - (v + 1)) + 1))) % 2 = 0 ∨ now.length + pop (left / 2 ^ (n - ((n - (v + 1)) + 1))) ≤ bj.length := by rw [hvv, hx]; exact .inl hodd
          have hnx : loopF M n (n - (v + 1)) left now bj = RES := (loopF_skip hcd).symm.trans hRj
          clear hcd
          rw [hodd] at ha1
          have hg1 : (bits BinOp.and IntKind.u64 ((left : Int) / 2 ^ v) 1 == 0) = true := by rw [hxi, ha1]; rfl
          have HRN := hide (And.intro hnx hRj)
          have HTJ := hide (And.intro hTj hbj)
          clear hnx hRj hTj hbj ha1 hxi hk1 hvv hx hodd
          go_wp2_with (fail)
          go_quiet (fail)
          have hSq := hSj.later (below_drewN' (Below.refl _ _) nq)
          have hTq := HTJ.out.1.later (below_drewN' (Below.refl _ _) nq)
          go_wp2_with (fail)
          go_roundw
          case rel => exact ⟨v + 1, by omega, by omega, by go_num, hSq, hide ⟨Aj, cj, Bj, dj, bj, HTJ.out.2, hTq, HRN.out.1⟩⟩
          case measure => simp [intOf]; omega
        · have hodd1 : x % 2 = 1 := (Nat.mod_two_eq_zero_or_one x).resolve_left hodd
          rw [hodd1] at ha1
          have hg1 : (bits BinOp.and IntKind.u64 ((left : Int) / 2 ^ v) 1 == 0) = false := by rw [hxi, ha1]; rfl
          have hpl := pop_le x
          have hon : ∀ nn, Calls Tryd.prog 28 #[.int .u64 ((left : Int) / 2 ^ v)] (wj.drewN nn) fun e w' => e = .returned (.int .i64 (pop x : Nat)) ∧ Drawn0 (wj.drewN nn) w' := fun nn => by rw [hxi]; exact ones_ok x _ hx16
          have HON := hide hon
          have hnl := HNOW.out
          obtain ⟨pp, hpp⟩ : ∃ p, pop x = p := ⟨_, rfl⟩
          rw [hpp] at hpl HON
          by_cases hfew : now.length + pp ≤ bj.length
          · have hcd : (left / 2 ^ (n - ((n - (v + 1)) + 1))) % 2 = 0 ∨ now.length + pop (left / 2 ^ (n - ((n - (v + 1)) + 1))) ≤ bj.length := by rw [hvv, hx, hpp]; exact .inr hfew
            have hnx : loopF M n (n - (v + 1)) left now bj = RES := (loopF_skip hcd).symm.trans hRj
            clear hcd
            have hfi : (now.length : Int) + (pp : Int) ≤ (bj.length : Int) := by rw [← Int.natCast_add]; exact Int.ofNat_le.2 hfew
            have HRN := hide (And.intro hnx hRj)
            have HTJ := hide (And.intro hTj hbj)
            clear hnx hRj hTj hbj ha1 hxi hon hk1 hvv hx hodd
            go_wp2_with (fail)
            go_quiet ((go_at_call 28; with_reducible exact quiet_drawn (HON.out _)))
            have hSq := hSj.later (below_drewN' (Below.refl _ _) nq)
            have hTq := HTJ.out.1.later (below_drewN' (Below.refl _ _) nq)
            go_wp2_with (fail)
            go_roundw
            case rel => exact ⟨v + 1, by omega, by omega, by go_num, hSq, hide ⟨Aj, cj, Bj, dj, bj, HTJ.out.2, hTq, HRN.out.1⟩⟩
            case measure => simp [intOf]; omega
          · have hcd : ¬((left / 2 ^ (n - ((n - (v + 1)) + 1))) % 2 = 0 ∨ now.length + pop (left / 2 ^ (n - ((n - (v + 1)) + 1))) ≤ bj.length) := by
              rw [hvv, hx, hpp]
              rintro (h | h)
              · exact hodd h
              · exact hfew h
            have hnx := (loopF_take hcd).symm.trans hRj
            rw [hvv] at hnx
            clear hcd
            have hfi : decide ((now.length : Int) + (pp : Int) ≤ (bj.length : Int)) = false := decide_eq_false fun h => hfew (Int.ofNat_le.1 (by rw [Int.natCast_add]; exact h))
            have HRN := hide hnx
            have HTJ := hide (And.intro hTj hbj)
            clear hnx hRj hTj ha1 hxi hon hk1 hvv hx hodd
            go_wp2_with (fail)
            go_quiet ((go_at_call 28; with_reducible exact quiet_drawn (HON.out _)))
            have hSq := hSj.later (below_drewN' (Below.refl _ _) nq)
            have hTq := HTJ.out.1.later (below_drewN' (Below.refl _ _) nq)
            generalize World.drewN wj nq = wq at hSq hTq ⊢
            clear u1c u1f u2c u2f u3c zj HTJ hSj HON hfi hg1
            obtain ⟨u1c, u1f⟩ := cell_of wq (L + 2) 0 _ _ _ hTq.bn rfl
            have zq := hSq.size
            have HSQ := hide (And.intro hSq hTq)
            have HOWN := hide (fun o => own_below hTq.own (below_alloc' (Below.refl _ _) o))
            clear hSq hTq
            go_wp2_with
              (at_builtin; refine wp_app_ints _ rfl (.tmp 41) (.tmp 43) rfl (L + 4) (.slice Aj now.length cj) now rfl (HOWN.out _) (some ⟨wq.heap.size, 0, none⟩) 1 1 [(v : Int)] rfl rfl (ints_one (by rw [World.size_alloc]; omega) (by simp)) (by omega) (by rw [World.size_alloc]; omega) ?_; intro A' c' w2 hc2 ho2 hg2 hob2; obtain ⟨hS2, hT2, hb2⟩ := G.push HSQ.out.1 HSQ.out.2 ho2 hg2 hob2; obtain ⟨y1, y2⟩ := cell_of w2 (L + 2) 0 _ _ _ hb2 rfl; clear hb2 ho2 hg2 hob2)
            have hlen : (now ++ [(v : Int)]).length = now.length + 1 := by rw [List.length_append, List.length_singleton]
            rw [hlen] at hS2 hT2
            obtain ⟨W2, hW2⟩ : ∃ W, w2.setCell ⟨L + 2, 0, none⟩ (.slice A' (now.length + 1) c') = W := ⟨_, rfl⟩
            rw [hW2] at hS2 hT2 ⊢
            clear hW2 y1 y2 u1c u1f
            have r1 := hS2.cf
            have r2 := hS2.cl
            have r3 := World.rowIs.cell hS2.nrow (i := v) hvl
            have hm16 := HLOW.out v
            have hc := HIH.out v hv hvl W2.drew (without left (M.getD v 0)) (now ++ [(v : Int)]) bj A' c' Bj dj (without_lt HLEFT.out) (by rw [hlen]; omega) hbj (hS2.later (below_drewN' (Below.refl _ _) 1)) (hT2.later (below_drewN' (Below.refl _ _) 1))
            rw [← andNot_u64 HLEFT.out hm16] at hc
            generalize M.getD v 0 = m at r3 hc HRN
            have hc' : Calls Tryd.prog 26 #[.int .i64 ((v : Int) + 1), .int .u64 (bits .andNot .u64 (left : Int) (m : Int)), .pointer (some ⟨L + 2, 0, none⟩), .pointer (some ⟨L + 1, 0, none⟩), .pointer (some ⟨w.heap.size, 0, none⟩), .pointer (some ⟨L + 3, 0, none⟩), .pointer (some ⟨L, 0, none⟩)] W2.drew _ := hc
            have HC := hide hc'
            have HLEN := hide hlen
            have z2 := hS2.size
            have z3 := hS2.low2
            clear hc hc' hm16 hS2 hT2 hlen
            go_still_tail 9, (by kernel_rfl)
            change wpList _ _ _ _ _ W2.drew
            clear r1 r2 r3 z2 z3
            go_wp2_with (go_at_call 26; refine Calls.mono HC.out ?_; rintro e w6 ⟨⟨ve, rfl⟩, hS6, hb6, A6, c6, B6, d6, hT6⟩; obtain ⟨g6, rfl, t1, t2, hcapi, hS7, hT7⟩ := G.back hS6 hT6)
            go_roundw
            case rel => exact ⟨v + 1, by omega, by omega, by go_num, hS7, hide ⟨_, _, _, _, _, hb6, hT7, HRN.out⟩⟩
            case measure => simp [intOf]; omega
      · obtain rfl : v = n := by omega
        rw [Nat.sub_self, loopF_zero] at hRj
        subst hRj
        go_wp2_with (fail)
        go_end0
        exact ⟨⟨_, rfl⟩, hSj, hbj, Aj, cj, Bj, dj, hTj⟩
  · have hup : upd now best = best := by unfold upd; rw [if_neg hlt]
    rw [hup] at hRES
    have hlti : ¬ (best.length : Int) < (now.length : Int) := by omega
    have hS1 := hS
    have HSTART : Hid (∃ A c B d bj, bj.length ≤ n ∧ GT L V now bj A c B d ∧ loopF M n (n - from_) left now bj = RES) := hide ⟨A, c, B, d, best, hbest, hT, by rw [hkf]; exact hRES⟩
    clear hS hT hRES hup hlt
    go_enter Tryd.func26, Tryd.ntmps26
    go_wp2_with (fail)
    go_loopw [9] (fun jv wr => ∃ v : Nat, from_ ≤ v ∧ v ≤ n ∧ jv = .int .i64 v ∧ GS w n M NB L wr ∧ Hid (∃ A c B d bj, bj.length ≤ n ∧ GT L wr now bj A c B d ∧ loopF M n (n - v) left now bj = RES)) (fun jv _ => n - (intOf jv).toNat)
    case atStart => exact ⟨from_, Nat.le_refl _, by omega, rfl, hS1, HSTART⟩
    case round =>
      obtain ⟨v, hv, hvn, rfl, hSj, HJ⟩ := hrel
      obtain ⟨wj, rfl⟩ : ∃ wj : World, wj = wr := ⟨_, rfl⟩
      obtain ⟨Aj, cj, Bj, dj, bj, hbj, hTj, hRj⟩ := HJ.out
      clear HSTART hS1 HJ u1c u1f u2c u2f
      obtain ⟨u1c, u1f⟩ := cell_of wj (L + 2) 0 _ _ _ hTj.bn rfl
      obtain ⟨u2c, u2f⟩ := cell_of wj (L + 1) 0 _ _ _ hTj.bb rfl
      have u3c := hSj.cg
      have zj := hSj.size
      have v0 : (0 : Int) ≤ (v : Int) := Int.natCast_nonneg _
      by_cases hvl : v < n
      · have v1 : (v : Int) < (n : Int) := by omega
        have hk1 : n - v = (n - (v + 1)) + 1 := by omega
        have hvv : n - ((n - (v + 1)) + 1) = v := by omega
        rw [hk1] at hRj
        obtain ⟨x, hx⟩ : ∃ x, left / 2 ^ v = x := ⟨_, rfl⟩
        have HK1 := hide (And.intro hk1 hvv)
        have hx16 : x < 2 ^ 16 := by rw [← hx]; exact div_lt16 HLEFT.out
        have hxi : (left : Int) / 2 ^ v = (x : Int) := by rw [← hx]; simp
        have ha1 := and_one hx16
        by_cases hodd : x % 2 = 0
        · have hcd : (left / 2 ^ (n - ((n - (v + 1)) + 1))) % 2 = 0 ∨ now.length + pop (left / 2 ^ (n - ((n - (v + 1)) + 1))) ≤ bj.length := by rw [hvv, hx]; exact .inl hodd
          have hnx : loopF M n (n - (v + 1)) left now bj = RES := (loopF_skip hcd).symm.trans hRj
          clear hcd
          rw [hodd] at ha1
          have hg1 : (bits BinOp.and IntKind.u64 ((left : Int) / 2 ^ v) 1 == 0) = true := by rw [hxi, ha1]; rfl
          have HRN := hide (And.intro hnx hRj)
          have HTJ := hide (And.intro hTj hbj)
          clear hnx hRj hTj hbj ha1 hxi hk1 hvv hx hodd
          go_wp2_with (fail)
          go_quiet (fail)
          have hSq := hSj.later (below_drewN' (Below.refl _ _) nq)
          have hTq := HTJ.out.1.later (below_drewN' (Below.refl _ _) nq)
          go_wp2_with (fail)
          go_roundw
          case rel => exact ⟨v + 1, by omega, by omega, by go_num, hSq, hide ⟨Aj, cj, Bj, dj, bj, HTJ.out.2, hTq, HRN.out.1⟩⟩
          case measure => simp [intOf]; omega
        · have hodd1 : x % 2 = 1 := (Nat.mod_two_eq_zero_or_one x).resolve_left hodd
          rw [hodd1] at ha1
          have hg1 : (bits BinOp.and IntKind.u64 ((left : Int) / 2 ^ v) 1 == 0) = false := by rw [hxi, ha1]; rfl
          have hpl := pop_le x
          have hon : ∀ nn, Calls Tryd.prog 28 #[.int .u64 ((left : Int) / 2 ^ v)] (wj.drewN nn) fun e w' => e = .returned (.int .i64 (pop x : Nat)) ∧ Drawn0 (wj.drewN nn) w' := fun nn => by rw [hxi]; exact ones_ok x _ hx16
          have HON := hide hon
          have hnl := HNOW.out
          obtain ⟨pp, hpp⟩ : ∃ p, pop x = p := ⟨_, rfl⟩
          rw [hpp] at hpl HON
          by_cases hfew : now.length + pp ≤ bj.length
          · have hcd : (left / 2 ^ (n - ((n - (v + 1)) + 1))) % 2 = 0 ∨ now.length + pop (left / 2 ^ (n - ((n - (v + 1)) + 1))) ≤ bj.length := by rw [hvv, hx, hpp]; exact .inr hfew
            have hnx : loopF M n (n - (v + 1)) left now bj = RES := (loopF_skip hcd).symm.trans hRj
            clear hcd
            have hfi : (now.length : Int) + (pp : Int) ≤ (bj.length : Int) := by rw [← Int.natCast_add]; exact Int.ofNat_le.2 hfew
            have HRN := hide (And.intro hnx hRj)
            have HTJ := hide (And.intro hTj hbj)
            clear hnx hRj hTj hbj ha1 hxi hon hk1 hvv hx hodd
            go_wp2_with (fail)
            go_quiet ((go_at_call 28; with_reducible exact quiet_drawn (HON.out _)))
            have hSq := hSj.later (below_drewN' (Below.refl _ _) nq)
            have hTq := HTJ.out.1.later (below_drewN' (Below.refl _ _) nq)
            go_wp2_with (fail)
            go_roundw
            case rel => exact ⟨v + 1, by omega, by omega, by go_num, hSq, hide ⟨Aj, cj, Bj, dj, bj, HTJ.out.2, hTq, HRN.out.1⟩⟩
            case measure => simp [intOf]; omega
          · have hcd : ¬((left / 2 ^ (n - ((n - (v + 1)) + 1))) % 2 = 0 ∨ now.length + pop (left / 2 ^ (n - ((n - (v + 1)) + 1))) ≤ bj.length) := by
              rw [hvv, hx, hpp]
              rintro (h | h)
              · exact hodd h
              · exact hfew h
            have hnx := (loopF_take hcd).symm.trans hRj
            rw [hvv] at hnx
            clear hcd
            have hfi : decide ((now.length : Int) + (pp : Int) ≤ (bj.length : Int)) = false := decide_eq_false fun h => hfew (Int.ofNat_le.1 (by rw [Int.natCast_add]; exact h))
            have HRN := hide hnx
            have HTJ := hide (And.intro hTj hbj)
            clear hnx hRj hTj ha1 hxi hon hk1 hvv hx hodd
            go_wp2_with (fail)
            go_quiet ((go_at_call 28; with_reducible exact quiet_drawn (HON.out _)))
            have hSq := hSj.later (below_drewN' (Below.refl _ _) nq)
            have hTq := HTJ.out.1.later (below_drewN' (Below.refl _ _) nq)
            generalize World.drewN wj nq = wq at hSq hTq ⊢
            clear u1c u1f u2c u2f u3c zj HTJ hSj HON hfi hg1
            obtain ⟨u1c, u1f⟩ := cell_of wq (L + 2) 0 _ _ _ hTq.bn rfl
            have zq := hSq.size
            have HSQ := hide (And.intro hSq hTq)
            have HOWN := hide (fun o => own_below hTq.own (below_alloc' (Below.refl _ _) o))
            clear hSq hTq
            go_wp2_with
              (at_builtin; refine wp_app_ints _ rfl (.tmp 41) (.tmp 43) rfl (L + 4) (.slice Aj now.length cj) now rfl (HOWN.out _) (some ⟨wq.heap.size, 0, none⟩) 1 1 [(v : Int)] rfl rfl (ints_one (by rw [World.size_alloc]; omega) (by simp)) (by omega) (by rw [World.size_alloc]; omega) ?_; intro A' c' w2 hc2 ho2 hg2 hob2; obtain ⟨hS2, hT2, hb2⟩ := G.push HSQ.out.1 HSQ.out.2 ho2 hg2 hob2; obtain ⟨y1, y2⟩ := cell_of w2 (L + 2) 0 _ _ _ hb2 rfl; clear hb2 ho2 hg2 hob2)
            have hlen : (now ++ [(v : Int)]).length = now.length + 1 := by rw [List.length_append, List.length_singleton]
            rw [hlen] at hS2 hT2
            obtain ⟨W2, hW2⟩ : ∃ W, w2.setCell ⟨L + 2, 0, none⟩ (.slice A' (now.length + 1) c') = W := ⟨_, rfl⟩
            rw [hW2] at hS2 hT2 ⊢
            clear hW2 y1 y2 u1c u1f
            have r1 := hS2.cf
            have r2 := hS2.cl
            have r3 := World.rowIs.cell hS2.nrow (i := v) hvl
            have hm16 := HLOW.out v
            have hc := HIH.out v hv hvl W2.drew (without left (M.getD v 0)) (now ++ [(v : Int)]) bj A' c' Bj dj (without_lt HLEFT.out) (by rw [hlen]; omega) hbj (hS2.later (below_drewN' (Below.refl _ _) 1)) (hT2.later (below_drewN' (Below.refl _ _) 1))
            rw [← andNot_u64 HLEFT.out hm16] at hc
            generalize M.getD v 0 = m at r3 hc HRN
            have hc' : Calls Tryd.prog 26 #[.int .i64 ((v : Int) + 1), .int .u64 (bits .andNot .u64 (left : Int) (m : Int)), .pointer (some ⟨L + 2, 0, none⟩), .pointer (some ⟨L + 1, 0, none⟩), .pointer (some ⟨w.heap.size, 0, none⟩), .pointer (some ⟨L + 3, 0, none⟩), .pointer (some ⟨L, 0, none⟩)] W2.drew _ := hc
            have HC := hide hc'
            have HLEN := hide hlen
            have z2 := hS2.size
            have z3 := hS2.low2
            clear hc hc' hm16 hS2 hT2 hlen
            go_still_tail 9, (by kernel_rfl)
            change wpList _ _ _ _ _ W2.drew
            clear r1 r2 r3 z2 z3
            go_wp2_with (go_at_call 26; refine Calls.mono HC.out ?_; rintro e w6 ⟨⟨ve, rfl⟩, hS6, hb6, A6, c6, B6, d6, hT6⟩; obtain ⟨g6, rfl, t1, t2, hcapi, hS7, hT7⟩ := G.back hS6 hT6)
            go_roundw
            case rel => exact ⟨v + 1, by omega, by omega, by go_num, hS7, hide ⟨_, _, _, _, _, hb6, hT7, HRN.out⟩⟩
            case measure => simp [intOf]; omega
      · obtain rfl : v = n := by omega
        rw [Nat.sub_self, loopF_zero] at hRj
        subst hRj
        go_wp2_with (fail)
        go_end0
        exact ⟨⟨_, rfl⟩, hSj, hbj, Aj, cj, Bj, dj, hTj⟩
end Go.Proofs.YtehheklbibocjaaDoor

/- The walk of zero.Alone. Condition: the variables read as laid. -/
namespace Go.Proofs.YtehheklbibocjaaDoor
open Go.RowKit Go.Deep Go.Proofs.YtehheklbibocjaaDoorW.PrintWords
theorem run_store_func {P : Program} (w : World) (a : Addr) (m : Mode) (fn : Fn) (x y : Array Value) : (store a (.func fn x y) m).run P w = stored P w a (.func fn x y) m := run_store P w a _ m rfl
attribute [local go_sem] run_store_func

/-- where the inner function begins -/
theorem start_ok {w w2 W : World} {n NB : Nat} {M : List Nat} (hbw : Below w.heap.size w w2) (h1 : w.heap.size + 1 ≤ NB) (h2 : NB < w2.heap.size) (k1 : w2.cell? ⟨w.heap.size, 0, none⟩ = some (.int .i64 (n : Int))) (hR : NRow w2 NB n M)
    (hW : W = ((((w2.alloc (.cells #[.slice (some ⟨NB, 0, none⟩) n n] 53)).alloc (.cells #[.slice none 0 0] 33)).alloc (.cells #[.slice none 0 0] 33)).alloc (.cells #[.func (.func 26) #[] #[.pointer (some ⟨w2.heap.size + 1 + 1, 0, none⟩), .pointer (some ⟨w2.heap.size + 1, 0, none⟩), .pointer (some ⟨w.heap.size, 0, none⟩), .pointer (some ⟨w2.heap.size + 1 + 1 + 1, 0, none⟩), .pointer (some ⟨w2.heap.size, 0, none⟩)]] 56))) :
    GS w n M NB w2.heap.size W ∧ GT w2.heap.size W [] [] none 0 none 0 := by
  obtain ⟨V1, hV1⟩ : ∃ V, w2.alloc (.cells #[.slice (some ⟨NB, 0, none⟩) n n] 53) = V := ⟨_, rfl⟩
  rw [hV1] at hW
  obtain ⟨V2, hV2⟩ : ∃ V, V1.alloc (.cells #[.slice none 0 0] 33) = V := ⟨_, rfl⟩
  rw [hV2] at hW
  obtain ⟨V3, hV3⟩ : ∃ V, V2.alloc (.cells #[.slice none 0 0] 33) = V := ⟨_, rfl⟩
  rw [hV3] at hW
  have s1 : V1.heap.size = w2.heap.size + 1 := by rw [← hV1, World.size_alloc]
  have s2 : V2.heap.size = w2.heap.size + 2 := by rw [← hV2, World.size_alloc, s1]
  have s3 : V3.heap.size = w2.heap.size + 3 := by rw [← hV3, World.size_alloc, s2]
  have s4 : W.heap.size = w2.heap.size + 4 := by rw [hW, World.size_alloc, s3]
  have b1 : Below w2.heap.size w2 V1 := by rw [← hV1]; exact below_alloc' (Below.refl _ _) _
  have b2 : Below V1.heap.size V1 V2 := by rw [← hV2]; exact below_alloc' (Below.refl _ _) _
  have b3 : Below V2.heap.size V2 V3 := by rw [← hV3]; exact below_alloc' (Below.refl _ _) _
  have b4 : Below V3.heap.size V3 W := by rw [hW]; exact below_alloc' (Below.refl _ _) _
  have b24 : Below w2.heap.size w2 W := below_trans (below_trans (below_trans b1 b2) b3) b4
  have e1 : W.heap[w2.heap.size]? = some (.cells #[.slice (some ⟨NB, 0, none⟩) n n] 53 (0, 0)) := by
    rw [b4.block _ (by omega), b3.block _ (by omega), b2.block _ (by omega), ← hV1]
    exact alloc_at _ _
  have e2 : W.heap[w2.heap.size + 1]? = some (.cells #[.slice none 0 0] 33 (0, 0)) := by
    rw [b4.block _ (by omega), b3.block _ (by omega), ← s1, ← hV2]
    exact alloc_at _ _
  have e3 : W.heap[w2.heap.size + 2]? = some (.cells #[.slice none 0 0] 33 (0, 0)) := by
    rw [b4.block _ (by omega), ← s2, ← hV3]
    exact alloc_at _ _
  have e4 : W.heap[w2.heap.size + 3]? = some (.cells #[.func (.func 26) #[] #[.pointer (some ⟨w2.heap.size + 2, 0, none⟩), .pointer (some ⟨w2.heap.size + 1, 0, none⟩), .pointer (some ⟨w.heap.size, 0, none⟩), .pointer (some ⟨w2.heap.size + 3, 0, none⟩), .pointer (some ⟨w2.heap.size, 0, none⟩)]] 56 (0, 0)) := by
    have := alloc_at V3 (.cells #[.func (.func 26) #[] #[.pointer (some ⟨w2.heap.size + 1 + 1, 0, none⟩), .pointer (some ⟨w2.heap.size + 1, 0, none⟩), .pointer (some ⟨w.heap.size, 0, none⟩), .pointer (some ⟨w2.heap.size + 1 + 1 + 1, 0, none⟩), .pointer (some ⟨w2.heap.size, 0, none⟩)]] 56)
    rw [← hW, s3] at this
    exact this
  refine ⟨⟨below_trans hbw b24, h1, h2, by omega, (b24.cell (p := ⟨w.heap.size, 0, none⟩) (by show w.heap.size < _; omega)).trans k1, (cell_of _ _ 0 _ _ _ e1 rfl).1, World.rowIs.of_block hR (b24.block _ h2), (cell_of _ _ 0 _ _ _ e4 rfl).1⟩, ⟨nil_own _ _ _ _, e3, e2, Ints.nil _ _, Nat.le_refl _, fun a e => by cases e⟩⟩

set_option maxHeartbeats 2000000 in
theorem alone_bad (n : Int) (A : Option Addr) (l : List (Int × Int)) (c : Nat) (w : World) (a : Nat → Addr) (hE : Env [2, 3] w a) (hA : Pairs w A l) (h0 : gErr n l ≠ 0) :
    Calls Tryd.prog 11 #[.agg #[.int .i64 n, .slice A l.length c]] w fun e w' => e = .returned (.tuple #[.slice none 0 0, .iface 108 (.pointer (some (a (gErr n l).toNat)))]) ∧ Below w.heap.size w w' := by
  have hb2 : Below w.heap.size w (w.alloc (.cells #[.int .i64 n, .slice A l.length c] 27)) := below_alloc' (Below.refl _ _) _
  have hv := gvalid_any n A l c (w.alloc (.cells #[.int .i64 n, .slice A l.length c] 27)) a (hE.below hb2) (hA.below hb2)
  have hec : errC a (gErr n l) = .iface 108 (.pointer (some (a (gErr n l).toNat))) := by unfold errC; rw [if_neg h0]; rfl
  rw [hec] at hv
  generalize a (gErr n l).toNat = x at hv ⊢
  have HV := hide hv
  have HB2 := hide hb2
  clear hv h0 hE hb2 hec
  go_enter Tryd.func11, Tryd.ntmps11
  go_wp2_with (go_at_call 20; refine Calls.mono HV.out ?_; rintro e w1 ⟨rfl, hB1⟩)
  go_ret2
  exact ⟨rfl, below_trans HB2.out hB1⟩

theorem full_u64 {n : Nat} (h : n ≤ 16) : IntKind.u64.wrap (IntKind.u64.wrap ((2 : Int) ^ n) - 1) = ((2 ^ n - 1 : Nat) : Int) := by
  have h1 : 2 ^ n ≤ 2 ^ 16 := Nat.pow_le_pow_right (by decide) h
  have h0 : 1 ≤ 2 ^ n := Nat.two_pow_pos n
  have h2 : (2 : Int) ^ n = ((2 ^ n : Nat) : Int) := by rw [Int.natCast_pow]; rfl
  rw [h2, IntKind.wrap_u64, IntKind.wrap_u64]
  generalize 2 ^ n = x at h1 h0
  omega

set_option maxRecDepth 100000 in
set_option maxHeartbeats 4000000 in
theorem alone_good (n : Nat) (A : Option Addr) (l : List (Int × Int)) (c : Nat) (w : World) (a : Nat → Addr) (hE : Env [2, 3] w a) (hA : Pairs w A l) (h0 : gErr n l = 0) :
    Calls Tryd.prog 11 #[.agg #[.int .i64 n, .slice A l.length c]] w fun e w' => ∃ B d, e = .returned (.tuple #[.slice B (aloneL n l).length d, .nilIface]) ∧ Ints w' B (aloneL n l) ∧ (aloneL n l).length ≤ d ∧ Below w.heap.size w w' := by
  obtain ⟨_, hn', hg⟩ := gErr_zero h0
  have hn : n ≤ 16 := by omega
  have hb2 : Below w.heap.size w (w.alloc (.cells #[.int .i64 n, .slice A l.length c] 27)) := below_alloc' (Below.refl _ _) _
  have hv := gvalid_any n A l c (w.alloc (.cells #[.int .i64 n, .slice A l.length c] 27)) a (hE.below hb2) (hA.below hb2)
  rw [h0, errC_zero] at hv
  have HV := hide hv
  have hcl : ∀ w1, Below (w.alloc (.cells #[.int .i64 (n : Int), .slice A l.length c] 27)).heap.size (w.alloc (.cells #[.int .i64 (n : Int), .slice A l.length c] 27)) w1 →
      w1.cell? ⟨w.heap.size, 0, none⟩ = some (.int .i64 (n : Int)) ∧ w1.cell? ⟨w.heap.size, 1, none⟩ = some (.slice A l.length c) ∧ Below w.heap.size w w1 ∧ w.heap.size + 1 ≤ w1.heap.size := fun w1 h =>
    ⟨(h.cell (p := ⟨w.heap.size, 0, none⟩) (by show w.heap.size < _; rw [World.size_alloc]; omega)).trans (by simp), (h.cell (p := ⟨w.heap.size, 1, none⟩) (by show w.heap.size < _; rw [World.size_alloc]; omega)).trans (by simp), below_trans hb2 h, by have := h.size; rw [World.size_alloc] at this; omega⟩
  have HCL := hide hcl
  have HA := hide hA
  have HG := hide hg
  have hlow := nearTo_low hn hg l.length (Nat.le_refl _)
  have hlow' : Low (nearL n l) := by
    have e : nearTo n l l.length = nearL n l := by unfold nearTo nearL; rw [List.take_length]
    rw [← e]; exact hlow
  have HLOW := hide hlow'
  have HFU := hide (full_u64 hn)
  have hf16 : 2 ^ n - 1 < 2 ^ 16 := by
    have h1 : 2 ^ n ≤ 2 ^ 16 := Nat.pow_le_pow_right (by decide) hn
    have h0 : 1 ≤ 2 ^ n := Nat.two_pow_pos n
    omega
  have HF := hide hf16
  have n0 : (0 : Int) ≤ (n : Int) := Int.natCast_nonneg _
  clear hv h0 hE hb2 hcl hg hA hlow hlow' hf16
  go_enter Tryd.func11, Tryd.ntmps11
  go_wp2_with (first
    | (go_at_call 20; refine Calls.mono HV.out ?_; rintro e w1 ⟨rfl, hB1⟩; obtain ⟨k1, k2, hbw, hsz⟩ := HCL.out w1 hB1)
    | (go_at_call 25; refine Calls.mono (near_ok n A l c w1 (HA.out.below hbw) hn HG.out) ?_; rintro e w2 ⟨rfl, hR, hb12⟩; have k3 := (hb12.cell (p := ⟨w.heap.size, 0, none⟩) (by show w.heap.size < _; omega)).trans k1; have hb02 := below_trans hbw hb12; have hz2 := hb12.size; have hNB := World.rowIs.lt hR))
  obtain ⟨hS, hT⟩ := start_ok (M := nearL n l) (n := n) hb02 (by omega) hNB k3 hR rfl
  generalize ((((w2.alloc (.cells #[.slice (some ⟨w1.heap.size + 1, 0, none⟩) n n] 53)).alloc (.cells #[.slice none 0 0] 33)).alloc (.cells #[.slice none 0 0] 33)).alloc (.cells #[.func (.func 26) #[] #[.pointer (some ⟨w2.heap.size + 1 + 1, 0, none⟩), .pointer (some ⟨w2.heap.size + 1, 0, none⟩), .pointer (some ⟨w.heap.size, 0, none⟩), .pointer (some ⟨w2.heap.size + 1 + 1 + 1, 0, none⟩), .pointer (some ⟨w2.heap.size, 0, none⟩)]] 56)) = W0 at hS hT ⊢
  have hc := grow_ok w n (nearL n l) (w1.heap.size + 1) w2.heap.size hn HLOW.out n 0 (by omega) W0.drew (2 ^ n - 1) [] [] none 0 none 0 HF.out (Nat.zero_le _) (Nat.zero_le _) (hS.later (below_drewN' (Below.refl _ _) 1)) (hT.later (below_drewN' (Below.refl _ _) 1))
  have hup : upd [] [] = [] := rfl
  have hal : loopF (nearL n l) n n (2 ^ n - 1) [] [] = aloneL n l := rfl
  rw [hup, hal, ← HFU.out] at hc
  have hc' : Calls Tryd.prog 26 #[.int .i64 0, .int .u64 (IntKind.u64.wrap (IntKind.u64.wrap ((2 : Int) ^ n) - 1)), .pointer (some ⟨w2.heap.size + 1 + 1, 0, none⟩), .pointer (some ⟨w2.heap.size + 1, 0, none⟩), .pointer (some ⟨w.heap.size, 0, none⟩), .pointer (some ⟨w2.heap.size + 1 + 1 + 1, 0, none⟩), .pointer (some ⟨w2.heap.size, 0, none⟩)] W0.drew _ := hc
  have HC := hide hc'
  have r1 : W0.cell? ⟨w2.heap.size + 1 + 1 + 1, 0, none⟩ = some (.func (.func 26) #[] #[.pointer (some ⟨w2.heap.size + 1 + 1, 0, none⟩), .pointer (some ⟨w2.heap.size + 1, 0, none⟩), .pointer (some ⟨w.heap.size, 0, none⟩), .pointer (some ⟨w2.heap.size + 1 + 1 + 1, 0, none⟩), .pointer (some ⟨w2.heap.size, 0, none⟩)]) := hS.cf
  have r2 := hS.cg
  have n16 : (n : Int) ≤ 16 := by omega
  clear hc hc' hup hal hS hT k1 k2 k3 hR hb12 hb02 hB1 hbw HV HCL HA HG HLOW HFU HF hz2 hNB
  go_still_tail 5, (by kernel_rfl)
  change wpList _ _ _ _ _ W0.drew
  clear r1 r2
  go_wp2_with (go_at_call 26; refine Calls.mono HC.out ?_; rintro e w6 ⟨⟨ve, rfl⟩, hS6, hb6, A6, c6, B6, d6, hT6⟩; obtain ⟨t1, _⟩ := cell_of w6 (w2.heap.size + 1) 0 _ _ _ hT6.bb rfl)
  go_ret2
  exact ⟨B6, d6, rfl, hT6.ib, hT6.db, hS6.below⟩
end Go.Proofs.YtehheklbibocjaaDoor

/- The walk of demonref1.SameInts. No condition. -/
namespace Go.Proofs.YtehheklbibocjaaDoor
open Go.RowKit Go.Deep

/-- two lists are alike ahead of place k -/
structure AlikeTo (l m : List Int) (k : Nat) : Prop where
  out : ∀ j, j < k → l.getD j 0 = m.getD j 0
theorem AlikeTo.zero (l m : List Int) : AlikeTo l m 0 := ⟨fun j h => absurd h (by omega)⟩
theorem AlikeTo.succ {l m : List Int} {k : Nat} (h : AlikeTo l m k) (hk : l.getD k 0 = m.getD k 0) : AlikeTo l m (k + 1) :=
  ⟨fun j hj => by
    by_cases e : j = k
    · rw [e]; exact hk
    · exact h.out j (by omega)⟩
theorem AlikeTo.eq {l m : List Int} (h : AlikeTo l m l.length) (hl : l.length = m.length) : l = m := by
  apply List.ext_getElem hl
  intro i h1 h2
  have := h.out i h1
  simpa [List.getD_eq_getElem?_getD, h1, h2] using this

set_option maxHeartbeats 1000000 in
theorem same_any (A B : Option Addr) (l m : List Int) (c d : Nat) (w : World) (hA : Ints w A l) (hB : Ints w B m) :
    Calls Tryd.prog 15 #[.slice A l.length c, .slice B m.length d] w fun e w' => e = .returned (.bool (decide (l = m))) ∧ Below w.heap.size w w' := by
  have hl := hA.len
  have hm := hB.len
  by_cases he : l.length = m.length
  · have HE := hide he
    have h1 : ((l.length : Int) != (m.length : Int)) = false := by rw [he]; simp
    have h2 : (l.length != m.length) = false := by rw [he]; simp
    clear he
    go_enter Tryd.func15, Tryd.ntmps15
    go_wp2
    go_loopw [5] (fun i wr => ∃ k : Nat, k ≤ l.length ∧ i = .int .i64 k ∧ AlikeTo l m k ∧ Below w.heap.size w wr) (fun i _ => l.length - (intOf i).toNat)
    case atStart => exact ⟨0, Nat.zero_le _, rfl, AlikeTo.zero _ _, Below.refl _ _⟩
    case round =>
      obtain ⟨k, hk, rfl, ha, hb⟩ := hrel
      by_cases hlt : k < l.length
      · have hlt2 : k < m.length := by rw [← HE.out]; exact hlt
        obtain ⟨b, o, rfl, hbl, c1⟩ := (hA.below hb).at_ k hlt
        obtain ⟨b', o', rfl, hbl', c2⟩ := (hB.below hb).at_ k hlt2
        by_cases hx : l.getD k 0 = m.getD k 0
        · have ha' := ha.succ hx
          have hx' : ((l.getD k 0) != (m.getD k 0)) = false := by rw [hx]; simp
          generalize l.getD k 0 = x at c1 hx'
          generalize m.getD k 0 = y at c2 hx'
          clear hx
          go_wp2
          go_quiet (fail)
          go_wp2
          go_roundw
          case rel => exact ⟨k + 1, by omega, by go_num, ha', below_drewN' hb _⟩
          case measure => simp [intOf]; omega
        · have hne : l ≠ m := fun e => hx (by rw [e])
          have hx' : ((l.getD k 0) != (m.getD k 0)) = true := by simpa using hx
          generalize l.getD k 0 = x at c1 hx'
          generalize m.getD k 0 = y at c2 hx'
          clear hx
          go_wp2
          go_quiet (fail)
          go_wp2
          go_ret
          exact ⟨ret_bool (decide_eq_false hne).symm, below_drewN' hb _⟩
      · obtain rfl : k = l.length := by omega
        have heq := ha.eq HE.out
        have HQ := hide (decide_eq_true heq)
        clear heq
        go_wp2
        go_ret
        exact ⟨ret_bool HQ.out.symm, hb⟩
  · have h1 : ((l.length : Int) != (m.length : Int)) = true := by rw [bne_iff_ne]; omega
    have h2 : (l.length != m.length) = true := by rw [bne_iff_ne]; exact he
    have hne : l ≠ m := fun e => he (by rw [e])
    have HQ := hide (decide_eq_false hne)
    clear he hne
    go_enter Tryd.func15, Tryd.ntmps15
    go_wp2
    go_ret
    exact ⟨ret_bool HQ.out.symm, Below.refl _ _⟩
end Go.Proofs.YtehheklbibocjaaDoor

/- The walk of pentagon. Condition: the variables read as laid. -/
namespace Go.Proofs.YtehheklbibocjaaDoor
open Go.RowKit Go.Deep Go.Proofs.YtehheklbibocjaaDoorW.PrintWords

def pent : List (Int × Int) := [(0, 1), (0, 4), (1, 2), (2, 3), (3, 4)]
theorem pent_right : gErr 5 pent = 0 := by decide
def pentObj : Obj := .cells #[.int .i64 0, .int .i64 1, .int .i64 0, .int .i64 4, .int .i64 1, .int .i64 2, .int .i64 2, .int .i64 3, .int .i64 3, .int .i64 4] 51
theorem pent_pairs (w : World) : Pairs (w.alloc pentObj) (some ⟨w.heap.size, 0, none⟩) pent := by
  refine ⟨by decide, fun i hi => ⟨w.heap.size, 0, rfl, by rw [World.size_alloc]; omega, ?_, ?_⟩⟩
  · have : i = 0 ∨ i = 1 ∨ i = 2 ∨ i = 3 ∨ i = 4 := by simp [pent] at hi; omega
    rcases this with rfl | rfl | rfl | rfl | rfl <;> exact (cell_of _ _ _ _ _ _ (alloc_at w pentObj) rfl).1
  · have : i = 0 ∨ i = 1 ∨ i = 2 ∨ i = 3 ∨ i = 4 := by simp [pent] at hi; omega
    rcases this with rfl | rfl | rfl | rfl | rfl <;> exact (cell_of _ _ _ _ _ _ (alloc_at w pentObj) rfl).1
set_option maxRecDepth 100000 in
set_option maxHeartbeats 4000000 in
theorem pentagon_ok (w : World) (a : Nat → Addr) (hE : Env [2, 3] w a) : Calls Tryd.prog 7 #[] w fun e w' => e = .returned (.bool true) ∧ Below w.heap.size w w' := by
  have hb : ∀ o, Below w.heap.size w ((w.alloc pentObj).alloc o) := fun o => below_alloc' (below_alloc' (Below.refl _ _) _) _
  have hal : ∀ o, Calls Tryd.prog 11 #[.agg #[.int .i64 5, .slice (some ⟨w.heap.size, 0, none⟩) 5 5]] ((w.alloc pentObj).alloc o) fun e w' => ∃ B d, e = .returned (.tuple #[.slice B 2 d, .nilIface]) ∧ Ints w' B [0, 2] ∧ 2 ≤ d ∧ Below ((w.alloc pentObj).alloc o).heap.size ((w.alloc pentObj).alloc o) w' := fun o => by
    have h := alone_good 5 (some ⟨w.heap.size, 0, none⟩) pent 5 ((w.alloc pentObj).alloc o) a (hE.below (hb o)) ((pent_pairs w).below (below_alloc' (Below.refl _ _) _)) pent_right
    have e : aloneL 5 pent = [0, 2] := pent_alone
    rw [e] at h
    exact h
  have HB := hide hb
  have HAL := hide hal
  clear hE hb hal
  go_enter Tryd.func7, Tryd.ntmps7
  go_wp2_with (first
    | (go_at_call 11; refine Calls.mono (HAL.out _) ?_; rintro e w1 ⟨B, d, rfl, hI, hd, hb1⟩; have HI := hide hI; have hbw := below_trans (HB.out _) hb1; clear hI hb1)
    | (go_at_call 15; refine Calls.mono (same_any B (some ⟨w1.heap.size, 0, none⟩) [0, 2] [0, 2] d 2 _ (HI.out.below (below_alloc' (Below.refl _ _) _)) (pair_ints (by simp) (by simp))) ?_; rintro e w2 ⟨rfl, hb2⟩; have hb3 := below_trans (below_alloc' hbw _) hb2; clear hb2))
  go_ret
  exact ⟨rfl, hb3⟩
end Go.Proofs.YtehheklbibocjaaDoor

/- The walk of zero.Strong. Condition: the variables read as laid. -/
namespace Go.Proofs.YtehheklbibocjaaDoor
open Go.RowKit Go.Deep Go.Proofs.YtehheklbibocjaaDoorW.PrintWords

/-- the number of the error of two graphs at once -/
def sErr (n : Int) (l : List (Int × Int)) (m : Int) (k : List (Int × Int)) : Int := if gErr n l ≠ 0 then gErr n l else if gErr m k ≠ 0 then gErr m k else if 16 < n * m then 2 else 0
def graphObj (n : Int) (A : Option Addr) (len c : Nat) : Obj := .cells #[.int .i64 n, .slice A len c] 27
/-- the world in which the first loop begins -/
def strongW (w : World) (n : Int) (A : Option Addr) (la c : Nat) (m : Int) (B : Option Addr) (lb d : Nat) : World :=
  (((w.alloc (graphObj n A la c)).alloc (graphObj m B lb d)).alloc (graphObj 0 none 0 0)).alloc (.cells #[.int .i64 n, .slice A la c, .int .i64 m, .slice B lb d] 27)
structure StrongAt (w : World) (n : Int) (A : Option Addr) (la c : Nat) (m : Int) (B : Option Addr) (lb d : Nat) (W : World) : Prop where
  below : Below w.heap.size w W
  size : w.heap.size + 4 ≤ W.heap.size
  a0 : W.cell? ⟨w.heap.size, 0, none⟩ = some (.int .i64 n)
  a1 : W.cell? ⟨w.heap.size, 1, none⟩ = some (.slice A la c)
  b0 : W.cell? ⟨w.heap.size + 1, 0, none⟩ = some (.int .i64 m)
  b1 : W.cell? ⟨w.heap.size + 1, 1, none⟩ = some (.slice B lb d)
  r0 : W.cell? ⟨w.heap.size + 2, 0, none⟩ = some (.int .i64 0)
  r1 : W.cell? ⟨w.heap.size + 2, 1, none⟩ = some (.slice none 0 0)
  f0 : W.frozen? ⟨w.heap.size + 2, 0, none⟩ = false
  f1 : W.frozen? ⟨w.heap.size + 2, 1, none⟩ = false
  g0 : W.cell? ⟨w.heap.size + 3, 0, none⟩ = some (.int .i64 n)
  g1 : W.cell? ⟨w.heap.size + 3, 1, none⟩ = some (.slice A la c)
  g2 : W.cell? ⟨w.heap.size + 3, 2, none⟩ = some (.int .i64 m)
  g3 : W.cell? ⟨w.heap.size + 3, 3, none⟩ = some (.slice B lb d)
theorem strong_at (w : World) (n : Int) (A : Option Addr) (la c : Nat) (m : Int) (B : Option Addr) (lb d : Nat) : StrongAt w n A la c m B lb d (strongW w n A la c m B lb d) := by
  obtain ⟨V1, hV1⟩ : ∃ V, w.alloc (graphObj n A la c) = V := ⟨_, rfl⟩
  obtain ⟨V2, hV2⟩ : ∃ V, V1.alloc (graphObj m B lb d) = V := ⟨_, rfl⟩
  obtain ⟨V3, hV3⟩ : ∃ V, V2.alloc (graphObj 0 none 0 0) = V := ⟨_, rfl⟩
  obtain ⟨V4, hV4⟩ : ∃ V, V3.alloc (.cells #[.int .i64 n, .slice A la c, .int .i64 m, .slice B lb d] 27) = V := ⟨_, rfl⟩
  have e : strongW w n A la c m B lb d = V4 := by unfold strongW; rw [hV1, hV2, hV3, hV4]
  rw [e]
  have s1 : V1.heap.size = w.heap.size + 1 := by rw [← hV1, World.size_alloc]
  have s2 : V2.heap.size = w.heap.size + 2 := by rw [← hV2, World.size_alloc, s1]
  have s3 : V3.heap.size = w.heap.size + 3 := by rw [← hV3, World.size_alloc, s2]
  have s4 : V4.heap.size = w.heap.size + 4 := by rw [← hV4, World.size_alloc, s3]
  have b1 : Below w.heap.size w V1 := by rw [← hV1]; exact below_alloc' (Below.refl _ _) _
  have b2 : Below V1.heap.size V1 V2 := by rw [← hV2]; exact below_alloc' (Below.refl _ _) _
  have b3 : Below V2.heap.size V2 V3 := by rw [← hV3]; exact below_alloc' (Below.refl _ _) _
  have b4 : Below V3.heap.size V3 V4 := by rw [← hV4]; exact below_alloc' (Below.refl _ _) _
  have e1 : V4.heap[w.heap.size]? = some (.cells #[.int .i64 n, .slice A la c] 27 (0, 0)) := by
    rw [b4.block _ (by omega), b3.block _ (by omega), b2.block _ (by omega), ← hV1]
    exact alloc_at _ _
  have e2 : V4.heap[w.heap.size + 1]? = some (.cells #[.int .i64 m, .slice B lb d] 27 (0, 0)) := by
    rw [b4.block _ (by omega), b3.block _ (by omega), ← s1, ← hV2]
    exact alloc_at _ _
  have e3 : V4.heap[w.heap.size + 2]? = some (.cells #[.int .i64 0, .slice none 0 0] 27 (0, 0)) := by
    rw [b4.block _ (by omega), ← s2, ← hV3]
    exact alloc_at _ _
  have e4 : V4.heap[w.heap.size + 3]? = some (.cells #[.int .i64 n, .slice A la c, .int .i64 m, .slice B lb d] 27 (0, 0)) := by
    rw [← s3, ← hV4]
    exact alloc_at _ _
  exact ⟨below_trans (below_trans (below_trans b1 b2) b3) b4, by omega, (cell_of _ _ 0 _ _ _ e1 rfl).1, (cell_of _ _ 1 _ _ _ e1 rfl).1, (cell_of _ _ 0 _ _ _ e2 rfl).1, (cell_of _ _ 1 _ _ _ e2 rfl).1, (cell_of _ _ 0 _ _ _ e3 rfl).1, (cell_of _ _ 1 _ _ _ e3 rfl).1, (cell_of _ _ 0 _ _ _ e3 rfl).2, (cell_of _ _ 1 _ _ _ e3 rfl).2, (cell_of _ _ 0 _ _ _ e4 rfl).1, (cell_of _ _ 1 _ _ _ e4 rfl).1, (cell_of _ _ 2 _ _ _ e4 rfl).1, (cell_of _ _ 3 _ _ _ e4 rfl).1⟩
theorem StrongAt.later {w : World} {n : Int} {A : Option Addr} {la c : Nat} {m : Int} {B : Option Addr} {lb d : Nat} {W W' : World} (h : StrongAt w n A la c m B lb d W) (b : Below W.heap.size W W') : StrongAt w n A la c m B lb d W' := by
  have hs := h.size
  have key : ∀ q o, q < w.heap.size + 4 → W'.cell? ⟨q, o, none⟩ = W.cell? ⟨q, o, none⟩ := fun q o hq => b.cell (p := ⟨q, o, none⟩) (by show q < _; omega)
  have fkey : ∀ q o, q < w.heap.size + 4 → W'.frozen? ⟨q, o, none⟩ = W.frozen? ⟨q, o, none⟩ := fun q o hq => b.frozen (p := ⟨q, o, none⟩) (by show q < _; omega)
  exact ⟨below_trans h.below b, Nat.le_trans hs b.size, (key _ _ (by omega)).trans h.a0, (key _ _ (by omega)).trans h.a1, (key _ _ (by omega)).trans h.b0, (key _ _ (by omega)).trans h.b1, (key _ _ (by omega)).trans h.r0, (key _ _ (by omega)).trans h.r1, (fkey _ _ (by omega)).trans h.f0, (fkey _ _ (by omega)).trans h.f1, (key _ _ (by omega)).trans h.g0, (key _ _ (by omega)).trans h.g1, (key _ _ (by omega)).trans h.g2, (key _ _ (by omega)).trans h.g3⟩
theorem errC_pos (a : Nat → Addr) {r : Int} (h : r ≠ 0) : errC a r = .iface 108 (.pointer (some (a r.toNat))) := by unfold errC; rw [if_neg h]; rfl

set_option maxRecDepth 100000 in
set_option maxHeartbeats 4000000 in
theorem strong_bad (n : Int) (A : Option Addr) (l : List (Int × Int)) (c : Nat) (m : Int) (B : Option Addr) (k : List (Int × Int)) (d : Nat) (w : World) (a : Nat → Addr) (hE : Env [2, 3] w a) (hA : Pairs w A l) (hB : Pairs w B k) (h0 : sErr n l m k ≠ 0) :
    Calls Tryd.prog 9 #[.agg #[.int .i64 n, .slice A l.length c], .agg #[.int .i64 m, .slice B k.length d]] w fun e w' => e = .returned (.tuple #[.agg #[.int .i64 0, .slice none 0 0], .iface 108 (.pointer (some (a (sErr n l m k).toNat)))]) ∧ Below w.heap.size w w' := by
  obtain ⟨r, hr⟩ : ∃ r, sErr n l m k = r := ⟨_, rfl⟩
  rw [hr] at h0 ⊢
  have HR := hide (And.intro hr h0)
  obtain ⟨x, hx⟩ : ∃ x, a r.toNat = x := ⟨_, rfl⟩
  rw [hx]
  have HX := hide hx
  have HVA := hide (fun V (hb : Below w.heap.size w V) => gvalid_any n A l c V a (hE.below hb) (hA.below hb))
  have HVB := hide (fun V (hb : Below w.heap.size w V) => gvalid_any m B k d V a (hE.below hb) (hB.below hb))
  have HEN := hide (fun V (hb : Below w.heap.size w V) => ((hE.below hb).cell 2 (by decide) : V.cell? ⟨glob 2, 0, none⟩ = _))
  simp only [glob] at HEN
  have HST := hide (strong_at w n A l.length c m B k.length d)
  clear hE hA hB hr h0 hx
  go_enter Tryd.func9, Tryd.ntmps9
  go_wp2_with (fail)
  go_loopw [22] (fun jv wr => ∃ i : Nat, i ≤ 2 ∧ jv = .int .i64 i ∧ StrongAt w n A l.length c m B k.length d wr ∧ Hid ((0 < i → gErr n l = 0) ∧ (1 < i → gErr m k = 0))) (fun jv _ => 2 - (intOf jv).toNat)
  case atStart => exact ⟨0, by omega, rfl, HST.out, hide ⟨fun h => absurd h (by omega), fun h => absurd h (by omega)⟩⟩
  case round =>
    obtain ⟨i, hi, rfl, hS, HI⟩ := hrel
    obtain ⟨wi, rfl⟩ : ∃ wi : World, wi = wr := ⟨_, rfl⟩
    clear HST
    have hsz := hS.size
    have z3 : w.heap.size + 3 < wi.heap.size := by omega
    by_cases hi0 : i = 0
    · subst hi0
      have x0 := hS.g0
      have x1 := hS.g1
      have hb2 := below_alloc' hS.below (graphObj n A l.length c)
      have hv := HVA.out _ (below_alloc' hS.below (graphObj n A l.length c))
      by_cases he : gErr n l = 0
      · rw [he, errC_zero] at hv
        have HV := hide hv
        have HE := hide he
        clear hv he
        go_wp2_with (go_at_call 20; refine Calls.mono HV.out ?_; rintro e w1 ⟨rfl, hB1⟩)
        go_roundw
        case rel => exact ⟨1, by omega, by go_num, hS.later (below_trans (below_alloc' (Below.refl _ _) _) hB1), hide ⟨fun _ => HE.out, fun h => absurd h (by omega)⟩⟩
        case measure => simp [intOf]
      · have hr : r = gErr n l := by rw [← HR.out.1]; unfold sErr; rw [if_pos he]
        rw [errC_pos a he, ← hr, HX.out] at hv
        have HV := hide hv
        clear hv he hr
        go_wp2_with (go_at_call 20; refine Calls.mono HV.out ?_; rintro e w1 ⟨rfl, hB1⟩; have hS1 := hS.later (below_trans (below_alloc' (Below.refl _ _) _) hB1); have y0 := hS1.r0; have y1 := hS1.r1; have y2 := hS1.f0; have y3 := hS1.f1; have y4 := hS1.size; have y5 : w.heap.size + 2 < w1.heap.size := by omega)
        refine bodyPost_ret (v := .tuple #[.agg #[.int .i64 0, .slice none 0 0], .iface 108 (.pointer (some x))]) (by simp [results, Tryd.results9, go_sem, y0, y1]) rfl ⟨rfl, ?_⟩
        exact (hS1.below.setCell (p := ⟨w.heap.size + 1 + 1, 0, none⟩) (by show w.heap.size ≤ w.heap.size + 1 + 1; omega) _).setCell (p := ⟨w.heap.size + 1 + 1, 1, none⟩) (by show w.heap.size ≤ w.heap.size + 1 + 1; omega) _
    · by_cases hi1 : i = 1
      · subst hi1
        have x0 := hS.g2
        have x1 := hS.g3
        have hv := HVB.out _ (below_alloc' hS.below (graphObj m B k.length d))
        by_cases he : gErr m k = 0
        · rw [he, errC_zero] at hv
          have HV := hide hv
          have HE := hide he
          clear hv he
          go_wp2_with (go_at_call 20; refine Calls.mono HV.out ?_; rintro e w1 ⟨rfl, hB1⟩)
          go_roundw
          case rel => exact ⟨2, by omega, by go_num, hS.later (below_trans (below_alloc' (Below.refl _ _) _) hB1), hide ⟨fun _ => HI.out.1 (by omega), fun _ => HE.out⟩⟩
          case measure => simp [intOf]
        · have hr : r = gErr m k := by rw [← HR.out.1]; unfold sErr; rw [if_neg (fun h => h (HI.out.1 (by omega))), if_pos he]
          rw [errC_pos a he, ← hr, HX.out] at hv
          have HV := hide hv
          clear hv he hr
          go_wp2_with (go_at_call 20; refine Calls.mono HV.out ?_; rintro e w1 ⟨rfl, hB1⟩; have hS1 := hS.later (below_trans (below_alloc' (Below.refl _ _) _) hB1); have y0 := hS1.r0; have y1 := hS1.r1; have y2 := hS1.f0; have y3 := hS1.f1; have y4 := hS1.size; have y5 : w.heap.size + 2 < w1.heap.size := by omega)
          refine bodyPost_ret (v := .tuple #[.agg #[.int .i64 0, .slice none 0 0], .iface 108 (.pointer (some x))]) (by simp [results, Tryd.results9, go_sem, y0, y1]) rfl ⟨rfl, ?_⟩
          exact (hS1.below.setCell (p := ⟨w.heap.size + 1 + 1, 0, none⟩) (by show w.heap.size ≤ w.heap.size + 1 + 1; omega) _).setCell (p := ⟨w.heap.size + 1 + 1, 1, none⟩) (by show w.heap.size ≤ w.heap.size + 1 + 1; omega) _
      · obtain rfl : i = 2 := by omega
        have he1 := HI.out.1 (by omega)
        have he2 := HI.out.2 (by omega)
        obtain ⟨hn0, hn1, _⟩ := gErr_zero he1
        obtain ⟨hm0, hm1, _⟩ := gErr_zero he2
        have hbig : 16 < n * m ∧ r = 2 := by
          obtain ⟨hr, h0⟩ := HR.out
          unfold sErr at hr
          rw [if_neg (fun h => h he1), if_neg (fun h => h he2)] at hr
          by_cases q : 16 < n * m
          · rw [if_pos q] at hr
            exact ⟨q, hr.symm⟩
          · rw [if_neg q] at hr
            exact absurd hr.symm h0
        obtain ⟨hb16, rfl⟩ := hbig
        have hmul : n * m ≤ 16 * 16 := Int.mul_le_mul hn1 hm1 hm0 (by omega)
        obtain ⟨a0, a1, b0, b1, r0, r1, f0, f1⟩ := And.intro hS.a0 (And.intro hS.a1 (And.intro hS.b0 (And.intro hS.b1 (And.intro hS.r0 (And.intro hS.r1 (And.intro hS.f0 hS.f1))))))
        have e2c := HEN.out _ hS.below
        have hx2 : a 2 = x := HX.out
        rw [hx2] at e2c
        have e2z : 0 < wi.heap.size := World.block_lt_of_cell? wi _ e2c
        have hw : wrap64 (n * m) = n * m := by unfold wrap64; generalize n * m = p at hb16 hmul; omega
        have hsz := hS.size
        have hz2 : w.heap.size + 2 < wi.heap.size := by omega
        have hbw := hS.below
        go_wp2_with (fail)
        go_region
        all_goals go_wp2_with (fail)
        all_goals refine bodyPost_ret (v := .tuple #[.agg #[.int .i64 0, .slice none 0 0], .iface 108 (.pointer (some x))]) (by simp [results, Tryd.results9, go_sem, r0, r1]) rfl ⟨rfl, ?_⟩
        all_goals have hbb := (hbw.setCell (p := ⟨w.heap.size + 1 + 1, 0, none⟩) (by show w.heap.size ≤ w.heap.size + 1 + 1; omega) (.int .i64 0)).setCell (p := ⟨w.heap.size + 1 + 1, 1, none⟩) (by show w.heap.size ≤ w.heap.size + 1 + 1; omega) (.slice none 0 0)
        all_goals first | exact below_drewN' hbb 1 | exact hbb | trace_state
end Go.Proofs.YtehheklbibocjaaDoor

/- A graph whose edges grow in their order, plain and in memory. No condition. -/
namespace Go.Proofs.YtehheklbibocjaaDoor
open Go.RowKit Go.Deep Go.Proofs.YtehheklbibocjaaDoorW.PrintWords

/-- the edges of v ahead of vertex w -/
def rowTo (P : Nat → Nat → Bool) (v w : Nat) : List (Int × Int) := ((List.range w).filter fun (j : Nat) => decide (v < j) && P v j).map fun (j : Nat) => ((v : Int), (j : Int))
/-- all edges of the vertices ahead of v -/
def allTo (P : Nat → Nat → Bool) (N v : Nat) : List (Int × Int) := (List.range v).flatMap fun i => rowTo P i N
theorem rowTo_first (P : Nat → Nat → Bool) (v : Nat) : rowTo P v (v + 1) = [] := by
  unfold rowTo
  rw [List.map_eq_nil_iff, List.filter_eq_nil_iff]
  intro j hj
  have := List.mem_range.1 hj
  rw [decide_eq_false (by omega), Bool.false_and]
  decide
theorem rowTo_yes {P : Nat → Nat → Bool} {v w : Nat} (h : v < w) (hp : P v w = true) : rowTo P v (w + 1) = rowTo P v w ++ [((v : Int), (w : Int))] := by
  unfold rowTo
  rw [List.range_succ, List.filter_append, List.map_append]
  congr 1
  rw [List.filter_cons, decide_eq_true h, hp]
  rfl
theorem rowTo_no {P : Nat → Nat → Bool} {v w : Nat} (hp : P v w = false) : rowTo P v (w + 1) = rowTo P v w := by
  unfold rowTo
  rw [List.range_succ, List.filter_append, List.map_append]
  rw [List.filter_cons, hp, Bool.and_false]
  simp
theorem allTo_succ (P : Nat → Nat → Bool) (N v : Nat) : allTo P N (v + 1) = allTo P N v ++ rowTo P v N := by
  unfold allTo
  rw [List.range_succ, List.flatMap_append]
  simp
theorem rowTo_length (P : Nat → Nat → Bool) (v w : Nat) : (rowTo P v w).length ≤ w := by
  unfold rowTo
  rw [List.length_map]
  have := List.length_filter_le (fun j => decide (v < j) && P v j) (List.range w)
  rw [List.length_range] at this
  exact this
theorem allTo_length (P : Nat → Nat → Bool) (N v : Nat) : (allTo P N v).length ≤ v * N := by
  induction v with
  | zero => simp [allTo]
  | succ v ih =>
    rw [allTo_succ, List.length_append, Nat.succ_mul]
    have := rowTo_length P v N
    omega
theorem grown_length {P : Nat → Nat → Bool} {N v w : Nat} (hN : N ≤ 100) (hv : v ≤ N) (hw : w ≤ N) : (allTo P N v ++ rowTo P v w).length ≤ 20000 := by
  rw [List.length_append]
  have h1 := allTo_length P N v
  have h2 := rowTo_length P v w
  have h3 : v * N ≤ 100 * 100 := Nat.mul_le_mul (by omega) hN
  omega

/-- a graph's box, its edges a row that grows -/
structure SGr (W3 : World) (T : TypeId) (N : Int) (W : World) (L : List (Int × Int)) (E : Option Addr) (c : Nat) : Prop where
  below : Below W3.heap.size W3 W
  box : W.heap[W3.heap.size]? = some (.cells #[.int .i64 N, .slice E L.length c] T (0, 0))
  own : W.ownsRow (W3.heap.size + 1) 51 2 (.slice E L.length c) L.length (pairCells L)
theorem SGr.cells {W3 : World} {T : TypeId} {N : Int} {W : World} {L : List (Int × Int)} {E : Option Addr} {c : Nat} (h : SGr W3 T N W L E c) : W.cell? ⟨W3.heap.size, 0, none⟩ = some (.int .i64 N) ∧ W.cell? ⟨W3.heap.size, 1, none⟩ = some (.slice E L.length c) ∧ W.frozen? ⟨W3.heap.size, 1, none⟩ = false ∧ W3.heap.size < W.heap.size :=
  ⟨(cell_of _ _ 0 _ _ _ h.box rfl).1, (cell_of _ _ 1 _ _ _ h.box rfl).1, (cell_of _ _ 1 _ _ _ h.box rfl).2, lt_of_block h.box⟩
theorem SGr.later {W3 : World} {T : TypeId} {N : Int} {W W' : World} {L : List (Int × Int)} {E : Option Addr} {c : Nat} (h : SGr W3 T N W L E c) (b : Below W.heap.size W W') : SGr W3 T N W' L E c :=
  ⟨below_trans h.below b, (b.block _ (lt_of_block h.box)).trans h.box, own_below h.own b⟩
theorem SGr.start (W3 : World) (T : TypeId) (N : Int) : SGr W3 T N (W3.alloc (.cells #[.int .i64 N, .slice none 0 0] T)) [] none 0 :=
  ⟨below_alloc' (Below.refl _ _) _, alloc_at _ _, nil_own _ _ _ _⟩
theorem SGr.push {W3 : World} {T : TypeId} {N : Int} {W W' : World} {L : List (Int × Int)} {E E' : Option Addr} {c c' : Nat} {o : Obj} {p : Int × Int} (h : SGr W3 T N W L E c)
    (ho : W'.ownsRow (W3.heap.size + 1) 51 2 (.slice E' (L ++ [p]).length c') (L ++ [p]).length (pairCells (L ++ [p]))) (hg : (W.alloc o).grownBy W' (Value.slice E L.length c).ownBlock) :
    SGr W3 T N (W'.setCell ⟨W3.heap.size, 1, none⟩ (.slice E' (L ++ [p]).length c')) (L ++ [p]) E' c' ∧ W'.cell? ⟨W3.heap.size, 1, none⟩ = some (.slice E L.length c) ∧ W'.frozen? ⟨W3.heap.size, 1, none⟩ = false := by
  have hz := lt_of_block h.box
  have hEb : ∀ a, E = some a → W3.heap.size + 1 ≤ a.block := fun a e => by
    rcases own_at h.own with ⟨e', _⟩ | ⟨g', e', h, _⟩
    · rw [e'] at e; cases e
    · rw [e'] at e; injection e with e; subst e; exact h
  have hsA : (W.alloc o).heap.size = W.heap.size + 1 := World.size_alloc _ _
  have lowb : ∀ b, b < W3.heap.size + 1 → W'.heap[b]? = W.heap[b]? := fun b hb => by
    rw [hg.block b (by omega) (fun e => by
      cases E with
      | none => cases e
      | some a => injection e with e; have := hEb a rfl; omega), alloc_old W o b (by omega)]
  have hbox := (lowb _ (Nat.lt_succ_self _)).trans h.box
  have hb' : Below W3.heap.size W3 W' := ⟨hg.os.trans h.below.os, hg.tape.trans h.below.tape, hg.output.trans h.below.output, Nat.le_trans h.below.size (by have := hg.size; omega), fun k hk => (lowb k (by omega)).trans (h.below.block k hk)⟩
  refine ⟨⟨hb'.setCell (p := ⟨W3.heap.size, 1, none⟩) (Nat.le_refl _) _, rows_same W' _ 1 _ _ _ hbox, ownsRow_setCell_below ho (a := ⟨W3.heap.size, 1, none⟩) (Nat.lt_succ_self _) _⟩, (cell_of _ _ 1 _ _ _ hbox rfl).1, (cell_of _ _ 1 _ _ _ hbox rfl).2⟩
/-- two cells read as one pair -/
theorem pairs_one {w : World} {b o : Nat} {x y : Int} (h1 : w.cell? ⟨b, o, none⟩ = some (.int .i64 x)) (h2 : w.cell? ⟨b, o + 1, none⟩ = some (.int .i64 y)) : Pairs w (some ⟨b, o, none⟩) [(x, y)] :=
  ⟨by simp, fun i hi => by
    have hb := World.block_lt_of_cell? w _ h1
    obtain rfl : i = 0 := by simp at hi; omega
    exact ⟨b, o, rfl, hb, by rw [Nat.zero_mul, Nat.add_zero]; exact h1, by rw [Nat.zero_mul, Nat.add_zero]; exact h2⟩⟩
/-- a bit, as the walk reads it -/
theorem bit_eq {x : Nat} (j : Nat) (h : x < 2 ^ 16) : (bits BinOp.and IntKind.u64 ((x : Int) / 2 ^ j) 1 == 1) = x.testBit j := by
  have e : (x : Int) / 2 ^ j = ((x / 2 ^ j : Nat) : Int) := by simp
  rw [e, and_one (div_lt16 h), Nat.testBit_eq_decide_div_mod_eq]
  rcases Nat.mod_two_eq_zero_or_one (x / 2 ^ j) with q | q <;> rw [q] <;> rfl
/-- have two vertices of the product an edge (by bits)? -/
def strongP (X Y : List Nat) (m v w : Nat) : Bool := (decide (v / m = w / m) || (X.getD (v / m) 0).testBit (w / m)) && (decide (v % m = w % m) || (Y.getD (v % m) 0).testBit (w % m))
theorem tdiv_nat (a b : Nat) : Int.tdiv (a : Int) (b : Int) = ((a / b : Nat) : Int) := by
  rw [Int.tdiv_eq_ediv_of_nonneg (Int.natCast_nonneg _)]
  rfl
theorem tmod_nat (a b : Nat) : Int.tmod (a : Int) (b : Int) = ((a % b : Nat) : Int) := by
  rw [Int.tmod_eq_emod_of_nonneg (Int.natCast_nonneg _)]
  rfl
theorem div_wrap {a b : Nat} (h : a ≤ 1000) : wrap64 ((a : Int) / (b : Int)) = ((a / b : Nat) : Int) := by
  have e : (a : Int) / (b : Int) = ((a / b : Nat) : Int) := rfl
  have h2 : a / b ≤ a := Nat.div_le_self _ _
  rw [e]
  generalize a / b = q at h2
  unfold wrap64
  omega
end Go.Proofs.YtehheklbibocjaaDoor

/- The walk of zero.Strong at right graphs. Condition: the variables read as laid. -/
namespace Go.Proofs.YtehheklbibocjaaDoor
open Go.RowKit Go.Deep Go.Proofs.YtehheklbibocjaaDoorW.PrintWords

set_option maxRecDepth 100000 in
set_option maxHeartbeats 8000000 in
theorem strong_good (n m : Nat) (A : Option Addr) (l : List (Int × Int)) (c : Nat) (B : Option Addr) (k : List (Int × Int)) (d : Nat) (w : World) (a : Nat → Addr) (hE : Env [2, 3] w a) (hA : Pairs w A l) (hB : Pairs w B k) (h1 : gErr n l = 0) (h2 : gErr m k = 0) (h3 : n * m ≤ 16) :
    Calls Tryd.prog 9 #[.agg #[.int .i64 n, .slice A l.length c], .agg #[.int .i64 m, .slice B k.length d]] w fun e w' => ∃ E f, e = .returned (.tuple #[.agg #[.int .i64 (n * m : Nat), .slice E (allTo (strongP (nearL n l) (nearL m k) m) (n * m) (n * m)).length f], .nilIface]) ∧ Pairs w' E (allTo (strongP (nearL n l) (nearL m k) m) (n * m) (n * m)) ∧ (allTo (strongP (nearL n l) (nearL m k) m) (n * m) (n * m)).length ≤ f ∧ (∀ x, E = some x → w.heap.size ≤ x.block) ∧ Below w.heap.size w w' := by
  obtain ⟨_, hn', hg1⟩ := gErr_zero h1
  obtain ⟨_, hm', hg2⟩ := gErr_zero h2
  have hn : n ≤ 16 := by omega
  have hm : m ≤ 16 := by omega
  have hlX : Low (nearL n l) := by
    have e : nearTo n l l.length = nearL n l := by unfold nearTo nearL; rw [List.take_length]
    rw [← e]; exact nearTo_low hn hg1 _ (Nat.le_refl _)
  have hlY : Low (nearL m k) := by
    have e : nearTo m k k.length = nearL m k := by unfold nearTo nearL; rw [List.take_length]
    rw [← e]; exact nearTo_low hm hg2 _ (Nat.le_refl _)
  have HNA := hide (fun V (hb : Below w.heap.size w V) => near_ok n A l c V (hA.below hb) hn hg1)
  have HNB := hide (fun V (hb : Below w.heap.size w V) => near_ok m B k d V (hB.below hb) hm hg2)
  have HG := hide (And.intro h1 h2)
  have HVA := hide (fun V (hb : Below w.heap.size w V) => gvalid_any n A l c V a (hE.below hb) (hA.below hb))
  have HVB := hide (fun V (hb : Below w.heap.size w V) => gvalid_any m B k d V a (hE.below hb) (hB.below hb))
  have HST := hide (strong_at w n A l.length c m B k.length d)
  obtain ⟨X, hX⟩ : ∃ X, nearL n l = X := ⟨_, rfl⟩
  obtain ⟨Y, hY⟩ : ∃ Y, nearL m k = Y := ⟨_, rfl⟩
  rw [hX] at hlX HNA ⊢
  rw [hY] at hlY HNB ⊢
  obtain ⟨N, hN⟩ : ∃ N, n * m = N := ⟨_, rfl⟩
  rw [hN] at h3 ⊢
  have hNi : (n : Int) * (m : Int) = (N : Int) := by rw [← hN]; rfl
  have hwN : wrap64 (N : Int) = (N : Int) := by unfold wrap64; omega
  obtain ⟨P, hP⟩ : ∃ P, strongP X Y m = P := ⟨_, rfl⟩
  have HP := hide hP
  rw [hP]
  clear hP
  have HLX := hide hlX
  have HLY := hide hlY
  have HNN := hide hN
  clear hE hA hB h1 h2 hg1 hg2 hlX hlY hX hY hN
  go_enter Tryd.func9, Tryd.ntmps9
  go_wp2_with (fail)
  go_loopw [22] (fun jv wr => ∃ i : Nat, i ≤ 2 ∧ jv = .int .i64 i ∧ StrongAt w n A l.length c m B k.length d wr ∧ Hid ((0 < i → gErr (n : Int) l = 0) ∧ (1 < i → gErr (m : Int) k = 0))) (fun jv _ => 2 - (intOf jv).toNat)
  case atStart => exact ⟨0, by omega, rfl, HST.out, hide ⟨fun h => absurd h (by omega), fun h => absurd h (by omega)⟩⟩
  case round =>
    obtain ⟨i, hi, rfl, hS, HI⟩ := hrel
    obtain ⟨wi, rfl⟩ : ∃ wi : World, wi = wr := ⟨_, rfl⟩
    clear HST
    have hsz := hS.size
    have z3 : w.heap.size + 3 < wi.heap.size := by omega
    by_cases hi0 : i = 0
    · subst hi0
      have x0 := hS.g0
      have x1 := hS.g1
      have hb2 := below_alloc' hS.below (graphObj n A l.length c)
      have hv := HVA.out _ (below_alloc' hS.below (graphObj n A l.length c))
      have he := HG.out.1
      · rw [he, errC_zero] at hv
        have HV := hide hv
        have HE := hide he
        clear hv he
        go_wp2_with (go_at_call 20; refine Calls.mono HV.out ?_; rintro e w1 ⟨rfl, hB1⟩)
        go_roundw
        case rel => exact ⟨1, by omega, by go_num, hS.later (below_trans (below_alloc' (Below.refl _ _) _) hB1), hide ⟨fun _ => HE.out, fun h => absurd h (by omega)⟩⟩
        case measure => simp [intOf]
    · by_cases hi1 : i = 1
      · subst hi1
        have x0 := hS.g2
        have x1 := hS.g3
        have hv := HVB.out _ (below_alloc' hS.below (graphObj m B k.length d))
        have he := HG.out.2
        · rw [he, errC_zero] at hv
          have HV := hide hv
          have HE := hide he
          clear hv he
          go_wp2_with (go_at_call 20; refine Calls.mono HV.out ?_; rintro e w1 ⟨rfl, hB1⟩)
          go_roundw
          case rel => exact ⟨2, by omega, by go_num, hS.later (below_trans (below_alloc' (Below.refl _ _) _) hB1), hide ⟨fun _ => HI.out.1 (by omega), fun _ => HE.out⟩⟩
          case measure => simp [intOf]

      · obtain rfl : i = 2 := by omega
        obtain ⟨a0, a1, b0, b1, r0, r1, f0, f1⟩ := And.intro hS.a0 (And.intro hS.a1 (And.intro hS.b0 (And.intro hS.b1 (And.intro hS.r0 (And.intro hS.r1 (And.intro hS.f0 hS.f1))))))
        have hw : wrap64 ((n : Int) * (m : Int)) = (N : Int) := by rw [hNi, hwN]
        have hle : decide (16 < (N : Int)) = false := decide_eq_false (by omega)
        clear r0 r1 f0 f1 hwN
        have zz : w.heap.size + 1 < wi.heap.size := by omega
        go_wp2_with (fail)
        go_region_held3 (fun w' => w'.cell? ⟨w.heap.size, 0, none⟩ = some (.int .i64 (n : Int)) ∧ w'.cell? ⟨w.heap.size, 1, none⟩ = some (.slice A l.length c) ∧ w'.cell? ⟨w.heap.size + 1, 0, none⟩ = some (.int .i64 (m : Int)) ∧ w'.cell? ⟨w.heap.size + 1, 1, none⟩ = some (.slice B k.length d))
          (first | go_keep | exact ⟨‹_›, ‹_›, ‹_›, ‹_›⟩)
          ((first
            | (go_at_call_of 25 (Value.agg #[.int .i64 (n : Int), .slice A l.length c])
               refine Calls.mono (HNA.out _ (below_drewN' hS.below 1)) ?_
               rintro e w1 ⟨rfl, hR1, hb1⟩
               have hS1 := hS.later (below_trans (below_drewN' (Below.refl _ _) 1) hb1)
               have p0 := hS1.a0
               have p1 := hS1.a1
               have p2 := hS1.b0
               have p3 := hS1.b1)
            | (go_at_call_of 25 (Value.agg #[.int .i64 (m : Int), .slice B k.length d])
               refine Calls.mono (HNB.out _ hS1.below) ?_
               rintro e w2 ⟨rfl, hR2, hb2⟩
               have hS2 := hS1.later hb2
               have q0 := hS2.a0
               have q1 := hS2.a1
               have q2 := hS2.b0
               have q3 := hS2.b1)))
        have hR1' : NRow w2 (wi.heap.size + 1) n X := World.rowIs.of_block hR1 (hb2.block _ (World.rowIs.lt hR1))
        have HB := hide (And.intro hS2 (And.intro hR1' hR2))
        have zx : wi.heap.size + 1 < w2.heap.size := World.rowIs.lt hR1'
        have zy : w1.heap.size + 1 < w2.heap.size := World.rowIs.lt hR2
        have zs := hS2.size
        generalize wi.heap.size + 1 = bx at *
        generalize w1.heap.size + 1 = bY at *
        clear a0 a1 b0 b1 p0 p1 p2 p3 q1 q3 hS hS1 hb1 hb2 hR1 hR2 hR1' hsz z3 zz HVA HVB HNA HNB hS2
        have z1 : w.heap.size + 1 < w2.heap.size := by omega
        go_wp2_with (fail)
        have hst := SGr.start w2 27 (N : Int)
        have HSTART : Hid (∃ E f, SGr w2 27 (N : Int) (w2.alloc (.cells #[.int .i64 (N : Int), .slice none 0 0] 27)) (allTo P N 0) E f) := hide ⟨_, _, hst⟩
        clear hst q0 q2 z1
        go_loopw [53] (fun jv wr => ∃ v : Nat, v ≤ N ∧ jv = .int .i64 v ∧ Hid (∃ E f, SGr w2 27 (N : Int) wr (allTo P N v) E f)) (fun jv _ => N - (intOf jv).toNat)
        case atStart => exact ⟨0, Nat.zero_le _, rfl, HSTART⟩
        case round =>
          obtain ⟨v, hv, rfl, HJ⟩ := hrel
          obtain ⟨wv, rfl⟩ : ∃ wv : World, wv = wr := ⟨_, rfl⟩
          clear HSTART
          have v0 : (0 : Int) ≤ (v : Int) := Int.natCast_nonneg _
          by_cases hvl : v < N
          · have v1 : (v : Int) < (N : Int) := by omega
            go_wp2_with (fail)
            go_loopw [13] (fun jv wr => ∃ x : Nat, v + 1 ≤ x ∧ x ≤ N ∧ jv = .int .i64 x ∧ Hid (∃ E f, SGr w2 27 (N : Int) wr (allTo P N v ++ rowTo P v x) E f)) (fun jv _ => N - (intOf jv).toNat)
            case atStart => exact ⟨v + 1, Nat.le_refl _, hvl, by go_num, by rw [rowTo_first, List.append_nil]; exact HJ⟩
            case round =>
              obtain ⟨x, hvx, hx, rfl, HK⟩ := hrel
              obtain ⟨wx, rfl⟩ : ∃ wx : World, wx = wr := ⟨_, rfl⟩
              clear HJ
              have hbd := grown_length (P := P) (N := N) (v := v) (w := x) (by omega) hv hx
              obtain ⟨L, hL⟩ : ∃ L, allTo P N v ++ rowTo P v x = L := ⟨_, rfl⟩
              rw [hL] at HK hbd
              obtain ⟨E, f, hG⟩ := HK.out
              obtain ⟨c0, c1, c2, c3⟩ := hG.cells
              have x0 : (0 : Int) ≤ (x : Int) := Int.natCast_nonneg _
              by_cases hxl : x < N
              · have x1 : (x : Int) < (N : Int) := by omega
                have hm0 : 0 < m := Nat.pos_of_ne_zero fun e => by have := HNN.out; rw [e, Nat.mul_zero] at this; omega
                have hvd : v / m < n := Nat.div_lt_of_lt_mul (by rw [Nat.mul_comm, HNN.out]; exact hvl)
                have hvm : v % m < m := Nat.mod_lt _ hm0
                have d0 := (hG.below.cell (p := ⟨w.heap.size + 1, 0, none⟩) (by show w.heap.size + 1 < _; omega)).trans HB.out.1.b0
                have d1 := (hG.below.cell (p := ⟨bx, v / m, none⟩) zx).trans (World.rowIs.cell HB.out.2.1 hvd)
                have d2 := (hG.below.cell (p := ⟨bY, v % m, none⟩) zy).trans (World.rowIs.cell HB.out.2.2 hvm)
                have zz1 : w.heap.size + 1 < wx.heap.size := by omega
                have zz2 : bx < wx.heap.size := by omega
                have zz3 : bY < wx.heap.size := by omega
                have hbX := bit_eq (x / m) (HLX.out (v / m))
                have hbY := bit_eq (x % m) (HLY.out (v % m))
                have hPP : P v x = ((decide (v / m = x / m) || (X.getD (v / m) 0).testBit (x / m)) && (decide (v % m = x % m) || (Y.getD (v % m) 0).testBit (x % m))) := by rw [← HP.out]; rfl
                generalize X.getD (v / m) 0 = mx at d1 hbX hPP
                generalize Y.getD (v % m) 0 = my at d2 hbY hPP
                have t1 := tdiv_nat v m
                have t2 := tmod_nat v m
                have t3 := tdiv_nat x m
                have t4 := tmod_nat x m
                have m0 : ((m : Int) == 0) = false := beq_eq_false_iff_ne.2 (by omega)
                have m1 : (m : Int) ≠ 0 := by omega
                have m2 : (0 : Int) < (m : Int) := by omega
                have HXB := hide (And.intro hbX (And.intro hbY hPP))
                have HT := hide (And.intro t1 (And.intro t3 (And.intro t2 t4)))
                have hxd : x / m < n := Nat.div_lt_of_lt_mul (by rw [Nat.mul_comm, HNN.out]; exact hxl)
                have hxm : x % m < m := Nat.mod_lt _ hm0
                have HDM := hide (And.intro hvd (And.intro hvm (And.intro hxd hxm)))
                clear hbX hbY hPP t1 t2 t3 t4 hvd hvm hxd hxm
                go_wp2_with (fail)
                go_quiet (fail)
                have e1 : wrap64 ((v : Int) / (m : Int)) = ((v / m : Nat) : Int) := div_wrap (by omega)
                have e2 : wrap64 ((x : Int) / (m : Int)) = ((x / m : Nat) : Int) := div_wrap (by omega)
                have e3 : (v : Int) % (m : Int) = ((v % m : Nat) : Int) := rfl
                have e4 : (x : Int) % (m : Int) = ((x % m : Nat) : Int) := rfl
                rw [e1, e2, e3, e4]
                clear e1 e2 e3 e4
                obtain ⟨hvd, hvm, hxd, hxm⟩ := HDM.out
                obtain ⟨hbX, hbY, hPP⟩ := HXB.out
                clear HXB HT HDM
                generalize v / m = vi at *
                generalize v % m = vk at *
                generalize x / m = xi at *
                generalize x % m = xk at *
                have hGq := hG.later (below_drewN' (Below.refl _ _) nq)
                have f1 := d1
                have f2 := d2
                generalize hwq : World.drewN wx nq = wq at hGq ⊢
                have d1 : wq.cell? ⟨bx, vi, none⟩ = some (.int .u64 (mx : Int)) := by rw [← hwq]; exact f1
                have d2 : wq.cell? ⟨bY, vk, none⟩ = some (.int .u64 (my : Int)) := by rw [← hwq]; exact f2
                obtain ⟨c0, c1, c2, c3⟩ := hGq.cells
                have HGQ := hide hGq
                have HLL := hide hL
                have hlen : (L ++ [((v : Int), (x : Int))]).length = L.length + 1 := by rw [List.length_append, List.length_singleton]
                have HLEN := hide hlen
                have HPP := hide hPP
                have s1 : (vi : Int) < (n : Int) := by omega
                have s2 : (vk : Int) < (m : Int) := by omega
                have s3 : (0 : Int) ≤ (vi : Int) := Int.natCast_nonneg _
                have s4 : (0 : Int) ≤ (vk : Int) := Int.natCast_nonneg _
                have s5 : (0 : Int) ≤ (xi : Int) := Int.natCast_nonneg _
                have s6 : (0 : Int) ≤ (xk : Int) := Int.natCast_nonneg _
                clear f1 f2 hwq hGq hL hlen hPP hG zz1 zz2 zz3
                by_cases g0 : vi = xi
                · have q0 : ((vi : Int) == (xi : Int)) = true := by rw [g0]; simp
                  by_cases g2 : vk = xk
                  · have q2 : ((vk : Int) == (xk : Int)) = true := by rw [g2]; simp
                    have hp : P v x = true := by rw [HPP.out]; simp [g0, g2]
                    have HROW := hide (rowTo_yes (P := P) (v := v) (w := x) (by omega) hp)
                    clear hp
                    go_wp2_with (at_builtin; refine wp_app_pairs _ rfl (.tmp 109) (.tmp 113) rfl (w2.heap.size + 1) (.slice E L.length f) L rfl (own_below HGQ.out.own (below_alloc' (Below.refl _ _) _)) (some ⟨wq.heap.size, 0, none⟩) 1 1 [((v : Int), (x : Int))] rfl rfl (pairs_one (by simp) (by simp)) (by omega) (by rw [World.size_alloc]; omega) ?_; intro E' f' w5 hf5 ho5 hg5 _; obtain ⟨hG5, y1, y2⟩ := SGr.push HGQ.out ho5 hg5; rw [HLEN.out] at hG5; have HG5 := hide hG5; clear ho5 hg5 hf5 hG5)
                    go_roundw
                    case rel => exact ⟨x + 1, by omega, by omega, by go_num, hide ⟨E', f', by rw [HROW.out, ← List.append_assoc, HLL.out]; exact HG5.out⟩⟩
                    case measure => simp [intOf]; omega
                  · have q2 : ((vk : Int) == (xk : Int)) = false := beq_eq_false_iff_ne.2 (by omega)
                    cases g3 : my.testBit xk
                    · rw [g3] at hbY
                      have hbYn := beq_eq_false_iff_ne.1 hbY
                      have hp : P v x = false := by rw [HPP.out]; simp [g0, g2, g3]
                      have HROW := hide (rowTo_no (P := P) (v := v) (w := x) hp)
                      clear hp
                      go_wp2_with (fail)
                      go_roundw
                      case rel => exact ⟨x + 1, by omega, by omega, by go_num, hide ⟨E, f, by rw [HROW.out, HLL.out]; exact HGQ.out⟩⟩
                      case measure => simp [intOf]; omega
                    · rw [g3] at hbY
                      have hp : P v x = true := by rw [HPP.out]; simp [g0, g3]
                      have HROW := hide (rowTo_yes (P := P) (v := v) (w := x) (by omega) hp)
                      clear hp
                      go_wp2_with (at_builtin; refine wp_app_pairs _ rfl (.tmp 109) (.tmp 113) rfl (w2.heap.size + 1) (.slice E L.length f) L rfl (own_below HGQ.out.own (below_alloc' (Below.refl _ _) _)) (some ⟨wq.heap.size, 0, none⟩) 1 1 [((v : Int), (x : Int))] rfl rfl (pairs_one (by simp) (by simp)) (by omega) (by rw [World.size_alloc]; omega) ?_; intro E' f' w5 hf5 ho5 hg5 _; obtain ⟨hG5, y1, y2⟩ := SGr.push HGQ.out ho5 hg5; rw [HLEN.out] at hG5; have HG5 := hide hG5; clear ho5 hg5 hf5 hG5)
                      go_roundw
                      case rel => exact ⟨x + 1, by omega, by omega, by go_num, hide ⟨E', f', by rw [HROW.out, ← List.append_assoc, HLL.out]; exact HG5.out⟩⟩
                      case measure => simp [intOf]; omega
                · have q0 : ((vi : Int) == (xi : Int)) = false := beq_eq_false_iff_ne.2 (by omega)
                  cases g1 : mx.testBit xi
                  · rw [g1] at hbX
                    have hbXn := beq_eq_false_iff_ne.1 hbX
                    have hp : P v x = false := by rw [HPP.out]; simp [g0, g1]
                    have HROW := hide (rowTo_no (P := P) (v := v) (w := x) hp)
                    clear hp
                    go_wp2_with (fail)
                    go_roundw
                    case rel => exact ⟨x + 1, by omega, by omega, by go_num, hide ⟨E, f, by rw [HROW.out, HLL.out]; exact HGQ.out⟩⟩
                    case measure => simp [intOf]; omega
                  · rw [g1] at hbX
                    by_cases g2 : vk = xk
                    · have q2 : ((vk : Int) == (xk : Int)) = true := by rw [g2]; simp
                      have hp : P v x = true := by rw [HPP.out]; simp [g1, g2]
                      have HROW := hide (rowTo_yes (P := P) (v := v) (w := x) (by omega) hp)
                      clear hp
                      go_wp2_with (at_builtin; refine wp_app_pairs _ rfl (.tmp 109) (.tmp 113) rfl (w2.heap.size + 1) (.slice E L.length f) L rfl (own_below HGQ.out.own (below_alloc' (Below.refl _ _) _)) (some ⟨wq.heap.size, 0, none⟩) 1 1 [((v : Int), (x : Int))] rfl rfl (pairs_one (by simp) (by simp)) (by omega) (by rw [World.size_alloc]; omega) ?_; intro E' f' w5 hf5 ho5 hg5 _; obtain ⟨hG5, y1, y2⟩ := SGr.push HGQ.out ho5 hg5; rw [HLEN.out] at hG5; have HG5 := hide hG5; clear ho5 hg5 hf5 hG5)
                      go_roundw
                      case rel => exact ⟨x + 1, by omega, by omega, by go_num, hide ⟨E', f', by rw [HROW.out, ← List.append_assoc, HLL.out]; exact HG5.out⟩⟩
                      case measure => simp [intOf]; omega
                    · have q2 : ((vk : Int) == (xk : Int)) = false := beq_eq_false_iff_ne.2 (by omega)
                      cases g3 : my.testBit xk
                      · rw [g3] at hbY
                        have hbYn := beq_eq_false_iff_ne.1 hbY
                        have hp : P v x = false := by rw [HPP.out]; simp [g1, g2, g3]
                        have HROW := hide (rowTo_no (P := P) (v := v) (w := x) hp)
                        clear hp
                        go_wp2_with (fail)
                        go_roundw
                        case rel => exact ⟨x + 1, by omega, by omega, by go_num, hide ⟨E, f, by rw [HROW.out, HLL.out]; exact HGQ.out⟩⟩
                        case measure => simp [intOf]; omega
                      · rw [g3] at hbY
                        have hp : P v x = true := by rw [HPP.out]; simp [g1, g3]
                        have HROW := hide (rowTo_yes (P := P) (v := v) (w := x) (by omega) hp)
                        clear hp
                        go_wp2_with (at_builtin; refine wp_app_pairs _ rfl (.tmp 109) (.tmp 113) rfl (w2.heap.size + 1) (.slice E L.length f) L rfl (own_below HGQ.out.own (below_alloc' (Below.refl _ _) _)) (some ⟨wq.heap.size, 0, none⟩) 1 1 [((v : Int), (x : Int))] rfl rfl (pairs_one (by simp) (by simp)) (by omega) (by rw [World.size_alloc]; omega) ?_; intro E' f' w5 hf5 ho5 hg5 _; obtain ⟨hG5, y1, y2⟩ := SGr.push HGQ.out ho5 hg5; rw [HLEN.out] at hG5; have HG5 := hide hG5; clear ho5 hg5 hf5 hG5)
                        go_roundw
                        case rel => exact ⟨x + 1, by omega, by omega, by go_num, hide ⟨E', f', by rw [HROW.out, ← List.append_assoc, HLL.out]; exact HG5.out⟩⟩
                        case measure => simp [intOf]; omega
              · have hxN : x = N := by omega
                have x1 : ¬ (x : Int) < (N : Int) := by omega
                rw [← hL, hxN, ← allTo_succ] at HK
                have HV1 := hide (show v + 1 ≤ N from hvl)
                go_wp2_with (fail)
                go_roundw
                case rel => exact ⟨v + 1, HV1.out, by go_num, HK⟩
                case measure =>
                  have := HV1.out
                  simp [intOf]
                  omega
          · obtain rfl : v = N := by omega
            obtain ⟨E, f, hG⟩ := HJ.out
            obtain ⟨c0, c1, c2, c3⟩ := hG.cells
            have hrr := HB.out.1.later hG.below
            obtain ⟨r0, r1, f0, f1⟩ := And.intro hrr.r0 (And.intro hrr.r1 (And.intro hrr.f0 hrr.f1))
            have zr : w.heap.size + 2 < wv.heap.size := by have := hrr.size; omega
            have hown := hG.own
            have hcap := own_cap hG.own
            have hbw := hrr.below
            have hzz : w.heap.size + 2 < w2.heap.size + 1 := by omega
            have hEb : ∀ x, E = some x → w.heap.size ≤ x.block := fun x e => by
              rcases own_at hG.own with ⟨e', _⟩ | ⟨g, e', h, _⟩
              · rw [e'] at e; cases e
              · rw [e'] at e
                injection e with e
                subst e
                show w.heap.size ≤ g
                omega
            go_wp2_with (fail)
            refine bodyPost_ret (v := .tuple #[.agg #[.int .i64 (v : Int), .slice E (allTo P v v).length f], .nilIface]) (by simp [results, Tryd.results9, go_sem, r0, r1]) rfl ⟨E, f, rfl, ?_, hcap, hEb, ?_⟩
            · exact Pairs.own (ownsRow_setCell_below (ownsRow_setCell_below hown (a := ⟨w.heap.size + 2, 0, none⟩) hzz _) (a := ⟨w.heap.size + 2, 1, none⟩) hzz _)
            · exact (hbw.setCell (p := ⟨w.heap.size + 2, 0, none⟩) (by show w.heap.size ≤ w.heap.size + 2; omega) _).setCell (p := ⟨w.heap.size + 2, 1, none⟩) (by show w.heap.size ≤ w.heap.size + 2; omega) _
end Go.Proofs.YtehheklbibocjaaDoor
