/- Tables of whole numbers in memory: a row of rows, made block after block; make([][]int, n). No condition. -/
import Derived.Test.YtieeefgkdfijdaaDoorVoc
import Derived.Test.YtieeefgkdfijdaaDoorApp
import Derived.Deep.RegionLaw
namespace Go.Proofs.YtieeefgkdfijdaaDoor
open Go.RowKit Go.Deep

theorem list_info : (Tryd.prog.info? 33).map (fun i => (i.zero, i.size, i.bytes)) = some (some (.slice none 0 0), 1, 24) := by kernel_rfl
/-- make([][]int, n) -/
theorem wp_make_lists (w : World) {ops : Array Oper} {rest : List Oper} {o : Oper} {a : Act} {Q : Exit → Act → World → Prop}
    (hg : o.guard = none) (l c : Operand) (hop : o.op = Op.makeSlice 37 l c) (kl kc : IntKind) (n : Nat) (hl : a.eval l = .int kl (n : Int)) (hc : a.eval c = .int kc (n : Int)) (hn : n ≤ 1000000)
    (hK : ∀ w', w'.rowIs w.heap.size 33 n (fun _ => .slice none 0 0) → Below w.heap.size w w' → Hid (w'.heap.size = w.heap.size + 1) → wpList Tryd.prog ops Q rest (a.put o.dst (.slice (some ⟨w.heap.size, 0, none⟩) n n)) w') :
    wpList Tryd.prog ops Q (o :: rest) a w := by
  obtain ⟨i0, hi0, hz0, hz1, hz2⟩ := info_parts list_info
  refine wpList_make_row w hg l c _ hop 33 i0 _ Tryd.underlying37 hi0 hz0 hz1 rfl kl kc n hl hc (by rw [hz2]; omega) (by omega) ?_
  exact hK _ (World.rowIs_made w _ n _) ((Below.refl _ _).alloc (Nat.le_refl _) _) (hide (by simp))
/-- make([]int, n), with the heap's size behind it -/
theorem wp_make_ints' (w : World) {ops : Array Oper} {rest : List Oper} {o : Oper} {a : Act} {Q : Exit → Act → World → Prop}
    (hg : o.guard = none) (l c : Operand) (hop : o.op = Op.makeSlice 33 l c) (kl kc : IntKind) (n : Nat) (hl : a.eval l = .int kl (n : Int)) (hc : a.eval c = .int kc (n : Int)) (hn : n ≤ 1000000)
    (hK : ∀ w', w'.rowIs w.heap.size 3 n (fun _ => .int .i64 0) → Below w.heap.size w w' → Hid (w'.heap.size = w.heap.size + 1) → wpList Tryd.prog ops Q rest (a.put o.dst (.slice (some ⟨w.heap.size, 0, none⟩) n n)) w') :
    wpList Tryd.prog ops Q (o :: rest) a w := by
  obtain ⟨i0, hi0, hz0, hz1, hz2⟩ := info_parts int_info
  refine wpList_make_row w hg l c _ hop 3 i0 _ Tryd.underlying33 hi0 hz0 hz1 rfl kl kc n hl hc (by rw [hz2]; omega) (by omega) ?_
  exact hK _ (World.rowIs_made w _ n _) ((Below.refl _ _).alloc (Nat.le_refl _) _) (hide (by simp))

/-- a slice over a whole block of c whole numbers -/
def sl (b c : Nat) : Value := .slice (some ⟨b, 0, none⟩) c c
/-- the first k rows of a table of M rows of c whole numbers: the outer block is B, row j lies in block B + 1 + j -/
structure TabTo (w : World) (B M c k : Nat) (f : Nat → Nat → Int) : Prop where
  outer : w.rowIs B 33 M (fun j => if j < k then .slice (some ⟨B + 1 + j, 0, none⟩) c c else .slice none 0 0)
  inner : ∀ j, j < k → w.rowIs (B + 1 + j) 3 c (fun i => .int .i64 (f j i))
  size : w.heap.size = B + 1 + k
/-- a whole table -/
structure Tab (w : World) (B M c : Nat) (f : Nat → Nat → Int) : Prop where
  outer : w.rowIs B 33 M (fun j => .slice (some ⟨B + 1 + j, 0, none⟩) c c)
  inner : ∀ j, j < M → w.rowIs (B + 1 + j) 3 c (fun i => .int .i64 (f j i))
theorem TabTo.zero {w : World} {B M c : Nat} {f : Nat → Nat → Int} (h : w.rowIs B 33 M (fun _ => .slice none 0 0)) (hs : w.heap.size = B + 1) : TabTo w B M c 0 f :=
  ⟨h.congr (fun j _ => by simp), fun j hj => absurd hj (by omega), hs⟩
/-- one row more: it lies in a new block, its slice is stored -/
theorem TabTo.succ {w w1 : World} {B M c k : Nat} {f : Nat → Nat → Int} (h : TabTo w B M c k f) (hk : k < M) (hb : Below w.heap.size w w1) (hr : w1.rowIs (B + 1 + k) 3 c (fun i => .int .i64 (f k i))) (hs : w1.heap.size = w.heap.size + 1) :
    TabTo (w1.setCell ⟨B, k, none⟩ (.slice (some ⟨B + 1 + k, 0, none⟩) c c)) B M c (k + 1) f := by
  have hB : B < w.heap.size := by rw [h.size]; omega
  refine ⟨((h.outer.of_block (hb.block B hB)).set k _).congr fun j hj => ?_, fun j hj => ?_, by simp [World.setCell]; rw [hs, h.size]; omega⟩
  · by_cases e : j = k
    · subst e; simp
    · rw [if_neg e]
      by_cases h1 : j < k
      · rw [if_pos h1, if_pos (by omega)]
      · rw [if_neg h1, if_neg (by omega)]
  · by_cases e : j = k
    · subst e; exact hr.setOther (by show B + 1 + j ≠ B; omega) _
    · exact ((h.inner j (by omega)).of_block (hb.block _ (by rw [h.size]; omega))).setOther (by show B + 1 + j ≠ B; omega) _
theorem TabTo.whole {w : World} {B M c : Nat} {f : Nat → Nat → Int} (h : TabTo w B M c M f) : Tab w B M c f :=
  ⟨h.outer.congr fun j hj => by rw [if_pos hj], h.inner⟩
theorem Tab.below {w w1 : World} {B M c : Nat} {f : Nat → Nat → Int} {C : Nat} (h : Tab w B M c f) (hb : Below C w w1) (hC : B + M < C) : Tab w1 B M c f :=
  ⟨h.outer.of_block (hb.block B (by omega)), fun j hj => (h.inner j hj).of_block (hb.block _ (by omega))⟩
theorem Tab.lt {w : World} {B M c : Nat} {f : Nat → Nat → Int} (h : Tab w B M c f) : B + M < w.heap.size := by
  rcases Nat.eq_zero_or_pos M with e | e
  · subst e; have := h.outer.lt; omega
  · have := (h.inner (M - 1) (by omega)).lt; omega
theorem Tab.congr {w : World} {B M c : Nat} {f g : Nat → Nat → Int} (h : Tab w B M c f) (e : ∀ j, j < M → ∀ i, i < c → f j i = g j i) : Tab w B M c g :=
  ⟨h.outer, fun j hj => (h.inner j hj).congr fun i hi => by rw [e j hj i hi]⟩
/-- a number of the table is written -/
theorem Tab.set {w : World} {B M c : Nat} {f : Nat → Nat → Int} (h : Tab w B M c f) (j i : Nat) (hj : j < M) (v : Int) :
    Tab (w.setCell ⟨B + 1 + j, i, none⟩ (.int .i64 v)) B M c (fun x y => if x = j ∧ y = i then v else f x y) := by
  refine ⟨h.outer.setOther (by show B ≠ B + 1 + j; omega) _, fun x hx => ?_⟩
  by_cases e : x = j
  · subst e
    refine ((h.inner x hx).set i _).congr fun y hy => ?_
    by_cases e2 : y = i
    · subst e2; simp
    · simp [e2]
  · refine ((h.inner x hx).setOther (by show B + 1 + x ≠ B + 1 + j; omega) _).congr fun y hy => ?_
    simp [e]
/-- a number in one of the rows so far is written -/
theorem TabTo.set {w : World} {B M c k : Nat} {f : Nat → Nat → Int} (h : TabTo w B M c k f) (j i : Nat) (hj : j < k) (v : Int) :
    TabTo (w.setCell ⟨B + 1 + j, i, none⟩ (.int .i64 v)) B M c k (fun x y => if x = j ∧ y = i then v else f x y) := by
  refine ⟨h.outer.setOther (by show B ≠ B + 1 + j; omega) _, fun x hx => ?_, by simp [World.setCell]; exact h.size⟩
  by_cases e : x = j
  · subst e
    refine ((h.inner x hx).set i _).congr fun y hy => ?_
    by_cases e2 : y = i
    · subst e2; simp
    · simp [e2]
  · refine ((h.inner x hx).setOther (by show B + 1 + x ≠ B + 1 + j; omega) _).congr fun y hy => ?_
    simp [e]
theorem TabTo.congr {w : World} {B M c k : Nat} {f g : Nat → Nat → Int} (h : TabTo w B M c k f) (e : ∀ j, j < k → ∀ i, i < c → f j i = g j i) : TabTo w B M c k g :=
  ⟨h.outer, fun j hj => (h.inner j hj).congr fun i hi => by rw [e j hj i hi], h.size⟩
/-- a table reads as the list of its rows -/
theorem Lists.ofTab {w : World} {B M c : Nat} {f : Nat → Nat → Int} (h : Tab w B M c f) (hM : M ≤ 9223372036854775807) (hc : c ≤ 9223372036854775807) : Lists w (some ⟨B, 0, none⟩) ((List.range M).map fun j => (List.range c).map fun i => f j i) :=
  ⟨by simpa using hM, fun j hj => by
    have hj' : j < M := by simpa using hj
    have e : ((List.range M).map fun j => (List.range c).map fun i => f j i).getD j [] = (List.range c).map fun i => f j i := by
      simp [List.getD_eq_getElem?_getD, List.getElem?_map, List.getElem?_range hj']
    rw [e]
    have h1 := h.outer.cell hj'
    exact ⟨B, 0, some ⟨B + 1 + j, 0, none⟩, c, rfl, h.outer.lt, by rw [Nat.zero_add, h1]; simp, by simp, Ints.ofRow (h.inner j hj') hc⟩⟩
end Go.Proofs.YtieeefgkdfijdaaDoor
