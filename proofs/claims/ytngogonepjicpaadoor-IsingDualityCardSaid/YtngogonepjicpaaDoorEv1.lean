/- Tables in memory: a row of rows, made block after block; make([][]int, n). No condition. -/
import Derived.Test.YtngogonepjicpaaDoorIs4
import Derived.Test.YtngogonepjicpaaDoorEvP
import Derived.Laws.CopyOwn
import Derived.Deep.RegionLaw
namespace Go.Proofs.YtngogonepjicpaaDoor
open Go.RowKit Go.Deep

theorem list_info : (Tryd.prog.info? 30).map (fun i => (i.zero, i.size, i.bytes)) = some (some (.slice none 0 0), 1, 24) := by kernel_rfl
/-- make([][]int, n) -/
theorem wp_make_lists (w : World) {ops : Array Oper} {rest : List Oper} {o : Oper} {a : Act} {Q : Exit → Act → World → Prop}
    (hg : o.guard = none) (l c : Operand) (hop : o.op = Op.makeSlice 65 l c) (kl kc : IntKind) (n : Nat) (hl : a.eval l = .int kl (n : Int)) (hc : a.eval c = .int kc (n : Int)) (hn : n ≤ 1000000)
    (hK : ∀ w', w'.rowIs w.heap.size 30 n (fun _ => .slice none 0 0) → Below w.heap.size w w' → Hid (w'.heap.size = w.heap.size + 1) → wpList Tryd.prog ops Q rest (a.put o.dst (.slice (some ⟨w.heap.size, 0, none⟩) n n)) w') :
    wpList Tryd.prog ops Q (o :: rest) a w := by
  obtain ⟨i0, hi0, hz0, hz1, hz2⟩ := info_parts list_info
  refine wpList_make_row w hg l c _ hop 30 i0 _ Tryd.underlying65 hi0 hz0 hz1 rfl kl kc n hl hc (by rw [hz2]; omega) (by omega) ?_
  exact hK _ (World.rowIs_made w _ n _) ((Below.refl _ _).alloc (Nat.le_refl _) _) (hide (by simp))
/-- make([]int, n), with the heap's size behind it -/
theorem wp_make_ints' (w : World) {ops : Array Oper} {rest : List Oper} {o : Oper} {a : Act} {Q : Exit → Act → World → Prop}
    (hg : o.guard = none) (l c : Operand) (hop : o.op = Op.makeSlice 30 l c) (kl kc : IntKind) (n : Nat) (hl : a.eval l = .int kl (n : Int)) (hc : a.eval c = .int kc (n : Int)) (hn : n ≤ 1000000)
    (hK : ∀ w', w'.rowIs w.heap.size 3 n (fun _ => .int .i64 0) → Below w.heap.size w w' → Hid (w'.heap.size = w.heap.size + 1) → wpList Tryd.prog ops Q rest (a.put o.dst (.slice (some ⟨w.heap.size, 0, none⟩) n n)) w') :
    wpList Tryd.prog ops Q (o :: rest) a w := by
  obtain ⟨i0, hi0, hz0, hz1, hz2⟩ := info_parts int_info
  refine wpList_make_row w hg l c _ hop 3 i0 _ Tryd.underlying30 hi0 hz0 hz1 rfl kl kc n hl hc (by rw [hz2]; omega) (by omega) ?_
  exact hK _ (World.rowIs_made w _ n _) ((Below.refl _ _).alloc (Nat.le_refl _) _) (hide (by simp))

/-- a slice over a whole block of c whole numbers -/
def sl (b c : Nat) : Value := .slice (some ⟨b, 0, none⟩) c c
/-- the first k rows of a table of M rows of c whole numbers: the outer block is B, row j lies in block B + 1 + j -/
structure TabTo (w : World) (B M c k : Nat) (f : Nat → Nat → Nat) : Prop where
  outer : w.rowIs B 30 M (fun j => if j < k then .slice (some ⟨B + 1 + j, 0, none⟩) c c else .slice none 0 0)
  inner : ∀ j, j < k → w.rowIs (B + 1 + j) 3 c (fun i => .int .i64 (f j i))
  size : w.heap.size = B + 1 + k
/-- a whole table -/
structure Tab (w : World) (B M c : Nat) (f : Nat → Nat → Nat) : Prop where
  outer : w.rowIs B 30 M (fun j => .slice (some ⟨B + 1 + j, 0, none⟩) c c)
  inner : ∀ j, j < M → w.rowIs (B + 1 + j) 3 c (fun i => .int .i64 (f j i))
theorem TabTo.zero {w : World} {B M c : Nat} {f : Nat → Nat → Nat} (h : w.rowIs B 30 M (fun _ => .slice none 0 0)) (hs : w.heap.size = B + 1) : TabTo w B M c 0 f :=
  ⟨h.congr (fun j _ => by simp), fun j hj => absurd hj (by omega), hs⟩
/-- one row more: it lies in a new block, its slice is stored -/
theorem TabTo.succ {w w1 : World} {B M c k : Nat} {f : Nat → Nat → Nat} (h : TabTo w B M c k f) (hk : k < M) (hb : Below w.heap.size w w1) (hr : w1.rowIs (B + 1 + k) 3 c (fun i => .int .i64 (f k i))) (hs : w1.heap.size = w.heap.size + 1) :
    TabTo (w1.setCell ⟨B, k, none⟩ (.slice (some ⟨B + 1 + k, 0, none⟩) c c)) B M c (k + 1) f := by
  have hB : B < w.heap.size := by rw [h.size]; omega
  refine ⟨((h.outer.of_block (hb.block B hB)).set k _).congr fun j hj => ?_, fun j hj => ?_, by simp [World.setCell]; rw [hs, h.size]; omega⟩
  · by_cases e : j = k
    · subst e; simp
    · rw [if_neg e]
      by_cases h1 : j < k
      · rw [if_pos h1, if_pos (by omega)]
      · rw [if_neg h1, if_neg (by omega)]
  · by_cases e : j = k
    · subst e; exact hr.setOther (by show B + 1 + j ≠ B; omega) _
    · exact ((h.inner j (by omega)).of_block (hb.block _ (by rw [h.size]; omega))).setOther (by show B + 1 + j ≠ B; omega) _
theorem TabTo.whole {w : World} {B M c : Nat} {f : Nat → Nat → Nat} (h : TabTo w B M c M f) : Tab w B M c f :=
  ⟨h.outer.congr fun j hj => by rw [if_pos hj], h.inner⟩
theorem Tab.below {w w1 : World} {B M c : Nat} {f : Nat → Nat → Nat} {C : Nat} (h : Tab w B M c f) (hb : Below C w w1) (hC : B + M < C) : Tab w1 B M c f :=
  ⟨h.outer.of_block (hb.block B (by omega)), fun j hj => (h.inner j hj).of_block (hb.block _ (by omega))⟩
theorem Tab.lt {w : World} {B M c : Nat} {f : Nat → Nat → Nat} (h : Tab w B M c f) : B + M < w.heap.size := by
  rcases Nat.eq_zero_or_pos M with e | e
  · subst e; have := h.outer.lt; omega
  · have := (h.inner (M - 1) (by omega)).lt; omega
theorem Tab.congr {w : World} {B M c : Nat} {f g : Nat → Nat → Nat} (h : Tab w B M c f) (e : ∀ j, j < M → ∀ i, i < c → f j i = g j i) : Tab w B M c g :=
  ⟨h.outer, fun j hj => (h.inner j hj).congr fun i hi => by rw [e j hj i hi]⟩
/-- a number of the table is written -/
theorem Tab.set {w : World} {B M c : Nat} {f : Nat → Nat → Nat} (h : Tab w B M c f) (j i : Nat) (hj : j < M) (v : Nat) :
    Tab (w.setCell ⟨B + 1 + j, i, none⟩ (.int .i64 v)) B M c (fun x y => if x = j ∧ y = i then v else f x y) := by
  refine ⟨h.outer.setOther (by show B ≠ B + 1 + j; omega) _, fun x hx => ?_⟩
  by_cases e : x = j
  · subst e
    refine ((h.inner x hx).set i _).congr fun y hy => ?_
    by_cases e2 : y = i
    · subst e2; simp
    · simp [e2]
  · refine ((h.inner x hx).setOther (by show B + 1 + x ≠ B + 1 + j; omega) _).congr fun y hy => ?_
    simp [e]
/-- one row more, its numbers filled in behind -/
theorem TabTo.fill {w w1 : World} {B M c k : Nat} {f : Nat → Nat → Nat} (h : TabTo w B M c (k + 1) (fun j i => if j = k then 0 else f j i)) (hg : w.grownBy w1 (some (B + 1 + k))) (hs : w1.heap.size = w.heap.size)
    (hr : w1.rowIs (B + 1 + k) 3 c (fun i => .int .i64 (f k i))) : TabTo w1 B M c (k + 1) f := by
  have hsz := h.size
  refine ⟨h.outer.of_block (hg.block B (by omega) (by simp; omega)), fun j hj => ?_, by rw [hs, hsz]⟩
  by_cases e : j = k
  · subst e; exact hr
  · exact ((h.inner j hj).of_block (hg.block _ (by omega) (by simp; omega))).congr fun i _ => by rw [if_neg e]
theorem int_size : (Tryd.prog.info? 3).map (·.size) = some 1 := by kernel_rfl
/-- copy(a, b), two whole rows of one length, as a step of a region that draws its order -/
theorem step_copy_rows {ops : Array Oper} {o : Oper} {a : Act} {w : World} {K : Act → World → Prop} {Q : Exit → Act → World → Prop} {E : Prop} (hgd : o.guard = none) (d s : Operand)
    (ho : o.op = .call { callee := .builtin .copy, args := #[d, s], argTypes := #[30, 30] }) (g g2 c : Nat) (f f2 : Nat → Value) (hd : a.eval d = .slice (some ⟨g, 0, none⟩) c c) (hs : a.eval s = .slice (some ⟨g2, 0, none⟩) c c)
    (hg : w.rowIs g 3 c f) (hg2 : w.rowIs g2 3 c f2) (h1 : ∀ i, i < c → (f2 i).oneCell' = true)
    (h : ∀ w', w'.rowIs g 3 c f2 → w.grownBy w' (some g) → Hid (w'.heap.size = w.heap.size) → K (a.put o.dst (goInt c)) w') :
    if Region.wanted o (yielded ops a.tmps) = true then Oper.wp Tryd.prog o a w K Q else E := by
  have hw : Region.wanted o (yielded ops a.tmps) = true := by simp [Region.wanted, hgd]
  rw [if_pos hw]
  obtain ⟨cur, hcur, hsz, _⟩ := hg
  have hcl : ((List.range c).map f2).length = c := by simp
  have hrun := run_copy_row (P := Tryd.prog) w 30 30 o.type 3 g 0 c c ⟨g2, 0, none⟩ c c cur 3 ((List.range c).map f2) Tryd.underlying30 int_size hcur (by rw [hcl]; simp) (by
    intro j v hv
    have hj : j < c := by
      rcases Nat.lt_or_ge j c with h2 | h2
      · exact h2
      · rw [List.getElem?_eq_none (by rw [hcl]; exact h2)] at hv; cases hv
    rw [addr_add]
    have := hg2.cell hj
    rw [List.getElem?_map, List.getElem?_range hj] at hv
    rw [Nat.zero_add, this]
    exact hv) (by rw [hcl, hsz]; omega) (by
    intro v hv
    obtain ⟨i, hi, rfl⟩ := List.mem_map.1 hv
    exact h1 i (List.mem_range.1 hi))
  unfold Oper.wp
  simp only [ho, execOp, resolve, invoke, builtin, Sem.run_bind, Sem.run_pure, Result.andThen_ok, List.map_toArray, List.map_cons, List.map_nil, hd, hs, hrun, hcl]
  refine h _ ?_ ⟨rfl, rfl, rfl, by simp [World.setRow], fun k _ hne => setRow_other w g k _ (fun e => hne (by rw [e]))⟩ (hide (by simp [World.setRow]))
  have hh := setRow_heap w g cur (cur.toList.take 0 ++ ((List.range c).map f2 ++ cur.toList.drop (0 + c))).toArray 3 (0, 0) hcur
  refine ⟨_, hh, ?_, fun i hi => ?_⟩
  · simp [hsz]
  · simp only [List.getElem?_toArray, List.take_zero, List.nil_append, Nat.zero_add]
    rw [List.getElem?_append_left (by rw [hcl]; exact hi)]
    simp [hi]
end Go.Proofs.YtngogonepjicpaaDoor
