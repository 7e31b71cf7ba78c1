/- Words, plain laws and walks behind the law SamplePast, part 3. No condition. -/
import Derived.Test.YtioekjkfhbopkaaDoorFlatSamplePastb
import Derived.Test.YtioekjkfhbopkaaDoorFlatSamplePasta
import Derived.Lib.OwnBridge
import Derived.Lib.AppendIntMem
import Derived.Shelf.Strings.SlTrimAscii
import Derived.RangeFuncBox
import Derived.RangeFuncLeaves
import Derived.RangeFuncNested
import Derived.Shelf.Abstract
import Derived.Shelf.RegionOpen
import Derived.WalkKit
import Derived.OwnWalkIn
import Derived.TacticsInMore
import Derived.LoopNIn
import Derived.LoopIn
import Derived.Test.YtioekjkfhbopkaaDoorWMore
import Derived.Deep.RegionHeld3
import Derived.LaidEql
import Derived.Stop.Asserts
import Derived.RowKitTokens

/- Helpers for the sample seat: copies that one owns, cells of rows, make. No condition. -/
namespace Go.Proofs.YtioekjkfhbopkaaDoor
open Go.RowKit Go.Deep Go.Sort Go.Proofs.YtioekjkfhbopkaaDoorW.PrintWords

theorem grown_of_below {w w' : World} (h : Below w.heap.size w w') : w.grownBy w' none := ⟨h.os, h.tape, h.output, h.size, fun k hk _ => h.block k hk⟩
theorem own_below {w w' : World} {base e size n : Nat} {v : Value} {xs : List Value} (h : w.ownsRow base e size v n xs) (hb : Below w.heap.size w w') : w'.ownsRow base e size v n xs := h.kept (grown_of_below hb) (by cases v.ownBlock <;> simp)
theorem own_ints {w : World} {base n c e : Nat} {A : Option Addr} {l : List Int} (h : w.ownsRow base e 1 (.slice A n c) n (intCells l)) (hn : l.length = n) : Ints w A l := by
  subst hn
  exact Ints.own h
theorem own_list {w : World} {base e : Nat} {v : Value} {n : Nat} {l : List Int} (h : w.ownsRow base e 1 v n (intCells l)) : w.ownsRow base e 1 v l.length (intCells l) := by
  have : n = l.length := by have := h.1; rw [intCells_length] at this; omega
  rw [← this]; exact h
theorem ints_one {w : World} {b : Nat} {y : Int} (hb : b < w.heap.size) (h : w.cell? ⟨b, 0, none⟩ = some (.int .i64 y)) : Ints w (some ⟨b, 0, none⟩) [y] :=
  ⟨by simp, fun i hi => by
    obtain rfl : i = 0 := by simp at hi; omega
    exact ⟨b, 0, rfl, hb, h⟩⟩
/-- a copy that the call owns -/
theorem clone_ok (A : Option Addr) (l : List Int) (c : Nat) (w : World) (hA : Ints w A l) (h0 : 0 < l.length) (hl : l.length ≤ 2000000) :
    Calls Tryd.prog 65 #[.slice A l.length c] w fun e w' => ∃ g d, e = .returned (.slice (some ⟨g, 0, none⟩) l.length d) ∧ w.heap.size ≤ g ∧ l.length ≤ d ∧ w'.ownsRow w.heap.size 3 1 (.slice (some ⟨g, 0, none⟩) l.length d) l.length (intCells l) ∧ Below w.heap.size w w' := by
  obtain ⟨b, off, rfl, _, _⟩ := hA.at_ 0 h0
  have hc : ∀ j, j < l.length → w.cell? ⟨b, off + j, none⟩ = some (.int .i64 (l.getD j 0)) := fun j hj => by
    obtain ⟨b1, off1, e, _, h⟩ := hA.at_ j hj
    injection e with e
    injection e with e1 e2 _
    subst e1 e2
    exact h
  refine (Tryd.slices_Clone_int b off l.length c l w (Nat.le_refl _) (by omega) hc).mono ?_
  rintro e w' ⟨v, rfl, ho, hne, hb⟩
  rw [List.take_length] at ho
  obtain ⟨g, d, rfl, hg, _, hd, _⟩ := Lib.holds_of_ownsRow ho hne
  exact ⟨g, d, rfl, hg, hd, ho, hb⟩
theorem own_same {w w' : World} {base e size n : Nat} {v : Value} {xs : List Value} (h : w.ownsRow base e size v n xs) (hs : ∀ b, v.ownBlock = some b → w'.heap[b]? = w.heap[b]?) : w'.ownsRow base e size v n xs := by
  refine ⟨h.1, ?_⟩
  rcases h.2 with h0 | ⟨g, cap, cur, rfl, hb, hh, r⟩
  · exact .inl h0
  · exact .inr ⟨g, cap, cur, rfl, hb, (hs g rfl).trans hh, r⟩
theorem ints_same {w w' : World} {b : Nat} {l : List Int} (h : Ints w (some ⟨b, 0, none⟩) l) (hs : w'.heap[b]? = w.heap[b]?) : Ints w' (some ⟨b, 0, none⟩) l :=
  ⟨h.len, fun i hi => by
    obtain ⟨b', off, e, hb, hc⟩ := h.at_ i hi
    injection e with e
    injection e with e1 e2 _
    subst e1 e2
    have hc' := (World.cell?_of_block (a := ⟨b, 0 + i, none⟩) hs).trans hc
    exact ⟨b, 0, rfl, World.block_lt_of_cell? w' _ hc', hc'⟩⟩
theorem heap_set_other (w : World) (g o : Nat) (v : Value) (b : Nat) (h : b ≠ g) : (w.setCell ⟨g, o, none⟩ v).heap[b]? = w.heap[b]? := by
  simp [World.setCell, Array.getElem?_modify, Ne.symm h]
theorem own_cell {W : World} {base g n cap : Nat} {e : TypeId} {l : List Int} (h : W.ownsRow base e 1 (.slice (some ⟨g, 0, none⟩) n cap) n (intCells l)) (i : Nat) (hi : i < n) : W.cell? ⟨g, i, none⟩ = some (.int .i64 (l.getD i 0)) ∧ W.frozen? ⟨g, i, none⟩ = false := by
  have := own_at (k := .i64) h (i : Int) (by omega) (by omega)
  rw [Int.toNat_natCast] at this
  exact this
theorem own_put {W : World} {base g n cap : Nat} {e : TypeId} {l : List Int} (h : W.ownsRow base e 1 (.slice (some ⟨g, 0, none⟩) n cap) n (intCells l)) (i : Nat) (x : Int) : (W.setCell ⟨g, i, none⟩ (.int .i64 x)).ownsRow base e 1 (.slice (some ⟨g, 0, none⟩) n cap) n (intCells (l.set i x)) := by
  have := (own_store (k := .i64) h (i : Int) x).1
  rw [Int.toNat_natCast] at this
  exact this

theorem alloc_at (w : World) (o : Obj) : (w.alloc o).heap[w.heap.size]? = some o := by
  show (w.heap.push o)[w.heap.size]? = some o
  simp
theorem alloc_old (w : World) (o : Obj) (g : Nat) (h : g < w.heap.size) : (w.alloc o).heap[g]? = w.heap[g]? := by
  show (w.heap.push o)[g]? = _
  rw [Array.getElem?_push_lt h, Array.getElem?_eq_getElem h]
theorem rows_same (W : World) (g i : Nat) (cs : Array Value) (t : TypeId) (v : Value) (h : W.heap[g]? = some (.cells cs t (0, 0))) : (W.setCell ⟨g, i, none⟩ v).heap[g]? = some (.cells (cs.setIfInBounds i v) t (0, 0)) := by
  simp [World.setCell, Array.getElem?_modify, h]
theorem put_two (W : World) (g : Nat) (t : TypeId) (a b x y : Value) (h : W.heap[g]? = some (.cells #[a, b] t (0, 0))) : ((W.setCell ⟨g, 0, none⟩ x).setCell ⟨g, 1, none⟩ y).heap[g]? = some (.cells #[x, y] t (0, 0)) := by
  have h1 := rows_same W g 0 _ t x h
  have h2 := rows_same _ g 1 _ t y h1
  exact h2
theorem cell_of (W : World) (g i : Nat) (t : TypeId) (cs : Array Value) (u : Value) (h : W.heap[g]? = some (.cells cs t (0, 0))) (hu : cs[i]? = some u) : W.cell? ⟨g, i, none⟩ = some u ∧ W.frozen? ⟨g, i, none⟩ = false := by
  constructor
  · simp [World.cell?, h, hu]
  · simp [World.frozen?, h]
/-- make([]int, n), owned -/
theorem wp_make_own (w : World) {ops : Array Oper} {rest : List Oper} {o : Oper} {a : Act} {Q : Exit → Act → World → Prop}
    (hg : o.guard = none) (l c : Operand) (hop : o.op = Op.makeSlice 23 l c) (kl kc : IntKind) (n : Nat) (hl : a.eval l = .int kl (n : Int)) (hc : a.eval c = .int kc (n : Int)) (hn : n ≤ 1000000) (base : Nat) (hb : base ≤ w.heap.size)
    (hK : ∀ w', w'.ownsRow base 3 1 (.slice (some ⟨w.heap.size, 0, none⟩) n n) n (intCells (List.replicate n 0)) → w.grownBy w' none → wpList Tryd.prog ops Q rest (a.put o.dst (.slice (some ⟨w.heap.size, 0, none⟩) n n)) w') :
    wpList Tryd.prog ops Q (o :: rest) a w := by
  obtain ⟨i0, hi0, hz0, hz1, hz2⟩ := info_parts int_info
  refine wpList_make_full w hg l c _ hop base 3 i0 _ 1 Tryd.underlying23 hi0 hz0 hz1 kl kc n n n hl hc rfl rfl (by rw [hz2]; omega) (by simp only [maxLen]; omega) hb ?_
  intro w' h1 h2
  have e : (madeCells (Value.int IntKind.i64 0).cells (n * 1)).toList = intCells (List.replicate n 0) := by
    apply List.ext_getElem
    · simp [intCells, madeCells, Value.cells]
    · intro i h1 h2
      simp [intCells, madeCells, Value.cells, Nat.mod_one]
  rw [e] at h1
  exact hK w' h1 h2

theorem lists_info : (Tryd.prog.info? 23).map (fun i => (i.zero, i.size, i.bytes)) = some (some (.slice none 0 0), 1, 24) := by kernel_rfl
/-- make([][]int, n), owned: no row yet -/
theorem wp_make_rows (w : World) {ops : Array Oper} {rest : List Oper} {o : Oper} {a : Act} {Q : Exit → Act → World → Prop}
    (hg : o.guard = none) (l c : Operand) (hop : o.op = Op.makeSlice 22 l c) (kl kc : IntKind) (n : Nat) (hl : a.eval l = .int kl (n : Int)) (hc : a.eval c = .int kc (n : Int)) (hn : n ≤ 1000000) (base : Nat) (hb : base ≤ w.heap.size)
    (hK : ∀ w', w'.ownsRow base 23 1 (.slice (some ⟨w.heap.size, 0, none⟩) n n) n (List.replicate n (.slice none 0 0)) → w.grownBy w' none → wpList Tryd.prog ops Q rest (a.put o.dst (.slice (some ⟨w.heap.size, 0, none⟩) n n)) w') :
    wpList Tryd.prog ops Q (o :: rest) a w := by
  obtain ⟨i0, hi0, hz0, hz1, hz2⟩ := info_parts lists_info
  refine wpList_make_full w hg l c _ hop base 23 i0 _ 1 Tryd.underlying22 hi0 hz0 hz1 kl kc n n n hl hc rfl rfl (by rw [hz2]; omega) (by simp only [maxLen]; omega) hb ?_
  intro w' h1 h2
  have e : (madeCells (Value.slice none 0 0).cells (n * 1)).toList = List.replicate n (.slice none 0 0) := by
    apply List.ext_getElem
    · simp [madeCells, Value.cells]
    · intro i h1 h2
      simp [madeCells, Value.cells, Nat.mod_one]
  rw [e] at h1
  exact hK w' h1 h2

/-- append inside a region that draws its order -/
theorem step_app_ints (w : World) {ops : Array Oper} {o : Oper} {a : Act} {K : Act → World → Prop} {Q : Exit → Act → World → Prop} {E : Prop} (hgd : o.guard = none) (s x : Operand)
    (ho : o.op = .call { callee := .builtin .append, args := #[s, x], argTypes := #[23, 23] })
    (base : Nat) (v : Value) (l0 : List Int) (hs : a.eval s = v) (hown : w.ownsRow base 3 1 v l0.length (intCells l0))
    (A : Option Addr) (m c : Nat) (l : List Int) (hx : a.eval x = .slice A m c) (hm : m = l.length) (hr : Ints w A l)
    (hbytes : (l0.length + m) * 8 ≤ 140737488355328) (hbase : base ≤ w.heap.size)
    (h : ∀ A' c' w', (l0 ++ l).length ≤ c' → w'.ownsRow base 3 1 (.slice A' (l0 ++ l).length c') (l0 ++ l).length (intCells (l0 ++ l)) → w.grownBy w' v.ownBlock → ((Value.slice A' (l0 ++ l).length c').ownBlock = v.ownBlock ∨ (Value.slice A' (l0 ++ l).length c').ownBlock = some w.heap.size) →
      K (a.put o.dst (.slice A' (l0 ++ l).length c')) w') :
    if Region.wanted o (yielded ops a.tmps) = true then Oper.wp Tryd.prog o a w K Q else E := by
  obtain ⟨i0, hi0, hz0, hz1, hz2⟩ := info_parts int_info
  subst hm
  refine step_append_any w hgd s x _ ho base 3 i0 _ 1 8 Tryd.underlying23 hi0 hz0 hz1 hz2 rfl (by omega) v l0.length (intCells l0) hs hown w.heap.size A l.length c (intCells l) hx hr.reads (intCells_one l) (by simp only [maxLen]; omega) hbytes hbase ?_
  intro v' w' h1 h2 h3
  rw [← intCells_append, ← List.length_append] at h1
  obtain ⟨A', c', rfl, hc, _⟩ := own_shape h1
  exact h A' c' w' hc h1 h2 h3
theorem Ints.lit (w : World) (l : List Int) (t : TypeId) (hl : l.length ≤ 9223372036854775807) : Ints (w.alloc (.cells (intCells l).toArray t)) (some ⟨w.heap.size, 0, none⟩) l :=
  ⟨hl, fun i hi => ⟨w.heap.size, 0, rfl, by simp, by
    have := intCells_at l i hi
    simpa using this⟩⟩
theorem ints_lit1 (w : World) (y : Int) (t : TypeId) : Ints (w.alloc (.cells #[.int .i64 y] t)) (some ⟨w.heap.size, 0, none⟩) [y] := Ints.lit w [y] t (by simp)
/-- rows of one's own that grow in their places -/
structure LSt (w : World) (base g n cap : Nat) (vs : Nat → Value) (rows : Nat → List Int) : Prop where
  spine : w.ownsRow base 23 1 (.slice (some ⟨g, 0, none⟩) n cap) n ((List.range n).map vs)
  row : ∀ j, j < n → w.ownsRow base 3 1 (vs j) (rows j).length (intCells (rows j))
  apart : ∀ j, j < n → (vs j).ownBlock ≠ some g
  ne : ∀ i, i < n → ∀ j, j < n → i ≠ j → ∀ b, (vs i).ownBlock = some b → (vs j).ownBlock ≠ some b
theorem LSt.start {w : World} {base g n cap : Nat} (h : w.ownsRow base 23 1 (.slice (some ⟨g, 0, none⟩) n cap) n (List.replicate n (.slice none 0 0))) : LSt w base g n cap (fun _ => .slice none 0 0) (fun _ => []) := by
  refine ⟨?_, fun j _ => nil_own _ _ _ _, fun j _ => by simp [Value.ownBlock], fun i _ j _ _ b e => by simp [Value.ownBlock] at e⟩
  rw [show (List.range n).map (fun _ => Value.slice none 0 0) = List.replicate n (Value.slice none 0 0) by
    apply List.ext_getElem
    · simp
    · intro i h1 h2; simp]
  exact h
theorem LSt.cell {w : World} {base g n cap : Nat} {vs : Nat → Value} {rows : Nat → List Int} (h : LSt w base g n cap vs rows) (j : Nat) (hj : j < n) : w.cell? ⟨g, j, none⟩ = some (vs j) ∧ w.frozen? ⟨g, j, none⟩ = false := by
  refine ⟨?_, h.spine.frozenAt j⟩
  rw [h.spine.cellAt j (by omega), List.getElem?_map, List.getElem?_range hj]
  rfl
theorem map_set_range (n d : Nat) (vs : Nat → Value) (u : Value) : ((List.range n).map vs).set d u = (List.range n).map fun j => if j = d then u else vs j := by
  apply List.ext_getElem
  · simp
  · intro i h1 h2
    rw [List.getElem_set]
    simp only [List.getElem_map, List.getElem_range]
    by_cases e : d = i
    · rw [if_pos e, if_pos e.symm]
    · rw [if_neg e, if_neg (fun q => e q.symm)]
theorem LSt.more {w w2 : World} {base g n cap : Nat} {vs : Nat → Value} {rows : Nat → List Int} (h : LSt w base g n cap vs rows) {o : Obj} {d : Nat} (hd : d < n) {v' : Value} {l : List Int}
    (h2 : w2.ownsRow base 3 1 v' l.length (intCells l)) (hg : (w.alloc o).grownBy w2 (vs d).ownBlock) (hor : v'.ownBlock = (vs d).ownBlock ∨ v'.ownBlock = some (w.alloc o).heap.size) :
    LSt (w2.setCell ⟨g, d, none⟩ v') base g n cap (fun j => if j = d then v' else vs j) (fun j => if j = d then l else rows j) := by
  have hsz : (w.alloc o).heap.size = w.heap.size + 1 := World.size_alloc _ _
  have hgl := (h.spine.lt g rfl).2
  have old : ∀ b, b < w.heap.size → some b ≠ (vs d).ownBlock → w2.heap[b]? = w.heap[b]? := fun b hb hne => by
    rw [hg.block b (by omega) hne, alloc_old _ _ _ hb]
  have vlt : ∀ j, j < n → ∀ b, (vs j).ownBlock = some b → b < w.heap.size := fun j hj b e => ((h.row j hj).lt b e).2
  have vg : v'.ownBlock ≠ some g := by
    rcases hor with e | e
    · rw [e]; exact h.apart d hd
    · rw [e]; intro q; injection q with q; omega
  have hsp : w2.ownsRow base 23 1 (.slice (some ⟨g, 0, none⟩) n cap) n ((List.range n).map vs) := own_same h.spine (fun b e => by
    injection e with e
    subst e
    exact old _ hgl (fun q => h.apart d hd q.symm))
  have hset : ∀ b, b ≠ g → (w2.setCell ⟨g, d, none⟩ v').heap[b]? = w2.heap[b]? := fun b hb => heap_set_other w2 g d v' b hb
  refine ⟨?_, fun j hj => ?_, fun j hj => ?_, fun i hi j hj hij b e => ?_⟩
  · have := (hsp.stored d v').1
    rw [map_set_range] at this
    exact this
  · by_cases q : j = d
    · subst q
      simp only [if_true]
      exact own_same h2 (fun b e => hset b (fun q => vg (by rw [e, q])))
    · simp only [if_neg q]
      refine own_same (h.row j hj) (fun b e => ?_)
      rw [hset b (fun r => h.apart j hj (by rw [e, r])), old b (vlt j hj b e) (fun r => h.ne j hj d hd q b e r.symm)]
  · by_cases q : j = d
    · simp only [if_pos q]; exact vg
    · simp only [if_neg q]; exact h.apart j hj
  · by_cases qi : i = d
    · have qj : ¬ j = d := fun q => hij (by omega)
      simp only [if_pos qi, if_neg qj] at e ⊢
      rcases hor with r | r
      · rw [r] at e
        exact h.ne d hd j hj (fun q => qj q.symm) b e
      · rw [r] at e
        injection e with e
        intro q
        have := vlt j hj b q
        omega
    · by_cases qj : j = d
      · simp only [if_neg qi, if_pos qj] at e ⊢
        rcases hor with r | r
        · rw [r]
          exact h.ne i hi d hd qi b e
        · rw [r]
          intro q
          injection q with q
          have := vlt i hi b e
          omega
      · simp only [if_neg qi, if_neg qj] at e ⊢
        exact h.ne i hi j hj hij b e
theorem LSt.congr {w : World} {base g n cap : Nat} {vs vs' : Nat → Value} {rows rows' : Nat → List Int} (h : LSt w base g n cap vs rows) (e1 : ∀ j, j < n → vs j = vs' j) (e2 : ∀ j, j < n → rows j = rows' j) : LSt w base g n cap vs' rows' := by
  refine ⟨?_, fun j hj => by rw [← e1 j hj, ← e2 j hj]; exact h.row j hj, fun j hj => by rw [← e1 j hj]; exact h.apart j hj, fun i hi j hj => by rw [← e1 i hi, ← e1 j hj]; exact h.ne i hi j hj⟩
  rw [List.map_congr_left (fun j hj => (e1 j (List.mem_range.1 hj)).symm)]
  exact h.spine
theorem LSt.lists {w : World} {base g n cap : Nat} {vs : Nat → Value} {rows : Nat → List Int} (h : LSt w base g n cap vs rows) (hn : n ≤ 9223372036854775807) : Lists w (some ⟨g, 0, none⟩) ((List.range n).map rows) :=
  ⟨by simpa using hn, fun j hj => by
    have hj' : j < n := by simpa using hj
    have e : ((List.range n).map rows).getD j [] = rows j := by
      simp [List.getD_eq_getElem?_getD, List.getElem?_map, List.getElem?_range hj']
    rw [e]
    obtain ⟨A, c, ev, hc, _⟩ := own_shape (h.row j hj')
    have hr := h.row j hj'
    have h1 := (h.cell j hj').1
    rw [ev] at hr h1
    exact ⟨g, 0, A, c, rfl, World.block_lt_of_cell? w _ h1, by rw [Nat.zero_add, h1], hc, Ints.own hr⟩⟩
end Go.Proofs.YtioekjkfhbopkaaDoor

/- slices.Backward of whole numbers: its contract as an iterator (the shape of the kit's own contract of slices.All). No condition. -/
namespace Go.Proofs.YtioekjkfhbopkaaDoor
open Go.RowKit Go.Shelf Go.Proofs

attribute [local go_sem] Oper.semAt_some

/-- what comes in the round k: the place and the number there -/
def backAt (l : List Int) (k : Nat) : Int × Int := (((l.length - 1 - k : Nat) : Int), l.getD (l.length - 1 - k) 0)
/-- what has come when k rounds are over -/
def backTo (l : List Int) (k : Nat) : List (Int × Int) := (List.range k).map (backAt l)
theorem backTo_succ (l : List Int) (k : Nat) : backTo l (k + 1) = backTo l k ++ [backAt l k] := by simp [backTo, List.range_succ]
theorem backTo_length (l : List Int) (k : Nat) : (backTo l k).length = k := by simp [backTo]

/-- what a round keeps: all below n₀, and the slice's own box -/
def KpB (n₀ Bs : Nat) (A B : World) : Prop := Below n₀ A B ∧ ∀ v, A.cell? ⟨Bs, 0, none⟩ = some v → B.cell? ⟨Bs, 0, none⟩ = some v
theorem KpB.refl (n₀ Bs : Nat) (A : World) : KpB n₀ Bs A A := ⟨Below.refl _ _, fun _ h => h⟩
theorem KpB.trans {n₀ Bs : Nat} {A B C : World} (h : KpB n₀ Bs A B) (k : KpB n₀ Bs B C) : KpB n₀ Bs A C := ⟨Below.trans h.1 k.1, fun v e => k.2 v (h.2 v e)⟩
set_option maxRecDepth 100000 in
set_option maxHeartbeats 2000000 in
theorem back1_in (F : Fence) (n : Nat) (h8 : F.fn 76) (hro : F.round = none) (hn : 1 ≤ n) (r Bs n₀ b cap : Nat) (off : Nat) (l : List Int) (hlen : l.length ≤ 9223372036854775807) (hb : b < n₀) (J Jx : List (Int × Int) → World → Prop)
    (hY : ∀ pre x W, J pre W → pre.length < l.length → YieldAt F (n - 1) Tryd.prog r #[.int .i64 x.1, .int .i64 x.2] W fun e W' =>
      (e = .returned (.bool true) ∧ J (pre ++ [x]) W' ∧ KpB n₀ Bs W W') ∨ (e = .returned (.bool false) ∧ Jx (pre ++ [x]) W'))
    (W : World) (hBs : W.cell? ⟨Bs, 0, none⟩ = some (.slice (some ⟨b, off, none⟩) l.length cap)) (hc : ∀ j, j < l.length → W.cell? ⟨b, off + j, none⟩ = some (.int .i64 (l.getD j 0))) (h0 : J [] W) :
    CallsIn F n Tryd.prog 76 #[.func (.yield r) #[] #[], .pointer (some ⟨Bs, 0, none⟩)] W fun e W' => (∃ v, e = .returned v) ∧
      (J (backTo l l.length) W' ∨ (∃ pre, (∃ k, k ≤ l.length ∧ pre = backTo l k) ∧ Jx pre W')) := by
  refine callsIn_of_wp Tryd.func76 rfl h8 ?_ hro
  simp only [Tryd.ntmps76, List.size_toArray, List.length_cons, List.length_nil, Nat.reduceAdd, Nat.reduceSub, Array.replicate_succ, Array.replicate_zero, List.push_toArray, List.append_toArray, List.nil_append, List.cons_append]
  gi_wp2
  gi_loopw [3] (fun v wr => ∃ (k : Nat) (i : Int), k ≤ l.length ∧ i = (l.length : Int) - 1 - k ∧ v = .int .i64 i ∧ J (backTo l k) wr ∧ KpB n₀ Bs W wr)
    (fun v _ => (intOf v + 1).toNat)
  case atStart => exact ⟨0, _, Nat.zero_le _, by omega, rfl, h0, KpB.refl _ _ _⟩
  case round =>
    obtain ⟨k, i, hk, hi, rfl, hJs, hnx⟩ := hrel
    have hs : wr.cell? ⟨Bs, 0, none⟩ = some (.slice (some ⟨b, off, none⟩) l.length cap) := hnx.2 _ hBs
    by_cases hlt : k < l.length
    · obtain ⟨j, rfl⟩ : ∃ j : Nat, i = (j : Int) := ⟨l.length - 1 - k, by omega⟩
      have hj : j = l.length - 1 - k := by omega
      have hjl : j < l.length := by omega
      have hcx := (hnx.1.cell (p := ⟨b, off + j, none⟩) hb).trans (hc j hjl)
      have hba : backAt l k = ((j : Int), l.getD j 0) := by unfold backAt; rw [← hj]
      have hbs := backTo_succ l k
      rw [hba] at hbs
      obtain ⟨fn, tmps, assign, body, hy, hR⟩ := hY _ ((j : Int), l.getD j 0) wr hJs (by rw [backTo_length]; exact hlt)
      rw [← hbs] at hR
      dsimp only at hy
      have j0 : (0 : Int) ≤ (j : Int) := Int.natCast_nonneg _
      have j1 : (j : Int) < (l.length : Int) := by omega
      generalize l.getD j 0 = x at hcx hy hR
      have HI := hide hi
      clear hj hi hbs hba
      gi_wp2
      refine hR.mono ?_
      rintro e W3 (⟨rfl, hJ3, hk3⟩ | ⟨rfl, hJx3⟩)
      · gi_wp2
        go_roundw
        case rel => exact ⟨k + 1, (j : Int) - 1, by omega, by have := HI.out; omega, by go_num, hJ3, hnx.trans hk3⟩
        case measure => simp [intOf]
      · gi_wp2
        refine bodyPost_ret (results_none rfl _ _ _) rfl ?_
        exact ⟨⟨_, rfl⟩, .inr ⟨_, ⟨k + 1, by omega, rfl⟩, hJx3⟩⟩
    · obtain rfl : k = l.length := by omega
      obtain rfl : i = -1 := by omega
      gi_wp2
      go_end0
      exact ⟨⟨_, rfl⟩, .inl hJs⟩

/-- **slices.Backward(s)**: the slice value is boxed; the function value captures the box. -/
theorem back_in (F : Fence) (n : Nat) (h5 : F.fn 53) (hro : F.round = none) (a : Option Addr) (len cap : Nat) (w : World) :
    CallsIn F n Tryd.prog 53 #[.slice a len cap] w fun e w' => e = .returned (.func (.func 76) #[] #[.pointer (some ⟨w.heap.size, 0, none⟩)]) ∧ w' = w.alloc (.cells #[.slice a len cap] 23) := by
  refine callsIn_of_wp Tryd.func53 rfl h5 ?_ hro
  simp only [Tryd.ntmps53, List.size_toArray, List.length_cons, List.length_nil, Nat.reduceAdd, Nat.reduceSub, Array.replicate_succ, Array.replicate_zero, List.push_toArray, List.append_toArray, List.nil_append, List.cons_append]
  gi_wp2
  go_ret
  exact ⟨rfl, rfl⟩

/-- slices.Backward(s) at a list that is not empty hands back a value that 'SeqStopsK', at 'Kp := KpB n₀ Bs'. -/
theorem back_stops (F : Fence) (n : Nat) (h8 : F.fn 76) (hro : F.round = none) (hn : 1 ≤ n) (Bs n₀ b cap off : Nat) (l : List Int) (hlen : l.length ≤ 9223372036854775807) (w : World) (hBs : Bs < w.heap.size) (hn₀ : n₀ ≤ w.heap.size)
    (hcell : w.cell? ⟨Bs, 0, none⟩ = some (.slice (some ⟨b, off, none⟩) l.length cap)) (hb : b < n₀) (hc : ∀ j, j < l.length → w.cell? ⟨b, off + j, none⟩ = some (.int .i64 (l.getD j 0))) :
    SeqStopsK F n Tryd.prog 76 #[.pointer (some ⟨Bs, 0, none⟩)] (fun x : Int × Int => #[.int .i64 x.1, .int .i64 x.2]) (KpB n₀ Bs) (fun ys => ys = backTo l l.length) (fun pre => ∃ k, k ≤ l.length ∧ pre = backTo l k) l.length w := fun r J Jx W hW _ _ hY h0 => by
  have hW' := hW.mono hn₀
  refine (back1_in F n h8 hro hn r Bs n₀ b cap off l hlen hb J Jx hY W ((hW.cell (p := ⟨Bs, 0, none⟩) hBs).trans hcell) (fun j hj => (hW'.cell (p := ⟨b, off + j, none⟩) hb).trans (hc j hj)) h0).mono ?_
  rintro e W' ⟨he, hj | ⟨pre, hk, hj⟩⟩
  · exact ⟨he, .inl ⟨_, rfl, hj⟩⟩
  · exact ⟨he, .inr ⟨_, hk, hj⟩⟩
/-- the mark that a range over a function leaves among the deferred calls -/
def markOf (D : Nat) : Deferred := { target := .collected D, args := #[] }
/-- behind the marks: below n₀ all lies as it lay, and every cell is what it was -/
def Marked (n₀ : Nat) (w w' : World) : Prop := Below n₀ w w' ∧ ∀ a v, w.cell? a = some v → w'.cell? a = some v
/-- a frame that leaves with marks alone: each is taken up; then it returns -/
theorem leaves_marks {F : Fence} {n : Nat} {P : Program} {fn : Func} {tmps : Array Value} {R : Ending → World → Prop} (w0 : World) : ∀ (Ds : List Nat) (w : World), Ds.Nodup → (∀ D, D ∈ Ds → w0.heap.size ≤ D ∧ w.heap[D]? = some (.deferred (some []))) →
    (∀ w', Marked w0.heap.size w w' → ∃ v, (results fn tmps).run P w' = .ok v w' ∧ R (.returned v) w') → LeavesInM F n P fn tmps R (Ds.map markOf) .returning w := by
  intro Ds
  induction Ds with
  | nil =>
    intro w _ _ h
    exact h w ⟨Below.refl _ _, fun _ _ h => h⟩
  | cons D Ds ih =>
    intro w hnd hall h
    obtain ⟨hD, hK⟩ := hall D (List.mem_cons_self ..)
    rw [List.nodup_cons] at hnd
    refine ⟨by simp, .inl ⟨D, _, rfl, run_takeDeferred hK, ih _ hnd.2 (fun D' hD' => ?_) (fun w' hw' => h w' ⟨?_, fun a v hv => ?_⟩)⟩⟩
    · obtain ⟨h1, h2⟩ := hall D' (List.mem_cons_of_mem _ hD')
      have hne : D' ≠ D := fun e => hnd.1 (e ▸ hD')
      exact ⟨h1, (World.putObj_heap_other hne).trans h2⟩
    · exact Below.trans (belowK_b (w := w0) (Nat.le_refl _) w D _ _ hD hK rfl rfl) hw'.1
    · exact hw'.2 a v (cell_kept hv (grownBy_putObj' w D (.deferred none)) (fun r e => by cases e; exact ⟨_, hK, rfl⟩))
theorem Ints.marked {n₀ : Nat} {w w' : World} {A : Option Addr} {l : List Int} (h : Ints w A l) (m : Marked n₀ w w') : Ints w' A l :=
  ⟨h.len, fun i hi => by
    obtain ⟨b, off, e, _, hc⟩ := h.at_ i hi
    have hc' := m.2 _ _ hc
    exact ⟨b, off, e, World.block_lt_of_cell? w' _ hc', hc'⟩⟩
end Go.Proofs.YtioekjkfhbopkaaDoor

/- Where states come by a tape, and by the last steps from the past: plain. No condition. -/
namespace Go.Proofs.YtioekjkfhbopkaaDoor
open Go Go.RowKit Go.Proofs.YtioekjkfhbopkaaDoorW.PrintWords

def stepR (r : List (List Int)) (k x : Int) : Int := (r.getD k.toNat []).getD x.toNat 0
/-- by the last step first -/
def comeTo (r : List (List Int)) (tape : List Int) (s : Int) : Int := tape.foldr (fun k x => stepR r k x) s
/-- right rules of n states -/
structure GoodRs (r : List (List Int)) (n : Nat) : Prop where
  len : r.length ≤ 16
  pos : 0 < r.length
  n16 : n ≤ 16
  n0 : 0 < n
  rows : ∀ j, j < r.length → (r.getD j []).length = n ∧ ∀ i, i < n → 0 ≤ (r.getD j []).getD i 0 ∧ (r.getD j []).getD i 0 < n
  first : (r.getD 0 []).length = n
theorem good_rules {r : List (List Int)} (h : rErr r = 0) : GoodRs r (r.getD 0 []).length := by
  unfold rErr at h
  by_cases h1 : 16 < r.length
  · rw [if_pos h1] at h; cases h
  rw [if_neg h1] at h
  cases h2 : r.any (fun f => decide (16 < f.length)) with
  | true => rw [h2, if_pos rfl] at h; cases h
  | false =>
    rw [h2, if_neg (by decide)] at h
    by_cases h3 : r.length = 0
    · rw [if_pos h3] at h; cases h
    rw [if_neg h3] at h
    cases h4 : r.all (goodR (r.getD 0 []).length) with
    | false => rw [h4, if_neg (by decide)] at h; cases h
    | true =>
      have hr : ∀ j, j < r.length → goodR (r.getD 0 []).length (r.getD j []) = true := fun j hj => by
        rw [List.all_eq_true] at h4
        rw [getDL_eq r j hj]
        exact h4 _ (List.getElem_mem hj)
      have g0 := goodR_of (hr 0 (by omega))
      have h16 : (r.getD 0 []).length ≤ 16 := by
        rw [List.any_eq_false] at h2
        have := h2 (r.getD 0 []) (by rw [getDL_eq r 0 (by omega)]; exact List.getElem_mem _)
        simpa using this
      refine ⟨by omega, by omega, h16, g0.2.1, fun j hj => ?_, rfl⟩
      obtain ⟨a, b, c⟩ := goodR_of (hr j hj)
      exact ⟨a, fun i hi => by have := c i (by omega); rw [a] at this; exact this⟩
/-- a right tape -/
def goodT (r : List (List Int)) (tape : List Int) : Prop := ∀ i, i < tape.length → 0 ≤ tape.getD i 0 ∧ tape.getD i 0 < r.length
theorem goodT.take {r : List (List Int)} {tape : List Int} (h : goodT r tape) (n : Nat) : goodT r (tape.take n) := fun i hi => by
  rw [List.length_take] at hi
  have := h i (by omega)
  rw [List.getD_eq_getElem?_getD, List.getElem?_take_of_lt (by omega), ← List.getD_eq_getElem?_getD]
  exact this
theorem stepR_range {r : List (List Int)} {n : Nat} (h : GoodRs r n) {k x : Int} (hk : 0 ≤ k ∧ k < r.length) (hx : 0 ≤ x ∧ x < n) : 0 ≤ stepR r k x ∧ stepR r k x < n :=
  (h.rows k.toNat (by omega)).2 x.toNat (by omega)
theorem comeTo_cons (r : List (List Int)) (k : Int) (tape : List Int) (s : Int) : comeTo r (k :: tape) s = stepR r k (comeTo r tape s) := rfl
theorem comeTo_range {r : List (List Int)} {n : Nat} (h : GoodRs r n) {tape : List Int} (ht : goodT r tape) {s : Int} (hs : 0 ≤ s ∧ s < n) : 0 ≤ comeTo r tape s ∧ comeTo r tape s < n := by
  induction tape with
  | nil => exact hs
  | cons k l ih =>
    rw [comeTo_cons]
    have h0 := ht 0 (by simp)
    exact stepR_range h (by simpa using h0) (ih (fun i hi => by have := ht (i + 1) (by simpa using hi); simpa using this))
/-- what has come to, as slices.Backward hands the steps out -/
def accE (r : List (List Int)) (s : Int) (pre : List (Int × Int)) : Int := pre.foldl (fun x q => stepR r q.2 x) s
theorem accE_snoc (r : List (List Int)) (s : Int) (pre : List (Int × Int)) (q : Int × Int) : accE r s (pre ++ [q]) = stepR r q.2 (accE r s pre) := by
  unfold accE
  rw [List.foldl_append]
  rfl
theorem accE_to (r : List (List Int)) (s : Int) (l : List Int) : ∀ k, k ≤ l.length → accE r s (backTo l k) = comeTo r (l.drop (l.length - k)) s := by
  intro k
  induction k with
  | zero => intro _; simp [accE, backTo, comeTo]
  | succ k ih =>
    intro hk
    have hil : l.length - (k + 1) < l.length := by omega
    have ed : l.drop (l.length - (k + 1)) = l.getD (l.length - (k + 1)) 0 :: l.drop (l.length - k) := by
      rw [List.drop_eq_getElem_cons hil, getD_eq l _ 0 hil, show l.length - (k + 1) + 1 = l.length - k by omega]
    have e2 : (backAt l k).2 = l.getD (l.length - (k + 1)) 0 := by
      unfold backAt
      rw [show l.length - 1 - k = l.length - (k + 1) by omega]
    rw [backTo_succ, accE_snoc, ih (by omega), ed, e2, comeTo_cons]
theorem accE_all (r : List (List Int)) (s : Int) (l : List Int) : accE r s (backTo l l.length) = comeTo r l s := by
  rw [accE_to r s l l.length (Nat.le_refl _), Nat.sub_self, List.drop_zero]
/-- the numbers that come are those of the list -/
theorem backAt_mem (l : List Int) (k : Nat) (hk : k < l.length) : (backAt l k).2 = l.getD (l.length - 1 - k) 0 ∧ l.length - 1 - k < l.length := ⟨rfl, by omega⟩
theorem accE_range {r : List (List Int)} {n : Nat} (h : GoodRs r n) {l : List Int} (ht : goodT r l) {s : Int} (hs : 0 ≤ s ∧ s < n) {k : Nat} (hk : k ≤ l.length) : 0 ≤ accE r s (backTo l k) ∧ accE r s (backTo l k) < n := by
  rw [accE_to r s l k hk]
  refine comeTo_range h (fun i hi => ?_) hs
  rw [List.length_drop] at hi
  have := ht (l.length - k + i) (by omega)
  rw [List.getD_eq_getElem?_getD, List.getElem?_drop, ← List.getD_eq_getElem?_getD]
  exact this
/-- what has come to, the rounds by number -/
def accN (r : List (List Int)) (s : Int) (l : List Int) (pre : List Nat) : Int := pre.foldl (fun x k => stepR r (backAt l k).2 x) s
theorem accN_snoc (r : List (List Int)) (s : Int) (l : List Int) (pre : List Nat) (k : Nat) : accN r s l (pre ++ [k]) = stepR r (backAt l k).2 (accN r s l pre) := by
  unfold accN
  rw [List.foldl_append]
  rfl
theorem accN_all (r : List (List Int)) (s : Int) (l : List Int) : accN r s l (List.range l.length) = comeTo r l s := by
  rw [← accE_all r s l]
  unfold accE backTo accN
  rw [List.foldl_map]
theorem back_good {r : List (List Int)} {l : List Int} (ht : goodT r l) (h0 : 0 < l.length) (k : Nat) : 0 ≤ (backAt l k).2 ∧ (backAt l k).2 < r.length := ht (l.length - 1 - k) (by omega)
theorem accN_range {r : List (List Int)} {n : Nat} (h : GoodRs r n) {l : List Int} (ht : goodT r l) (h0 : 0 < l.length) {s : Int} (hs : 0 ≤ s ∧ s < n) (pre : List Nat) : 0 ≤ accN r s l pre ∧ accN r s l pre < n := by
  induction pre generalizing s with
  | nil => exact hs
  | cons k pre ih => exact ih (stepR_range h (back_good ht h0 k) hs)
/-- by the last steps, n of them, then twice as many: the state, how many; fuel first -/
def pastF (r : List (List Int)) (m : Nat) (tape : List Int) : Nat → Nat → Int × Int × Bool
  | 0, _ => (0, 0, false)
  | f + 1, n => if n ≤ tape.length then (if comeTo r (tape.take n) 0 = comeTo r (tape.take n) ((m : Int) - 1) then (comeTo r (tape.take n) 0, (n : Int), true) else pastF r m tape f (n * 2)) else (0, 0, false)
theorem pastF_end (r : List (List Int)) (m : Nat) (tape : List Int) (f n : Nat) (h : tape.length < n) : pastF r m tape f n = (0, 0, false) := by
  cases f with
  | zero => rfl
  | succ f => rw [pastF, if_neg (by omega)]
/-- fuel that is enough is enough -/
theorem pastF_fuel (r : List (List Int)) (m : Nat) (tape : List Int) : ∀ (f n g : Nat), 0 < n → tape.length + 1 - n ≤ f → tape.length + 1 - n ≤ g → pastF r m tape f n = pastF r m tape g n := by
  intro f
  induction f with
  | zero => intro n g hn h1 h2; rw [pastF_end r m tape 0 n (by omega), pastF_end r m tape g n (by omega)]
  | succ f ih =>
    intro n g hn h1 h2
    by_cases hl : n ≤ tape.length
    · obtain ⟨g, rfl⟩ : ∃ m, g = m + 1 := ⟨g - 1, by omega⟩
      rw [pastF, pastF, if_pos hl, if_pos hl, ih (n * 2) g (by omega) (by omega) (by omega)]
    · rw [pastF_end r m tape _ n (by omega), pastF_end r m tape g n (by omega)]
def pastR (r : List (List Int)) (m : Nat) (tape : List Int) : Int × Int × Bool := pastF r m tape (tape.length + 1) 1
theorem pastF_step (r : List (List Int)) (m : Nat) (tape : List Int) (n : Nat) (hn : 0 < n) (hl : n ≤ tape.length) :
    pastF r m tape (tape.length + 1 - n) n = if comeTo r (tape.take n) 0 = comeTo r (tape.take n) ((m : Int) - 1) then (comeTo r (tape.take n) 0, (n : Int), true) else pastF r m tape (tape.length + 1 - n * 2) (n * 2) := by
  obtain ⟨g, hg⟩ : ∃ g, tape.length + 1 - n = g + 1 := ⟨tape.length - n, by omega⟩
  rw [hg, pastF, if_pos hl, pastF_fuel r m tape g (n * 2) (tape.length + 1 - n * 2) (by omega) (by omega) (Nat.le_refl _)]
/-- what is found is found within the tape, and no sooner in a tape that begins so -/
theorem pastF_found {r : List (List Int)} {m : Nat} {tape : List Int} : ∀ {f n : Nat} {s k : Int}, 0 < n → pastF r m tape f n = (s, k, true) → ∃ j : Nat, k = (j : Int) ∧ n ≤ j ∧ j ≤ tape.length ∧ ∀ (other : List Int), other.take j = tape.take j → j ≤ other.length → ∀ g, other.length + 1 - n ≤ g → pastF r m other g n = (s, k, true)
  | 0, n, s, k, hn, h => by rw [pastF] at h; cases h
  | f + 1, n, s, k, hn, h => by
    rw [pastF] at h
    by_cases hl : n ≤ tape.length
    · rw [if_pos hl] at h
      by_cases hc : comeTo r (tape.take n) 0 = comeTo r (tape.take n) ((m : Int) - 1)
      · rw [if_pos hc] at h
        injection h with h1 h2
        injection h2 with h2 _
        refine ⟨n, h2.symm, Nat.le_refl _, hl, fun other ho hol g hg => ?_⟩
        obtain ⟨g, rfl⟩ : ∃ q, g = q + 1 := ⟨g - 1, by omega⟩
        rw [pastF, if_pos hol, ho, if_pos hc, ← h1, ← h2]
      · rw [if_neg hc] at h
        obtain ⟨j, e, h1, h2, h3⟩ := pastF_found (by omega) h
        refine ⟨j, e, by omega, h2, fun other ho hol g hg => ?_⟩
        obtain ⟨g, rfl⟩ : ∃ q, g = q + 1 := ⟨g - 1, by omega⟩
        have hn2 : other.take n = tape.take n := by
          have h5 := congrArg (List.take n) ho
          rw [List.take_take, List.take_take, Nat.min_eq_left (by omega)] at h5
          exact h5
        rw [pastF, if_pos (by omega), hn2, if_neg hc]
        exact h3 other ho hol g (by omega)
    · rw [if_neg hl] at h; cases h
theorem pastF_none {r : List (List Int)} {m : Nat} {tape : List Int} : ∀ {f n : Nat} {s k : Int}, pastF r m tape f n = (s, k, false) → s = 0 ∧ k = 0
  | 0, n, s, k, h => by rw [pastF] at h; cases h; exact ⟨rfl, rfl⟩
  | f + 1, n, s, k, h => by
    rw [pastF] at h
    by_cases hl : n ≤ tape.length
    · rw [if_pos hl] at h
      by_cases hc : comeTo r (tape.take n) 0 = comeTo r (tape.take n) ((m : Int) - 1)
      · rw [if_pos hc] at h; cases h
      · rw [if_neg hc] at h
        exact pastF_none h
    · rw [if_neg hl] at h; cases h; exact ⟨rfl, rfl⟩
end Go.Proofs.YtioekjkfhbopkaaDoor

/- slices.Backward as an iterator again: the rounds by number (so that what comes is one of the list's numbers). No condition. -/
namespace Go.Proofs.YtioekjkfhbopkaaDoor
open Go.RowKit Go.Shelf Go.Proofs

attribute [local go_sem] Oper.semAt_some

set_option maxRecDepth 100000 in
set_option maxHeartbeats 2000000 in
theorem back1N_in (F : Fence) (n : Nat) (h8 : F.fn 76) (hro : F.round = none) (hn : 1 ≤ n) (r Bs n₀ b cap : Nat) (off : Nat) (l : List Int) (hlen : l.length ≤ 9223372036854775807) (hb : b < n₀) (J Jx : List Nat → World → Prop)
    (hY : ∀ pre (x : Nat) W, J pre W → pre.length < l.length → YieldAt F (n - 1) Tryd.prog r #[.int .i64 (backAt l x).1, .int .i64 (backAt l x).2] W fun e W' =>
      (e = .returned (.bool true) ∧ J (pre ++ [x]) W' ∧ KpB n₀ Bs W W') ∨ (e = .returned (.bool false) ∧ Jx (pre ++ [x]) W'))
    (W : World) (hBs : W.cell? ⟨Bs, 0, none⟩ = some (.slice (some ⟨b, off, none⟩) l.length cap)) (hc : ∀ j, j < l.length → W.cell? ⟨b, off + j, none⟩ = some (.int .i64 (l.getD j 0))) (h0 : J [] W) :
    CallsIn F n Tryd.prog 76 #[.func (.yield r) #[] #[], .pointer (some ⟨Bs, 0, none⟩)] W fun e W' => (∃ v, e = .returned v) ∧
      (J (List.range l.length) W' ∨ (∃ pre, (∃ k, k ≤ l.length ∧ pre = List.range k) ∧ Jx pre W')) := by
  refine callsIn_of_wp Tryd.func76 rfl h8 ?_ hro
  simp only [Tryd.ntmps76, List.size_toArray, List.length_cons, List.length_nil, Nat.reduceAdd, Nat.reduceSub, Array.replicate_succ, Array.replicate_zero, List.push_toArray, List.append_toArray, List.nil_append, List.cons_append]
  gi_wp2
  gi_loopw [3] (fun v wr => ∃ (k : Nat) (i : Int), k ≤ l.length ∧ i = (l.length : Int) - 1 - k ∧ v = .int .i64 i ∧ J (List.range k) wr ∧ KpB n₀ Bs W wr)
    (fun v _ => (intOf v + 1).toNat)
  case atStart => exact ⟨0, _, Nat.zero_le _, by omega, rfl, h0, KpB.refl _ _ _⟩
  case round =>
    obtain ⟨k, i, hk, hi, rfl, hJs, hnx⟩ := hrel
    have hs : wr.cell? ⟨Bs, 0, none⟩ = some (.slice (some ⟨b, off, none⟩) l.length cap) := hnx.2 _ hBs
    by_cases hlt : k < l.length
    · obtain ⟨j, rfl⟩ : ∃ j : Nat, i = (j : Int) := ⟨l.length - 1 - k, by omega⟩
      have hj : j = l.length - 1 - k := by omega
      have hjl : j < l.length := by omega
      have hcx := (hnx.1.cell (p := ⟨b, off + j, none⟩) hb).trans (hc j hjl)
      have hba : backAt l k = ((j : Int), l.getD j 0) := by unfold backAt; rw [← hj]
      have hbs : List.range (k + 1) = List.range k ++ [k] := List.range_succ
      have hYk := hY (List.range k) k wr hJs (by rw [List.length_range]; exact hlt)
      rw [hba, ← hbs] at hYk
      obtain ⟨fn, tmps, assign, body, hy, hR⟩ := hYk
      dsimp only at hy
      have j0 : (0 : Int) ≤ (j : Int) := Int.natCast_nonneg _
      have j1 : (j : Int) < (l.length : Int) := by omega
      generalize l.getD j 0 = x at hcx hy hR
      have HI := hide hi
      clear hj hi hbs hba
      gi_wp2
      refine hR.mono ?_
      rintro e W3 (⟨rfl, hJ3, hk3⟩ | ⟨rfl, hJx3⟩)
      · gi_wp2
        go_roundw
        case rel => exact ⟨k + 1, (j : Int) - 1, by omega, by have := HI.out; omega, by go_num, hJ3, hnx.trans hk3⟩
        case measure => simp [intOf]
      · gi_wp2
        refine bodyPost_ret (results_none rfl _ _ _) rfl ?_
        exact ⟨⟨_, rfl⟩, .inr ⟨_, ⟨k + 1, by omega, rfl⟩, hJx3⟩⟩
    · obtain rfl : k = l.length := by omega
      obtain rfl : i = -1 := by omega
      gi_wp2
      go_end0
      exact ⟨⟨_, rfl⟩, .inl hJs⟩

/-- slices.Backward(s) at a list that is not empty hands back a value that 'SeqStopsK', at 'Kp := KpB n₀ Bs'. -/
theorem backN_stops (F : Fence) (n : Nat) (h8 : F.fn 76) (hro : F.round = none) (hn : 1 ≤ n) (Bs n₀ b cap off : Nat) (l : List Int) (hlen : l.length ≤ 9223372036854775807) (w : World) (hBs : Bs < w.heap.size) (hn₀ : n₀ ≤ w.heap.size)
    (hcell : w.cell? ⟨Bs, 0, none⟩ = some (.slice (some ⟨b, off, none⟩) l.length cap)) (hb : b < n₀) (hc : ∀ j, j < l.length → w.cell? ⟨b, off + j, none⟩ = some (.int .i64 (l.getD j 0))) :
    SeqStopsK F n Tryd.prog 76 #[.pointer (some ⟨Bs, 0, none⟩)] (fun x : Nat => #[.int .i64 (backAt l x).1, .int .i64 (backAt l x).2]) (KpB n₀ Bs) (fun ys => ys = List.range l.length) (fun pre => ∃ k, k ≤ l.length ∧ pre = List.range k) l.length w := fun r J Jx W hW _ _ hY h0 => by
  have hW' := hW.mono hn₀
  refine (back1N_in F n h8 hro hn r Bs n₀ b cap off l hlen hb J Jx hY W ((hW.cell (p := ⟨Bs, 0, none⟩) hBs).trans hcell) (fun j hj => (hW'.cell (p := ⟨b, off + j, none⟩) hb).trans (hc j hj)) h0).mono ?_
  rintro e W' ⟨he, hj | ⟨pre, hk, hj⟩⟩
  · exact ⟨he, .inl ⟨_, rfl, hj⟩⟩
  · exact ⟨he, .inr ⟨_, hk, hj⟩⟩
end Go.Proofs.YtioekjkfhbopkaaDoor

/- The walks of dist.list, dist.Valid, dist.Total; strings.Trim at the digits 0 and 1. No condition. -/
namespace Go.Proofs.YtioekjkfhbopkaaDoor
open Go.RowKit Go.Deep Go.Proofs.YtioekjkfhbopkaaDoorW.PrintWords Go.Proofs.YtioekjkfhbopkaaDoorW.PrintMore
attribute [local go_sem] max2_int min2_int max_two min_two

/-- a sum that stands still beyond a bound -/
def sat (most t : Int) : Int := if most + 1 < t then most + 1 else t

set_option maxHeartbeats 2000000 in
theorem list_any (A : Option Addr) (l : List Int) (c : Nat) (most : Int) (hm : 0 ≤ most) (hm2 : most ≤ 1000000) (w : World) (a : Nat → Addr) (hE : Env [2, 3] w a) (hA : Ints w A l) :
    Calls Tryd.prog 55 #[.slice A l.length c, .int .i64 most] w fun e w' => e = .returned (errC a (wcode most l)) ∧ Below w.heap.size w w' := by
  have hlen := hA.len
  have x3 : w.cell? ⟨1, 0, none⟩ = some (.iface 160 (.pointer (some (a 3)))) := hE.cell 3 (by simp)
  have x2 : w.cell? ⟨0, 0, none⟩ = some (.iface 160 (.pointer (some (a 2)))) := hE.cell 2 (by simp)
  go_enter Tryd.func55, Tryd.ntmps55
  go_wp2_with (fail)
  go_loopw [5, 6, 11] (fun s t i wr => ∃ k : Nat, k ≤ l.length ∧ i = .int .i64 k ∧ s = .bool (anyPos (l.take k)) ∧ t = .int .i64 (sat most (l.take k).sum) ∧ Hid (anyNeg (l.take k) = false) ∧ Below w.heap.size w wr) (fun _ _ i _ => l.length - (intOf i).toNat)
  case atStart => exact ⟨0, Nat.zero_le _, rfl, rfl, by unfold sat; rw [List.take_zero, List.sum_nil, if_neg (by omega)], hide rfl, Below.refl _ _⟩
  case round =>
    obtain ⟨k, hk, rfl, rfl, rfl, HN, hB⟩ := hrel
    have y3 : wr.cell? ⟨1, 0, none⟩ = some (.iface 160 (.pointer (some (a 3)))) := (hB.cell (p := ⟨1, 0, none⟩) (hE.lt (c := 3) (by simp))).trans x3
    have y2 : wr.cell? ⟨0, 0, none⟩ = some (.iface 160 (.pointer (some (a 2)))) := (hB.cell (p := ⟨0, 0, none⟩) (hE.lt (c := 2) (by simp))).trans x2
    have h0 := sum_nonneg _ HN.out
    by_cases hlt : k < l.length
    · obtain ⟨b, off, rfl, _, dk⟩ := (hA.below hB).at_ k hlt
      have k0 : (0 : Int) ≤ (k : Int) := Int.natCast_nonneg _
      have k1 : (k : Int) < (l.length : Int) := by omega
      have hneg := fun h => wcode_neg most l k hlt h
      have hp' : anyPos (l.take (k + 1)) = (anyPos (l.take k) || decide (0 < l.getD k 0)) := any_take _ l k hlt
      have hn' : anyNeg (l.take (k + 1)) = (anyNeg (l.take k) || decide (l.getD k 0 < 0)) := any_take _ l k hlt
      have hs' := sum_take l k hlt
      rw [HN.out, Bool.false_or] at hn'
      generalize l.getD k 0 = x at dk hneg hp' hn' hs'
      have HNEG := hide hneg
      have HP := hide hp'
      have HN' := hide hn'
      have HS := hide hs'
      clear hneg hp' hn' hs'
      by_cases hx : x < 0
      · go_wp2_with (fail)
        go_ret
        exact ⟨by rw [HNEG.out hx]; rfl, hB⟩
      · have hsat : 0 ≤ sat most (l.take k).sum ∧ sat most (l.take k).sum ≤ most + 1 := by unfold sat; split <;> omega
        have hst : sat most ((l.take k).sum + x) = if most + 1 < sat most (l.take k).sum + (if most + 1 < x then most + 1 else x) then most + 1 else sat most (l.take k).sum + (if most + 1 < x then most + 1 else x) := by
          unfold sat
          by_cases e1 : most + 1 < (l.take k).sum <;> by_cases e2 : most + 1 < x <;> simp only [e1, e2, if_true, if_false] <;> (split <;> split <;> omega)
        have HST := hide hst
        clear hst
        generalize sat most (l.take k).sum = t0 at hsat HST ⊢
        generalize anyPos (l.take k) = s0 at HP ⊢
        have hsl := hsat.1
        have hsr := hsat.2
        clear hsat h0
        by_cases hpos : 0 < x
        · by_cases e2 : most + 1 < x
          · by_cases e3 : most + 1 < t0 + (most + 1)
            · cases s0
              all_goals
                go_wp2_with (fail)
                go_roundw
                case rel => exact ⟨k + 1, by omega, by go_num, by rw [HP.out, decide_eq_true hpos]; rfl, by rw [HS.out, HST.out, if_pos e2, if_pos e3], hide (by rw [HN'.out, decide_eq_false hx]), hB⟩
                case measure => simp [intOf]; omega
            · cases s0
              all_goals
                go_wp2_with (fail)
                go_roundw
                case rel => exact ⟨k + 1, by omega, by go_num, by rw [HP.out, decide_eq_true hpos]; rfl, by rw [HS.out, HST.out, if_pos e2, if_neg e3], hide (by rw [HN'.out, decide_eq_false hx]), hB⟩
                case measure => simp [intOf]; omega
          · by_cases e3 : most + 1 < t0 + x
            · cases s0
              all_goals
                go_wp2_with (fail)
                go_roundw
                case rel => exact ⟨k + 1, by omega, by go_num, by rw [HP.out, decide_eq_true hpos]; rfl, by rw [HS.out, HST.out, if_neg e2, if_pos e3], hide (by rw [HN'.out, decide_eq_false hx]), hB⟩
                case measure => simp [intOf]; omega
            · cases s0
              all_goals
                go_wp2_with (fail)
                go_roundw
                case rel => exact ⟨k + 1, by omega, by go_num, by rw [HP.out, decide_eq_true hpos]; rfl, by rw [HS.out, HST.out, if_neg e2, if_neg e3], hide (by rw [HN'.out, decide_eq_false hx]), hB⟩
                case measure => simp [intOf]; omega
        · obtain rfl : x = 0 := by omega
          have e2 : ¬ most + 1 < 0 := by omega
          have e3 : ¬ most + 1 < t0 + 0 := by omega
          have e4 : ¬ most + 1 < t0 := by omega
          cases s0
          all_goals
            go_wp2_with (fail)
            go_roundw
            case rel => exact ⟨k + 1, by omega, by go_num, by rw [HP.out]; rfl, by rw [HS.out, HST.out, if_neg e2, if_neg e3]; first | rfl | rw [Int.add_zero], hide (by rw [HN'.out]; rfl), hB⟩
            case measure => simp [intOf]; omega
    · obtain rfl : k = l.length := by omega
      have hend := wcode_end most l (anyPos l) (decide (most < l.sum)) (anyNeg_false l HN.out) rfl rfl
      rw [List.take_length] at h0 ⊢
      have hcmp : (most < sat most l.sum) = (most < l.sum) := by
        unfold sat
        split <;> simp <;> omega
      have HC := hide hcmp
      have HE := hide hend
      clear hend hcmp
      by_cases hpos : anyPos l = true
      · by_cases hgr : most < sat most l.sum
        · go_wp2_with (fail)
          go_ret
          rw [HE.out, hpos, decide_eq_true (by rw [← HC.out]; exact hgr)]
          exact ⟨rfl, hB⟩
        · go_wp2_with (fail)
          go_ret
          rw [HE.out, hpos, decide_eq_false (by rw [← HC.out]; omega)]
          exact ⟨rfl, hB⟩
      · have hpos' : anyPos l = false := by simpa using hpos
        go_wp2_with (fail)
        go_ret
        rw [HE.out, hpos']
        exact ⟨rfl, hB⟩

theorem distValid_any (A : Option Addr) (l : List Int) (c : Nat) (w : World) (a : Nat → Addr) (hE : Env [2, 3] w a) (hA : Ints w A l) :
    Calls Tryd.prog 36 #[.slice A l.length c] w fun e w' => e = .returned (errC a (wErr l)) ∧ Below w.heap.size w w' := by
  have hlen := hA.len
  have x2 : w.cell? ⟨0, 0, none⟩ = some (.iface 160 (.pointer (some (a 2)))) := hE.cell 2 (by simp)
  unfold wErr
  by_cases h : 16 < l.length
  · rw [if_pos h]
    go_enter Tryd.func36, Tryd.ntmps36
    go_wp2_with (fail)
    go_ret
    exact ⟨rfl, Below.refl _ _⟩
  · rw [if_neg h]
    have HL := hide (list_any A l c 4096 (by decide) (by decide) w a hE hA)
    go_enter Tryd.func36, Tryd.ntmps36
    go_wp2_with (go_at_call 55; refine HL.out.mono ?_; rintro e w1 ⟨rfl, hb1⟩)
    go_ret
    exact ⟨rfl, hb1⟩

theorem distTotal_ok (A : Option Addr) (l : List Int) (c : Nat) (w : World) (hA : Ints w A l) (hc : l.length ≤ c) (hg : GoodW l) :
    Calls Tryd.prog 63 #[.slice A l.length c] w fun e w' => e = .returned (.int .i64 l.sum) ∧ Below w.heap.size w w' := by
  obtain ⟨k, hk⟩ := (total_f hg).rounds
  refine (PSampleDraw.dist_Total.calls k A c l l.sum w hA.toC hc hk).mono ?_
  rintro e w' ⟨rfl, h⟩
  exact ⟨rfl, drawn_below h⟩
theorem dropWhile_all (p : UInt8 → Bool) (l : List UInt8) (h : l.all p = true) : l.dropWhile p = [] := by
  induction l with
  | nil => rfl
  | cons x r ih =>
    rw [List.all_cons, Bool.and_eq_true] at h
    rw [List.dropWhile_cons, if_pos h.1]
    exact ih h.2
theorem dropWhile_none {p : UInt8 → Bool} : ∀ (l : List UInt8), l.dropWhile p = [] → l.all p = true
  | [], _ => rfl
  | x :: r, h => by
    rw [List.dropWhile_cons] at h
    by_cases q : p x = true
    · rw [if_pos q] at h
      rw [List.all_cons, q, dropWhile_none r h]
      rfl
    · rw [if_neg q] at h
      cases h
theorem trimS_nil (l cs : List UInt8) : Lib.trimS l cs = [] ↔ l.all (cs.contains ·) = true := by
  unfold Lib.trimS Lib.trimLeftS Lib.trimRightS
  constructor
  · intro h
    have h1 := dropWhile_none _ h
    rw [List.all_reverse] at h1
    -- what is left of the reversed list begins with a byte that is none of them, unless it is empty
    cases hr : l.reverse.dropWhile (cs.contains ·) with
    | nil =>
      have := dropWhile_none _ hr
      rw [List.all_reverse] at this
      exact this
    | cons x r =>
      rw [hr, List.all_cons, Bool.and_eq_true] at h1
      have hx : cs.contains x = false := by
        have : ∀ (m : List UInt8), m.dropWhile (cs.contains ·) = x :: r → cs.contains x = false := by
          intro m
          induction m with
          | nil => intro e; cases e
          | cons y m ih =>
            intro e
            rw [List.dropWhile_cons] at e
            by_cases q : cs.contains y = true
            · rw [if_pos q] at e
              exact ih e
            · rw [if_neg q] at e
              injection e with e1 _
              rw [← e1]
              simpa using q
        exact this _ hr
      rw [hx] at h1
      cases h1.1
  · intro h
    rw [dropWhile_all _ l.reverse (by rw [List.all_reverse]; exact h)]
    rfl
theorem trim_bits (s : ByteArray) : (⟨(Lib.trimS s.data.toList [48, 49]).toArray⟩ : ByteArray) = ⟨#[]⟩ ↔ isBits s = true := by
  unfold isBits
  have e : s.data.toList.all ([48, 49].contains ·) = s.data.toList.all (fun b => b == 48 || b == 49) := by
    congr 1
    funext b
    simp [List.contains, List.elem]
    cases (b == 48) <;> cases (b == 49) <;> rfl
  rw [← e, ← trimS_nil]
  constructor
  · intro h
    injection h with h
    have := congrArg Array.toList h
    simpa using this
  · intro h
    rw [h]
theorem trim_ok (s : ByteArray) (w : World) (hs : s.size ≤ 9223372036854775807) :
    Calls Tryd.prog 37 #[.string s, .string ⟨#[48, 49]⟩] w fun e w' => ∃ t : ByteArray, e = .returned (.string t) ∧ (t = ⟨#[]⟩ ↔ isBits s = true) ∧ Below w.heap.size w w' := by
  refine (Any.strings_Trim_laid Tryd.lays160 (by kernel_rfl) s ⟨#[48, 49]⟩ w hs (by decide) (ascii_of_all (by decide))).mono ?_
  rintro e w' ⟨rfl, hb⟩
  exact ⟨_, rfl, trim_bits s, hb⟩
end Go.Proofs.YtioekjkfhbopkaaDoor

/- The walk of sample.leaves: the leaves of each depth. No condition. -/
namespace Go.Proofs.YtioekjkfhbopkaaDoor
open Go.RowKit Go.Deep Go.Proofs.YtioekjkfhbopkaaDoorW.PrintWords

/-- the leaves of each depth, as lists of whole numbers -/
def levels (W : List Int) : List (List Int) := (List.range (dep W + 1)).map fun d => leafTo (parts W) (dep W - d) (W.length + 1)
/-- all parts, in the program's words -/
def allI (W : List Int) : List Int := W ++ [((2 ^ dep W : Nat) : Int) - W.sum]
theorem allI_at {W : List Int} (h : GoodW W) (i : Nat) (hi : i < W.length + 1) : (allI W).getD i 0 = ((parts W).getD i 0 : Int) := by
  unfold allI
  by_cases e : i < W.length
  · rw [parts_at h i e, List.getD_eq_getElem?_getD, List.getElem?_append_left e, List.getD_eq_getElem?_getD]
  · obtain rfl : i = W.length := by omega
    rw [parts_last h, List.getD_eq_getElem?_getD, List.getElem?_append_right (Nat.le_refl _)]
    simp
theorem allI_len (W : List Int) : (allI W).length = W.length + 1 := by simp [allI]

/-- the rows, d of them whole, the next one up to the part i -/
def rowsAt (P : List Nat) (D n d i : Nat) (j : Nat) : List Int := if j < d then leafTo P (D - j) (n + 1) else if j = d then leafTo P (D - d) i else []
theorem rowsAt_start (P : List Nat) (D n j : Nat) : rowsAt P D n 0 0 j = [] := by
  unfold rowsAt
  rw [if_neg (by omega)]
  split
  · simp [leafTo]
  · rfl
theorem rowsAt_turn (P : List Nat) (D n d j : Nat) : rowsAt P D n d (n + 1) j = rowsAt P D n (d + 1) 0 j := by
  unfold rowsAt
  by_cases h1 : j < d
  · rw [if_pos h1, if_pos (by omega)]
  · rw [if_neg h1]
    by_cases h2 : j = d
    · subst h2
      rw [if_pos rfl, if_pos (by omega)]
    · rw [if_neg h2, if_neg (by omega)]
      split
      · simp [leafTo]
      · rfl
theorem rowsAt_same (P : List Nat) (D n d i : Nat) (h : ¬ bitAt (P.getD i 0) (D - d) = true) (j : Nat) : rowsAt P D n d i j = rowsAt P D n d (i + 1) j := by
  unfold rowsAt
  rw [leafTo_succ P (D - d) i, if_neg h]
theorem rowsAt_more (P : List Nat) (D n d i : Nat) (h : bitAt (P.getD i 0) (D - d) = true) (j : Nat) : (if j = d then rowsAt P D n d i d ++ [(i : Int)] else rowsAt P D n d i j) = rowsAt P D n d (i + 1) j := by
  unfold rowsAt
  rw [leafTo_succ P (D - d) i, if_pos h]
  by_cases e : j = d
  · subst e
    rw [if_pos rfl, if_neg (Nat.lt_irrefl _), if_pos rfl, if_neg (Nat.lt_irrefl _), if_pos rfl]
  · rw [if_neg e, if_neg e, if_neg e]
theorem bit_testI (x D d : Nat) : ((x : Int) / 2 ^ (D - d) % 2 == 1) = bitAt x (D - d) := by
  unfold bitAt
  rw [show (2 : Int) ^ (D - d) = ((2 ^ (D - d) : Nat) : Int) by simp, ← Int.natCast_ediv, Bool.eq_iff_iff, beq_iff_eq, decide_eq_true_iff]
  omega
theorem i64_and1 (n : Int) : bits .and .i64 n 1 = n % 2 := by
  have h1 : (BitVec.ofInt 64 1).toNat = 2 ^ 1 - 1 := by decide
  have key : (BitVec.ofInt 64 n &&& BitVec.ofInt 64 1).toNat = (n % ((2 ^ 64 : Nat) : Int)).toNat % 2 ^ 1 := by
    rw [BitVec.toNat_and, BitVec.toNat_ofInt, h1, Nat.and_two_pow_sub_one_eq_mod]
  show IntKind.i64.wrap ((BitVec.ofInt 64 n &&& BitVec.ofInt 64 1).toNat : Nat) = n % 2
  rw [key, IntKind.wrap_i64]
  omega
attribute [local go_sem] i64_and1
set_option maxRecDepth 100000 in
set_option maxHeartbeats 4000000 in
theorem leaves_ok (A : Option Addr) (W : List Int) (c : Nat) (w : World) (hA : Ints w A W) (hc : W.length ≤ c) (hg : GoodW W) :
    Calls Tryd.prog 38 #[.slice A W.length c] w fun e w' => ∃ B d, e = .returned (.slice B (levels W).length d) ∧ Lists w' B (levels W) ∧ (levels W).length ≤ d ∧ Below w.heap.size w w' := by
  have hln := hg.len
  have h0 : 0 < W.length := by
    rcases Nat.eq_zero_or_pos W.length with q | q
    · have := hg.pos
      rw [List.length_eq_zero_iff.1 q] at this
      simp at this
    · exact q
  have HT := hide (distTotal_ok A W c w hA hc hg)
  have HC := hide (fun w' (hb : Below w.heap.size w w') => clone_ok A W c w' (hA.below hb) h0 (by omega))
  have hs1 := hg.pos
  have hs2 := hg.le
  obtain ⟨hd1, hd2, hd3⟩ := dep_le hg
  have hpw : 2 ^ dep W ≤ 4096 := by
    have : (2 : Nat) ^ dep W ≤ 2 ^ 12 := Nat.pow_le_pow_right (by decide) hd3
    omega
  have hln2 : Lib.bitLen (W.sum - 1).toNat = dep W := rfl
  have HL := hide (fun w' => Tryd.bits_Len (W.sum - 1) w' (by omega) (by omega))
  rw [hln2] at HL
  have HLV := hide (show levels W = (List.range (dep W + 1)).map fun d => leafTo (parts W) (dep W - d) (W.length + 1) from rfl)
  have HALL := hide (fun i hi => allI_at hg i hi)
  have HPL := hide (fun i => parts_le hg i)
  have HAL := hide (show allI W = W ++ [((2 ^ dep W : Nat) : Int) - W.sum] from rfl)
  generalize allI W = aI at HALL HAL
  generalize dep W = D at *
  generalize levels W = LV at HLV ⊢
  generalize W.sum = S at *
  generalize parts W = P at *
  clear hln2
  go_enter Tryd.func38, Tryd.ntmps38
  go_wp2_with (first
    | (go_at_call 63; refine Calls.mono HT.out ?_; rintro e w1 ⟨rfl, hB1⟩)
    | (go_at_call 64; refine Calls.mono (HL.out w1) ?_; rintro e w2 ⟨rfl, hw2⟩; subst hw2))
  obtain ⟨q, hq⟩ : ∃ q : Int, q = ((2 ^ D : Nat) : Int) := ⟨_, rfl⟩
  obtain ⟨r, hr⟩ : ∃ r : Int, r = q - S := ⟨_, rfl⟩
  have f1 : IntKind.i64.wrap (2 ^ D) = q := by
    have e : (2 : Int) ^ D = ((2 ^ D : Nat) : Int) := by simp
    rw [e, hq]
    exact IntWalk.i64_in _ (by omega)
  have f2 : IntKind.i64.wrap (q - S) = r := by rw [hr]; exact IntWalk.i64_in _ (by omega)
  have HB1 := hide hB1
  have HR := hide hr
  have HQ := hide hq
  clear hr hq
  have HBY := hide (show (W.length + 1) * 8 ≤ 140737488355328 by omega)
  have HSZ := hide HB1.out.size
  have hn1 := HB1.out.drew
  have hn2 := fun o => (HB1.out.alloc HB1.out.size o).drew
  have HN1 := hide hn1
  have HN2 := hide hn2
  clear hn1 hn2
  go_region_held3 (fun _ => True)
    (first | go_keep | trivial)
    ((first
      | (go_at_call 65
         refine Calls.mono (HC.out _ (by first | exact HN1.out | exact HN2.out _)) ?_
         rintro e w3 ⟨gA, dA, rfl, hgA, hdA, hoA, b3⟩
         have hB3 : Below w.heap.size w w3 := below_trans (by first | exact HN1.out | exact HN2.out _) b3
         have hz3 := hB3.size
         have hx3 := own_weaken hoA (show w.heap.size ≤ _ by first | exact HN1.out.size | exact (HN2.out _).size))
      | (refine step_app_ints _ rfl _ _ rfl w.heap.size (.slice (some ⟨gA, 0, none⟩) W.length dA) W rfl (by first | exact hx3.alloc _ | exact hx3) _ 1 1 [r] rfl rfl (by first | exact ints_lit1 w3 r _ | exact (ints_lit1 w2 r _).below ((below_drewN' (Below.refl _ _) 1).trans b3)) HBY.out (by first | exact hz3 | (rw [World.size_alloc]; exact Nat.le_succ_of_le hz3)) ?_
         intro A5 c5 w5 hc5 ho5 hg5 hob5
         have hb5 : Below w.heap.size w w5 := by
           first
             | exact (hB3.alloc hz3 _).grown hg5 (by rw [World.size_alloc]; exact Nat.le_succ_of_le hz3) (fun j hj => (hx3.lt j hj).1)
             | exact hB3.grown hg5 hz3 (fun j hj => (hx3.lt j hj).1)
         clear hoA hx3 hg5 hob5 hgA hdA)
      | fail))
  all_goals
    have HI := hide (show Ints w5 A5 aI by rw [HAL.out, ← HQ.out, ← HR.out]; exact Ints.own ho5)
    have HLEN := hide (show aI.length = W.length + 1 by rw [HAL.out]; simp)
    clear ho5 f1 f2 hB3 hz3 b3
    go_wp2_with (at_make; refine wp_make_rows _ rfl _ _ rfl .i64 .i64 (D + 1) rfl rfl (by omega) w5.heap.size (Nat.le_refl _) ?_; intro w6 ho6 hg6)
    have HS0 := hide (LSt.start ho6)
    have HB6 := hide ((Below.refl w5.heap.size w5).grown hg6 (Nat.le_refl _) (fun j hj => by cases hj))
    clear ho6 hg6
    go_loopw [29] (fun iv wr => ∃ d : Nat, d ≤ D + 1 ∧ iv = .int .i64 d ∧ Hid (∃ vs, LSt wr w5.heap.size w5.heap.size (D + 1) (D + 1) vs (rowsAt P D W.length d 0)) ∧ Hid (Below w5.heap.size w5 wr)) (fun iv _ => D + 1 - (intOf iv).toNat)
    case atStart => exact ⟨0, Nat.zero_le _, rfl, hide ⟨_, HS0.out.congr (fun _ _ => rfl) (fun j hj => (rowsAt_start P D W.length j).symm)⟩, HB6⟩
    case round =>
      obtain ⟨d, hd, rfl, HS, HB⟩ := hrel
      obtain ⟨wi, rfl⟩ : ∃ wi : World, wi = wr := ⟨_, rfl⟩
      have d0 : (0 : Int) ≤ (d : Int) := Int.natCast_nonneg _
      by_cases hdl : d < D + 1
      · have d1 : (d : Int) < (D : Int) + 1 := by omega
        go_wp2_with (fail)
        go_loopw [34] (fun iv wr => ∃ i : Nat, i ≤ W.length + 1 ∧ iv = .int .i64 i ∧ Hid (∃ vs, LSt wr w5.heap.size w5.heap.size (D + 1) (D + 1) vs (rowsAt P D W.length d i)) ∧ Hid (Below w5.heap.size w5 wr)) (fun iv _ => W.length + 1 - (intOf iv).toNat)
        case atStart => exact ⟨0, Nat.zero_le _, rfl, HS, HB⟩
        case round =>
          obtain ⟨i, hi, rfl, HS9, HB9⟩ := hrel
          obtain ⟨wk, rfl⟩ : ∃ wk : World, wk = wr := ⟨_, rfl⟩
          have i0 : (0 : Int) ≤ (i : Int) := Int.natCast_nonneg _
          by_cases hil : i < W.length + 1
          · have i1 : (i : Int) < (W.length : Int) + 1 := by omega
            obtain ⟨b, off, rfl, hbl, hcell⟩ := (HI.out.below HB9.out).at_ i (by rw [HLEN.out]; exact hil)
            rw [HALL.out i hil] at hcell
            have hx4 := HPL.out i
            obtain ⟨vs, hLS⟩ := HS9.out
            obtain ⟨hc1, hf1⟩ := hLS.cell d hdl
            have hrow := hLS.row d hdl
            have hlt4 := leafTo_len P (D - d) i
            have hrd : rowsAt P D W.length d i d = leafTo P (D - d) i := by unfold rowsAt; rw [if_neg (Nat.lt_irrefl _), if_pos rfl]
            obtain ⟨A8, c8, hv8, hc8, _⟩ := own_shape hrow
            by_cases hbit : bitAt (P.getD i 0) (D - d) = true
            · have HMR := hide (rowsAt_more P D W.length d i hbit)
              have hz := bit_testI (P.getD i 0) D d
              rw [hbit] at hz
              generalize P.getD i 0 = x at hcell hx4 hz
              have HLS := hide hLS
              have hkeep := fun (o : Obj) (W' : World) (hg : (wk.alloc o).grownBy W' (vs d).ownBlock) => (show W'.heap[w5.heap.size]? = wk.heap[w5.heap.size]? from by
                have hgl := (HLS.out.spine.lt w5.heap.size rfl).2
                rw [hg.block w5.heap.size (by rw [World.size_alloc]; omega) (fun q => HLS.out.apart d hdl q.symm), alloc_old _ _ _ hgl])
              have hmore := fun (o : Obj) (W' : World) (v' : Value) (l : List Int) (g1 : W'.ownsRow w5.heap.size 3 1 v' l.length (intCells l)) (g2 : (wk.alloc o).grownBy W' (vs d).ownBlock) (g3 : v'.ownBlock = (vs d).ownBlock ∨ v'.ownBlock = some (wk.alloc o).heap.size) => HLS.out.more hdl g1 g2 g3
              have hown : ∀ o, (wk.alloc o).ownsRow w5.heap.size 3 1 (vs d) (rowsAt P D W.length d i d).length (intCells (rowsAt P D W.length d i d)) := fun o => hrow.alloc o
              have hro : (rowsAt P D W.length d i d).length ≤ 17 := by rw [hrd]; omega
              rw [hv8] at hc1 hkeep hmore hown
              generalize rowsAt P D W.length d i d = ro at hc1 hkeep hmore hown hro HMR hc8
              have hby : (ro.length + 1) * 8 ≤ 140737488355328 := by omega
              have HKEEP := hide hkeep
              have HMORE := hide hmore
              have HOWN := hide hown
              have HBY2 := hide hby
              have HC1 := hide hc1
              have HF1 := hide hf1
              have hsk : w5.heap.size ≤ wk.heap.size := HB9.out.size
              have HSK := hide (fun o => (show w5.heap.size ≤ (wk.alloc o).heap.size by rw [World.size_alloc]; exact Nat.le_succ_of_le hsk))
              have hbg := fun (o : Obj) (W' : World) (hg : (wk.alloc o).grownBy W' (Value.slice A8 ro.length c8).ownBlock) => ((HB9.out.alloc hsk o).grown hg (HSK.out o) (fun j hj => ((HOWN.out o).lt j hj).1))
              have HBG := hide hbg
              clear hLS hrow hbit hkeep hmore hown hby hsk hv8 hrd hbg hlt4
              go_wp2_with (at_builtin; refine wp_app_ints _ rfl _ _ rfl w5.heap.size (.slice A8 ro.length c8) ro rfl (HOWN.out _) _ 1 1 [(i : Int)] rfl rfl (ints_lit1 wk _ _) HBY2.out (HSK.out _) ?_; intro A12 c12 w12 hc12 ho12 hg12 hob12; have y12 := (World.cell?_of_block (a := ⟨w5.heap.size, d, none⟩) (HKEEP.out _ _ hg12)).trans HC1.out; have z12 := (World.frozen?_of_block (a := ⟨w5.heap.size, d, none⟩) (HKEEP.out _ _ hg12)).trans HF1.out)
              go_roundw
              case rel =>
                have hfin := (HMORE.out _ _ _ _ ho12 hg12 hob12).congr (fun _ _ => rfl) (fun j _ => HMR.out j)
                have hbel := (HBG.out _ _ hg12).setCell (p := ⟨w5.heap.size, d, none⟩) (Nat.le_refl _) (.slice A12 (ro ++ [(i : Int)]).length c12)
                rw [show (ro ++ [(i : Int)]).length = ro.length + 1 by simp] at hfin hbel
                exact ⟨i + 1, by omega, by go_num, hide ⟨_, hfin⟩, hide hbel⟩
              case measure => simp [intOf]; omega
            · have hz := bit_testI (P.getD i 0) D d
              rw [show bitAt (P.getD i 0) (D - d) = false by simpa using hbit] at hz
              have HSM := hide (fun j => rowsAt_same P D W.length d i hbit j)
              generalize P.getD i 0 = x at hcell hx4 hz
              have HLS := hide hLS
              clear hLS hrow hbit hc1 hf1 hv8 hc8
              go_wp2_with (fail)
              go_roundw
              case rel => exact ⟨i + 1, by omega, by go_num, hide ⟨vs, HLS.out.congr (fun _ _ => rfl) (fun j _ => HSM.out j)⟩, HB9⟩
              case measure => simp [intOf]; omega
          · obtain rfl : i = W.length + 1 := by omega
            go_wp2_with (fail)
            go_roundw
            case rel => exact ⟨d + 1, by omega, by go_num, by
              obtain ⟨vs, hLS⟩ := HS9.out
              exact hide ⟨vs, hLS.congr (fun _ _ => rfl) (fun j _ => rowsAt_turn P D W.length d j)⟩, HB9⟩
            case measure => simp [intOf]; omega
      · obtain rfl : d = D + 1 := by omega
        go_wp2_with (fail)
        go_ret
        obtain ⟨vs, hLS⟩ := HS.out
        have e : LV = (List.range (D + 1)).map (rowsAt P D W.length (D + 1) 0) := by
          rw [HLV.out]
          refine List.map_congr_left (fun j hj => ?_)
          have := List.mem_range.1 hj
          unfold rowsAt
          rw [if_pos (by omega)]
        have hl := hLS.lists (by omega)
        rw [← e] at hl
        exact ⟨some ⟨w5.heap.size, 0, none⟩, D + 1, by rw [e]; simp, hl, by rw [e]; simp, below_trans hb5 HB.out⟩
end Go.Proofs.YtioekjkfhbopkaaDoor

/- The walks of errors.Is and errors.As at the errors of this program: a sentinel (a pointer to an errors.errorString) and a *api.Fault (after the kit's worked Sentry and Toyas). Condition: the variables read as laid. -/
namespace Go.Proofs.YtioekjkfhbopkaaDoor
open Go.RowKit Go.Deep Go.Extern.Stop Go.Stop Go.Extern

/-- the sentinels of the codes S: their cells, their blocks, none twice -/
structure Sent (S : List Nat) (w : World) (a : Nat → Addr) : Prop extends Env S w a where
  blk : ∀ c, c ∈ S → ∃ ca ta, w.heap[(a c).block]? = some (.cells ca ta (0, 0))
  inj : ∀ c, c ∈ S → ∀ d, d ∈ S → a c = a d → c = d
theorem Sent.lt {S : List Nat} {w : World} {a : Nat → Addr} (h : Sent S w a) {c : Nat} (hc : c ∈ S) : (a c).block < w.heap.size := by
  obtain ⟨ca, ta, hb⟩ := h.blk c hc
  exact (Array.getElem?_eq_some_iff.1 hb).1
theorem Sent.below {S : List Nat} {w w' : World} {a : Nat → Addr} (h : Sent S w a) (hb : Below w.heap.size w w') : Sent S w' a :=
  ⟨h.toEnv.below hb, fun c hc => by
    obtain ⟨ca, ta, hx⟩ := h.blk c hc
    exact ⟨ca, ta, (hb.block _ (h.lt hc)).trans hx⟩, h.inj⟩
/-- the handle of the type error -/
def Handle (w : World) : Prop := w.cell? ⟨8, 0, none⟩ = some (.iface 138 (.agg #[.pointer (some ⟨12, 27, none⟩)]))
theorem Handle.below {w w' : World} (h : Handle w) (hb : Below w.heap.size w w') : Handle w' :=
  (hb.cell (p := ⟨8, 0, none⟩) (World.block_lt_of_cell? w _ h)).trans h

/-! ### errors.Is -/
theorem is_typeOf (v : Value) (w : World) : (Extern.ReflectliteType.typeOf #[.iface 160 v]).run Tryd.prog w = .ok (.iface 138 (.agg #[.pointer (some ⟨12, 160, none⟩)])) w := by kernel_rfl
/-- the model's own entry for (rtype).Comparable, behind a name -/
def compExt : TypeId → Sem Value := fun t => do Rtype.noPackHeld "Comparable" t; pure (.bool (← typeInfo t).comparable)
theorem is_comparable (w : World) : (Extern.ReflectliteType.method compExt #[.agg #[.pointer (some ⟨12, 160, none⟩)]]).run Tryd.prog w = .ok (.bool true) w := by kernel_rfl
theorem is_methodComparable (v : Value) (w : World) : (Go.method 299 138 v "Comparable").run Tryd.prog w = .ok (125, v) w := by kernel_rfl
theorem is_comp : (Tryd.prog.info? 160).map (·.comparable) = some true := by kernel_rfl
theorem is_size : (Tryd.prog.info? 183).map (·.size) = some 1 := by kernel_rfl
theorem no_is_E (v : Value) (xT : TypeId) (w : World) : (Instr.typeAssert (.iface 160 v) xT 149 true).run Tryd.prog w = .ok (.tuple #[.nilIface, .bool false]) w := run_typeAssert_lacksB Tryd.underlying149 (by kernel_rfl) (by kernel_rfl) v xT w
theorem no_unwrap_E (v : Value) (xT : TypeId) (w : World) : (Instr.typeAssert (.iface 160 v) xT 145 true).run Tryd.prog w = .ok (.tuple #[.nilIface, .bool false]) w := run_typeAssert_lacksB Tryd.underlying145 (by kernel_rfl) (by kernel_rfl) v xT w
theorem no_unwraps_E (v : Value) (xT : TypeId) (w : World) : (Instr.typeAssert (.iface 160 v) xT 147 true).run Tryd.prog w = .ok (.tuple #[.nilIface, .bool false]) w := run_typeAssert_lacksB Tryd.underlying147 (by kernel_rfl) (by kernel_rfl) v xT w
theorem no_is_F (v : Value) (xT : TypeId) (w : World) : (Instr.typeAssert (.iface 67 v) xT 149 true).run Tryd.prog w = .ok (.tuple #[.nilIface, .bool false]) w := run_typeAssert_lacksB Tryd.underlying149 (by kernel_rfl) (by kernel_rfl) v xT w
theorem has_unwrap_F (v : Value) (xT : TypeId) (w : World) : (Instr.typeAssert (.iface 67 v) xT 145 true).run Tryd.prog w = .ok (.tuple #[.iface 67 v, .bool true]) w := run_typeAssert_hasB Tryd.underlying145 (by kernel_rfl) v xT w
theorem method_unwrap_F (v : Value) (w : World) : (Go.method 299 67 v "Unwrap").run Tryd.prog w = .ok (119, v) w := by kernel_rfl

set_option maxHeartbeats 1000000 in
theorem is_same (a : Addr) (w : World) :
    Calls Tryd.prog 67 #[.iface 160 (.pointer (some a)), .iface 160 (.pointer (some a))] w fun e w' => e = .returned (.bool true) ∧ w' = w := by
  obtain ⟨i, hi, hcmp⟩ := Option.map_eq_some_iff.1 is_comp
  obtain ⟨j, hj, hjs⟩ := Option.map_eq_some_iff.1 is_size
  have h8 := @run_callFunc_extern Tryd.prog 87 _ Extern.ReflectliteType.typeOf Tryd.func87 (by kernel_rfl) (by kernel_rfl) (by kernel_rfl) (by kernel_rfl)
  have h32 := @run_callFunc_extern Tryd.prog 125 _ (Extern.ReflectliteType.method compExt) Tryd.func125 (by kernel_rfl) (by kernel_rfl) (by kernel_rfl) (by kernel_rfl)
  have tT := is_typeOf
  have cT := is_comparable
  have mR := is_methodComparable
  have heq := run_eql_iface_ptr_same (P := Tryd.prog) w a Tryd.underlying27 Tryd.underlying160 hi hcmp hj
  clear hi hcmp hj hjs
  go_enter Tryd.func67, Tryd.ntmps67
  go_wp2
  refine wp_loop_rounds 1 ?_
  rw [rounds_succ]
  go_wp2
  go_ret
  exact ⟨rfl, rfl⟩

set_option maxHeartbeats 1000000 in
theorem is_other (a b : Addr) (ca cb : Array Value) (ta tb : TypeId) (w : World) (hne : a ≠ b) (ha : w.heap[a.block]? = some (.cells ca ta (0, 0))) (hb : w.heap[b.block]? = some (.cells cb tb (0, 0))) :
    Calls Tryd.prog 67 #[.iface 160 (.pointer (some a)), .iface 160 (.pointer (some b))] w fun e w' => e = .returned (.bool false) ∧ w' = w := by
  obtain ⟨i, hi, hcmp⟩ := Option.map_eq_some_iff.1 is_comp
  obtain ⟨j, hj, hjs⟩ := Option.map_eq_some_iff.1 is_size
  have h8 := @run_callFunc_extern Tryd.prog 87 _ Extern.ReflectliteType.typeOf Tryd.func87 (by kernel_rfl) (by kernel_rfl) (by kernel_rfl) (by kernel_rfl)
  have h32 := @run_callFunc_extern Tryd.prog 125 _ (Extern.ReflectliteType.method compExt) Tryd.func125 (by kernel_rfl) (by kernel_rfl) (by kernel_rfl) (by kernel_rfl)
  have tT := is_typeOf
  have cT := is_comparable
  have mR := is_methodComparable
  have nE := no_is_E
  have uE := no_unwrap_E
  have vE := no_unwraps_E
  have heq := run_eql_iface_ptr_other (P := Tryd.prog) w Tryd.underlying27 Tryd.underlying160 hi hcmp hj (by rw [hjs]; decide) hne ha hb
  clear hi hcmp hj hjs
  go_enter Tryd.func67, Tryd.ntmps67
  go_wp2
  refine wp_loop_rounds 1 ?_
  rw [rounds_succ]
  go_wp2
  go_ret
  exact ⟨rfl, rfl⟩

/-- errors.Is between sentinels -/
theorem is_sent {S : List Nat} (w : World) (a : Nat → Addr) (h : Sent S w a) (c d : Nat) (hc : c ∈ S) (hd : d ∈ S) :
    Calls Tryd.prog 67 #[.iface 160 (.pointer (some (a c))), .iface 160 (.pointer (some (a d)))] w fun e w' => e = .returned (.bool (decide (c = d))) ∧ w' = w := by
  by_cases e : c = d
  · subst e
    rw [decide_eq_true rfl]
    exact is_same (a c) w
  · rw [decide_eq_false e]
    obtain ⟨ca, ta, ha⟩ := h.blk c hc
    obtain ⟨cb, tb, hb⟩ := h.blk d hd
    exact is_other (a c) (a d) ca cb ta tb w (fun x => e (h.inj c hc d hd x)) ha hb

set_option maxHeartbeats 1000000 in
theorem is_fault_same (pb po : Nat) (b : Addr) (w : World) (h1 : w.cell? ⟨pb, po + 1, none⟩ = some (.iface 160 (.pointer (some b)))) :
    Calls Tryd.prog 67 #[.iface 67 (.pointer (some ⟨pb, po, none⟩)), .iface 160 (.pointer (some b))] w fun e w' => e = .returned (.bool true) ∧ w' = w := by
  obtain ⟨i, hi, hcmp⟩ := Option.map_eq_some_iff.1 is_comp
  obtain ⟨j, hj, hjs⟩ := Option.map_eq_some_iff.1 is_size
  have h8 := @run_callFunc_extern Tryd.prog 87 _ Extern.ReflectliteType.typeOf Tryd.func87 (by kernel_rfl) (by kernel_rfl) (by kernel_rfl) (by kernel_rfl)
  have h32 := @run_callFunc_extern Tryd.prog 125 _ (Extern.ReflectliteType.method compExt) Tryd.func125 (by kernel_rfl) (by kernel_rfl) (by kernel_rfl) (by kernel_rfl)
  have tT := is_typeOf
  have cT := is_comparable
  have mR := is_methodComparable
  have nE := no_is_E
  have uE := no_unwrap_E
  have vE := no_unwraps_E
  have nW := no_is_F
  have uW := has_unwrap_F
  have mU := method_unwrap_F
  have heq := run_eql_iface_ptr_same (P := Tryd.prog) w b Tryd.underlying27 Tryd.underlying160 hi hcmp hj
  have hty := run_eql_iface_types (P := Tryd.prog) 67 160 (.pointer (some ⟨pb, po, none⟩)) (.pointer (some b)) Tryd.underlying27 (by decide) w
  clear hi hcmp hj hjs
  go_enter Tryd.func67, Tryd.ntmps67
  go_wp2
  refine wp_loop_rounds 2 ?_
  rw [rounds_succ]
  go_wp2
  rw [rounds_succ]
  go_wp2
  go_ret
  exact ⟨rfl, rfl⟩

set_option maxHeartbeats 1000000 in
theorem is_fault_other (pb po : Nat) (b a : Addr) (ca cb : Array Value) (ta tb : TypeId) (w : World) (h1 : w.cell? ⟨pb, po + 1, none⟩ = some (.iface 160 (.pointer (some a)))) (hne : a ≠ b) (ha : w.heap[a.block]? = some (.cells ca ta (0, 0))) (hb : w.heap[b.block]? = some (.cells cb tb (0, 0))) :
    Calls Tryd.prog 67 #[.iface 67 (.pointer (some ⟨pb, po, none⟩)), .iface 160 (.pointer (some b))] w fun e w' => e = .returned (.bool false) ∧ w' = w := by
  obtain ⟨i, hi, hcmp⟩ := Option.map_eq_some_iff.1 is_comp
  obtain ⟨j, hj, hjs⟩ := Option.map_eq_some_iff.1 is_size
  have h8 := @run_callFunc_extern Tryd.prog 87 _ Extern.ReflectliteType.typeOf Tryd.func87 (by kernel_rfl) (by kernel_rfl) (by kernel_rfl) (by kernel_rfl)
  have h32 := @run_callFunc_extern Tryd.prog 125 _ (Extern.ReflectliteType.method compExt) Tryd.func125 (by kernel_rfl) (by kernel_rfl) (by kernel_rfl) (by kernel_rfl)
  have tT := is_typeOf
  have cT := is_comparable
  have mR := is_methodComparable
  have nE := no_is_E
  have uE := no_unwrap_E
  have vE := no_unwraps_E
  have nW := no_is_F
  have uW := has_unwrap_F
  have mU := method_unwrap_F
  have heq := run_eql_iface_ptr_other (P := Tryd.prog) w Tryd.underlying27 Tryd.underlying160 hi hcmp hj (by rw [hjs]; decide) hne ha hb
  have hty := run_eql_iface_types (P := Tryd.prog) 67 160 (.pointer (some ⟨pb, po, none⟩)) (.pointer (some b)) Tryd.underlying27 (by decide) w
  clear hi hcmp hj hjs
  go_enter Tryd.func67, Tryd.ntmps67
  go_wp2
  refine wp_loop_rounds 2 ?_
  rw [rounds_succ]
  go_wp2
  rw [rounds_succ]
  go_wp2
  go_ret
  exact ⟨rfl, rfl⟩

/-- errors.Is of a fault whose error is a sentinel -/
theorem is_fault {S : List Nat} (w : World) (a : Nat → Addr) (h : Sent S w a) (pb po : Nat) (c d : Nat) (hc : c ∈ S) (hd : d ∈ S) (h1 : w.cell? ⟨pb, po + 1, none⟩ = some (.iface 160 (.pointer (some (a c))))) :
    Calls Tryd.prog 67 #[.iface 67 (.pointer (some ⟨pb, po, none⟩)), .iface 160 (.pointer (some (a d)))] w fun e w' => e = .returned (.bool (decide (c = d))) ∧ w' = w := by
  by_cases e : c = d
  · subst e
    rw [decide_eq_true rfl]
    exact is_fault_same pb po (a c) w h1
  · rw [decide_eq_false e]
    obtain ⟨ca, ta, ha⟩ := h.blk c hc
    obtain ⟨cb, tb, hb⟩ := h.blk d hd
    exact is_fault_other pb po (a d) (a c) ca cb ta tb w h1 (fun x => e (h.inj c hc d hd x)) ha hb
end Go.Proofs.YtioekjkfhbopkaaDoor
