/- Words, plain laws and walks behind the law OrderMoves, part 4. No condition. -/
import Derived.Test.YtcnecmcbjpehcaaDoorFlatOrderMovesc
import Derived.Test.YtcnecmcbjpehcaaDoorFlatOrderMovesb
import Derived.Deep.Slices
import Derived.BigRegion
import Derived.Test.YtcnecmcbjpehcaaDoorFlatOrderMovesa
import Derived.Test.YtcnecmcbjpehcaaDoorWMore
import Derived.StillTailTactics

/- Rows of rows in memory that may be written; what Parts builds: a copy of the table, the permutations, how often each. No condition. -/
namespace Go.Proofs.YtcnecmcbjpehcaaDoor
open Go.RowKit Go.Deep Go.Proofs.YtcnecmcbjpehcaaDoorW.PrintWords

/-- M rows of c numbers each: the outer slice lies in block g, row j in block (h j) -/
structure Tab2 (w : World) (B g : Nat) (h cp : Nat → Nat) (M c : Nat) (f : Nat → Nat → Int) : Prop where
  outer : ∀ j, j < M → w.cell? ⟨g, j, none⟩ = some (.slice (some ⟨h j, 0, none⟩) c (cp j)) ∧ c ≤ cp j
  inner : ∀ j, j < M → ∀ i, i < c → w.cell? ⟨h j, i, none⟩ = some (.int .i64 (f j i)) ∧ w.frozen? ⟨h j, i, none⟩ = false
  inj : ∀ i, i < M → ∀ j, j < M → h i = h j → i = j
  apart : ∀ j, j < M → h j ≠ g
  base : ∀ j, j < M → B ≤ h j
theorem Tab2.congr {w : World} {B g : Nat} {h cp : Nat → Nat} {M c : Nat} {f f' : Nat → Nat → Int} (t : Tab2 w B g h cp M c f) (e : ∀ j, j < M → ∀ i, i < c → f j i = f' j i) : Tab2 w B g h cp M c f' :=
  ⟨t.outer, fun j hj i hi => by rw [← e j hj i hi]; exact t.inner j hj i hi, t.inj, t.apart, t.base⟩
theorem Tab2.set {w : World} {B g : Nat} {h cp : Nat → Nat} {M c : Nat} {f : Nat → Nat → Int} (t : Tab2 w B g h cp M c f) (m s : Nat) (hm : m < M) (v : Int) :
    Tab2 (w.setCell ⟨h m, s, none⟩ (.int .i64 v)) B g h cp M c (fun x y => if x = m ∧ y = s then v else f x y) := by
  refine ⟨fun j hj => ⟨?_, (t.outer j hj).2⟩, fun j hj i hi => ⟨?_, ?_⟩, t.inj, t.apart, t.base⟩
  · rw [World.cell?_setCell_other]
    · exact (t.outer j hj).1
    · intro e
      injection e with e _ _
      exact t.apart m hm e
  · by_cases e : j = m ∧ i = s
    · obtain ⟨rfl, rfl⟩ := e
      rw [if_pos ⟨rfl, rfl⟩]
      exact World.cell?_setCell_same _ _ _ (t.inner j hj i hi).1
    · rw [if_neg e, World.cell?_setCell_other]
      · exact (t.inner j hj i hi).1
      · intro e2
        injection e2 with e2 e3 _
        exact e ⟨t.inj j hj m hm e2.symm, e3.symm⟩
  · rw [World.frozen?_setCell]
    exact (t.inner j hj i hi).2
theorem Tab2.drewN {w : World} {B g : Nat} {h cp : Nat → Nat} {M c : Nat} {f : Nat → Nat → Int} (t : Tab2 w B g h cp M c f) (n : Nat) : Tab2 (w.drewN n) B g h cp M c f :=
  ⟨t.outer, t.inner, t.inj, t.apart, t.base⟩
theorem Tab2.lists {w : World} {B g : Nat} {h cp : Nat → Nat} {M c : Nat} {f : Nat → Nat → Int} (t : Tab2 w B g h cp M c f) (hM : M ≤ 9223372036854775807) (hc : c ≤ 9223372036854775807) : Lists w (some ⟨g, 0, none⟩) ((List.range M).map fun j => (List.range c).map fun i => f j i) :=
  ⟨by simpa using hM, fun j hj => by
    have hj' : j < M := by simpa using hj
    have e : ((List.range M).map fun j => (List.range c).map fun i => f j i).getD j [] = (List.range c).map fun i => f j i := by
      simp [List.getD_eq_getElem?_getD, List.getElem?_map, List.getElem?_range hj']
    rw [e]
    obtain ⟨h1, h2⟩ := t.outer j hj'
    have hI : Ints w (some ⟨h j, 0, none⟩) ((List.range c).map fun i => f j i) := ⟨by simpa using hc, fun i hi => by
      have hi' : i < c := by simpa using hi
      have h3 := (t.inner j hj' i hi').1
      have e2 : ((List.range c).map fun i => f j i).getD i 0 = f j i := by simp [List.getD_eq_getElem?_getD, List.getElem?_map, List.getElem?_range hi']
      rw [e2]
      exact ⟨h j, 0, rfl, World.block_lt_of_cell? w _ h3, by rw [Nat.zero_add]; exact h3⟩⟩
    exact ⟨g, 0, some ⟨h j, 0, none⟩, cp j, rfl, World.block_lt_of_cell? w _ h1, by rw [Nat.zero_add, h1]; simp, by simpa using h2, hI⟩⟩
theorem tab2_of_S {w : World} {base : Nat} {ok : Nat → Prop} {v : Value} {xs : List (List Int)} {c : Nat} (h : Kd.S (Kd.slice 3 (Kd.int .i64)) 25 w base ok v xs) (hM : 0 < xs.length) (hc : 0 < c) (hrow : ∀ j, j < xs.length → (xs.getD j []).length = c) :
    ∃ g cap hh cp, v = .slice (some ⟨g, 0, none⟩) xs.length cap ∧ xs.length ≤ cap ∧ base ≤ g ∧ Tab2 w base g hh cp xs.length c (fun j i => (xs.getD j []).getD i 0) := by
  obtain ⟨g, cap, rfl, hg, _, _⟩ := Kd.S_form h hM
  obtain ⟨A, cc, e, hle, _⟩ := Kd.S_reads h
  injection e with _ _ e
  subst e
  obtain ⟨f, _, inner, ho, hr⟩ := h
  have each : ∀ j, j < xs.length → ∃ q : Nat × Nat, w.cell? ⟨g, j, none⟩ = some (.slice (some ⟨q.1, 0, none⟩) c q.2) ∧ c ≤ q.2 ∧ (∀ i, i < c → w.cell? ⟨q.1, i, none⟩ = some (.int .i64 ((xs.getD j []).getD i 0)) ∧ w.frozen? ⟨q.1, i, none⟩ = false) ∧ f q.1 = j ∧ q.1 ≠ g ∧ base ≤ q.1 := by
    intro j hj
    have hp : xs.zipIdx[j]? = some (xs.getD j [], j) := Kd.zip_at (by rw [List.getD_eq_getElem?_getD, List.getElem?_eq_getElem hj]; rfl)
    obtain ⟨u, hu, hR⟩ := hr.2 j _ hp
    have hl := hrow j hj
    obtain ⟨g', cap', hu', hb', _, cells, hcells⟩ := Kd.R_form hR (by rw [hl]; exact hc)
    obtain ⟨A', c', hu2, hI, hle'⟩ := Ints.ofR hR
    have hblk := hR.1 g' (by rw [hu']; rfl)
    obtain ⟨⟨_, hne⟩, hfj⟩ := hblk
    rw [hu'] at hu2
    injection hu2 with e1 _ e2
    subst e1 e2
    rw [hl] at hu' hle'
    have hin : inner[j]? = some u := by
      have h1 : ((inner.drop (j * 1)).take 1)[0]? = some u := by
        have : ((inner.drop (j * 1)).take 1) = [u] := hu
        rw [this]
        rfl
      rw [List.getElem?_take_of_lt (by omega), List.getElem?_drop, Nat.mul_one, Nat.add_zero] at h1
      exact h1
    refine ⟨(g', cap'), ?_, hle', fun i hi => ⟨?_, frozen_of_row w g' i cells _ hcells⟩, hfj, fun e => hne (by have e' : g' = g := e; rw [e']; rfl), hb'⟩
    · have := ho.cells (g := g) rfl j _ hin
      rw [addr_add, Nat.zero_add, hu'] at this
      exact this
    · obtain ⟨b, off, e, _, hcell⟩ := hI.at_ i (by rw [hl]; exact hi)
      injection e with e
      injection e with e1 e2 _
      subst e1 e2
      rw [Nat.zero_add] at hcell
      exact hcell
  obtain ⟨q, hq⟩ := choose_lt each
  exact ⟨g, cap, fun j => (q j).1, fun j => (q j).2, rfl, hle, hg, ⟨fun j hj => ⟨(hq j hj).1, (hq j hj).2.1⟩, fun j hj => (hq j hj).2.2.1, fun i hi j hj e => by
    have h1 := (hq i hi).2.2.2.1
    have h2 := (hq j hj).2.2.2.1
    have e' : (q i).1 = (q j).1 := e
    rw [← h1, e', h2], fun j hj => (hq j hj).2.2.2.2.1, fun j hj => (hq j hj).2.2.2.2.2⟩⟩

theorem own_same {w w' : World} {base e size n : Nat} {v : Value} {xs : List Value} (h : w.ownsRow base e size v n xs) (hs : ∀ b, v.ownBlock = some b → w'.heap[b]? = w.heap[b]?) : w'.ownsRow base e size v n xs := by
  refine ⟨h.1, ?_⟩
  rcases h.2 with h0 | ⟨g, cap, cur, rfl, hb, hh, r⟩
  · exact .inl h0
  · exact .inr ⟨g, cap, cur, rfl, hb, (hs g rfl).trans hh, r⟩
theorem ints_same {w w' : World} {b : Nat} {l : List Int} (h : Ints w (some ⟨b, 0, none⟩) l) (hs : w'.heap[b]? = w.heap[b]?) : Ints w' (some ⟨b, 0, none⟩) l :=
  ⟨h.len, fun i hi => by
    obtain ⟨b', off, e, hb, hc⟩ := h.at_ i hi
    injection e with e
    injection e with e1 e2 _
    subst e1 e2
    have hc' := (World.cell?_of_block (a := ⟨b, 0 + i, none⟩) hs).trans hc
    exact ⟨b, 0, rfl, World.block_lt_of_cell? w' _ hc', hc'⟩⟩
theorem heap_set_other (w : World) (g o : Nat) (v : Value) (b : Nat) (h : b ≠ g) : (w.setCell ⟨g, o, none⟩ v).heap[b]? = w.heap[b]? := by
  simp [World.setCell, Array.getElem?_modify, Ne.symm h]
theorem Tab2.same {w w' : World} {B g : Nat} {h cp : Nat → Nat} {M c : Nat} {f : Nat → Nat → Int} (t : Tab2 w B g h cp M c f) (hg : w'.heap[g]? = w.heap[g]?) (hh : ∀ j, j < M → w'.heap[h j]? = w.heap[h j]?) : Tab2 w' B g h cp M c f :=
  ⟨fun j hj => ⟨(World.cell?_of_block (a := ⟨g, j, none⟩) hg).trans (t.outer j hj).1, (t.outer j hj).2⟩,
   fun j hj i hi => ⟨(World.cell?_of_block (a := ⟨h j, i, none⟩) (hh j hj)).trans (t.inner j hj i hi).1, (World.frozen?_of_block (a := ⟨h j, i, none⟩) (hh j hj)).trans (t.inner j hj i hi).2⟩, t.inj, t.apart, t.base⟩
theorem Tab2.glt {w : World} {B g : Nat} {h cp : Nat → Nat} {M c : Nat} {f : Nat → Nat → Int} (t : Tab2 w B g h cp M c f) (hM : 0 < M) : g < w.heap.size := World.block_lt_of_cell? w _ (t.outer 0 hM).1
theorem Tab2.hlt {w : World} {B g : Nat} {h cp : Nat → Nat} {M c : Nat} {f : Nat → Nat → Int} (t : Tab2 w B g h cp M c f) (hc : 0 < c) (j : Nat) (hj : j < M) : h j < w.heap.size := World.block_lt_of_cell? w _ (t.inner j hj 0 hc).1
theorem Tab2.below {w w' : World} {B g : Nat} {h cp : Nat → Nat} {M c : Nat} {f : Nat → Nat → Int} (t : Tab2 w B g h cp M c f) (hM : 0 < M) (hc : 0 < c) (hb : Below w.heap.size w w') : Tab2 w' B g h cp M c f :=
  t.same (hb.block g (t.glt hM)) (fun j hj => hb.block _ (t.hlt hc j hj))
theorem Tab2.row {w : World} {B g : Nat} {h cp : Nat → Nat} {M c : Nat} {f : Nat → Nat → Int} (t : Tab2 w B g h cp M c f) (hm : c ≤ 9223372036854775807) (j : Nat) (hj : j < M) : Ints w (some ⟨h j, 0, none⟩) ((List.range c).map fun i => f j i) :=
  ⟨by simpa using hm, fun i hi => by
    have hi' : i < c := by simpa using hi
    have h3 := (t.inner j hj i hi').1
    have e2 : ((List.range c).map fun i => f j i).getD i 0 = f j i := by simp [List.getD_eq_getElem?_getD, List.getElem?_map, List.getElem?_range hi']
    rw [e2]
    exact ⟨h j, 0, rfl, World.block_lt_of_cell? w _ h3, by rw [Nat.zero_add]; exact h3⟩⟩

theorem lists_info : (Tryd.prog.info? 25).map (fun i => (i.zero, i.size, i.bytes)) = some (some (.slice none 0 0), 1, 24) := by kernel_rfl
/-- append of one slice of numbers onto a row of such slices -/
theorem wp_app_row (w : World) {ops : Array Oper} {rest : List Oper} {o : Oper} {a : Act} {Q : Exit → Act → World → Prop} (hgd : o.guard = none) (s x : Operand)
    (ho : o.op = .call { callee := .builtin .append, args := #[s, x], argTypes := #[22, 22] })
    (base : Nat) (v : Value) (k : Nat) (vals : List Value) (hs : a.eval s = v) (hown : w.ownsRow base 25 1 v k vals)
    (b c : Nat) (u : Value) (hu : u.oneCell' = true) (hx : a.eval x = .slice (some ⟨b, 0, none⟩) 1 c) (hb : b < w.heap.size) (hcell : w.cell? ⟨b, 0, none⟩ = some u)
    (hbytes : (k + 1) * 24 ≤ 140737488355328) (hbase : base ≤ w.heap.size)
    (h : ∀ A' c' w', k + 1 ≤ c' → w'.ownsRow base 25 1 (.slice A' (k + 1) c') (k + 1) (vals ++ [u]) → w.grownBy w' v.ownBlock → ((Value.slice A' (k + 1) c').ownBlock = v.ownBlock ∨ (Value.slice A' (k + 1) c').ownBlock = some w.heap.size) →
      wpList Tryd.prog ops Q rest (a.put o.dst (.slice A' (k + 1) c')) w') : wpList Tryd.prog ops Q (o :: rest) a w := by
  obtain ⟨i0, hi0, hz0, hz1, hz2⟩ := info_parts lists_info
  have hr : Reads w w.heap.size 1 (some ⟨b, 0, none⟩) 1 [u] := ⟨rfl, fun _ => ⟨⟨b, 0, none⟩, rfl, hb, fun j u' hu' => by
    cases j with
    | zero =>
      have : u = u' := by simpa using hu'
      subst this
      rw [addr_add]; exact hcell
    | succ j => simp at hu'⟩⟩
  refine wpList_append_any w hgd s x _ ho base 25 i0 _ 1 24 Tryd.underlying22 hi0 hz0 hz1 hz2 rfl (by omega) v k vals hs hown w.heap.size (some ⟨b, 0, none⟩) 1 c [u] hx hr (fun y hy => by
    have : y = u := by simpa using hy
    rw [this]; exact hu) (by simp only [maxLen]; omega) hbytes hbase ?_
  intro v' w' h1 h2 h3
  obtain ⟨A', c', rfl, hc, _⟩ := own_shape h1
  exact h A' c' w' hc h1 h2 h3

/-- the first k rows of a copy, each in a block of its own -/
structure Build (w : World) (base : Nat) (v : Value) (k n : Nat) (h cp : Nat → Nat) (f : Nat → Nat → Int) : Prop where
  spine : w.ownsRow base 25 1 v k ((List.range k).map fun j => Value.slice (some ⟨h j, 0, none⟩) n (cp j))
  inner : ∀ j, j < k → ∀ i, i < n → w.cell? ⟨h j, i, none⟩ = some (.int .i64 (f j i)) ∧ w.frozen? ⟨h j, i, none⟩ = false
  cap : ∀ j, j < k → n ≤ cp j
  inj : ∀ i, i < k → ∀ j, j < k → h i = h j → i = j
  apart : ∀ j, j < k → some (h j) ≠ v.ownBlock
  base : ∀ j, j < k → base ≤ h j
  lt : ∀ j, j < k → h j < w.heap.size
theorem Build.nil (w : World) (base n : Nat) (f : Nat → Nat → Int) : Build w base (.slice none 0 0) 0 n (fun _ => 0) (fun _ => 0) f :=
  ⟨nil_own _ _ _ _, fun j h => absurd h (Nat.not_lt_zero _), fun j h => absurd h (Nat.not_lt_zero _), fun j h => absurd h (Nat.not_lt_zero _), fun j h => absurd h (Nat.not_lt_zero _), fun j h => absurd h (Nat.not_lt_zero _), fun j h => absurd h (Nat.not_lt_zero _)⟩
theorem range_step (k : Nat) (F G : Nat → Value) (h : ∀ j, j < k → G j = F j) : (List.range (k + 1)).map G = (List.range k).map F ++ [G k] := by
  rw [List.range_succ, List.map_append]
  congr 1
  exact List.map_congr_left (fun j hj => h j (List.mem_range.1 hj))
theorem Build.more {wi w2 w3 : World} {base k n : Nat} {v v' : Value} {h cp : Nat → Nat} {f : Nat → Nat → Int} {o : Obj} {g2 D : Nat} (hB : Build wi base v k n h cp f) (hb2 : Below wi.heap.size wi w2)
    (hc : ∀ i, i < n → w2.cell? ⟨g2, i, none⟩ = some (.int .i64 (f k i)) ∧ w2.frozen? ⟨g2, i, none⟩ = false) (hgi : wi.heap.size ≤ g2) (hg2 : g2 < w2.heap.size) (hD : n ≤ D) (hbase : base ≤ wi.heap.size)
    (ho3 : w3.ownsRow base 25 1 v' (k + 1) (((List.range k).map fun j => Value.slice (some ⟨h j, 0, none⟩) n (cp j)) ++ [.slice (some ⟨g2, 0, none⟩) n D]))
    (hg3 : (w2.alloc o).grownBy w3 v.ownBlock) (hor : v'.ownBlock = v.ownBlock ∨ v'.ownBlock = some (w2.alloc o).heap.size) :
    Build w3 base v' (k + 1) n (fun j => if j = k then g2 else h j) (fun j => if j = k then D else cp j) f := by
  have hsz : (w2.alloc o).heap.size = w2.heap.size + 1 := World.size_alloc _ _
  have hvl : ∀ b, v.ownBlock = some b → b < wi.heap.size := fun b e => (hB.spine.lt b e).2
  have old : ∀ j, j < k → w3.heap[h j]? = wi.heap[h j]? := fun j hj => by
    have l1 := hB.lt j hj
    have l2 := hb2.size
    rw [hg3.block (h j) (by omega) (hB.apart j hj), alloc_old _ _ _ (by omega), hb2.block _ l1]
  have new : w3.heap[g2]? = w2.heap[g2]? := by
    rw [hg3.block g2 (by omega) (fun e => by have := hvl g2 e.symm; omega), alloc_old _ _ _ hg2]
  have hs3 := hg3.size
  refine ⟨?_, fun j hj i hi => ?_, fun j hj => ?_, fun i hi j hj e => ?_, fun j hj => ?_, fun j hj => ?_, fun j hj => ?_⟩
  · rw [range_step k (fun j => Value.slice (some ⟨h j, 0, none⟩) n (cp j)) _ (fun j hj => by simp only [if_neg (show j ≠ k by omega)])]
    simp only [if_true]
    exact ho3
  · by_cases q : j = k
    · subst q
      simp only [if_true]
      exact ⟨(World.cell?_of_block (a := ⟨g2, i, none⟩) new).trans (hc i hi).1, (World.frozen?_of_block (a := ⟨g2, i, none⟩) new).trans (hc i hi).2⟩
    · simp only [if_neg q]
      have hj' : j < k := by omega
      exact ⟨(World.cell?_of_block (a := ⟨h j, i, none⟩) (old j hj')).trans (hB.inner j hj' i hi).1, (World.frozen?_of_block (a := ⟨h j, i, none⟩) (old j hj')).trans (hB.inner j hj' i hi).2⟩
  · by_cases q : j = k
    · simp only [if_pos q]; exact hD
    · simp only [if_neg q]; exact hB.cap j (by omega)
  · by_cases qi : i = k
    · by_cases qj : j = k
      · omega
      · simp only [if_pos qi, if_neg qj] at e
        have := hB.lt j (by omega)
        omega
    · by_cases qj : j = k
      · simp only [if_neg qi, if_pos qj] at e
        have := hB.lt i (by omega)
        omega
      · simp only [if_neg qi, if_neg qj] at e
        exact hB.inj i (by omega) j (by omega) e
  · by_cases q : j = k
    · simp only [if_pos q]
      rcases hor with e | e
      · rw [e]; intro e2; have := hvl g2 e2.symm; omega
      · rw [e]; intro e2; injection e2 with e2; omega
    · simp only [if_neg q]
      rcases hor with e | e
      · rw [e]; exact hB.apart j (by omega)
      · rw [e]; intro e2; injection e2 with e2; have := hB.lt j (by omega); have := hb2.size; omega
  · by_cases q : j = k
    · simp only [if_pos q]; omega
    · simp only [if_neg q]; exact hB.base j (by omega)
  · by_cases q : j = k
    · simp only [if_pos q]; omega
    · simp only [if_neg q]; have := hB.lt j (by omega); have := hb2.size; omega
theorem Build.tab {w : World} {base : Nat} {v : Value} {n : Nat} {h cp : Nat → Nat} {f : Nat → Nat → Int} (hB : Build w base v n n h cp f) (hn : 0 < n) : ∃ g cap, v = .slice (some ⟨g, 0, none⟩) n cap ∧ base ≤ g ∧ Tab2 w base g h cp n n f := by
  obtain ⟨g, cap, e, hg, _⟩ := hB.spine.form hn
  subst e
  refine ⟨g, cap, rfl, hg, ⟨fun j hj => ⟨?_, hB.cap j hj⟩, hB.inner, hB.inj, fun j hj e => hB.apart j hj (by rw [e]; rfl), hB.base⟩⟩
  have := hB.spine.cells (g := g) rfl j (.slice (some ⟨h j, 0, none⟩) n (cp j)) (by rw [List.getElem?_map, List.getElem?_range hj]; rfl)
  rw [addr_add, Nat.zero_add] at this
  exact this

/-- the permutations so far, how often each; all apart from the table -/
structure PSt (w : World) (base g n : Nat) (h : Nat → Nat) (pv ov : Value) (acc : List (List Int × Int)) (pb px : Nat → Nat) : Prop where
  po : w.ownsRow base 25 1 pv acc.length ((List.range acc.length).map fun j => Value.slice (some ⟨pb j, 0, none⟩) n (px j))
  oo : w.ownsRow base 3 1 ov acc.length (intCells (acc.map Prod.snd))
  rows : ∀ j, j < acc.length → Ints w (some ⟨pb j, 0, none⟩) (acc.getD j ([], 0)).1 ∧ n ≤ px j ∧ (acc.getD j ([], 0)).1.length = n ∧ pb j < w.heap.size
  pbh : ∀ j, j < acc.length → ∀ i, i < n → pb j ≠ h i
  pbv : ∀ j, j < acc.length → some (pb j) ≠ pv.ownBlock ∧ some (pb j) ≠ ov.ownBlock
  hv : ∀ i, i < n → some (h i) ≠ pv.ownBlock ∧ some (h i) ≠ ov.ownBlock
  gv : some g ≠ pv.ownBlock ∧ some g ≠ ov.ownBlock
  ne : ∀ b, pv.ownBlock = some b → ov.ownBlock ≠ some b
theorem PSt.nil (w : World) (base g n : Nat) (h : Nat → Nat) : PSt w base g n h (.slice none 0 0) (.slice none 0 0) [] (fun _ => 0) (fun _ => 0) :=
  ⟨nil_own _ _ _ _, nil_own _ _ _ _, fun j q => absurd q (Nat.not_lt_zero _), fun j q => absurd q (Nat.not_lt_zero _), fun j q => absurd q (Nat.not_lt_zero _), fun i _ => ⟨by simp [Value.ownBlock], by simp [Value.ownBlock]⟩, ⟨by simp [Value.ownBlock], by simp [Value.ownBlock]⟩, fun b e => by simp [Value.ownBlock] at e⟩
theorem PSt.same {w w' : World} {base g n : Nat} {h : Nat → Nat} {pv ov : Value} {acc : List (List Int × Int)} {pb px : Nat → Nat} (s : PSt w base g n h pv ov acc pb px) (hsz : w.heap.size ≤ w'.heap.size) (hs : ∀ b, b < w.heap.size → (∀ i, i < n → b ≠ h i) → w'.heap[b]? = w.heap[b]?) : PSt w' base g n h pv ov acc pb px :=
  ⟨own_same s.po (fun b e => hs b (s.po.lt b e).2 (fun i hi q => (s.hv i hi).1 (by rw [e, q]))), own_same s.oo (fun b e => hs b (s.oo.lt b e).2 (fun i hi q => (s.hv i hi).2 (by rw [e, q]))),
   fun j hj => by
    obtain ⟨h1, h2, h3, h4⟩ := s.rows j hj
    exact ⟨ints_same h1 (hs _ h4 (s.pbh j hj)), h2, h3, Nat.lt_of_lt_of_le h4 hsz⟩, s.pbh, s.pbv, s.hv, s.gv, s.ne⟩
theorem PSt.below {w w' : World} {base g n : Nat} {h : Nat → Nat} {pv ov : Value} {acc : List (List Int × Int)} {pb px : Nat → Nat} (s : PSt w base g n h pv ov acc pb px) (hb : Below w.heap.size w w') : PSt w' base g n h pv ov acc pb px :=
  s.same hb.size (fun b hb' _ => hb.block b hb')
theorem PSt.set {w : World} {base g n : Nat} {h : Nat → Nat} {pv ov : Value} {acc : List (List Int × Int)} {pb px : Nat → Nat} (s : PSt w base g n h pv ov acc pb px) (i o : Nat) (hi : i < n) (v : Value) : PSt (w.setCell ⟨h i, o, none⟩ v) base g n h pv ov acc pb px :=
  s.same (by simp [World.setCell]) (fun b _ hn => heap_set_other w (h i) o v b (hn i hi))
theorem PSt.more {w5 w7 w9 : World} {base g n : Nat} {h : Nat → Nat} {pv ov pv' ov' : Value} {acc : List (List Int × Int)} {pb px : Nat → Nat} (s : PSt w5 base g n h pv ov acc pb px) {o1 o2 : Obj} {gp xp : Nat} {p : List Int} {x : Int}
    (hp : Ints w5 (some ⟨gp, 0, none⟩) p) (hpl : p.length = n) (hgp : gp < w5.heap.size) (hxp : n ≤ xp) (n1 : ∀ i, i < n → gp ≠ h i) (n2 : some gp ≠ pv.ownBlock ∧ some gp ≠ ov.ownBlock)
    (h7 : w7.ownsRow base 25 1 pv' (acc.length + 1) (((List.range acc.length).map fun j => Value.slice (some ⟨pb j, 0, none⟩) n (px j)) ++ [.slice (some ⟨gp, 0, none⟩) n xp])) (g7 : (w5.alloc o1).grownBy w7 pv.ownBlock) (r7 : pv'.ownBlock = pv.ownBlock ∨ pv'.ownBlock = some (w5.alloc o1).heap.size)
    (h9 : w9.ownsRow base 3 1 ov' (acc.length + 1) (intCells (acc.map Prod.snd ++ [x]))) (g9 : (w7.alloc o2).grownBy w9 ov.ownBlock) (r9 : ov'.ownBlock = ov.ownBlock ∨ ov'.ownBlock = some (w7.alloc o2).heap.size)
    (hlt : ∀ i, i < n → h i < w5.heap.size) (hg : g < w5.heap.size) :
    PSt w9 base g n h pv' ov' (acc ++ [(p, x)]) (fun j => if j = acc.length then gp else pb j) (fun j => if j = acc.length then xp else px j) ∧
      (∀ b, b < w5.heap.size → some b ≠ pv.ownBlock → some b ≠ ov.ownBlock → w9.heap[b]? = w5.heap[b]?) ∧ w5.heap.size ≤ w9.heap.size := by
  have z5 : (w5.alloc o1).heap.size = w5.heap.size + 1 := World.size_alloc _ _
  have z7 : (w7.alloc o2).heap.size = w7.heap.size + 1 := World.size_alloc _ _
  have s7 := g7.size
  have s9 := g9.size
  have pvl : ∀ b, pv.ownBlock = some b → b < w5.heap.size := fun b e => (s.po.lt b e).2
  have ovl : ∀ b, ov.ownBlock = some b → b < w5.heap.size := fun b e => (s.oo.lt b e).2
  have keep : ∀ b, b < w5.heap.size → some b ≠ pv.ownBlock → some b ≠ ov.ownBlock → w9.heap[b]? = w5.heap[b]? := fun b hb e1 e2 => by
    rw [g9.block b (by omega) e2, alloc_old _ _ _ (by omega), g7.block b (by omega) e1, alloc_old _ _ _ hb]
  have fresh : ∀ b, b < w5.heap.size → some b ≠ pv.ownBlock → some b ≠ ov.ownBlock → some b ≠ pv'.ownBlock ∧ some b ≠ ov'.ownBlock := fun b hb e1 e2 => by
    constructor
    · rcases r7 with e | e
      · rw [e]; exact e1
      · rw [e]; intro q; injection q with q; omega
    · rcases r9 with e | e
      · rw [e]; exact e2
      · rw [e]; intro q; injection q with q; omega
  have gl : ∀ j, j < acc.length → (acc ++ [(p, x)]).getD j ([], 0) = acc.getD j ([], 0) := fun j hj => by simp [List.getD_eq_getElem?_getD, List.getElem?_append_left hj]
  have gr : (acc ++ [(p, x)]).getD acc.length ([], 0) = (p, x) := by simp [List.getD_eq_getElem?_getD]
  have hlen : (acc ++ [(p, x)]).length = acc.length + 1 := by simp
  refine ⟨⟨?_, ?_, fun j hj => ?_, fun j hj i hi => ?_, fun j hj => ?_, fun i hi => fresh _ (hlt i hi) (s.hv i hi).1 (s.hv i hi).2, fresh g hg s.gv.1 s.gv.2, fun b e => ?_⟩, keep, by omega⟩
  · rw [hlen, range_step acc.length (fun j => Value.slice (some ⟨pb j, 0, none⟩) n (px j)) _ (fun j hj => by simp only [if_neg (show j ≠ acc.length by omega)])]
    simp only [if_true]
    refine own_same h7 (fun b e => ?_)
    have hb7 := (h7.lt b e).2
    rw [g9.block b (by omega) (fun q => ?_), alloc_old _ _ _ hb7]
    rcases r7 with e2 | e2
    · rw [e2] at e; exact s.ne b e q.symm
    · rw [e2] at e; injection e with e; have := ovl b q.symm; omega
  · rw [hlen, List.map_append]
    exact h9
  · rw [hlen] at hj
    by_cases q : j = acc.length
    · subst q
      simp only [if_true]
      rw [gr]
      exact ⟨ints_same hp (keep gp hgp n2.1 n2.2), hxp, hpl, by omega⟩
    · simp only [if_neg q]
      have hj' : j < acc.length := by omega
      obtain ⟨a1, a2, a3, a4⟩ := s.rows j hj'
      rw [gl j hj']
      exact ⟨ints_same a1 (keep _ a4 (s.pbv j hj').1 (s.pbv j hj').2), a2, a3, by omega⟩
  · rw [hlen] at hj
    by_cases q : j = acc.length
    · simp only [if_pos q]; exact n1 i hi
    · simp only [if_neg q]; exact s.pbh j (by omega) i hi
  · rw [hlen] at hj
    by_cases q : j = acc.length
    · simp only [if_pos q]; exact fresh gp hgp n2.1 n2.2
    · simp only [if_neg q]
      have hj' : j < acc.length := by omega
      exact fresh _ (s.rows j hj').2.2.2 (s.pbv j hj').1 (s.pbv j hj').2
  · rcases r7 with e7 | e7
    · rw [e7] at e
      rcases r9 with e9 | e9
      · rw [e9]; exact s.ne b e
      · rw [e9]; intro q; injection q with q; have := pvl b e; omega
    · rw [e7] at e
      injection e with e
      rcases r9 with e9 | e9
      · rw [e9]; intro q; have := ovl b q; omega
      · rw [e9]; intro q; injection q with q; omega
theorem PSt.lists {w : World} {base g n : Nat} {h : Nat → Nat} {pv ov : Value} {acc : List (List Int × Int)} {pb px : Nat → Nat} (s : PSt w base g n h pv ov acc pb px) :
    ∃ A c B d, pv = .slice A acc.length c ∧ acc.length ≤ c ∧ Lists w A (acc.map Prod.fst) ∧ ov = .slice B acc.length d ∧ acc.length ≤ d ∧ Ints w B (acc.map Prod.snd) := by
  obtain ⟨A, c, rfl, hc, hm⟩ := own_shape s.po
  obtain ⟨B, d, rfl, hd, _⟩ := own_shape s.oo
  refine ⟨A, c, B, d, rfl, hc, ⟨by simpa using hm, fun j hj => ?_⟩, rfl, hd, own_ints s.oo (by simp)⟩
  have hj' : j < acc.length := by simpa using hj
  obtain ⟨a1, a2, a3, _⟩ := s.rows j hj'
  obtain ⟨b, cap, e, _, hlt⟩ := s.po.form (by omega)
  injection e with e1 _ e2
  subst e1 e2
  have hcell := s.po.cells (g := b) rfl j (.slice (some ⟨pb j, 0, none⟩) n (px j)) (by rw [List.getElem?_map, List.getElem?_range hj']; rfl)
  rw [addr_add] at hcell
  have e3 : (acc.map Prod.fst).getD j [] = (acc.getD j ([], 0)).1 := by simp [List.getD_eq_getElem?_getD, List.getElem?_map, List.getElem?_eq_getElem hj']
  rw [e3]
  exact ⟨b, 0, some ⟨pb j, 0, none⟩, px j, rfl, hlt, by rw [hcell, a3], by rw [a3]; exact a2, a1⟩
end Go.Proofs.YtcnecmcbjpehcaaDoor

/- The walks of the comparison inside order.Moves and of slices.SortStableFunc with it, at most twenty places (one block of Go's insertion sort). No condition. -/
namespace Go.Proofs.YtcnecmcbjpehcaaDoor
open Go.RowKit Go.Deep Go.Proofs.YtcnecmcbjpehcaaDoorW.PrintWords

def keyOf (now : List Int) (x : Int) : Int := now.getD x.toNat 0
theorem cmpM_ok (bx gn D : Nat) (now : List Int) (a b : Int) (w : World) (hb : w.cell? ⟨bx, 0, none⟩ = some (.slice (some ⟨gn, 0, none⟩) now.length D)) (hI : Ints w (some ⟨gn, 0, none⟩) now) (hn : numb now = true)
    (ha : 0 ≤ a ∧ a < now.length) (hb2 : 0 ≤ b ∧ b < now.length) :
    Calls Tryd.prog 50 #[.int .i64 a, .int .i64 b, .pointer (some ⟨bx, 0, none⟩)] w fun e w' => e = .returned (.int .i64 (keyOf now b - keyOf now a)) ∧ Drawn0 w w' := by
  obtain ⟨a0, a1⟩ := ha
  obtain ⟨b0, b1⟩ := hb2
  have hlen := hI.len
  have get : ∀ i, i < now.length → w.cell? ⟨gn, i, none⟩ = some (.int .i64 (now.getD i 0)) := fun i hi => by
    obtain ⟨b', off, e, _, hc⟩ := hI.at_ i hi
    injection e with e
    injection e with e1 e2 _
    subst e1 e2
    rw [Nat.zero_add] at hc
    exact hc
  have ca := get a.toNat (by omega)
  have cb := get b.toNat (by omega)
  have na := numb_get hn a.toNat (by omega)
  have nb := numb_get hn b.toNat (by omega)
  unfold keyOf
  generalize now.getD a.toNat 0 = x at ca na ⊢
  generalize now.getD b.toNat 0 = y at cb nb ⊢
  have hw : IntKind.i64.wrap (y - x) = y - x := IntWalk.i64_in _ (by omega)
  clear get na nb hI hn
  go_enter Tryd.func50, Tryd.ntmps50
  go_wp2_with (fail)
  go_quiet (fail)
  go_wp2_with (fail)
  go_ret
  exact ⟨rfl, ⟨⟨nq, rfl⟩⟩⟩

theorem swap_perm (l : List Int) (i j : Nat) (hi : i < l.length) (hj : j < l.length) (hij : i ≠ j) : ((l.set i (l.getD j 0)).set j (l.getD i 0)).Perm l := by
  have gi : l.getD i 0 = l[i] := by simp [List.getD_eq_getElem?_getD, hi]
  have gj : l.getD j 0 = l[j] := by simp [List.getD_eq_getElem?_getD, hj]
  rw [gi, gj, List.perm_iff_count]
  intro b
  have hj' : j < (l.set i l[j]).length := by rw [List.length_set]; exact hj
  have e1 : (l.set i l[j])[j]'hj' = l[j] := List.getElem_set_ne hij hj'
  rw [List.count_set hj', List.count_set hi, e1]
  have c1 : l[i] = b → 0 < l.count b := fun e => List.count_pos_iff.2 (e ▸ List.getElem_mem hi)
  have c2 : l[j] = b → 0 < l.count b := fun e => List.count_pos_iff.2 (e ▸ List.getElem_mem hj)
  by_cases p : l[i] = b
  · by_cases q : l[j] = b
    · have := c1 p
      simp only [p, q, beq_self_eq_true, if_true]
      omega
    · have := c1 p
      have q' : (l[j] == b) = false := by rw [beq_eq_false_iff_ne]; exact q
      simp only [p, q', beq_self_eq_true, if_true, Bool.false_eq_true, if_false]
      omega
  · have p' : (l[i] == b) = false := by rw [beq_eq_false_iff_ne]; exact p
    by_cases q : l[j] = b
    · have := c2 q
      simp only [q, p', beq_self_eq_true, if_true, Bool.false_eq_true, if_false]
      omega
    · have q' : (l[j] == b) = false := by rw [beq_eq_false_iff_ne]; exact q
      simp only [q', p', Bool.false_eq_true, if_false]
      omega
theorem swap_at (l : List Int) (i j : Nat) (hi : i < l.length) (hj : j < l.length) (k : Nat) : ((l.set i (l.getD j 0)).set j (l.getD i 0)).getD k 0 = if k = j then l.getD i 0 else if k = i then l.getD j 0 else l.getD k 0 := by
  have s : ∀ (l : List Int) (i k : Nat) (v : Int), i < l.length → (l.set i v).getD k 0 = if k = i then v else l.getD k 0 := fun l i k v h => by
    by_cases e : k = i
    · subst e
      rw [if_pos rfl, List.getD_eq_getElem?_getD, List.getElem?_set_self h]
      rfl
    · rw [if_neg e, List.getD_eq_getElem?_getD, List.getElem?_set_ne (fun q => e q.symm), ← List.getD_eq_getElem?_getD]
  rw [s _ j k _ (by rw [List.length_set]; exact hj), s l i k _ hi]
/-- the first n places fall by their keys, but for the place j -/
def fallsBut (key : Int → Int) (l : List Int) (n : Nat) (j : Nat) : Prop := ∀ a b, a < b → b < n → b ≠ j → key (l.getD b 0) ≤ key (l.getD a 0)
theorem fallsBut_swap {key : Int → Int} {l : List Int} {n j : Nat} (h : fallsBut key l n (j + 1)) (hj : j + 1 < l.length) (hk : key (l.getD j 0) < key (l.getD (j + 1) 0)) : fallsBut key ((l.set (j + 1) (l.getD j 0)).set j (l.getD (j + 1) 0)) n j := by
  intro a b hab hb hne
  have at_ := swap_at l (j + 1) j hj (by omega)
  rw [at_ a, at_ b, if_neg hne]
  by_cases e1 : b = j + 1
  · rw [if_pos e1]
    by_cases e2 : a = j
    · rw [if_pos e2]; omega
    · rw [if_neg e2, if_neg (by omega)]
      exact h a j (by omega) (by omega) (by omega)
  · rw [if_neg e1]
    by_cases e2 : a = j
    · rw [if_pos e2]; exact h (j + 1) b (by omega) hb e1
    · rw [if_neg e2]
      by_cases e3 : a = j + 1
      · rw [if_pos e3]; exact h j b (by omega) hb e1
      · rw [if_neg e3]; exact h a b hab hb e1
theorem fallsBut_stop {key : Int → Int} {l : List Int} {n j : Nat} (h : fallsBut key l n j) (hs : ∀ i, i + 1 = j → key (l.getD j 0) ≤ key (l.getD i 0)) : fallsBut key l n n := by
  intro a b hab hb _
  by_cases e : b = j
  · subst e
    obtain ⟨i, rfl⟩ : ∃ i, b = i + 1 := ⟨b - 1, by omega⟩
    have h1 := hs i rfl
    by_cases e2 : a = i
    · subst e2; exact h1
    · have := h a i (by omega) (by omega) (by omega)
      omega
  · exact h a b hab hb e
theorem grown_set {w w' : World} {g : Nat} (h : w.grownBy w' (some g)) (o : Nat) (v : Value) : w.grownBy (w'.setCell ⟨g, o, none⟩ v) (some g) :=
  ⟨h.os, h.tape, h.output, by have := h.size; simpa [World.setCell] using this, fun k hk hne => (heap_set_other w' g o v k (fun e => hne (by rw [e]))).trans (h.block k hk hne)⟩
theorem grown_drewN {w w' : World} {r : Option Nat} (h : w.grownBy w' r) (n : Nat) : w.grownBy (w'.drewN n) r := ⟨h.os, h.tape, h.output, h.size, h.block⟩
end Go.Proofs.YtcnecmcbjpehcaaDoor

/- The walk of Go's insertion sort with the comparison of order.Moves, and of slices.SortStableFunc at at most twenty places. No condition. -/
namespace Go.Proofs.YtcnecmcbjpehcaaDoor
open Go.RowKit Go.Deep Go.Proofs.YtcnecmcbjpehcaaDoorW.PrintWords

theorem own_cell {W : World} {base g n cap : Nat} {e : TypeId} {l : List Int} (h : W.ownsRow base e 1 (.slice (some ⟨g, 0, none⟩) n cap) n (intCells l)) (i : Nat) (hi : i < n) : W.cell? ⟨g, i, none⟩ = some (.int .i64 (l.getD i 0)) ∧ W.frozen? ⟨g, i, none⟩ = false := by
  have := own_at (k := .i64) h (i : Int) (by omega) (by omega)
  rw [Int.toNat_natCast] at this
  exact this
theorem own_put {W : World} {base g n cap : Nat} {e : TypeId} {l : List Int} (h : W.ownsRow base e 1 (.slice (some ⟨g, 0, none⟩) n cap) n (intCells l)) (i : Nat) (x : Int) : (W.setCell ⟨g, i, none⟩ (.int .i64 x)).ownsRow base e 1 (.slice (some ⟨g, 0, none⟩) n cap) n (intCells (l.set i x)) := by
  have := (own_store (k := .i64) h (i : Int) x).1
  rw [Int.toNat_natCast] at this
  exact this

set_option maxRecDepth 100000 in
set_option maxHeartbeats 4000000 in
theorem insM_ok (base g d bx gn D : Nat) (now data : List Int) (w : World) (ho : w.ownsRow base 3 1 (.slice (some ⟨g, 0, none⟩) data.length d) data.length (intCells data))
    (hbx : w.cell? ⟨bx, 0, none⟩ = some (.slice (some ⟨gn, 0, none⟩) now.length D)) (hI : Ints w (some ⟨gn, 0, none⟩) now) (hn : numb now = true) (hne1 : bx ≠ g) (hne2 : gn ≠ g) (hgn : gn < w.heap.size) (hd : ∀ x, x ∈ data → 0 ≤ x ∧ x < now.length) (h0 : 0 < data.length) (h20 : data.length ≤ 20) :
    Calls Tryd.prog 76 #[.slice (some ⟨g, 0, none⟩) data.length d, .int .i64 0, .int .i64 data.length, .func (.func 50) #[] #[.pointer (some ⟨bx, 0, none⟩)]] w fun e w' =>
      e = .returned (.tuple #[]) ∧ ∃ data', data'.Perm data ∧ fallsBut (keyOf now) data' data.length data.length ∧ w'.ownsRow base 3 1 (.slice (some ⟨g, 0, none⟩) data.length d) data.length (intCells data') ∧ w.grownBy w' (some g) := by
  have eg : ∀ args w, (callFunc 50 args).run Tryd.prog w = .ok (.enter 50 args) w := enters_of Tryd.func50 (by kernel_rfl) rfl
  have hbl := World.block_lt_of_cell? w _ hbx
  have HCM := hide (fun (W : World) (hg : w.grownBy W (some g)) (x y : Int) (hx : 0 ≤ x ∧ x < now.length) (hy : 0 ≤ y ∧ y < now.length) => cmpM_ok bx gn D now x y W
    ((World.cell?_of_block (a := ⟨bx, 0, none⟩) (hg.block bx hbl (fun e => hne1 (by injection e)))).trans hbx) (ints_same hI (hg.block gn hgn (fun e => hne2 (by injection e)))) hn hx hy)
  have HD := hide hd
  have n0 : (0 : Int) < (data.length : Int) := by omega
  have n20 : (data.length : Int) ≤ 20 := by omega
  have HO := hide ho
  clear ho hbx hI hd
  go_enter Tryd.func76, Tryd.ntmps76
  go_wp2_with (fail)
  go_loopw [8] (fun v wr => ∃ (i : Nat) (dat : List Int), 1 ≤ i ∧ i ≤ data.length ∧ v = .int .i64 i ∧ Hid (dat.Perm data ∧ fallsBut (keyOf now) dat i i) ∧ Hid (wr.ownsRow base 3 1 (.slice (some ⟨g, 0, none⟩) data.length d) data.length (intCells dat) ∧ w.grownBy wr (some g))) (fun v _ => data.length - (intOf v).toNat)
  case atStart => exact ⟨1, data, Nat.le_refl _, h0, rfl, hide ⟨List.Perm.refl _, fun a b h1 h2 => by omega⟩, hide ⟨HO.out, World.grownBy.refl _ _⟩⟩
  case round =>
    obtain ⟨i, dat, hi1, hi, rfl, HP, HW⟩ := hrel
    obtain ⟨wi, rfl⟩ : ∃ wi : World, wi = wr := ⟨_, rfl⟩
    have i0 : (0 : Int) ≤ (i : Int) := Int.natCast_nonneg _
    by_cases hil : i < data.length
    · have i1 : (i : Int) < (data.length : Int) := by omega
      go_wp2_with (fail)
      go_loopw [9] (fun v wr => ∃ (j : Nat) (dat : List Int), j ≤ i ∧ v = .int .i64 j ∧ Hid (dat.Perm data ∧ fallsBut (keyOf now) dat (i + 1) j) ∧ Hid (wr.ownsRow base 3 1 (.slice (some ⟨g, 0, none⟩) data.length d) data.length (intCells dat) ∧ w.grownBy wr (some g))) (fun v _ => (intOf v).toNat)
      case atStart => exact ⟨i, dat, Nat.le_refl _, rfl, hide ⟨HP.out.1, fun a b h1 h2 h3 => HP.out.2 a b h1 (by omega) h3⟩, HW⟩
      case round =>
        obtain ⟨j, dt, hj, rfl, HQ, HV⟩ := hrel
        obtain ⟨wk, rfl⟩ : ∃ wk : World, wk = wr := ⟨_, rfl⟩
        have j0 : (0 : Int) ≤ (j : Int) := Int.natCast_nonneg _
        have hlen : dt.length = data.length := HQ.out.1.length_eq
        by_cases hjz : j = 0
        · subst hjz
          have HF := hide (fallsBut_stop HQ.out.2 (fun i h => by omega))
          go_wp2_with (fail)
          go_quiet (fail)
          go_wp2_with (fail)
          go_roundw
          case rel => exact ⟨i + 1, dt, by omega, by omega, by go_num, hide ⟨HQ.out.1, HF.out⟩, hide ⟨HV.out.1, grown_drewN HV.out.2 _⟩⟩
          case measure => simp [intOf]; omega
        · have j1 : (0 : Int) < (j : Int) := by omega
          have j2 : (j : Int) < (data.length : Int) := by omega
          obtain ⟨k, rfl⟩ : ∃ k, j = k + 1 := ⟨j - 1, by omega⟩
          have w1 : IntKind.i64.wrap (((k + 1 : Nat) : Int) - 1) = (k : Int) := by
            have : ((k + 1 : Nat) : Int) - 1 = (k : Int) := by omega
            rw [this]
            exact IntWalk.i64_in _ (by omega)
          have w1' : IntKind.i64.wrap ((k : Int) + 1 - 1) = (k : Int) := by
            have : (k : Int) + 1 - 1 = (k : Int) := by omega
            rw [this]
            exact IntWalk.i64_in _ (by omega)
          have k0 : (0 : Int) ≤ (k : Int) := Int.natCast_nonneg _
          have k1 : (k : Int) < (data.length : Int) := by omega
          have kk : ((k : Int) + 1).toNat = k + 1 := by omega
          have kp : (0 : Int) ≤ (k : Int) + 1 := by omega
          have kl : (k : Int) + 1 < (data.length : Int) := by omega
          obtain ⟨cx, fx⟩ := own_cell HV.out.1 (k + 1) (by omega)
          obtain ⟨cy, fy⟩ := own_cell HV.out.1 k (by omega)
          have rx := HD.out _ (HQ.out.1.mem_iff.1 (show dt.getD (k + 1) 0 ∈ dt by
            rw [List.getD_eq_getElem?_getD, List.getElem?_eq_getElem (by omega)]; exact List.getElem_mem _))
          have ry := HD.out _ (HQ.out.1.mem_iff.1 (show dt.getD k 0 ∈ dt by
            rw [List.getD_eq_getElem?_getD, List.getElem?_eq_getElem (by omega)]; exact List.getElem_mem _))
          have hcm := fun n => HCM.out (wk.drewN n) (grown_drewN HV.out.2 n) (dt.getD (k + 1) 0) (dt.getD k 0) rx ry
          have hput := fun n => own_put (own_put (show (wk.drewN n).ownsRow base 3 1 (.slice (some ⟨g, 0, none⟩) data.length d) data.length (intCells dt) from HV.out.1) (k + 1) (dt.getD k 0)) k (dt.getD (k + 1) 0)
          have hgr := fun n => grown_set (grown_set (grown_drewN HV.out.2 n) (k + 1) (.int .i64 (dt.getD k 0))) k (.int .i64 (dt.getD (k + 1) 0))
          have hsp := swap_perm dt (k + 1) k (by omega) (by omega) (by omega)
          have hsf := fun h => fallsBut_swap HQ.out.2 (show k + 1 < dt.length by omega) h
          have hst := fun (h : keyOf now (dt.getD (k + 1) 0) ≤ keyOf now (dt.getD k 0)) => fallsBut_stop HQ.out.2 (fun i' e => (by
            have e' : i' = k := by omega
            rw [e']
            exact h))
          have HNX := hide (fun h => And.intro (hsp.trans HQ.out.1) (hsf h))
          have HST := hide (fun h => And.intro HQ.out.1 (hst h))
          have HPU := hide (fun n => And.intro (hput n) (hgr n))
          clear hput hgr hsp hsf hst rx ry
          generalize dt.getD (k + 1) 0 = x at cx hcm HNX HPU HST
          generalize dt.getD k 0 = y at cy hcm HNX HPU HST
          have HC := hide hcm
          clear hcm
          by_cases hlt : keyOf now y < keyOf now x
          · have hc : keyOf now y - keyOf now x < 0 := by omega
            have HN2 := hide (HNX.out hlt)
            generalize keyOf now y - keyOf now x = kv at hc HC
            go_wp2_with (fail)
            go_quiet ((go_at_fn 50; with_reducible exact quiet_drawn (HC.out _)))
            generalize hwq : World.drewN wk nq = wq
            have cx' : wq.cell? ⟨g, k + 1, none⟩ = some (.int .i64 x) := by rw [← hwq]; exact cx
            have fx' : wq.frozen? ⟨g, k + 1, none⟩ = false := by rw [← hwq]; exact fx
            have cy' : wq.cell? ⟨g, k, none⟩ = some (.int .i64 y) := by rw [← hwq]; exact cy
            have fy' : wq.frozen? ⟨g, k, none⟩ = false := by rw [← hwq]; exact fy
            have hpq := HPU.out nq
            rw [hwq] at hpq
            have HPQ := hide hpq
            clear hwq hpq cx fx cy fy HPU HC hc HST HNX
            go_wp2_with (fail)
            go_region
            go_wp2_with (fail)
            go_roundw
            case rel => exact ⟨k, _, by omega, by go_num, HN2, hide ⟨HPQ.out.1, ⟨HPQ.out.2.os, HPQ.out.2.tape, HPQ.out.2.output, HPQ.out.2.size, HPQ.out.2.block⟩⟩⟩
            case measure => simp [intOf]
          · have hc : decide (keyOf now y - keyOf now x < 0) = false := decide_eq_false (by omega)
            have HN2 := hide (HST.out (by omega))
            generalize keyOf now y - keyOf now x = kv at hc HC
            go_wp2_with (fail)
            go_quiet ((go_at_fn 50; with_reducible exact quiet_drawn (HC.out _)))
            go_wp2_with (fail)
            go_roundw
            case rel => exact ⟨i + 1, dt, by omega, by omega, by go_num, HN2, hide ⟨HV.out.1, grown_drewN HV.out.2 _⟩⟩
            case measure => simp [intOf]; omega
    · obtain rfl : i = data.length := by omega
      go_wp2_with (fail)
      go_end0
      exact ⟨rfl, dat, HP.out.1, HP.out.2, HW.out.1, HW.out.2⟩
/-- one block of the stable sort -/
theorem sortM_ok (base g d bx gn D : Nat) (now data : List Int) (w : World) (ho : w.ownsRow base 3 1 (.slice (some ⟨g, 0, none⟩) data.length d) data.length (intCells data))
    (hbx : w.cell? ⟨bx, 0, none⟩ = some (.slice (some ⟨gn, 0, none⟩) now.length D)) (hI : Ints w (some ⟨gn, 0, none⟩) now) (hn : numb now = true) (hne1 : bx ≠ g) (hne2 : gn ≠ g) (hgn : gn < w.heap.size) (hd : ∀ x, x ∈ data → 0 ≤ x ∧ x < now.length) (h0 : 0 < data.length) (h16 : data.length ≤ 16) :
    Calls Tryd.prog 49 #[.slice (some ⟨g, 0, none⟩) data.length d, .func (.func 50) #[] #[.pointer (some ⟨bx, 0, none⟩)]] w fun e w' =>
      e = .returned (.tuple #[]) ∧ ∃ data', data'.Perm data ∧ fallsBut (keyOf now) data' data.length data.length ∧ w'.ownsRow base 3 1 (.slice (some ⟨g, 0, none⟩) data.length d) data.length (intCells data') ∧ w.grownBy w' (some g) := by
  have HIN := hide (insM_ok base g d bx gn D now data w ho hbx hI hn hne1 hne2 hgn hd h0 (by omega))
  have hl : (data.length : Int) ≤ 16 := by omega
  have hl1 : decide ((20 : Int) ≤ (data.length : Int)) = false := decide_eq_false (by omega)
  have hl2 : decide ((20 : Int) < (data.length : Int)) = false := decide_eq_false (by omega)
  have hst : Calls Tryd.prog 61 #[.slice (some ⟨g, 0, none⟩) data.length d, .int .i64 data.length, .func (.func 50) #[] #[.pointer (some ⟨bx, 0, none⟩)]] w fun e w' =>
      e = .returned (.tuple #[]) ∧ ∃ data', data'.Perm data ∧ fallsBut (keyOf now) data' data.length data.length ∧ w'.ownsRow base 3 1 (.slice (some ⟨g, 0, none⟩) data.length d) data.length (intCells data') ∧ w.grownBy w' (some g) := by
    clear ho hbx hI hd
    go_enter Tryd.func61, Tryd.ntmps61
    go_wp2_with (fail)
    refine wp_loop_rounds 1 ?_
    rw [rounds_succ]
    go_wp2_with (go_at_call 76; refine Calls.mono HIN.out ?_; rintro e w1 ⟨rfl, hr1⟩; have HR1 := hide hr1; clear hr1)
    refine wp_loop_rounds 1 ?_
    rw [rounds_succ]
    go_wp2_with (fail)
    go_end0
    exact ⟨rfl, HR1.out⟩
  have HST := hide hst
  clear ho hbx hI hd hst
  go_enter Tryd.func49, Tryd.ntmps49
  go_wp2_with (go_at_call 61; refine Calls.mono HST.out ?_; rintro e w1 ⟨rfl, hr1⟩; have HR1 := hide hr1; clear hr1)
  go_end0
  exact ⟨rfl, HR1.out⟩
end Go.Proofs.YtcnecmcbjpehcaaDoor

/- HARDY, LITTLEWOOD and POLYA, plain: of two falling lists of which one majorizes the other one, a move brings the first one nearer. No condition. -/
namespace Go.Proofs.YtcnecmcbjpehcaaDoor

theorem getD_setL (l : List Int) (i j : Nat) (v : Int) (h : i < l.length) : (l.set i v).getD j 0 = if j = i then v else l.getD j 0 := by
  by_cases e : j = i
  · subst e
    rw [if_pos rfl, List.getD_eq_getElem?_getD, List.getElem?_set_self h]
    rfl
  · rw [if_neg e, List.getD_eq_getElem?_getD, List.getElem?_set_ne (fun q => e q.symm), ← List.getD_eq_getElem?_getD]
theorem sum_take_set (l : List Int) (i : Nat) (v : Int) (h : i < l.length) : ∀ k, k ≤ l.length → ((l.set i v).take k).sum = (l.take k).sum + if i < k then v - l.getD i 0 else 0
  | 0, _ => by simp
  | k + 1, hk => by
    rw [sum_take _ k (by rw [List.length_set]; omega), sum_take l k (by omega), sum_take_set l i v h k (by omega), getD_setL l i k v h]
    by_cases e : k = i
    · subst e
      rw [if_pos rfl, if_neg (by omega), if_pos (by omega)]
      omega
    · rw [if_neg e]
      by_cases q : i < k
      · rw [if_pos q, if_pos (by omega)]; omega
      · rw [if_neg q, if_neg (by omega)]; omega
/-- x falls, w falls, x majorizes w -/
structure HLP (n : Nat) (x w : List Int) : Prop where
  lx : x.length = n
  lw : w.length = n
  dx : ∀ i j, i < j → j < n → x.getD j 0 ≤ x.getD i 0
  dw : ∀ i j, i < j → j < n → w.getD j 0 ≤ w.getD i 0
  pre : ∀ k, k ≤ n → (w.take k).sum ≤ (x.take k).sum
  tot : x.sum = w.sum
/-- the last place below i at which x is greater; -1: none -/
def lastGt (x w : List Int) : Nat → Int
  | 0 => -1
  | i + 1 => if w.getD i 0 < x.getD i 0 then (i : Int) else lastGt x w i
theorem lastGt_spec (x w : List Int) : ∀ i, (lastGt x w i = -1 ∧ ∀ j, j < i → x.getD j 0 ≤ w.getD j 0) ∨ ∃ f : Nat, f < i ∧ lastGt x w i = (f : Int) ∧ w.getD f 0 < x.getD f 0 ∧ ∀ j, f < j → j < i → x.getD j 0 ≤ w.getD j 0
  | 0 => .inl ⟨rfl, fun j h => absurd h (Nat.not_lt_zero _)⟩
  | i + 1 => by
    rw [lastGt]
    by_cases h : w.getD i 0 < x.getD i 0
    · rw [if_pos h]
      exact .inr ⟨i, by omega, rfl, h, fun j h1 h2 => by omega⟩
    · rw [if_neg h]
      rcases lastGt_spec x w i with ⟨h1, h2⟩ | ⟨f, h1, h2, h3, h4⟩
      · refine .inl ⟨h1, fun j hj => ?_⟩
        by_cases e : j = i
        · subst e; omega
        · exact h2 j (by omega)
      · refine .inr ⟨f, by omega, h2, h3, fun j hj1 hj2 => ?_⟩
        by_cases e : j = i
        · subst e; omega
        · exact h4 j hj1 (by omega)
/-- where x is less for the first time, there is a place before at which it is greater -/
theorem HLP.from_ {n : Nat} {x w : List Int} (h : HLP n x w) {t : Nat} (ht : t < n) (hlt : x.getD t 0 < w.getD t 0) (hge : ∀ j, j < t → w.getD j 0 ≤ x.getD j 0) :
    ∃ f : Nat, f < t ∧ lastGt x w t = (f : Int) ∧ w.getD f 0 < x.getD f 0 ∧ ∀ j, f < j → j < t → x.getD j 0 = w.getD j 0 := by
  rcases lastGt_spec x w t with ⟨_, h2⟩ | ⟨f, h1, h2, h3, h4⟩
  · have eq : ∀ k, k ≤ t → (x.take k).sum = (w.take k).sum := fun k => by
      induction k with
      | zero => intro _; rfl
      | succ k ih =>
        intro hk
        rw [sum_take x k (by rw [h.lx]; omega), sum_take w k (by rw [h.lw]; omega), ih (by omega)]
        have := h2 k (by omega)
        have := hge k (by omega)
        omega
    have p := h.pre (t + 1) (by omega)
    rw [sum_take x t (by rw [h.lx]; exact ht), sum_take w t (by rw [h.lw]; exact ht), eq t (Nat.le_refl _)] at p
    omega
  · exact ⟨f, h1, h2, h3, fun j hj1 hj2 => by have := h4 j hj1 hj2; have := hge j hj2; omega⟩
/-- after a move of s from place f to place t -/
def moved (x : List Int) (f t : Nat) (s : Int) : List Int := (x.set f (x.getD f 0 - s)).set t (x.getD t 0 + s)
theorem moved_at (x : List Int) (f t : Nat) (s : Int) (hf : f < x.length) (ht : t < x.length) (j : Nat) : (moved x f t s).getD j 0 = if j = t then x.getD t 0 + s else if j = f then x.getD f 0 - s else x.getD j 0 := by
  unfold moved
  rw [getD_setL _ t j _ (by rw [List.length_set]; exact ht), getD_setL x f j _ hf]
/-- at how many places two lists differ -/
def differ (n : Nat) (x w : List Int) : Nat := nsum n fun i => if x.getD i 0 = w.getD i 0 then 0 else 1
theorem differ_le (n : Nat) (x w : List Int) : differ n x w ≤ n := by
  have c1 : ∀ m, nsum m (fun _ => 1) = m := fun m => by
    induction m with
    | zero => rfl
    | succ m ih => rw [nsum_succ, ih]
  have h : differ n x w ≤ nsum n fun _ => 1 := nsum_le (fun i _ => by split <;> omega)
  rw [c1] at h
  exact h
theorem nsum_strict {n : Nat} {s t : Nat → Nat} (h : ∀ i, i < n → s i ≤ t i) {i0 : Nat} (h0 : i0 < n) (h1 : s i0 + 1 ≤ t i0) : nsum n s + 1 ≤ nsum n t := by
  induction n with
  | zero => omega
  | succ n ih =>
    rw [nsum_succ, nsum_succ]
    by_cases e : i0 = n
    · subst e
      have := nsum_le (n := i0) (s := s) (t := t) (fun i hi => h i (by omega))
      omega
    · have := ih (fun i hi => h i (by omega)) (by omega)
      have := h n (by omega)
      omega
theorem d_le (a b : Int) : (if a = b then 0 else 1 : Nat) ≤ 1 := by split <;> omega
theorem HLP.step {n : Nat} {x w : List Int} (h : HLP n x w) {f t : Nat} (ht : t < n) (hft : f < t) (hlt : x.getD t 0 < w.getD t 0) (hge : ∀ j, j < t → w.getD j 0 ≤ x.getD j 0) (hgt : w.getD f 0 < x.getD f 0) (hmid : ∀ j, f < j → j < t → x.getD j 0 = w.getD j 0)
    {s : Int} (hs : s = min (x.getD f 0 - w.getD f 0) (w.getD t 0 - x.getD t 0)) : 0 < s ∧ s ≤ x.getD f 0 - x.getD t 0 ∧ HLP n (moved x f t s) w ∧ differ n (moved x f t s) w + 1 ≤ differ n x w ∧ 2 ≤ differ n x w := by
  have hf : f < n := by omega
  have hwft := h.dw f t hft ht
  have hs1 : s ≤ x.getD f 0 - w.getD f 0 := by rw [hs]; exact Int.min_le_left _ _
  have hs2 : s ≤ w.getD t 0 - x.getD t 0 := by rw [hs]; exact Int.min_le_right _ _
  have hs0 : 0 < s := by omega
  have hsx : s = x.getD f 0 - w.getD f 0 ∨ s = w.getD t 0 - x.getD t 0 := by omega
  have at_ := moved_at x f t s (by rw [h.lx]; exact hf) (by rw [h.lx]; exact ht)
  refine ⟨hs0, by omega, ⟨by unfold moved; rw [List.length_set, List.length_set, h.lx], h.lw, fun i j hij hj => ?_, h.dw, fun k hk => ?_, ?_⟩, ?_, ?_⟩
  · rw [at_ i, at_ j]
    have d1 := h.dx i j hij hj
    by_cases e1 : j = t
    · rw [if_pos e1]
      by_cases e2 : i = f
      · rw [if_neg (by omega), if_pos e2]; omega
      · rw [if_neg (by omega), if_neg e2]
        by_cases e3 : i < f
        · have := h.dx i f e3 hf
          omega
        · have := hmid i (by omega) (by omega)
          have := h.dw i t (by omega) ht
          omega
    · rw [if_neg e1]
      by_cases e2 : j = f
      · rw [if_pos e2, if_neg (by omega), if_neg (by omega)]
        subst e2
        omega
      · rw [if_neg e2]
        by_cases e3 : i = t
        · subst e3
          rw [if_pos rfl]
          omega
        · rw [if_neg e3]
          by_cases e4 : i = f
          · rw [if_pos e4]
            by_cases e5 : j < t
            · have := hmid j (by omega) e5
              have := h.dw f j (by omega) (by omega)
              omega
            · have := h.dx t j (by omega) hj
              omega
          · rw [if_neg e4]; exact d1
  · have e1 := sum_take_set (x.set f (x.getD f 0 - s)) t (x.getD t 0 + s) (by rw [List.length_set, h.lx]; exact ht) k (by rw [List.length_set, h.lx]; exact hk)
    have e2 := sum_take_set x f (x.getD f 0 - s) (by rw [h.lx]; exact hf) k (by rw [h.lx]; exact hk)
    have e3 := getD_setL x f t (x.getD f 0 - s) (by rw [h.lx]; exact hf)
    rw [if_neg (by omega)] at e3
    rw [e3, e2] at e1
    have hp := h.pre k hk
    have part : ∀ k, f < k → k ≤ t → (w.take k).sum + (x.getD f 0 - w.getD f 0) ≤ (x.take k).sum := fun k => by
      induction k with
      | zero => intro h1; omega
      | succ k ih =>
        intro h1 h2
        rw [sum_take x k (by rw [h.lx]; omega), sum_take w k (by rw [h.lw]; omega)]
        by_cases e : k = f
        · subst e
          have := h.pre k (by omega)
          omega
        · have := ih (by omega) (by omega)
          have := hge k (by omega)
          omega
    show (w.take k).sum ≤ ((moved x f t s).take k).sum
    unfold moved
    rw [e1]
    by_cases q1 : f < k
    · rw [if_pos q1]
      by_cases q2 : t < k
      · rw [if_pos q2]; omega
      · rw [if_neg q2]
        have := part k q1 (by omega)
        omega
    · rw [if_neg q1, if_neg (by omega)]; omega
  · have e1 := sum_take_set (x.set f (x.getD f 0 - s)) t (x.getD t 0 + s) (by rw [List.length_set, h.lx]; exact ht) n (by rw [List.length_set, h.lx]; exact Nat.le_refl _)
    have e2 := sum_take_set x f (x.getD f 0 - s) (by rw [h.lx]; exact hf) n (by rw [h.lx]; exact Nat.le_refl _)
    have e3 := getD_setL x f t (x.getD f 0 - s) (by rw [h.lx]; exact hf)
    rw [if_neg (by omega)] at e3
    rw [e3, e2, if_pos ht, if_pos hf, List.take_of_length_le (by rw [List.length_set, List.length_set, h.lx]; exact Nat.le_refl _), List.take_of_length_le (by rw [h.lx]; exact Nat.le_refl _)] at e1
    unfold moved
    rw [e1, h.tot]
    omega
  · have le : ∀ i, i < n → (if (moved x f t s).getD i 0 = w.getD i 0 then 0 else 1) ≤ (if x.getD i 0 = w.getD i 0 then 0 else 1) := fun i _ => by
      rw [at_ i]
      by_cases e1 : i = t
      · subst e1
        rw [if_neg (show ¬ x.getD i 0 = w.getD i 0 by omega)]
        exact d_le _ _
      · rw [if_neg e1]
        by_cases e2 : i = f
        · subst e2
          rw [if_neg (show ¬ x.getD i 0 = w.getD i 0 by omega)]
          exact d_le _ _
        · rw [if_neg e2]
          exact Nat.le_refl _
    rcases hsx with e | e
    · refine nsum_strict le hf ?_
      show (if (moved x f t s).getD f 0 = w.getD f 0 then 0 else 1) + 1 ≤ if x.getD f 0 = w.getD f 0 then 0 else 1
      rw [at_ f, if_neg (show ¬ f = t by omega), if_pos rfl, if_pos (by omega), if_neg (by omega)]
      exact Nat.le_refl _
    · refine nsum_strict le ht ?_
      show (if (moved x f t s).getD t 0 = w.getD t 0 then 0 else 1) + 1 ≤ if x.getD t 0 = w.getD t 0 then 0 else 1
      rw [at_ t, if_pos rfl, if_pos (by omega), if_neg (by omega)]
      exact Nat.le_refl _
  · have h1 : nsum n (fun i => if i = f then 1 else 0) + nsum n (fun i => if i = t then 1 else 0) ≤ differ n x w := by
      rw [← nsum_add]
      refine nsum_le (fun i _ => ?_)
      by_cases e1 : i = f
      · subst e1
        rw [if_pos rfl, if_neg (by omega), if_neg (by omega)]
        exact Nat.le_refl _
      · rw [if_neg e1]
        by_cases e2 : i = t
        · subst e2
          rw [if_pos rfl, if_neg (by omega)]
          exact Nat.le_refl _
        · rw [if_neg e2]
          exact Nat.zero_le _
    rw [nsum_one, nsum_one, if_pos hf, if_pos ht] at h1
    exact h1
theorem eq_of_ge : ∀ (x w : List Int), x.length = w.length → (∀ i, i < w.length → w.getD i 0 ≤ x.getD i 0) → x.sum = w.sum → x = w
  | [], [], _, _, _ => rfl
  | a :: x, b :: w, hl, hg, hs => by
    have h0 : b ≤ a := hg 0 (by simp)
    have ht : ∀ i, i < w.length → w.getD i 0 ≤ x.getD i 0 := fun i hi => hg (i + 1) (by simpa using hi)
    have hl' : x.length = w.length := by simpa using hl
    have hsum : ∀ (x w : List Int), x.length = w.length → (∀ i, i < w.length → w.getD i 0 ≤ x.getD i 0) → w.sum ≤ x.sum := by
      intro x
      induction x with
      | nil => intro w h _; cases w with
        | nil => exact Int.le_refl _
        | cons => simp at h
      | cons a x ih =>
        intro w h hg
        cases w with
        | nil => simp at h
        | cons b w =>
          have e1 : b ≤ a := hg 0 (by simp)
          have e2 := ih w (by simpa using h) (fun i hi => hg (i + 1) (by simpa using hi))
          rw [List.sum_cons, List.sum_cons]
          omega
    have hle := hsum x w hl' ht
    rw [List.sum_cons, List.sum_cons] at hs
    rw [eq_of_ge x w hl' ht (by omega), show a = b by omega]
end Go.Proofs.YtcnecmcbjpehcaaDoor

/- The state between two moves of order.Moves, plain. No condition. -/
namespace Go.Proofs.YtcnecmcbjpehcaaDoor

theorem range_getD (l : List Int) : (List.range l.length).map (fun i => l.getD i 0) = l := by
  apply List.ext_getElem
  · simp
  · intro i h1 h2
    simp [List.getD_eq_getElem?_getD, h2]
/-- the places in order, and the numbers there -/
structure Placed (n : Nat) (now at_ : List Int) : Prop where
  len : now.length = n
  perm : at_.Perm ((List.range n).map fun (i : Nat) => (i : Int))
  falls : fallsBut (keyOf now) at_ n n
theorem Placed.alen {n : Nat} {now at_ : List Int} (h : Placed n now at_) : at_.length = n := by rw [h.perm.length_eq]; simp
theorem Placed.mem {n : Nat} {now at_ : List Int} (h : Placed n now at_) (i : Nat) (hi : i < n) : 0 ≤ at_.getD i 0 ∧ at_.getD i 0 < n := by
  have hm : at_.getD i 0 ∈ at_ := by
    rw [List.getD_eq_getElem?_getD, List.getElem?_eq_getElem (by rw [h.alen]; exact hi)]
    exact List.getElem_mem _
  obtain ⟨j, hj, e⟩ := List.mem_map.1 (h.perm.mem_iff.1 hm)
  have := List.mem_range.1 hj
  omega
theorem Placed.inj {n : Nat} {now at_ : List Int} (h : Placed n now at_) {i j : Nat} (hi : i < n) (hj : j < n) (e : at_.getD i 0 = at_.getD j 0) : i = j := by
  have hnd : at_.Nodup := h.perm.nodup_iff.2 (by
    refine (List.pairwise_iff_getElem.2 (fun a b ha hb hab => ?_) : List.Nodup _)
    rw [List.getElem_map, List.getElem_map, List.getElem_range, List.getElem_range]
    omega)
  have hp := List.pairwise_iff_getElem.1 hnd
  have q1 : at_.getD i 0 = at_[i]'(by rw [h.alen]; exact hi) := by simp [List.getD_eq_getElem?_getD, h.alen, hi]
  have q2 : at_.getD j 0 = at_[j]'(by rw [h.alen]; exact hj) := by simp [List.getD_eq_getElem?_getD, h.alen, hj]
  rw [q1, q2] at e
  rcases Nat.lt_trichotomy i j with q | q | q
  · exact absurd e (hp i j _ _ q)
  · exact q
  · exact absurd e.symm (hp j i _ _ q)
theorem map_keys_perm {n : Nat} {at_ : List Int} (hp : at_.Perm ((List.range n).map fun (i : Nat) => (i : Int))) (now : List Int) (hl : now.length = n) : (at_.map (keyOf now)).Perm now := by
  have h1 := hp.map (keyOf now)
  rw [List.map_map] at h1
  have e : (List.range n).map (keyOf now ∘ fun (i : Nat) => (i : Int)) = now := by
    subst hl
    exact range_getD now
  rw [e] at h1
  exact h1
theorem getD_mapK (at_ : List Int) (k : Int → Int) (i : Nat) (h : i < at_.length) : (at_.map k).getD i 0 = k (at_.getD i 0) := by simp [List.getD_eq_getElem?_getD, h]
theorem Placed.keys {n : Nat} {now at_ : List Int} (h : Placed n now at_) : at_.map (keyOf now) = Go.Proofs.YtcnecmcbjpehcaaDoor.falls now := by
  refine falls_unique (map_keys_perm h.perm now h.len) (List.pairwise_iff_getElem.2 (fun i j hi hj hij => ?_))
  rw [List.length_map, h.alen] at hi hj
  have := h.falls i j hij hj (by omega)
  rw [List.getElem_map, List.getElem_map]
  have q1 : at_.getD i 0 = at_[i]'(by rw [h.alen]; exact hi) := by simp [List.getD_eq_getElem?_getD, h.alen, hi]
  have q2 : at_.getD j 0 = at_[j]'(by rw [h.alen]; exact hj) := by simp [List.getD_eq_getElem?_getD, h.alen, hj]
  rw [q1, q2] at this
  exact this
/-- what lies at place i of the order -/
theorem Placed.at_falls {n : Nat} {now at_ : List Int} (h : Placed n now at_) (i : Nat) (hi : i < n) : now.getD (at_.getD i 0).toNat 0 = (Go.Proofs.YtcnecmcbjpehcaaDoor.falls now).getD i 0 := by
  rw [← h.keys, getD_mapK at_ _ i (by rw [h.alen]; exact hi)]
  rfl
theorem mvDo_at (now : List Int) (a b s : Int) (ha : 0 ≤ a ∧ a < now.length) (hb : 0 ≤ b ∧ b < now.length) (j : Nat) :
    (mvDo now (a, b, s)).getD j 0 = if j = b.toNat then now.getD b.toNat 0 + s else if j = a.toNat then now.getD a.toNat 0 - s else now.getD j 0 := by
  unfold mvDo
  rw [getD_setL _ b.toNat j _ (by rw [List.length_set]; omega), getD_setL now a.toNat j _ (by omega)]
theorem Placed.moved {n : Nat} {now at_ w : List Int} (h : Placed n now at_) {f t : Nat} (hf : f < n) (ht : t < n) (hft : f ≠ t) {s : Int} (hd : HLP n (moved (Go.Proofs.YtcnecmcbjpehcaaDoor.falls now) f t s) w) :
    Go.Proofs.YtcnecmcbjpehcaaDoor.falls (mvDo now (at_.getD f 0, at_.getD t 0, s)) = Go.Proofs.YtcnecmcbjpehcaaDoor.moved (Go.Proofs.YtcnecmcbjpehcaaDoor.falls now) f t s := by
  have hlen : (mvDo now (at_.getD f 0, at_.getD t 0, s)).length = n := by rw [mvDo_len, h.len]
  have mf := h.mem f hf
  have mt := h.mem t ht
  have hfl : (Go.Proofs.YtcnecmcbjpehcaaDoor.falls now).length = n := by rw [falls_length, h.len]
  have e : at_.map (keyOf (mvDo now (at_.getD f 0, at_.getD t 0, s))) = Go.Proofs.YtcnecmcbjpehcaaDoor.moved (Go.Proofs.YtcnecmcbjpehcaaDoor.falls now) f t s := by
    apply List.ext_getElem
    · rw [List.length_map, h.alen, hd.lx]
    · intro j h1 h2
      rw [List.length_map, h.alen] at h1
      have g1 : (at_.map (keyOf (mvDo now (at_.getD f 0, at_.getD t 0, s)))).getD j 0 = (Go.Proofs.YtcnecmcbjpehcaaDoor.moved (Go.Proofs.YtcnecmcbjpehcaaDoor.falls now) f t s).getD j 0 := by
        have mj := h.mem j h1
        rw [getD_mapK at_ _ j (by rw [h.alen]; exact h1), moved_at _ f t s (by rw [hfl]; exact hf) (by rw [hfl]; exact ht) j]
        unfold keyOf
        rw [mvDo_at now _ _ s (by rw [h.len]; exact mf) (by rw [h.len]; exact mt), h.at_falls f hf, h.at_falls t ht, h.at_falls j h1]
        by_cases q1 : j = t
        · subst q1
          rw [if_pos rfl, if_pos rfl]
        · rw [if_neg q1, if_neg (fun q => q1 (h.inj h1 ht (by omega)))]
          by_cases q2 : j = f
          · subst q2
            rw [if_pos rfl, if_pos rfl]
          · rw [if_neg q2, if_neg (fun q => q2 (h.inj h1 hf (by omega)))]
      have q1 : ∀ (l : List Int) (h : j < l.length), l.getD j 0 = l[j] := fun l h => by simp [List.getD_eq_getElem?_getD, h]
      rw [q1 _ (by rw [List.length_map, h.alen]; exact h1), q1 _ h2] at g1
      exact g1
  rw [← e]
  refine (falls_unique (map_keys_perm h.perm _ hlen) ?_).symm
  rw [e, List.pairwise_iff_getElem]
  intro i j hi hj hij
  have q1 : ∀ (l : List Int) (k : Nat) (h : k < l.length), l.getD k 0 = l[k] := fun l k h => by simp [List.getD_eq_getElem?_getD, h]
  rw [← q1 _ i hi, ← q1 _ j hj]
  exact hd.dx i j hij (by rw [← hd.lx]; exact hj)
/-- between two moves -/
structure MSt (p q : List Int) (n : Nat) (mv : List Mv) (now : List Int) : Prop where
  now_ : nowAt p mv mv.length = now
  ok : ∀ i, i < mv.length → okAt p mv i = true
  len : now.length = n
  numb : Go.Proofs.YtcnecmcbjpehcaaDoor.numb now = true
  hlp : HLP n (Go.Proofs.YtcnecmcbjpehcaaDoor.falls now) (Go.Proofs.YtcnecmcbjpehcaaDoor.falls q)
  few : mv.length + 1 ≤ n
  diff : mv.length + differ n (Go.Proofs.YtcnecmcbjpehcaaDoor.falls now) (Go.Proofs.YtcnecmcbjpehcaaDoor.falls q) ≤ n
theorem nowAt_app (p : List Int) (mv : List Mv) (m : Mv) (i : Nat) (h : i ≤ mv.length) : nowAt p (mv ++ [m]) i = nowAt p mv i := by
  unfold nowAt
  rw [List.take_append_of_le_length h]
theorem MSt.next {p q : List Int} {n : Nat} {mv : List Mv} {now at_ : List Int} (h : MSt p q n mv now) (ha : Placed n now at_) {f t : Nat} (ht : t < n) (hft : f < t)
    (hlt : (Go.Proofs.YtcnecmcbjpehcaaDoor.falls now).getD t 0 < (Go.Proofs.YtcnecmcbjpehcaaDoor.falls q).getD t 0) (hge : ∀ j, j < t → (Go.Proofs.YtcnecmcbjpehcaaDoor.falls q).getD j 0 ≤ (Go.Proofs.YtcnecmcbjpehcaaDoor.falls now).getD j 0)
    (hgt : (Go.Proofs.YtcnecmcbjpehcaaDoor.falls q).getD f 0 < (Go.Proofs.YtcnecmcbjpehcaaDoor.falls now).getD f 0) (hmid : ∀ j, f < j → j < t → (Go.Proofs.YtcnecmcbjpehcaaDoor.falls now).getD j 0 = (Go.Proofs.YtcnecmcbjpehcaaDoor.falls q).getD j 0)
    {s : Int} (hs : s = min ((Go.Proofs.YtcnecmcbjpehcaaDoor.falls now).getD f 0 - (Go.Proofs.YtcnecmcbjpehcaaDoor.falls q).getD f 0) ((Go.Proofs.YtcnecmcbjpehcaaDoor.falls q).getD t 0 - (Go.Proofs.YtcnecmcbjpehcaaDoor.falls now).getD t 0)) :
    MSt p q n (mv ++ [(at_.getD f 0, at_.getD t 0, s)]) (mvDo now (at_.getD f 0, at_.getD t 0, s)) ∧ 0 < s ∧ s ≤ (Go.Proofs.YtcnecmcbjpehcaaDoor.falls now).getD f 0 - (Go.Proofs.YtcnecmcbjpehcaaDoor.falls now).getD t 0 := by
  have hf : f < n := by omega
  obtain ⟨s0, s1, h1, h2, h3⟩ := h.hlp.step ht hft hlt hge hgt hmid hs
  have mf := ha.mem f hf
  have mt := ha.mem t ht
  have e := ha.moved hf ht (by omega) h1
  have hne : at_.getD f 0 ≠ at_.getD t 0 := fun q => by have := ha.inj hf ht q; omega
  have hok : mvOk now (at_.getD f 0, at_.getD t 0, s) = true := by
    unfold mvOk
    dsimp only
    rw [ha.at_falls f hf, ha.at_falls t ht, h.len, decide_eq_false (by omega), decide_eq_false (by omega), decide_eq_false (by omega), decide_eq_false (by omega), decide_eq_false hne, decide_eq_false (by omega), decide_eq_false (by omega)]
    rfl
  have hl : (mv ++ [(at_.getD f 0, at_.getD t 0, s)]).length = mv.length + 1 := by simp
  have hlast : (mv ++ [(at_.getD f 0, at_.getD t 0, s)]).getD mv.length (0, 0, 0) = (at_.getD f 0, at_.getD t 0, s) := by simp [List.getD_eq_getElem?_getD]
  refine ⟨⟨?_, fun i hi => ?_, by rw [mvDo_len, h.len], mvDo_numb h.numb (mvOk_good hok), by rw [e]; exact h1, by rw [hl]; have := h.diff; omega, by rw [hl, e]; have := h.diff; omega⟩, s0, s1⟩
  · rw [hl, nowAt_succ _ _ _ (by rw [hl]; omega), nowAt_app _ _ _ _ (Nat.le_refl _), h.now_, hlast]
  · rw [hl] at hi
    by_cases e2 : i < mv.length
    · have := h.ok i e2
      unfold okAt at *
      rw [nowAt_app _ _ _ _ (by omega), show (mv ++ [(at_.getD f 0, at_.getD t 0, s)]).getD i (0, 0, 0) = mv.getD i (0, 0, 0) by simp [List.getD_eq_getElem?_getD, List.getElem?_append_left e2]]
      exact this
    · obtain rfl : i = mv.length := by omega
      unfold okAt
      rw [nowAt_app _ _ _ _ (Nat.le_refl _), h.now_, hlast]
      exact hok
theorem MSt.done {p q : List Int} {n : Nat} {mv : List Mv} {now : List Int} (h : MSt p q n mv now) (hge : ∀ j, j < n → (Go.Proofs.YtcnecmcbjpehcaaDoor.falls q).getD j 0 ≤ (Go.Proofs.YtcnecmcbjpehcaaDoor.falls now).getD j 0) : Go.Proofs.YtcnecmcbjpehcaaDoor.falls now = Go.Proofs.YtcnecmcbjpehcaaDoor.falls q :=
  eq_of_ge _ _ (by rw [h.hlp.lx, h.hlp.lw]) (fun i hi => hge i (by rw [← h.hlp.lw]; exact hi)) h.hlp.tot
end Go.Proofs.YtcnecmcbjpehcaaDoor

/- The walk of the law OrderSpread, and what few and lists answer. Condition: the variables read as laid; the arguments are of modest bulk. -/
namespace Go.Proofs.YtcnecmcbjpehcaaDoor
open Go.RowKit Go.Deep Go.Proofs.YtcnecmcbjpehcaaDoorW.PrintWords

theorem row_le (l : List (List Int)) (i : Nat) : (l.getD i []).length ≤ l.flatten.length := by
  rcases Nat.lt_or_ge i l.length with h | h
  · rw [getDL_eq l i h]
    have : l[i] ∈ l := List.getElem_mem h
    exact List.Sublist.length_le (List.sublist_flatten_of_mem this)
  · rw [List.getD_eq_getElem?_getD, List.getElem?_eq_none h]
    simp
theorem flat_take (l : List (List Int)) (i : Nat) (h : i < l.length) : (l.take (i + 1)).flatten = (l.take i).flatten ++ l.getD i [] := by
  rw [takeL_at l i h, List.flatten_append]
  simp
theorem flat_take_le (l : List (List Int)) (i : Nat) : (l.take i).flatten.length ≤ l.flatten.length := by
  have : l.flatten = (l.take i).flatten ++ (l.drop i).flatten := by rw [← List.flatten_append, List.take_append_drop]
  rw [this, List.length_append]
  omega
theorem flat_l0 (l : List (List Int)) (hl : l.length ≤ 2000000) (hf : l.flatten.length ≤ 2000000) : ∀ (d i k : Nat), i + d = l.length → d < k → POrderSpread.demonref1_Flat.l0 k l (l.take i).flatten (i : Int) = some l.flatten := by
  intro d
  induction d with
  | zero =>
    intro i k hi hk
    obtain ⟨k, rfl⟩ : ∃ m, k = m + 1 := ⟨k - 1, by omega⟩
    obtain rfl : i = l.length := by omega
    simp only [POrderSpread.demonref1_Flat.l0]
    rw [if_neg (by omega), List.take_length]
  | succ d ih =>
    intro i k hi hk
    obtain ⟨k, rfl⟩ : ∃ m, k = m + 1 := ⟨k - 1, by omega⟩
    have hil : i < l.length := by omega
    have h1 := flat_take_le l i
    have h2 := row_le l i
    simp only [POrderSpread.demonref1_Flat.l0]
    rw [if_pos (by omega), if_pos (by omega), rdL_nat, if_pos (by omega), wrap_up i (by omega), ← flat_take l i hil]
    exact ih (i + 1) k (by omega) (by omega)
theorem flat_f (l : List (List Int)) (hl : l.length ≤ 2000000) (hf : l.flatten.length ≤ 2000000) (k : Nat) (hk : l.length < k) : POrderSpread.demonref1_Flat.f k l = some l.flatten :=
  flat_l0 l hl hf l.length 0 k (by omega) hk
/-- is a table of few rows and few numbers? -/
def fewS (l : List (List Int)) : Bool := decide (l.length ≤ 70) && decide (l.flatten.length ≤ 600)
theorem few_f (l : List (List Int)) (hl : l.length ≤ 2000000) (hf : l.flatten.length ≤ 2000000) (k : Nat) (hk : l.length < k) : POrderSpread.demonlaw4_few.f k l = some (fewS l) := by
  unfold POrderSpread.demonlaw4_few.f fewS
  by_cases h : l.length ≤ 70
  · rw [if_pos (by omega), flat_f l hl hf k hk]
    have e : decide ((l.flatten.length : Int) ≤ 600) = decide (l.flatten.length ≤ 600) := by
      by_cases h2 : l.flatten.length ≤ 600
      · rw [decide_eq_true h2, decide_eq_true (by omega)]
      · rw [decide_eq_false h2, decide_eq_false (by omega)]
    show some (decide ((l.flatten.length : Int) ≤ 600)) = _
    rw [e, decide_eq_true h, Bool.true_and]
  · rw [if_neg (by omega), decide_eq_false h, Bool.false_and]
theorem intsS_f (l : List Int) (hl : l.length ≤ 2000000) : POrderSpread.demonlaw4_ints.f l = some l := by
  unfold POrderSpread.demonlaw4_ints.f
  rw [if_pos (by simp; omega)]
  rfl
theorem lists_l0 (l : List (List Int)) (hl : l.length ≤ 2000000) (hf : l.flatten.length ≤ 2000000) : ∀ (d i k : Nat), i + d = l.length → d < k → POrderSpread.demonlaw4_lists.l0 k l (l.take i) (i : Int) = some l := by
  intro d
  induction d with
  | zero =>
    intro i k hi hk
    obtain ⟨k, rfl⟩ : ∃ m, k = m + 1 := ⟨k - 1, by omega⟩
    obtain rfl : i = l.length := by omega
    simp only [POrderSpread.demonlaw4_lists.l0]
    rw [if_neg (by omega), List.take_length]
  | succ d ih =>
    intro i k hi hk
    obtain ⟨k, rfl⟩ : ∃ m, k = m + 1 := ⟨k - 1, by omega⟩
    have hil : i < l.length := by omega
    have h2 := row_le l i
    have h3 : (l.take i).length ≤ i := by simp; omega
    simp only [POrderSpread.demonlaw4_lists.l0]
    rw [if_pos (by omega), if_pos (by omega), rdL_nat, intsS_f _ (by omega), Option.bind_some, if_pos (by omega), wrap_up i (by omega), ← takeL_at l i hil]
    exact ih (i + 1) k (by omega) (by omega)
theorem lists_f (l : List (List Int)) (hl : l.length ≤ 2000000) (hf : l.flatten.length ≤ 2000000) (k : Nat) (hk : l.length < k) : POrderSpread.demonlaw4_lists.f k l = some l :=
  lists_l0 l hl hf l.length 0 k (by omega) hk
theorem fewS_ok (A : Option Addr) (m : List (List Int)) (c : Nat) (w : World) (hA : Lists w A m) (hc : m.length ≤ c) (hl : m.length ≤ 2000000) (hf : m.flatten.length ≤ 2000000) :
    Calls Tryd.prog 11 #[.slice A m.length c] w fun e w' => e = .returned (.bool (fewS m)) ∧ Below w.heap.size w w' :=
  POrderSpread.demonlaw4_few.calls (m.length + 1) A c m (fewS m) w hA.toC hc (few_f m hl hf _ (by omega))
theorem listsS_ok (A : Option Addr) (m : List (List Int)) (c : Nat) (w : World) (hA : Lists w A m) (hc : m.length ≤ c) (hl : m.length ≤ 2000000) (hf : m.flatten.length ≤ 2000000) :
    Calls Tryd.prog 13 #[.slice A m.length c] w fun e w' => ∃ B d, e = .returned (.slice B m.length d) ∧ Lists w' B m ∧ m.length ≤ d ∧ Below w.heap.size w w' := by
  refine (POrderSpread.demonlaw4_lists.calls (m.length + 1) A c m m w hA.toC hc (lists_f m hl hf _ (by omega))).mono ?_
  rintro e w' ⟨v, rfl, hS, hb⟩
  obtain ⟨B, d, rfl, hI, hd⟩ := Lists.ofR (Kd.S_R hS)
  exact ⟨B, d, rfl, hI, hd, hb⟩
theorem spreadOf_ok (A B : Option Addr) (m : List (List Int)) (W : List Int) (c d : Nat) (w : World) (hA : Lists w A m) (hB : Ints w B W) (hc : m.length ≤ c) (hd : W.length ≤ d) (h : sqErr m = 0) (hl : W.length = m.length) (hn : numb W = true) :
    Calls Tryd.prog 28 #[.slice A m.length c, .slice B W.length d] w fun e w' => RetInts (spreadOf m W) w e w' := by
  obtain ⟨h8, _, hall, _⟩ := sqErr_zero h
  obtain ⟨k, hk⟩ := (spreadOf_f hall h8 hn hl).rounds
  refine (POrderSpread.demonref4_SpreadOf.calls k A c m B d W (spreadOf m W) w hA.toC hc hB.toC hd hk).mono ?_
  rintro e w' ⟨v, rfl, hR, hb⟩
  obtain ⟨B, d, rfl, hI, hd⟩ := Ints.ofR hR
  exact ⟨B, d, rfl, hI, hd, hb⟩
theorem same_nil (w : World) : Calls Tryd.prog 25 #[.slice none 0 0, .slice none 0 0] w fun e w' => e = .returned (.bool true) ∧ Below w.heap.size w w' := by
  have h := same_any none none [] [] 0 0 w (Ints.nil w _) (Ints.nil w _)
  rw [decide_eq_true rfl] at h
  exact h
theorem step_app_ints (w : World) {ops : Array Oper} {o : Oper} {a : Act} {K : Act → World → Prop} {Q : Exit → Act → World → Prop} {E : Prop} (hgd : o.guard = none) (s x : Operand)
    (ho : o.op = .call { callee := .builtin .append, args := #[s, x], argTypes := #[25, 25] })
    (base : Nat) (v : Value) (l0 : List Int) (hs : a.eval s = v) (hown : w.ownsRow base 3 1 v l0.length (intCells l0))
    (A : Option Addr) (m c : Nat) (l : List Int) (hx : a.eval x = .slice A m c) (hm : m = l.length) (hr : Ints w A l)
    (hbytes : (l0.length + m) * 8 ≤ 140737488355328) (hbase : base ≤ w.heap.size)
    (h : ∀ A' c' w', (l0 ++ l).length ≤ c' → w'.ownsRow base 3 1 (.slice A' (l0 ++ l).length c') (l0 ++ l).length (intCells (l0 ++ l)) → w.grownBy w' v.ownBlock → ((Value.slice A' (l0 ++ l).length c').ownBlock = v.ownBlock ∨ (Value.slice A' (l0 ++ l).length c').ownBlock = some w.heap.size) →
      K (a.put o.dst (.slice A' (l0 ++ l).length c')) w') :
    if Region.wanted o (yielded ops a.tmps) = true then Oper.wp Tryd.prog o a w K Q else E := by
  obtain ⟨i0, hi0, hz0, hz1, hz2⟩ := info_parts int_info
  subst hm
  refine step_append_any w hgd s x _ ho base 3 i0 _ 1 8 Tryd.underlying25 hi0 hz0 hz1 hz2 rfl (by omega) v l0.length (intCells l0) hs hown w.heap.size A l.length c (intCells l) hx hr.reads (intCells_one l) (by simp only [maxLen]; omega) hbytes hbase ?_
  intro v' w' h1 h2 h3
  rw [← intCells_append, ← List.length_append] at h1
  obtain ⟨A', c', rfl, hc, _⟩ := own_shape h1
  exact h A' c' w' hc h1 h2 h3

set_option maxRecDepth 100000 in
set_option maxHeartbeats 4000000 in
theorem law_spread_many (A B : Option Addr) (m : List (List Int)) (W : List Int) (c d : Nat) (w : World) (a : Nat → Addr) (hS : Sent codes w a) (hA : Lists w A m) (hB : Ints w B W) (hc : m.length ≤ c) (hm : m.length ≤ 2000000) (hf : m.flatten.length ≤ 2000000) (hbad : ¬ (fewS m = true ∧ W.length ≤ 200)) :
    Calls Tryd.prog 6 #[.slice A m.length c, .slice B W.length d] w fun e w' => e = .returned (.bool true) ∧ Below w.heap.size w w' := by
  have HE : Hid (∀ w', Below w.heap.size w w' → Env [2, 3] w' a) := hide fun w' hb => (hS.toEnv.sub (fun c h => sub23 h)).below hb
  have HUN := hide (fun w' (hb : Below w.heap.size w w') => unlike_any w' a (HE.out w' hb))
  have hfw := fun w' (hb : Below w.heap.size w w') => fewS_ok A m c w' (hA.below hb) hc hm hf
  have hlen := hB.len
  by_cases h1 : fewS m = true
  · have h2 : 200 < (W.length : Int) := by
      have : ¬ W.length ≤ 200 := fun h => hbad ⟨h1, h⟩
      omega
    rw [h1] at hfw
    have HF := hide hfw
    clear hfw hbad
    go_enter Tryd.func6, Tryd.ntmps6
    go_wp2_with (first
      | (go_at_call 10; refine Calls.mono (HUN.out _ (Below.refl _ _)) ?_; rintro e w1 ⟨rfl, hB1⟩)
      | (go_at_call 11; refine Calls.mono (HF.out w1 hB1) ?_; rintro e w2 ⟨rfl, b2⟩; have hB2 := below_trans hB1 b2))
    go_ret
    exact ⟨rfl, hB2⟩
  · rw [show fewS m = false by simpa using h1] at hfw
    have HF := hide hfw
    clear hfw hbad h1
    go_enter Tryd.func6, Tryd.ntmps6
    go_wp2_with (first
      | (go_at_call 10; refine Calls.mono (HUN.out _ (Below.refl _ _)) ?_; rintro e w1 ⟨rfl, hB1⟩)
      | (go_at_call 11; refine Calls.mono (HF.out w1 hB1) ?_; rintro e w2 ⟨rfl, b2⟩; have hB2 := below_trans hB1 b2))
    go_ret
    exact ⟨rfl, hB2⟩

set_option maxRecDepth 100000 in
set_option maxHeartbeats 4000000 in
theorem law_spread_bad (A B : Option Addr) (m : List (List Int)) (W : List Int) (c d : Nat) (w : World) (a : Nat → Addr) (hS : Sent codes w a) (hH : Handle w) (hA : Lists w A m) (hB : Ints w B W) (hc : m.length ≤ c) (hd : W.length ≤ d) (hm : m.length ≤ 2000000) (hf : m.flatten.length ≤ 2000000)
    (h1 : fewS m = true) (h2 : W.length ≤ 200) (hbad : ¬ (sqErr m = 0 ∧ W.length = m.length ∧ numb W = true)) :
    Calls Tryd.prog 6 #[.slice A m.length c, .slice B W.length d] w fun e w' => e = .returned (.bool true) ∧ Below w.heap.size w w' := by
  have HE : Hid (∀ w', Below w.heap.size w w' → Env [2, 3] w' a) := hide fun w' hb => (hS.toEnv.sub (fun c h => sub23 h)).below hb
  have HUN := hide (fun w' (hb : Below w.heap.size w w') => unlike_any w' a (HE.out w' hb))
  have hfw := fun w' (hb : Below w.heap.size w w') => fewS_ok A m c w' (hA.below hb) hc hm hf
  rw [h1] at hfw
  have HF := hide hfw
  have hlen := hB.len
  have hlena := hA.len
  have h2' : (W.length : Int) ≤ 200 := by omega
  have hrows : ∀ r, r ∈ m → r.length ≤ 2000000 := fun r hr => Nat.le_trans (List.Sublist.length_le (List.sublist_flatten_of_mem hr)) hf
  have hse := fun w' (hb : Below w.heap.size w w') => squareError_ok A m c w' (hA.below hb) hc hrows
  have HCL := hide (fun w' (hb : Below w.heap.size w w') => listsS_ok A m c w' (hA.below hb) hc hm hf)
  have HCI := hide (fun w' (hb : Below w.heap.size w w') => ints_ok B W d w' (hB.below hb) hd (by omega))
  have HNIL := hide (fun w' => same_nil w')
  by_cases h0 : sqErr m = 0
  · rw [h0] at hse
    have HSE := hide hse
    have hsp := fun (A' B' : Option Addr) (x y : Nat) w' (g1 : Lists w' A' m) (g2 : Ints w' B' W) (hb : Below w.heap.size w w') => spread_err3 A' B' m W x y w' a (HE.out w' hb) g1 g2 h0 (fun g => hbad ⟨h0, g⟩)
    have hcd := fun w' (hb : Below w.heap.size w w') => coded_any w' a (hS.below hb) (hH.below hb) 3 (by decide) 3
    rw [decide_eq_true (by rfl)] at hcd
    have HSP := hide hsp
    have HCD := hide hcd
    have HNU := hide (fun w' (hb : Below w.heap.size w w') => numbersS_ok B W d w' (hB.below hb) hd (by omega))
    by_cases hl : (W.length : Int) = m.length
    · have hne : ((W.length : Int) != (m.length : Int)) = false := by rw [hl]; simp
      have hn : numb W = false := by
        cases hq : numb W with
        | false => rfl
        | true => exact absurd ⟨h0, by omega, hq⟩ hbad
      have hnu := HNU.out
      rw [hn] at hnu
      have HN := hide hnu
      clear hse hsp hcd hnu HNU hfw h0 h1 hbad hn
      go_enter Tryd.func6, Tryd.ntmps6
      go_wp2_with (first
        | (go_at_call 10; refine Calls.mono (HUN.out _ (Below.refl _ _)) ?_; rintro e w1 ⟨rfl, hB1⟩)
        | (go_at_call 11; refine Calls.mono (HF.out w1 hB1) ?_; rintro e w2 ⟨rfl, b2⟩; have hB2 := below_trans hB1 b2)
        | (go_at_call 26; refine Calls.mono (HSE.out w2 hB2) ?_; rintro e w3 ⟨rfl, b3⟩; have hB3 := below_trans hB2 b3)
        | (go_at_call 27; refine Calls.mono (HN.out w3 hB3) ?_; rintro e w4 ⟨rfl, b4⟩; have hB4 := below_trans hB3 (drawn_below b4))
        | (go_at_call 13; refine Calls.mono (HCL.out w4 hB4) ?_; rintro e w5 ⟨A5, c5, rfl, hI5, hc5, b5⟩; have hB5 := below_trans hB4 b5)
        | (go_at_call 18; refine Calls.mono (HCI.out w5 hB5) ?_; rintro e w6 ⟨A6, c6, rfl, hI6, hc6, b6⟩; have hB6 := below_trans hB5 b6)
        | (go_at_call 29; refine Calls.mono (HSP.out A5 A6 c5 c6 w6 (hI5.below b6) hI6 hB6) ?_; rintro e w7 ⟨rfl, b7⟩; have hB7 := below_trans hB6 b7)
        | (go_at_call 19; refine Calls.mono (HCD.out w7 hB7) ?_; rintro e w8 ⟨rfl, b8⟩; have hB8 := below_trans hB7 b8)
        | (go_at_call 25; refine Calls.mono (HNIL.out w8) ?_; rintro e w9 ⟨rfl, b9⟩; have hB9 := below_trans hB8 b9))
      go_ret
      exact ⟨rfl, hB9⟩
    · have hne : ((W.length : Int) != (m.length : Int)) = true := by rw [bne_iff_ne]; exact hl
      clear hse hsp hcd HNU hfw h0 h1 hbad hl
      go_enter Tryd.func6, Tryd.ntmps6
      go_wp2_with (first
        | (go_at_call 10; refine Calls.mono (HUN.out _ (Below.refl _ _)) ?_; rintro e w1 ⟨rfl, hB1⟩)
        | (go_at_call 11; refine Calls.mono (HF.out w1 hB1) ?_; rintro e w2 ⟨rfl, b2⟩; have hB2 := below_trans hB1 b2)
        | (go_at_call 26; refine Calls.mono (HSE.out w2 hB2) ?_; rintro e w4 ⟨rfl, b3⟩; have hB4 := below_trans hB2 b3)
        | (go_at_call 13; refine Calls.mono (HCL.out w4 hB4) ?_; rintro e w5 ⟨A5, c5, rfl, hI5, hc5, b5⟩; have hB5 := below_trans hB4 b5)
        | (go_at_call 18; refine Calls.mono (HCI.out w5 hB5) ?_; rintro e w6 ⟨A6, c6, rfl, hI6, hc6, b6⟩; have hB6 := below_trans hB5 b6)
        | (go_at_call 29; refine Calls.mono (HSP.out A5 A6 c5 c6 w6 (hI5.below b6) hI6 hB6) ?_; rintro e w7 ⟨rfl, b7⟩; have hB7 := below_trans hB6 b7)
        | (go_at_call 19; refine Calls.mono (HCD.out w7 hB7) ?_; rintro e w8 ⟨rfl, b8⟩; have hB8 := below_trans hB7 b8)
        | (go_at_call 25; refine Calls.mono (HNIL.out w8) ?_; rintro e w9 ⟨rfl, b9⟩; have hB9 := below_trans hB8 b9))
      go_ret
      exact ⟨rfl, hB9⟩
  · obtain ⟨cc, hc', hc8⟩ := sqErr_nat m
    have hc0 : 0 < cc := by
      rcases Nat.eq_zero_or_pos cc with h | h
      · subst h; exact absurd hc' h0
      · exact h
    have hsp := fun (A' B' : Option Addr) (x y : Nat) w' (g1 : Lists w' A' m) (hb : Below w.heap.size w w') => spread_err1 A' B' m W x y w' a (HE.out w' hb) g1 h0
    have hcd := fun w' (hb : Below w.heap.size w w') => coded_any w' a (hS.below hb) (hH.below hb) cc hc8 cc
    rw [hc'] at hsp hse
    rw [decide_eq_true rfl] at hcd
    have he : errC a (cc : Int) = .iface 155 (.pointer (some (a cc))) := errC_pos' a (by omega)
    rw [he] at hsp hcd
    have HSE := hide hse
    have HSP := hide hsp
    have HCD := hide hcd
    have hci : 0 < (cc : Int) := by omega
    have hcn : ((cc : Int) == 0) = false := by rw [beq_eq_false_iff_ne]; omega
    clear hse hsp hcd he hc' h0 hfw h1 hbad
    go_enter Tryd.func6, Tryd.ntmps6
    go_wp2_with (first
      | (go_at_call 10; refine Calls.mono (HUN.out _ (Below.refl _ _)) ?_; rintro e w1 ⟨rfl, hB1⟩)
      | (go_at_call 11; refine Calls.mono (HF.out w1 hB1) ?_; rintro e w2 ⟨rfl, b2⟩; have hB2 := below_trans hB1 b2)
      | (go_at_call 26; refine Calls.mono (HSE.out w2 hB2) ?_; rintro e w4 ⟨rfl, b3⟩; have hB4 := below_trans hB2 b3)
      | (go_at_call 13; refine Calls.mono (HCL.out w4 hB4) ?_; rintro e w5 ⟨A5, c5, rfl, hI5, hc5, b5⟩; have hB5 := below_trans hB4 b5)
      | (go_at_call 18; refine Calls.mono (HCI.out w5 hB5) ?_; rintro e w6 ⟨A6, c6, rfl, hI6, hc6, b6⟩; have hB6 := below_trans hB5 b6)
      | (go_at_call 29; refine Calls.mono (HSP.out A5 A6 c5 c6 w6 (hI5.below b6) hB6) ?_; rintro e w7 ⟨rfl, b7⟩; have hB7 := below_trans hB6 b7)
      | (go_at_call 19; refine Calls.mono (HCD.out w7 hB7) ?_; rintro e w8 ⟨rfl, b8⟩; have hB8 := below_trans hB7 b8)
      | (go_at_call 25; refine Calls.mono (HNIL.out w8) ?_; rintro e w9 ⟨rfl, b9⟩; have hB9 := below_trans hB8 b9))
    go_ret
    exact ⟨rfl, hB9⟩
end Go.Proofs.YtcnecmcbjpehcaaDoor

/- The walk of the law OrderSpread: tables that are right, weights that are right. Condition: the variables read as laid; the arguments are of modest bulk. -/
namespace Go.Proofs.YtcnecmcbjpehcaaDoor
open Go.RowKit Go.Deep Go.Proofs.YtcnecmcbjpehcaaDoorW.PrintWords

/-- the weights, times S: the first i -/
def ownTo (W : List Int) (S : Int) (i : Nat) : List Int := (W.take i).map fun x => x * S
theorem ownTo_len {W : List Int} (S : Int) {i : Nat} (h : i ≤ W.length) : (ownTo W S i).length = i := by unfold ownTo; rw [List.length_map, List.length_take]; omega
theorem ownTo_succ {W : List Int} (S : Int) {i : Nat} (h : i < W.length) : ownTo W S (i + 1) = ownTo W S i ++ [W.getD i 0 * S] := by
  unfold ownTo
  rw [take_at W i h, List.map_append]
  rfl
theorem ownTo_all (W : List Int) (S : Int) : ownTo W S W.length = W.map fun x => x * S := by unfold ownTo; rw [List.take_length]
theorem own_bound {x S : Int} (hx : 0 ≤ x ∧ x ≤ 4096) (hs : 0 ≤ S ∧ S ≤ 32768) : 0 ≤ x * S ∧ x * S ≤ 134217728 := by
  obtain ⟨a, rfl⟩ := Int.eq_ofNat_of_zero_le hx.1
  obtain ⟨b, rfl⟩ := Int.eq_ofNat_of_zero_le hs.1
  have h : a * b ≤ 4096 * 32768 := Nat.mul_le_mul (by omega) (by omega)
  have e : ((a : Int) * (b : Int)) = ((a * b : Nat) : Int) := by push_cast; rfl
  rw [e]
  omega
theorem ints_new (w : World) (n : Nat) (y : Int) (t : TypeId) : Ints ((w.drewN n).alloc (.cells #[.int .i64 y] t)) (some ⟨w.heap.size, 0, none⟩) [y] := Ints.lit (w.drewN n) [y] t (by simp)

set_option maxRecDepth 100000 in
set_option maxHeartbeats 4000000 in
theorem law_spread_good (A B : Option Addr) (m : List (List Int)) (W : List Int) (c d : Nat) (w : World) (a : Nat → Addr) (hS : Sent codes w a) (hH : Handle w) (hA : Lists w A m) (hB : Ints w B W) (hc : m.length ≤ c) (hd : W.length ≤ d) (hm : m.length ≤ 2000000) (hf : m.flatten.length ≤ 2000000)
    (h1 : fewS m = true) (h2 : W.length ≤ 200) (h0 : sqErr m = 0) (hl : W.length = m.length) (hn : numb W = true) :
    Calls Tryd.prog 6 #[.slice A m.length c, .slice B W.length d] w fun e w' => e = .returned (.bool true) ∧ Below w.heap.size w w' := by
  have HE : Hid (∀ w', Below w.heap.size w w' → Env [2, 3] w' a) := hide fun w' hb => (hS.toEnv.sub (fun c h => sub23 h)).below hb
  have HUN := hide (fun w' (hb : Below w.heap.size w w') => unlike_any w' a (HE.out w' hb))
  have hfw := fun w' (hb : Below w.heap.size w w') => fewS_ok A m c w' (hA.below hb) hc hm hf
  rw [h1] at hfw
  have HF := hide hfw
  have hrows : ∀ r, r ∈ m → r.length ≤ 2000000 := fun r hr => Nat.le_trans (List.Sublist.length_le (List.sublist_flatten_of_mem hr)) hf
  have hse := fun w' (hb : Below w.heap.size w w') => squareError_ok A m c w' (hA.below hb) hc hrows
  rw [h0] at hse
  have HSE := hide hse
  have HCL := hide (fun w' (hb : Below w.heap.size w w') => listsS_ok A m c w' (hA.below hb) hc hm hf)
  have hci := fun w' (hb : Below w.heap.size w w') => ints_ok B W d w' (hB.below hb) hd (by omega)
  have hnu := fun w' (hb : Below w.heap.size w w') => numbersS_ok B W d w' (hB.below hb) hd (by omega)
  rw [hn] at hnu
  have hso := fun w' (hb : Below w.heap.size w w') => spreadOf_ok A B m W c d w' (hA.below hb) (hB.below hb) hc hd h0 hl hn
  have hsp := fun (A' B' : Option Addr) (x y : Nat) w' (g1 : Lists w' A' m) (g2 : Ints w' B' W) (hb : Below w.heap.size w w') => spread_ok A' B' m W x y w' a (HE.out w' hb) g1 g2 h0 hl hn
  have HCD := hide (fun w' (hb : Below w.heap.size w w') => coded_any w' a (hS.below hb) (hH.below hb) 0 (by decide) 0)
  obtain ⟨h8, hp, hall, hgood⟩ := sqErr_zero h0
  have hab := above_spread (w := W) hall hgood hl hp
  obtain ⟨g3, g4⟩ := goodRow_get hall 0 hp
  have hsum : 0 ≤ (m.getD 0 []).sum ∧ (m.getD 0 []).sum ≤ 32768 := by
    have r0 := List.all_eq_true.1 hgood 0 (List.mem_range.2 hp)
    have r1 : colSum m 0 = (m.getD 0 []).sum := by
      unfold goodAt at r0
      rw [Bool.and_eq_true] at r0
      exact of_decide_eq_true r0.2
    have r2 := colTo_bound hall 0 hp m.length (Nat.le_refl _)
    unfold colSum at r1
    omega
  obtain ⟨b, off, A0, c0, rfl, hb0, d0, hle0, hI0⟩ := hA.at_ 0 hp
  have hsm : Small (m.getD 0 []) := numb_small g3 (by omega)
  have HS0 := hide (fun w' (hb : Below w.heap.size w w') => sumS_ok A0 (m.getD 0 []) c0 w' (hI0.below hb) hle0 hsm)
  have hd0 := fun w' (hb : Below w.heap.size w w') => show w'.cell? ⟨b, off, none⟩ = some (.slice A0 (m.getD 0 []).length c0) from (hb.cell (p := ⟨b, off, none⟩) hb0).trans d0
  have hs0 := HS0.out
  rw [g4] at hs0 hd0
  have hwl := fun i (hi : i < W.length) => numb_get hn i hi
  have hlen := spread_len m W
  have hin := fun (A' : Option Addr) (x : Nat) w' (g : Ints w' A' (spreadOf m W)) (gx : (spreadOf m W).length ≤ x) => ints_ok A' (spreadOf m W) x w' g gx (by rw [spread_len]; exact hm)
  have hsame := fun (A' B' : Option Addr) (x y : Nat) w' (g1 : Ints w' A' (spreadOf m W)) (g2 : Ints w' B' (spreadOf m W)) => same_any A' B' (spreadOf m W) (spreadOf m W) x y w' g1 g2
  rw [decide_eq_true rfl] at hsame
  have habove : ∀ (A' B' : Option Addr) (x y : Nat) w', Ints w' A' (ownTo W (m.getD 0 []).sum W.length) → Ints w' B' (spreadOf m W) → m.length ≤ x → (spreadOf m W).length ≤ y → Below w.heap.size w w' →
      Calls Tryd.prog 17 #[.slice A' m.length x, .slice B' (spreadOf m W).length y] w' fun e w'' => (e = .returned (.tuple #[.bool true, .nilIface]) ∨ ∃ q, e = .returned (.tuple #[.bool false, .iface 155 (.pointer (some q))])) ∧ Below w'.heap.size w' w'' := by
    intro A' B' x y w' k1 k2 k3 k4 k5
    have ol : (ownTo W (m.getD 0 []).sum W.length).length = m.length := by rw [ownTo_len _ (Nat.le_refl _), hl]
    rw [← ol]
    rw [ownTo_all] at k1 ol ⊢
    by_cases g : lErr (W.map fun x => x * (m.getD 0 []).sum) (spreadOf m W) = 0
    · refine (aboveP_ok A' B' _ _ x y w' a (HE.out w' k5) k1 k2 (by rw [ol]; exact k3) k4 g).mono ?_
      rintro e w'' ⟨he, hb⟩
      rw [hab] at he
      exact ⟨.inl he, hb⟩
    · refine (aboveP_err A' B' _ _ x y w' a (HE.out w' k5) k1 k2 (by rw [ol]; exact k3) k4 g).mono ?_
      rintro e w'' ⟨he, hb⟩
      rw [errC_pos' a g] at he
      exact ⟨.inr ⟨_, he⟩, hb⟩
  rw [hl] at hci hnu hso h2
  rw [hl] at hwl habove
  have hown0 : ∀ i, i < m.length → ownTo W (m.getD 0 []).sum (i + 1) = ownTo W (m.getD 0 []).sum i ++ [W.getD i 0 * (m.getD 0 []).sum] := fun i hi => ownTo_succ _ (by omega)
  have hownl : ∀ i, i ≤ m.length → (ownTo W (m.getD 0 []).sum i).length = i := fun i hi => ownTo_len _ (by omega)
  have h2' : (m.length : Int) ≤ 200 := by omega
  have hne : ((m.length : Int) != (m.length : Int)) = false := by simp
  have hp' : (0 : Int) < (m.length : Int) := by omega
  have HWL := hide hl
  rw [hl]
  have HOWN0 := hide hown0
  have HOWNL := hide hownl
  have HWI := hide hwl
  have HAB := hide habove
  generalize (m.getD 0 []).sum = S at hs0 hsum HOWN0 HOWNL HAB
  generalize spreadOf m W = Z at hso hsp hin hsame HAB hlen
  have HCI := hide hci
  have HNU := hide hnu
  have HSO := hide hso
  have HSP := hide hsp
  have HIN := hide hin
  have HSAME := hide hsame
  have HS1 := hide hs0
  have HD0 := hide hd0
  have HZL := hide hlen
  clear hse hfw h0 h1 hci hnu hso hsp hin hsame hs0 hd0 hwl hown0 hownl habove hab hn hall hgood g3 g4 hle0 hI0 HS0 hsm hl hlen d0
  go_enter Tryd.func6, Tryd.ntmps6
  go_wp2_with (first
    | (go_at_call 10; refine Calls.mono (HUN.out _ (Below.refl _ _)) ?_; rintro e w1 ⟨rfl, hB1⟩)
    | (go_at_call 11; refine Calls.mono (HF.out w1 hB1) ?_; rintro e w2 ⟨rfl, b2⟩; have hB2 := below_trans hB1 b2)
    | (go_at_call 26; refine Calls.mono (HSE.out w2 hB2) ?_; rintro e w3 ⟨rfl, b3⟩; have hB3 := below_trans hB2 b3)
    | (go_at_call 27; refine Calls.mono (HNU.out w3 hB3) ?_; rintro e w4 ⟨rfl, b4⟩; have hB4 := below_trans hB3 (drawn_below b4))
    | (go_at_call 28; refine Calls.mono (HSO.out w4 hB4) ?_; rintro e w5 ⟨A5, c5, rfl, hI5, hc5, b5⟩; have hB5 := below_trans hB4 b5)
    | (go_at_call 13; refine Calls.mono (HCL.out w5 hB5) ?_; rintro e w6 ⟨A6, c6, rfl, hI6, hc6, b6⟩; have hB6 := below_trans hB5 b6)
    | (go_at_call 18; refine Calls.mono (HCI.out w6 hB6) ?_; rintro e w7 ⟨A7, c7, rfl, hI7, hc7, b7⟩; have hB7 := below_trans hB6 b7)
    | (go_at_call 29; refine Calls.mono (HSP.out A6 A7 c6 c7 w7 (hI6.below b7) hI7 hB7) ?_; rintro e w8 ⟨A8, c8, rfl, hI8, hc8, b8⟩; have hB8 := below_trans hB7 b8)
    | (go_at_call 19; refine Calls.mono (HCD.out w8 hB8) ?_; rintro e w9 ⟨rfl, b9⟩; have hB9 := below_trans hB8 b9)
    | (go_at_call 25; refine Calls.mono (HSAME.out A8 A5 c8 c5 w9 (hI8.below b9) (hI5.below (below_trans b6 (below_trans b7 (below_trans b8 b9))))) ?_; rintro e w10 ⟨rfl, b10⟩; have hB10 := below_trans hB9 b10))
  have HI8 := hide (hI8.below (below_trans b9 b10))
  go_loopw [10, 11] (fun ov iv wr => ∃ i : Nat, i ≤ m.length ∧ iv = .int .i64 i ∧ wr.ownsRow w10.heap.size 3 1 ov i (intCells (ownTo W S i)) ∧ Below w10.heap.size w10 wr) (fun _ iv _ => m.length - (intOf iv).toNat)
  case atStart => exact ⟨0, Nat.zero_le _, rfl, nil_own _ _ _ _, Below.refl _ _⟩
  case round =>
    obtain ⟨i, hi, rfl, hown, hBk⟩ := hrel
    obtain ⟨wi, rfl⟩ : ∃ wi : World, wi = wr := ⟨_, rfl⟩
    obtain ⟨A9, c9', rfl, hc9, _⟩ := own_shape hown
    have hBi := below_trans hB10 hBk
    have HO := hide hown
    clear hown
    have i0 : (0 : Int) ≤ (i : Int) := Int.natCast_nonneg _
    by_cases hil : i < m.length
    · have i1 : (i : Int) < (m.length : Int) := by omega
      obtain ⟨b1, o1, rfl, hb1', e1w⟩ := hB.at_ i (by rw [HWL.out]; exact hil)
      have e1c := fun w' (hb : Below w.heap.size w w') => (hb.cell (p := ⟨b1, o1 + i, none⟩) hb1').trans e1w
      have e2 := HD0.out wi hBi
      have hx := HWI.out i hil
      have hss := HOWN0.out i hil
      have hpb := own_bound hx hsum
      generalize W.getD i 0 = x at e1c e1w hx hss hpb
      have hw : IntKind.i64.wrap (x * S) = x * S := IntWalk.i64_in _ (by omega)
      have HE1 := hide e1c
      have e1 := HE1.out wi hBi
      clear e1c e1w
      have HSS := hide hss
      have HC3 := hide (show ((ownTo W S i).length + 1) * 8 ≤ 140737488355328 by rw [HOWNL.out i (by omega)]; omega)
      have HSZ := hide hBk.size
      have HO1 := hide (own_list HO.out)
      have HO2 := hide (fun n => (show (wi.drewN n).ownsRow w10.heap.size 3 1 (.slice A9 i c9') (ownTo W S i).length (intCells (ownTo W S i)) from HO1.out))
      have HDR := hide hBi.drew
      have HSZ3 := hide (fun n => (HSZ.out : w10.heap.size ≤ (wi.drewN n).heap.size))
      have HSZ2 := hide (fun n o => (by rw [World.size_alloc]; exact Nat.le_succ_of_le HSZ.out : w10.heap.size ≤ ((wi.drewN n).alloc o).heap.size))
      have hgr := fun n o w' (hg : ((wi.drewN n).alloc o).grownBy w' (Value.slice A9 i c9').ownBlock) => (show Below w10.heap.size w10 w' from (((below_drewN' hBk n).alloc (HSZ3.out n) o).grown hg (HSZ2.out n o) (fun j hj => (HO.out.lt j hj).1)))
      have HG := hide hgr
      clear hgr
      have hBd : ∀ n, Below w10.heap.size w10 (wi.drewN n) := fun n => below_drewN' hBk n
      have HBD := hide hBd
      clear hBd
      clear hss hpb
      go_wp2_with (fail)
      go_region_held3 (fun w' => w'.cell? ⟨b1, o1 + i, none⟩ = some (.int .i64 x) ∧ w'.cell? ⟨b, off, none⟩ = some (.slice A0 m.length c0))
        (first | go_keep | exact ⟨‹_›, ‹_›⟩ | trivial)
        ((first
          | (go_at_call 30
             (with_reducible refine Calls.mono (HS1.out _ HDR.out) ?_)
             rintro e w11 ⟨rfl, hd11⟩
             obtain ⟨⟨n11, rfl⟩⟩ := hd11)
          | (refine step_app_ints _ rfl _ _ rfl w10.heap.size (.slice A9 i c9') _ rfl ((HO2.out _).alloc _) _ 1 1 [x * S] rfl rfl (ints_new wi _ (x * S) _) HC3.out (HSZ2.out _ _) ?_
             intro A' c' w12 hc12 ho12 hg12 hob12
             have hb12 := HG.out _ _ _ hg12
             have q1 := HE1.out w12 (below_trans hB10 hb12)
             have q2 := HD0.out w12 (below_trans hB10 hb12))
          | fail))
      rw [← HSS.out, HOWNL.out (i + 1) (by omega)] at ho12
      go_wp2_with (fail)
      go_roundw
      case rel => exact ⟨i + 1, by omega, by go_num, by rw [HOWNL.out i (by omega)]; exact ho12, hb12⟩
      case measure => simp [intOf]; omega
    · obtain rfl : i = m.length := by omega
      have HIW := hide (show Ints wi A9 (ownTo W S m.length) from Ints.own (c := c9') (e := 3) (base := w10.heap.size) (by rw [HOWNL.out _ (Nat.le_refl _)]; exact HO.out))
      go_wp2_with (first
        | (go_at_call 18; refine Calls.mono (HIN.out A8 c8 wi (HI8.out.below hBk) hc8) ?_; rintro e w12 ⟨A12, c12, rfl, hI12, hc12, b12⟩; have hB12 := below_trans hBi b12)
        | (go_at_call 17; refine Calls.mono (HAB.out A9 A12 c9' c12 w12 (HIW.out.below b12) hI12 hc9 hc12 hB12) ?_; rintro e w13 ⟨hor, b13⟩; have hB13 := below_trans hB12 b13; rcases hor with rfl | ⟨q, rfl⟩))
      all_goals
        go_wp2_with (fail)
        go_ret
        exact ⟨rfl, hB13⟩
theorem law_spread (A B : Option Addr) (m : List (List Int)) (W : List Int) (c d : Nat) (w : World) (a : Nat → Addr) (hS : Sent codes w a) (hH : Handle w) (hA : Lists w A m) (hB : Ints w B W) (hc : m.length ≤ c) (hd : W.length ≤ d) (hm : m.length ≤ 2000000) (hf : m.flatten.length ≤ 2000000) :
    Calls Tryd.prog 6 #[.slice A m.length c, .slice B W.length d] w fun e w' => e = .returned (.bool true) ∧ Below w.heap.size w w' := by
  by_cases h : fewS m = true ∧ W.length ≤ 200
  · by_cases g : sqErr m = 0 ∧ W.length = m.length ∧ numb W = true
    · exact law_spread_good A B m W c d w a hS hH hA hB hc hd hm hf h.1 h.2 g.1 g.2.1 g.2.2
    · exact law_spread_bad A B m W c d w a hS hH hA hB hc hd hm hf h.1 h.2 g
  · exact law_spread_many A B m W c d w a hS hA hB hc hm hf h
end Go.Proofs.YtcnecmcbjpehcaaDoor

/- The walk of movesOf: the same moves, in a row of one's own. No condition. -/
namespace Go.Proofs.YtcnecmcbjpehcaaDoor
open Go.RowKit Go.Deep Go.Proofs.YtcnecmcbjpehcaaDoorW.PrintWords

theorem step_app_trips (w : World) {ops : Array Oper} {o : Oper} {a : Act} {K : Act → World → Prop} {Q : Exit → Act → World → Prop} {E : Prop} (hgd : o.guard = none) (s x : Operand)
    (ho : o.op = .call { callee := .builtin .append, args := #[s, x], argTypes := #[46, 46] })
    (base : Nat) (v : Value) (l0 : List Mv) (hs : a.eval s = v) (hown : w.ownsRow base 62 3 v l0.length (tripCells l0))
    (A : Option Addr) (m c : Nat) (l : List Mv) (hx : a.eval x = .slice A m c) (hm : m = l.length) (hr : Trips w A l)
    (hbytes : (l0.length + m) * 24 ≤ 140737488355328) (hbase : base ≤ w.heap.size)
    (h : ∀ A' c' w', (l0 ++ l).length ≤ c' → w'.ownsRow base 62 3 (.slice A' (l0 ++ l).length c') (l0 ++ l).length (tripCells (l0 ++ l)) → w.grownBy w' v.ownBlock → ((Value.slice A' (l0 ++ l).length c').ownBlock = v.ownBlock ∨ (Value.slice A' (l0 ++ l).length c').ownBlock = some w.heap.size) →
      K (a.put o.dst (.slice A' (l0 ++ l).length c')) w') :
    if Region.wanted o (yielded ops a.tmps) = true then Oper.wp Tryd.prog o a w K Q else E := by
  obtain ⟨i0, hi0, hz0, hz1, hz2⟩ := info_parts trip_info
  subst hm
  refine step_append_any w hgd s x _ ho base 62 i0 _ 3 24 Tryd.underlying46 hi0 hz0 hz1 hz2 rfl (by omega) v l0.length (tripCells l0) hs hown w.heap.size A l.length c (tripCells l) hx hr.reads (tripCells_one l) (by simp only [maxLen]; omega) hbytes hbase ?_
  intro v' w' h1 h2 h3
  rw [← tripCells_append, ← List.length_append] at h1
  obtain ⟨A', c', rfl, hc, _⟩ := own_shape h1
  exact h A' c' w' hc h1 h2 h3
theorem trips_new (w : World) (f t s : Int) (ty : TypeId) : Trips (w.drew.alloc (.cells #[.int .i64 f, .int .i64 t, .int .i64 s] ty)) (some ⟨w.heap.size, 0, none⟩) [(f, t, s)] :=
  ⟨by simp, fun i hi => by
    obtain rfl : i = 0 := by simp at hi; omega
    refine ⟨w.heap.size, 0, rfl, by simp, ?_, ?_, ?_⟩
    · show (w.drew.alloc _).cell? ⟨w.drew.heap.size, 0, none⟩ = _; rw [World.cell?_alloc_at _ _ _ _ rfl]; rfl
    · show (w.drew.alloc _).cell? ⟨w.drew.heap.size, 1, none⟩ = _; rw [World.cell?_alloc_at _ _ _ _ rfl]; rfl
    · show (w.drew.alloc _).cell? ⟨w.drew.heap.size, 2, none⟩ = _; rw [World.cell?_alloc_at _ _ _ _ rfl]; rfl⟩
theorem take_trip (l : List Mv) (i : Nat) (h : i < l.length) : l.take (i + 1) = l.take i ++ [l.getD i (0, 0, 0)] := by
  rw [List.take_succ_eq_append_getElem h]
  simp [List.getD_eq_getElem?_getD, h]
theorem trip_own_list {w : World} {base e : Nat} {v : Value} {n : Nat} {l : List Mv} (h : w.ownsRow base e 3 v n (tripCells l)) : w.ownsRow base e 3 v l.length (tripCells l) := by
  have : n = l.length := by have := h.1; rw [tripCells_length] at this; omega
  rw [← this]; exact h

set_option maxRecDepth 100000 in
set_option maxHeartbeats 4000000 in
theorem movesOf_ok (B : Option Addr) (l : List Mv) (d : Nat) (w : World) (hB : Trips w B l) (hl : l.length ≤ 2000000) :
    Calls Tryd.prog 23 #[.slice B l.length d] w fun e w' => ∃ A c, e = .returned (.slice A l.length c) ∧ Trips w' A l ∧ l.length ≤ c ∧ Below w.heap.size w w' := by
  have hlen := hB.len
  go_enter Tryd.func23, Tryd.ntmps23
  go_wp2_with (fail)
  go_loopw [3, 4] (fun ov iv wr => ∃ i : Nat, i ≤ l.length ∧ iv = .int .i64 i ∧ wr.ownsRow w.heap.size 62 3 ov i (tripCells (l.take i)) ∧ Below w.heap.size w wr) (fun _ iv _ => l.length - (intOf iv).toNat)
  case atStart => exact ⟨0, Nat.zero_le _, rfl, nil_own _ _ _ _, Below.refl _ _⟩
  case round =>
    obtain ⟨i, hi, rfl, hown, hBk⟩ := hrel
    obtain ⟨wi, rfl⟩ : ∃ wi : World, wi = wr := ⟨_, rfl⟩
    obtain ⟨A9, c9, rfl, hc9, _⟩ := own_shape hown
    have HO := hide hown
    clear hown
    have i0 : (0 : Int) ≤ (i : Int) := Int.natCast_nonneg _
    by_cases hil : i < l.length
    · have i1 : (i : Int) < (l.length : Int) := by omega
      obtain ⟨b, off, rfl, hb, e1w, e2w, e3w⟩ := hB.at_ i hil
      have hss := take_trip l i hil
      generalize l.getD i (0, 0, 0) = m at e1w e2w e3w hss
      obtain ⟨f, t, s⟩ := m
      dsimp only at e1w e2w e3w
      have HE := hide (fun w' (h : Below w.heap.size w w') => (⟨(h.cell (p := ⟨b, off + i * 3, none⟩) hb).trans e1w, (h.cell (p := ⟨b, off + i * 3 + 1, none⟩) hb).trans e2w, (h.cell (p := ⟨b, off + i * 3 + 2, none⟩) hb).trans e3w⟩ :
        w'.cell? ⟨b, off + i * 3, none⟩ = some (.int .i64 f) ∧ w'.cell? ⟨b, off + i * 3 + 1, none⟩ = some (.int .i64 t) ∧ w'.cell? ⟨b, off + i * 3 + 2, none⟩ = some (.int .i64 s)))
      clear e1w e2w e3w
      obtain ⟨e1, e2, e3⟩ := HE.out wi hBk
      have HSS := hide hss
      have HC3 := hide (show ((l.take i).length + 1) * 24 ≤ 140737488355328 by rw [List.length_take]; omega)
      have HSZ := hide hBk.size
      have hgr := fun o w' (hg : (wi.drew.alloc o).grownBy w' (Value.slice A9 i c9).ownBlock) => (show Below w.heap.size w w' from ((hBk.drew.alloc HSZ.out o).grown hg (by rw [World.size_alloc]; exact Nat.le_succ_of_le HSZ.out) (fun j hj => (HO.out.lt j hj).1)))
      have HG := hide hgr
      have HO2 := hide (show wi.drew.ownsRow w.heap.size 62 3 (.slice A9 i c9) (l.take i).length (tripCells (l.take i)) from trip_own_list HO.out)
      have HSZ2 := hide (fun o => (by rw [World.size_alloc]; exact Nat.le_succ_of_le HSZ.out : w.heap.size ≤ (wi.drew.alloc o).heap.size))
      clear hgr hss
      go_wp2_with (fail)
      go_region_held3 (fun w' => w'.cell? ⟨b, off + i * 3, none⟩ = some (.int .i64 f) ∧ w'.cell? ⟨b, off + i * 3 + 1, none⟩ = some (.int .i64 t) ∧ w'.cell? ⟨b, off + i * 3 + 2, none⟩ = some (.int .i64 s))
        (first | go_keep | exact ⟨‹_›, ‹_›, ‹_›⟩ | trivial)
        ((first
          | (refine step_app_trips _ rfl _ _ rfl w.heap.size (.slice A9 i c9) _ rfl (HO2.out.alloc _) _ 1 1 [(f, t, s)] rfl rfl (trips_new wi f t s _) HC3.out (HSZ2.out _) ?_
             intro A' c' w12 hc12 ho12 hg12 hob12
             have hb12 := HG.out _ _ hg12
             obtain ⟨q1, q2, q3⟩ := HE.out w12 hb12)
          | fail))
      rw [← HSS.out] at ho12
      rw [show (l.take (i + 1)).length = i + 1 by rw [List.length_take]; omega] at ho12
      go_wp2_with (fail)
      go_roundw
      case rel => exact ⟨i + 1, by omega, by go_num, by first | exact ho12 | (rw [show (l.take i).length = i by rw [List.length_take]; omega]; exact ho12), hb12⟩
      case measure => simp [intOf]; omega
    · obtain rfl : i = l.length := by omega
      have hoo := HO.out
      rw [List.take_length] at hoo
      have HTR := hide (Trips.own hoo)
      clear hoo
      go_wp2_with (fail)
      go_ret
      exact ⟨A9, c9, rfl, HTR.out, hc9, hBk⟩
end Go.Proofs.YtcnecmcbjpehcaaDoor

/- The walk of order.Moves. Condition: the variables read as laid. -/
namespace Go.Proofs.YtcnecmcbjpehcaaDoor
open Go.RowKit Go.Deep Go.Proofs.YtcnecmcbjpehcaaDoorW.PrintWords Go.Proofs.YtcnecmcbjpehcaaDoorW.PrintMore
theorem min2_min (k k' : IntKind) (x y : Int) : Builtin.min2 (.int k x) (.int k' y) = pure (.int k (min x y)) := by
  rw [min2_int, Int.min_def]
  split <;> split <;> first | rfl | (congr 2; omega)
attribute [local go_sem] min2_min min_two

/-- make([]int, n), owned -/
theorem wp_make_own (w : World) {ops : Array Oper} {rest : List Oper} {o : Oper} {a : Act} {Q : Exit → Act → World → Prop}
    (hg : o.guard = none) (l c : Operand) (hop : o.op = Op.makeSlice 25 l c) (kl kc : IntKind) (n : Nat) (hl : a.eval l = .int kl (n : Int)) (hc : a.eval c = .int kc (n : Int)) (hn : n ≤ 1000000) (base : Nat) (hb : base ≤ w.heap.size)
    (hK : ∀ w', w'.ownsRow base 3 1 (.slice (some ⟨w.heap.size, 0, none⟩) n n) n (intCells (List.replicate n 0)) → w.grownBy w' none → wpList Tryd.prog ops Q rest (a.put o.dst (.slice (some ⟨w.heap.size, 0, none⟩) n n)) w') :
    wpList Tryd.prog ops Q (o :: rest) a w := by
  obtain ⟨i0, hi0, hz0, hz1, hz2⟩ := info_parts int_info
  refine wpList_make_full w hg l c _ hop base 3 i0 _ 1 Tryd.underlying25 hi0 hz0 hz1 kl kc n n n hl hc rfl rfl (by rw [hz2]; omega) (by simp only [maxLen]; omega) hb ?_
  intro w' h1 h2
  have e : (madeCells (Value.int IntKind.i64 0).cells (n * 1)).toList = intCells (List.replicate n 0) := by
    apply List.ext_getElem
    · simp [intCells, madeCells, Value.cells]
    · intro i h1 h2
      simp [intCells, madeCells, Value.cells, Nat.mod_one]
  rw [e] at h1
  exact hK w' h1 h2
def fillTo (n i : Nat) : List Int := (List.range n).map fun (j : Nat) => if j < i then (j : Int) else 0
theorem fillTo_zero (n : Nat) : fillTo n 0 = List.replicate n 0 := by
  unfold fillTo
  apply List.ext_getElem
  · simp
  · intro i h1 h2
    simp
theorem fillTo_succ (n i : Nat) (h : i < n) : (fillTo n i).set i (i : Int) = fillTo n (i + 1) := by
  unfold fillTo
  apply List.ext_getElem
  · simp
  · intro j h1 h2
    rw [List.getElem_set]
    simp only [List.getElem_map, List.getElem_range]
    by_cases e : i = j
    · subst e
      rw [if_pos rfl, if_pos (by omega)]
    · rw [if_neg e]
      by_cases q : j < i
      · rw [if_pos q, if_pos (by omega)]
      · rw [if_neg q, if_neg (by omega)]
theorem fillTo_all (n : Nat) : fillTo n n = (List.range n).map fun (i : Nat) => (i : Int) := by
  unfold fillTo
  refine List.map_congr_left (fun j hj => if_pos (List.mem_range.1 hj))
theorem mst_init {p q : List Int} {n : Nat} (hp : p.length = n) (hq : q.length = n) (hn : 0 < n) (hnp : numb p = true) (hs : p.sum = q.sum) (hab : aboveB p q = true) : MSt p q n [] p := by
  have dd : ∀ l : List Int, l.length = n → ∀ i j, i < j → j < n → (falls l).getD j 0 ≤ (falls l).getD i 0 := fun l hl i j hij hj => by
    have hd := List.pairwise_iff_getElem.1 (falls_desc l)
    have hl2 : (falls l).length = n := by rw [falls_length, hl]
    have := hd i j (by omega) (by omega) hij
    have q1 : ∀ (k : Nat) (h : k < (falls l).length), (falls l).getD k 0 = (falls l)[k] := fun k h => by simp [List.getD_eq_getElem?_getD, h]
    rw [q1 i (by omega), q1 j (by omega)]
    exact this
  refine ⟨rfl, fun i h => absurd h (Nat.not_lt_zero _), hp, hnp, ⟨by rw [falls_length, hp], by rw [falls_length, hq], dd p hp, dd q hq, fun k hk => ?_, ?_⟩, by simp; omega, by simpa using differ_le n (falls p) (falls q)⟩
  · have := List.all_eq_true.1 hab k (List.mem_range.2 (by rw [hp]; omega))
    exact of_decide_eq_true this
  · rw [perm_sum (falls_perm p), perm_sum (falls_perm q), hs]
def vlenT (v : Value) : Nat := match v with
  | .slice _ n _ => n
  | _ => 0
/-- what Moves hands back -/
def RetMoves (p q : List Int) (w : World) (e : Ending) (w' : World) : Prop :=
  ∃ A c mv now, e = .returned (.tuple #[.slice A mv.length c, .nilIface]) ∧ mv.length ≤ c ∧ Trips w' A mv ∧ MSt p q p.length mv now ∧ falls now = falls q ∧ Below w.heap.size w w'
/-- all that holds between two moves, in memory -/
structure MvMem (p q : List Int) (w0 : World) (bx gN dN : Nat) (ov : Value) (wr : World) (mv : List Mv) (now : List Int) : Prop where
  st : MSt p q p.length mv now
  box : wr.cell? ⟨bx, 0, none⟩ = some (.slice (some ⟨gN, 0, none⟩) p.length dN)
  row : wr.ownsRow w0.heap.size 3 1 (.slice (some ⟨gN, 0, none⟩) p.length dN) p.length (intCells now)
  out : wr.ownsRow w0.heap.size 62 3 ov mv.length (tripCells mv)
  apart : ov.ownBlock ≠ some gN ∧ ov.ownBlock ≠ some bx ∧ bx ≠ gN
  below : Below w0.heap.size w0 wr

/-- what a round reads: the box, the sorted places, the numbers -/
structure SMem (W : World) (base bx gN dN ga n : Nat) (now dat : List Int) : Prop where
  box : W.cell? ⟨bx, 0, none⟩ = some (.slice (some ⟨gN, 0, none⟩) n dN)
  at_ : ∀ i, i < n → W.cell? ⟨ga, i, none⟩ = some (.int .i64 (dat.getD i 0))
  row : W.ownsRow base 3 1 (.slice (some ⟨gN, 0, none⟩) n dN) n (intCells now)
theorem SMem.drewN {W : World} {base bx gN dN ga n : Nat} {now dat : List Int} (h : SMem W base bx gN dN ga n now dat) (m : Nat) : SMem (W.drewN m) base bx gN dN ga n now dat := ⟨h.box, h.at_, h.row⟩
theorem SMem.same {W W' : World} {base bx gN dN ga n : Nat} {now dat : List Int} (h : SMem W base bx gN dN ga n now dat) (h1 : W'.heap[bx]? = W.heap[bx]?) (h2 : W'.heap[gN]? = W.heap[gN]?) (h3 : W'.heap[ga]? = W.heap[ga]?) : SMem W' base bx gN dN ga n now dat :=
  ⟨(World.cell?_of_block (a := ⟨bx, 0, none⟩) h1).trans h.box, fun i hi => (World.cell?_of_block (a := ⟨ga, i, none⟩) h3).trans (h.at_ i hi), own_same h.row (fun b e => by injection e with e; subst e; exact h2)⟩
theorem SMem.set {W : World} {base bx gN dN ga n : Nat} {now dat : List Int} (h : SMem W base bx gN dN ga n now dat) (n1 : bx ≠ gN) (n2 : ga ≠ gN) (k : Nat) (x : Int) : SMem (W.setCell ⟨gN, k, none⟩ (.int .i64 x)) base bx gN dN ga n (now.set k x) dat :=
  ⟨(World.cell?_of_block (a := ⟨bx, 0, none⟩) (heap_set_other W gN k (.int .i64 x) bx n1)).trans h.box, fun i hi => (World.cell?_of_block (a := ⟨ga, i, none⟩) (heap_set_other W gN k (.int .i64 x) ga n2)).trans (h.at_ i hi), own_put h.row k x⟩

theorem drew_more {w w6 : World} (h : Hid (∃ m, w = w6.drewN m)) (n : Nat) : Hid (∃ m, w.drewN n = w6.drewN m) := by
  obtain ⟨m, e⟩ := h.out
  exact hide ⟨m + n, by rw [e, World.drewN_drewN]⟩

set_option maxRecDepth 100000 in
set_option maxHeartbeats 8000000 in
theorem moves_ok (A B : Option Addr) (p q : List Int) (c d : Nat) (w : World) (a : Nat → Addr) (hE : Env [2, 3] w a) (hA : Ints w A p) (hB : Ints w B q) (hc : p.length ≤ c) (hd : q.length ≤ d) (h0 : lErr p q = 0) (hab : aboveB p q = true) :
    Calls Tryd.prog 33 #[.slice A p.length c, .slice B q.length d] w fun e w' => RetMoves p q w e w' := by
  obtain ⟨h1, n1, n2, hn, hpq, hsum⟩ := lErr_zero h0
  have hl := lists_any A B p q c d w a hE hA hB hc hd
  rw [h0, errC_zero] at hl
  have HL := hide hl
  have hav := fun w' (hb : Below w.heap.size w w') => above_ok A B p q c d w' (hA.below hb) (hB.below hb) (numb_small n1 (by omega)) (numb_small n2 (by omega)) hn hpq
  rw [hab] at hav
  have HAV := hide hav
  have hfa := fun w' (hb : Below w.heap.size w w') => falling_ok B q d w' (hB.below hb) (by omega) (by omega)
  have hcl := fun w' (hb : Below w.heap.size w w') => clone_ok A p c w' (hA.below hb) hn (by omega)
  have HCL := hide hcl
  have HIN := hide (mst_init rfl hpq.symm hn n1 hsum hab)
  have hln := hA.len
  have h16 : p.length ≤ 16 := h1.1
  have hfl : (falls q).length = p.length := by rw [falls_length, hpq]
  rw [← hpq] at hfa
  have HFA := hide hfa
  rw [← hpq] at HL HAV ⊢
  have HPQ := hide hpq
  have HFL := hide hfl
  clear hl hav hfa hcl h0 hab n1 n2 hsum h1 hE hpq hfl
  go_enter Tryd.func33, Tryd.ntmps33
  go_wp2_with (first
    | (go_at_call 43; refine Calls.mono HL.out ?_; rintro e w1 ⟨rfl, hB1⟩)
    | (go_at_call 44; refine Calls.mono (HAV.out w1 hB1) ?_; rintro e w2 ⟨rfl, b2⟩; have hB2 := below_trans hB1 b2)
    | (go_at_call 48; refine Calls.mono (HFA.out w2 hB2) ?_; rintro e w3 ⟨WA, wc, rfl, hIW, hwc, b3⟩; obtain ⟨bW, oW, rfl, hbW, _⟩ := hIW.at_ 0 (by rw [HFL.out]; exact hn); have hB3 := below_trans hB2 b3)
    | (go_at_call 40; refine Calls.mono (HCL.out w3 hB3) ?_; rintro e w4 ⟨gN, dN, rfl, hgN, hdN, hoN, b4⟩; have hB4 := below_trans hB3 b4))
  have hb34 : Below w3.heap.size w3 (w4.alloc (.cells #[.slice (some ⟨gN, 0, none⟩) p.length dN] 25)) := b4.alloc b4.size _
  have HM0 := hide (show MvMem p q w3 w4.heap.size gN dN (.slice none 0 0) (w4.alloc (.cells #[.slice (some ⟨gN, 0, none⟩) p.length dN] 25)) [] p from
    ⟨HIN.out, by simp, hoN.alloc _, nil_own _ _ _ _, ⟨by simp [Value.ownBlock], by simp [Value.ownBlock], fun e => by have := (hoN.lt gN rfl).2; omega⟩, hb34⟩)
  have hB3w := hB3
  clear hoN hb34
  go_loopw [9] (fun ov wr => ∃ mv now, Hid (MvMem p q w3 w4.heap.size gN dN ov wr mv now)) (fun ov _ => p.length + 1 - vlenT ov)
  case atStart => exact ⟨[], p, HM0⟩
  case round =>
    obtain ⟨mv, now, HM⟩ := hrel
    obtain ⟨wi, rfl⟩ : ∃ wi : World, wi = wr := ⟨_, rfl⟩
    obtain ⟨hst, hbox, hrow, hout, hap, hBk⟩ := HM.out
    obtain ⟨A9, c9, rfl, hc9, _⟩ := own_shape hout
    have n16 : (p.length : Int) ≤ 16 := by omega
    have hnl := hst.len
    have HST := hide hst
    have HAP := hide hap
    have HROW := hide hrow
    have HOUT := hide hout
    have HSZ := hide hBk.size
    clear hst hap hrow hout hnl HM
    go_wp2_with (at_make; refine wp_make_own _ rfl _ _ rfl .i64 .i64 p.length rfl rfl (by omega) w3.heap.size HSZ.out ?_; intro w5 ho5 hg5)
    have HF0 := hide (show w5.ownsRow w3.heap.size 3 1 (.slice (some ⟨wi.heap.size, 0, none⟩) p.length p.length) p.length (intCells (fillTo p.length 0)) by rw [fillTo_zero]; exact ho5)
    have HG5 := hide hg5
    clear ho5 hg5
    go_loopw [37] (fun v wr => ∃ i : Nat, i ≤ p.length ∧ v = .int .i64 i ∧ Hid (wr.ownsRow w3.heap.size 3 1 (.slice (some ⟨wi.heap.size, 0, none⟩) p.length p.length) p.length (intCells (fillTo p.length i)) ∧ w5.grownBy wr (some wi.heap.size))) (fun v _ => p.length - (intOf v).toNat)
    case atStart => exact ⟨0, Nat.zero_le _, rfl, hide ⟨HF0.out, World.grownBy.refl _ _⟩⟩
    case round =>
      obtain ⟨i, hi, rfl, HF⟩ := hrel
      obtain ⟨wk, rfl⟩ : ∃ wk : World, wk = wr := ⟨_, rfl⟩
      have i0 : (0 : Int) ≤ (i : Int) := Int.natCast_nonneg _
      by_cases hil : i < p.length
      · have i1 : (i : Int) < (p.length : Int) := by omega
        obtain ⟨c1, f1⟩ := own_cell HF.out.1 i hil
        have hput := own_put HF.out.1 i (i : Int)
        rw [fillTo_succ _ _ hil] at hput
        have HPU := hide (And.intro hput (grown_set HF.out.2 i (.int .i64 (i : Int))))
        generalize (fillTo p.length i).getD i 0 = z at c1
        clear hput
        go_wp2_with (fail)
        go_roundw
        case rel => exact ⟨i + 1, by omega, by go_num, hide HPU.out⟩
        case measure => simp [intOf]; omega
      · obtain rfl : i = p.length := by omega
        have hkb : ∀ b, b < wi.heap.size → wk.heap[b]? = wi.heap[b]? := fun b hb => by
          rw [HF.out.2.block b (Nat.lt_of_lt_of_le hb HG5.out.size) (fun e => by injection e with e; omega), HG5.out.block b hb (by simp)]
        have hszk : wi.heap.size ≤ wk.heap.size := Nat.le_trans HG5.out.size HF.out.2.size
        have hgl := (HROW.out.lt gN rfl).2
        have hbl : w4.heap.size < wi.heap.size := World.block_lt_of_cell? wi ⟨w4.heap.size, 0, none⟩ hbox
        have hnow : Ints wi (some ⟨gN, 0, none⟩) now := own_ints HROW.out HST.out.len
        have hso := sortM_ok w3.heap.size wi.heap.size p.length w4.heap.size gN dN now (fillTo p.length p.length) wk (by rw [show (fillTo p.length p.length).length = p.length by simp [fillTo]]; exact HF.out.1)
          (by rw [HST.out.len]; exact (World.cell?_of_block (a := ⟨w4.heap.size, 0, none⟩) (hkb _ hbl)).trans hbox) (ints_same hnow (hkb gN hgl)) HST.out.numb (by omega) (by omega) (by omega)
          (fun x hx => by
            rw [fillTo_all] at hx
            obtain ⟨j, hj, rfl⟩ := List.mem_map.1 hx
            have := List.mem_range.1 hj
            rw [HST.out.len]
            omega) (by simp [fillTo]; omega) (by simp [fillTo]; omega)
        rw [show (fillTo p.length p.length).length = p.length by simp [fillTo]] at hso
        have HSO := hide hso
        have HKB := hide hkb
        have HGK := hide (And.intro HG5.out HF.out.2)
        have hbox' := hbox
        clear hso hkb hnow HF
        go_wp2_with (go_at_call 49; refine Calls.mono HSO.out ?_; rintro e w6 ⟨rfl, dat, hdp, hdf, hdo, hdg⟩)
        have hplaced : Placed p.length now dat := ⟨HST.out.len, by rw [← fillTo_all]; exact hdp, hdf⟩
        have hb6 : Below wi.heap.size wi w6 := ⟨hdg.os.trans (HGK.out.2.os.trans HGK.out.1.os), hdg.tape.trans (HGK.out.2.tape.trans HGK.out.1.tape), hdg.output.trans (HGK.out.2.output.trans HGK.out.1.output), Nat.le_trans hszk hdg.size, fun b hb => by
          rw [hdg.block b (by omega) (fun e => by injection e with e; omega), HKB.out b hb]⟩
        have hsm : SMem w6 w3.heap.size w4.heap.size gN dN wi.heap.size p.length now dat := ⟨(World.cell?_of_block (a := ⟨w4.heap.size, 0, none⟩) (hb6.block _ hbl)).trans hbox', fun i hi => (own_cell hdo i hi).1, own_below HROW.out hb6⟩
        have hwt : ∀ i, i < p.length → w6.cell? ⟨bW, oW + i, none⟩ = some (.int .i64 ((falls q).getD i 0)) := fun i hi => by
          obtain ⟨b', o', e, hb', hc'⟩ := hIW.at_ i (by rw [HFL.out]; exact hi)
          injection e with e
          injection e with e1 e2 _
          subst e1 e2
          have hlt : bW < wi.heap.size := Nat.lt_of_lt_of_le hb' HSZ.out
          exact ((hb6.cell (p := ⟨bW, oW + i, none⟩) hlt).trans (hBk.cell (p := ⟨bW, oW + i, none⟩) hb')).trans hc'
        have HSM := hide hsm
        have HWT := hide hwt
        have HPL := hide hplaced
        have HB6 := hide hb6
        have HBK := hide hBk
        have hdl := hplaced.alen
        clear hdp hdf hdo hdg hsm hwt hb6 hplaced HKB HGK hbox hbox' hBk HSO HIN
        go_loopw [12, 13, 50] (fun fv tv iv wr => ∃ (i : Nat), i ≤ p.length ∧ iv = .int .i64 i ∧ tv = .int .i64 (-1) ∧ fv = .int .i64 (lastGt (falls now) (falls q) i) ∧ Hid (∀ j, j < i → (falls q).getD j 0 ≤ (falls now).getD j 0) ∧ Hid (∃ m, wr = w6.drewN m)) (fun _ _ iv _ => p.length - (intOf iv).toNat)
        case atStart => exact ⟨0, Nat.zero_le _, rfl, rfl, rfl, hide (fun j h => absurd h (Nat.not_lt_zero _)), hide ⟨0, rfl⟩⟩
        case round =>
          obtain ⟨i, hi, rfl, rfl, rfl, HGE, HD⟩ := hrel
          obtain ⟨wq, rfl⟩ : ∃ wq : World, wq = wr := ⟨_, rfl⟩
          have hsq : SMem wq w3.heap.size w4.heap.size gN dN wi.heap.size p.length now dat := by obtain ⟨m, e⟩ := HD.out; rw [e]; exact HSM.out.drewN m
          have HSQ := hide hsq
          have hwq : ∀ i, i < p.length → wq.cell? ⟨bW, oW + i, none⟩ = some (.int .i64 ((falls q).getD i 0)) := by obtain ⟨m, e⟩ := HD.out; rw [e]; exact HWT.out
          have HWQ := hide hwq
          clear hsq hwq
          have i0 : (0 : Int) ≤ (i : Int) := Int.natCast_nonneg _
          by_cases hil : i < p.length
          · have i1 : (i : Int) < (p.length : Int) := by omega
            have s1 := HSQ.out.box
            have s2 := HSQ.out.at_ i hil
            obtain ⟨k0, k1⟩ := HPL.out.mem i hil
            have s3 := (own_cell HSQ.out.row (dat.getD i 0).toNat (by omega)).1
            have s4 : wq.cell? ⟨bW, oW + i, none⟩ = some (.int .i64 ((falls q).getD i 0)) := HWQ.out i hil
            rw [HPL.out.at_falls i hil] at s3
            have hgs : (falls q).getD i 0 ≤ (falls now).getD i 0 → ∀ j, j < i + 1 → (falls q).getD j 0 ≤ (falls now).getD j 0 := fun h j hj => by
              by_cases e : j = i
              · subst e; exact h
              · exact HGE.out j (by omega)
            have hlg : lastGt (falls now) (falls q) (i + 1) = if (falls q).getD i 0 < (falls now).getD i 0 then (i : Int) else lastGt (falls now) (falls q) i := rfl
            have HGS := hide hgs
            have HLT := hide (fun h => HST.out.hlp.from_ hil h HGE.out)
            clear hgs
            generalize hk : dat.getD i 0 = k at s2 s3 k0 k1
            generalize hx : (falls now).getD i 0 = x at s3 hlg HGS HLT
            generalize hy : (falls q).getD i 0 = y at s4 hlg HGS HLT
            by_cases c1 : y < x
            · have c2 : decide (x < y) = false := decide_eq_false (by omega)
              rw [if_pos c1] at hlg
              have HN := hide (HGS.out (by omega))
              have HLG := hide hlg
              generalize lastGt (falls now) (falls q) i = lg
              clear hlg
              go_wp2_with (fail)
              go_quiet (fail)
              go_wp2_with (fail)
              go_quiet (fail)
              go_wp2_with (fail)
              go_roundw
              case rel => exact ⟨i + 1, by omega, by go_num, rfl, by rw [HLG.out], HN, by first | exact drew_more HD _ | exact drew_more (drew_more HD _) _⟩
              case measure => simp [intOf]; omega
            · have c2 : decide (y < x) = false := decide_eq_false c1
              rw [if_neg c1] at hlg
              by_cases c3 : x < y
              · obtain ⟨f, hft, hlf, hgt, hmid⟩ := HLT.out c3
                have f0 : (0 : Int) ≤ (f : Int) := Int.natCast_nonneg _
                have f1 : (f : Int) < (p.length : Int) := by omega
                have i9 : decide ((i : Int) < 0) = false := decide_eq_false (by omega)
                rw [hlf]
                clear HLT hlg
                go_wp2_with (fail)
                go_quiet (fail)
                go_wp2_with (fail)
                go_quiet (fail)
                go_wp2_with (fail)
                generalize hw5 : World.drewN wq _ = w5
                have hsm5 : SMem w5 w3.heap.size w4.heap.size gN dN wi.heap.size p.length now dat := by rw [← hw5]; exact HSQ.out.drewN _
                have hwt5 : ∀ i, i < p.length → w5.cell? ⟨bW, oW + i, none⟩ = some (.int .i64 ((falls q).getD i 0)) := by rw [← hw5]; exact HWQ.out
                have hb5 : Below wi.heap.size wi w5 := by
                  obtain ⟨m, e⟩ := HD.out
                  rw [← hw5, e]
                  exact below_drewN' (below_drewN' HB6.out m) _
                have mf := HPL.out.mem f (by omega)
                have hxf := HPL.out.at_falls f (by omega)
                have hxi := HPL.out.at_falls i hil
                rw [hk, hx] at hxi
                have nx := numb_get HST.out.numb k.toNat (by rw [HST.out.len]; omega)
                have nf := numb_get HST.out.numb (dat.getD f 0).toNat (by rw [HST.out.len]; omega)
                rw [hxi] at nx
                rw [hxf] at nf
                have hdw := HST.out.hlp.dw f i hft hil
                rw [hy] at hdw
                have t1 := hsm5.box
                have t2 := hsm5.at_ f (by omega)
                have t3 := hsm5.at_ i hil
                have t4 := (own_cell hsm5.row (dat.getD f 0).toNat (by omega)).1
                have t5 := (own_cell hsm5.row k.toNat (by omega)).1
                have t6 := hwt5 f (by omega)
                have t7 := hwt5 i hil
                rw [hk] at t3
                rw [hy] at t7
                rw [hxf] at t4
                rw [hxi] at t5
                have HNEXT := hide (HST.out.next HPL.out (f := f) (t := i) hil hft (by rw [hx, hy]; exact c3) HGE.out hgt hmid rfl)
                have HSM5 := hide hsm5
                have HB5 := hide hb5
                clear hwt5 hsm5 hb5 hw5 s1 s2 s3 s4 HSQ HWQ HD HGS
                generalize hkf : dat.getD f 0 = kf at mf hxf nf t2 t4 HNEXT
                rw [hk, hx, hy] at HNEXT
                generalize hxx : (falls now).getD f 0 = xf at hxf nf t4 HNEXT hgt
                generalize hyy : (falls q).getD f 0 = yf at t6 HNEXT hgt hdw
                obtain ⟨kf0, kf1⟩ := mf
                have hw1 : IntKind.i64.wrap (xf - yf) = xf - yf := IntWalk.i64_in _ (by omega)
                have hw2 : IntKind.i64.wrap (y - x) = y - x := IntWalk.i64_in _ (by omega)
                clear hmid hgt hdw
                refine wp_region_still_tail 24 (by kernel_rfl) (by kernel_rfl) ?_
                change wpStill _ _ (World.drew w5) (fun a' => wpList _ _ _ _ a' (World.drew w5)) _ _
                have hsm7 : SMem (World.drew w5) w3.heap.size w4.heap.size gN dN wi.heap.size p.length now dat := HSM5.out.drewN 1
                have hb7 : Below wi.heap.size wi (World.drew w5) := HB5.out.drew
                have HSM7 := hide hsm7
                have HB7 := hide hb7
                have v1 : (World.drew w5).cell? ⟨w4.heap.size, 0, none⟩ = _ := t1
                have v2 : (World.drew w5).cell? ⟨wi.heap.size, f, none⟩ = _ := t2
                have v3 : (World.drew w5).cell? ⟨wi.heap.size, i, none⟩ = _ := t3
                have v4 : (World.drew w5).cell? ⟨gN, kf.toNat, none⟩ = _ := t4
                have v5 : (World.drew w5).cell? ⟨gN, k.toNat, none⟩ = _ := t5
                have v6 : (World.drew w5).cell? ⟨bW, oW + f, none⟩ = _ := t6
                have v7 : (World.drew w5).cell? ⟨bW, oW + i, none⟩ = _ := t7
                clear t1 t2 t3 t4 t5 t6 t7 hsm7 hb7 HB5 HSM5
                generalize World.drew w5 = w7 at HSM7 HB7 v1 v2 v3 v4 v5 v6 v7 ⊢
                simp only [List.take_succ_cons, List.take_zero, List.drop_succ_cons, List.drop_zero]
                repeat still_step
                refine wpStill_nil ?_
                go_wp2_with (fail)
                have hsm7 := HSM7.out
                have hb7 := HB7.out
                clear hw1 hw2 v1 v2 v3 v4 v5 v6 v7
                generalize min (xf - yf) (y - x) = sz at HNEXT ⊢
                have u2 := hsm7.at_ f (by omega)
                have u3 := hsm7.at_ i hil
                rw [hkf] at u2
                rw [hk] at u3
                obtain ⟨hnx, z0, z1⟩ := HNEXT.out
                have HNX := hide hnx
                have hpost := fun (o : Obj) (W : World) (hg : (w7.drew.alloc o).grownBy W (Value.slice A9 mv.length c9).ownBlock) => (by
                  have hs7 : wi.heap.size < w7.heap.size := by
                    have := World.block_lt_of_cell? w7 ⟨wi.heap.size, f, none⟩ u2
                    exact this
                  have old : ∀ b, b < w7.heap.size → (Value.slice A9 mv.length c9).ownBlock ≠ some b → W.heap[b]? = w7.heap[b]? := fun b hb hne => by
                    rw [hg.block b (by rw [World.size_alloc]; exact Nat.lt_succ_of_lt hb) (fun q => hne q.symm)]
                    exact alloc_old w7.drew o b hb
                  have hga : (Value.slice A9 mv.length c9).ownBlock ≠ some wi.heap.size := fun e => by
                    have := (HOUT.out.lt _ e).2
                    omega
                  have hs := hsm7.same (old w4.heap.size (by omega) HAP.out.2.1) (old gN (by omega) HAP.out.1) (old wi.heap.size hs7 hga)
                  have hbb : Below w3.heap.size w3 W := (((HBK.out.trans (hb7.mono HSZ.out)).drew).alloc (Nat.le_trans HSZ.out hb7.size) o).grown hg (by rw [World.size_alloc]; exact Nat.le_succ_of_le (Nat.le_trans HSZ.out hb7.size)) (fun j hj => (HOUT.out.lt j hj).1)
                  exact ⟨hs, hbb, by rw [← hkf]; exact hs.at_ f (by omega), by rw [← hk]; exact hs.at_ i hil⟩ :
                  SMem W w3.heap.size w4.heap.size gN dN wi.heap.size p.length now dat ∧ Below w3.heap.size w3 W ∧ W.cell? ⟨wi.heap.size, f, none⟩ = some (.int .i64 kf) ∧ W.cell? ⟨wi.heap.size, i, none⟩ = some (.int .i64 k))
                have HPOST := hide hpost
                have HO7 := hide (show w7.drew.ownsRow w3.heap.size 62 3 (.slice A9 mv.length c9) mv.length (tripCells mv) from own_below HOUT.out hb7.drew)
                have HC3 := hide (show (mv.length + 1) * 24 ≤ 140737488355328 by have := HST.out.few; omega)
                have HS7 := hide (fun (o : Obj) => (by rw [World.size_alloc]; exact Nat.le_succ_of_le (Nat.le_trans HSZ.out hb7.size) : w3.heap.size ≤ (w7.drew.alloc o).heap.size))
                clear hpost hb7 hnx HNEXT HWT HSM HSM7 HB7
                go_region_held3 (fun w' => w'.cell? ⟨wi.heap.size, f, none⟩ = some (.int .i64 kf) ∧ w'.cell? ⟨wi.heap.size, i, none⟩ = some (.int .i64 k))
                  (first | go_keep | exact ⟨‹_›, ‹_›⟩ | trivial)
                  ((first
                    | (refine step_app_trips _ rfl _ _ rfl w3.heap.size (.slice A9 mv.length c9) _ rfl (HO7.out.alloc _) _ 1 1 [(kf, k, sz)] rfl rfl (trips_new w7 kf k sz _) HC3.out (HS7.out _) ?_
                       intro A' c' w12 hc12 ho12 hg12 hob12
                       obtain ⟨qs, qb, q2, q3⟩ := HPOST.out _ _ hg12)
                    | fail))
                have hsz7 : wi.heap.size < w7.heap.size := World.block_lt_of_cell? w7 ⟨wi.heap.size, f, none⟩ u2
                clear hsm7 u2 u3 HPOST HO7 HS7 HC3
                have hgl7 := (HROW.out.lt gN rfl).2
                have hneb : (Value.slice A' (mv ++ [(kf, k, sz)]).length c').ownBlock ≠ some gN ∧ (Value.slice A' (mv ++ [(kf, k, sz)]).length c').ownBlock ≠ some w4.heap.size := by
                  rcases hob12 with e | e
                  · rw [e]
                    exact ⟨HAP.out.1, HAP.out.2.1⟩
                  · have e1 : ∀ o, (World.drew (w7.alloc o)).heap.size = w7.heap.size + 1 := fun o => World.size_alloc w7 o
                    rw [e, e1]
                    exact ⟨fun q => by injection q with q; omega, fun q => by injection q with q; omega⟩
                have HNEB := hide hneb
                have HOUT2 := hide ho12
                have HQS := hide qs
                have HQB := hide qb
                have r1 : w12.cell? ⟨w4.heap.size, 0, none⟩ = _ := qs.box
                obtain ⟨r4, r5⟩ := own_cell qs.row kf.toNat (by omega)
                rw [hxf] at r4
                clear hneb ho12 hob12 hg12 qs qb
                have HW1 := hide (IntWalk.i64_in (xf - sz) (by omega) : IntKind.i64.wrap (xf - sz) = xf - sz)
                have HW2 := hide (IntWalk.i64_in (x + sz) (by omega) : IntKind.i64.wrap (x + sz) = x + sz)
                have hkk : k.toNat ≠ kf.toNat := fun e => by
                  have := HPL.out.inj (i := i) (j := f) hil (by omega) (by rw [hk, hkf]; omega)
                  omega
                have hmv : mvDo now (kf, k, sz) = (now.set kf.toNat (xf - sz)).set k.toNat (x + sz) := by
                  unfold mvDo
                  dsimp only
                  rw [hxf, hxi]
                have HMV := hide hmv
                have hset1 := fun W (h : SMem W w3.heap.size w4.heap.size gN dN wi.heap.size p.length now dat) => h.set HAP.out.2.2 (by omega) kf.toNat (xf - sz)
                have hset2 := fun W (h : SMem W w3.heap.size w4.heap.size gN dN wi.heap.size p.length (now.set kf.toNat (xf - sz)) dat) => h.set HAP.out.2.2 (by omega) k.toNat (x + sz)
                have hx2 : (now.set kf.toNat (xf - sz)).getD k.toNat 0 = x := by
                  rw [List.getD_eq_getElem?_getD, List.getElem?_set_ne (fun e => hkk e.symm), ← List.getD_eq_getElem?_getD]
                  exact hxi
                have HS1 := hide hset1
                have HS2 := hide hset2
                clear hset1 hset2 hmv
                go_wp2_with (fail)
                refine wp_region_still_tail 10 (by kernel_rfl) (by kernel_rfl) ?_
                change wpStill _ _ (World.drew w12) (fun a' => wpList _ _ _ _ a' (World.drew w12)) _ _
                have v1 : (World.drew w12).cell? ⟨w4.heap.size, 0, none⟩ = _ := r1
                have v2 : (World.drew w12).cell? ⟨wi.heap.size, f, none⟩ = _ := q2
                have v4 : (World.drew w12).cell? ⟨gN, kf.toNat, none⟩ = _ := r4
                have v5 : (World.drew w12).frozen? ⟨gN, kf.toNat, none⟩ = _ := r5
                have HQ13 := hide (show SMem (World.drew w12) w3.heap.size w4.heap.size gN dN wi.heap.size p.length now dat from HQS.out.drewN 1)
                have HB13 := hide (show Below w3.heap.size w3 (World.drew w12) from HQB.out.drew)
                have HO13 := hide (show (World.drew w12).ownsRow _ _ _ _ _ _ from own_below HOUT2.out (Below.refl _ _).drew)
                clear HQS HQB HOUT2 r1 r4 r5 q2 q3
                generalize World.drew w12 = w13 at HQ13 HB13 HO13 v1 v2 v4 v5 ⊢
                have hw := HW1.out
                simp only [List.take_succ_cons, List.take_zero, List.drop_succ_cons, List.drop_zero]
                repeat still_step
                refine wpStill_nil ?_
                go_wp2_with (fail)
                clear hw v1 v2 v4 v5
                have hoth := fun (W : World) (o : Nat) (v : Value) (h : W.ownsRow w3.heap.size 62 3 (.slice A' (mv ++ [(kf, k, sz)]).length c') (mv ++ [(kf, k, sz)]).length (tripCells (mv ++ [(kf, k, sz)]))) => own_same h (w' := W.setCell ⟨gN, o, none⟩ v) (fun b e => heap_set_other W gN o v b (fun q => HNEB.out.1 (by rw [e, q])))
                have HOTH := hide hoth
                clear hoth
                have HQ14 := hide (HS1.out _ HQ13.out)
                have HB14 := hide (HB13.out.setCell (p := ⟨gN, kf.toNat, none⟩) hgN (.int .i64 (xf - sz)))
                have HO14 := hide (HOTH.out w13 kf.toNat (.int .i64 (xf - sz)) HO13.out)
                clear HQ13 HB13 HO13 HS1
                generalize World.setCell w13 _ _ = w14 at HQ14 HB14 HO14 ⊢
                have p1 := HQ14.out.box
                have p2 := HQ14.out.at_ i hil
                rw [hk] at p2
                obtain ⟨p4, p5⟩ := own_cell HQ14.out.row k.toNat (by omega)
                rw [hx2] at p4
                refine wp_region_still_tail 10 (by kernel_rfl) (by kernel_rfl) ?_
                change wpStill _ _ (World.drew w14) (fun a' => wpList _ _ _ _ a' (World.drew w14)) _ _
                have v1 : (World.drew w14).cell? ⟨w4.heap.size, 0, none⟩ = _ := p1
                have v2 : (World.drew w14).cell? ⟨wi.heap.size, i, none⟩ = _ := p2
                have v4 : (World.drew w14).cell? ⟨gN, k.toNat, none⟩ = _ := p4
                have v5 : (World.drew w14).frozen? ⟨gN, k.toNat, none⟩ = _ := p5
                have HQ15 := hide (show SMem (World.drew w14) w3.heap.size w4.heap.size gN dN wi.heap.size p.length (now.set kf.toNat (xf - sz)) dat from HQ14.out.drewN 1)
                have HB15 := hide (show Below w3.heap.size w3 (World.drew w14) from HB14.out.drew)
                have HO15 := hide (show (World.drew w14).ownsRow _ _ _ _ _ _ from own_below HO14.out (Below.refl _ _).drew)
                clear HQ14 HB14 HO14 p1 p2 p4 p5
                generalize World.drew w14 = w15 at HQ15 HB15 HO15 v1 v2 v4 v5 ⊢
                have hw := HW2.out
                simp only [List.take_succ_cons, List.take_zero, List.drop_succ_cons, List.drop_zero]
                repeat still_step
                refine wpStill_nil ?_
                go_wp2_with (fail)
                clear hw v1 v2 v4 v5
                have HQ16 := hide (HS2.out _ HQ15.out)
                have HB16 := hide (HB15.out.setCell (p := ⟨gN, k.toNat, none⟩) hgN (.int .i64 (x + sz)))
                have HO16 := hide (HOTH.out w15 k.toNat (.int .i64 (x + sz)) HO15.out)
                clear HQ15 HB15 HO15 HS2 HOTH
                generalize World.setCell w15 _ _ = w16 at HQ16 HB16 HO16 ⊢
                have HFIN := hide (show MvMem p q w3 w4.heap.size gN dN (.slice A' (mv ++ [(kf, k, sz)]).length c') w16 (mv ++ [(kf, k, sz)]) (mvDo now (kf, k, sz)) from
                  ⟨HNX.out, HQ16.out.box, by rw [HMV.out]; exact HQ16.out.row, HO16.out, ⟨HNEB.out.1, HNEB.out.2, HAP.out.2.2⟩, HB16.out⟩)
                have HLE := hide (show (mv ++ [(kf, k, sz)]).length ≤ p.length from by have := HNX.out.few; omega)
                go_roundw
                case rel => exact ⟨mv ++ [(kf, k, sz)], mvDo now (kf, k, sz), by simpa using HFIN⟩
                case measure =>
                  have := HLE.out
                  simp [vlenT] at *
                  omega
              · have c4 : decide (x < y) = false := decide_eq_false c3
                have HN := hide (HGS.out (by omega))
                have HLG := hide hlg
                generalize lastGt (falls now) (falls q) i = lg at HLG
                clear hlg
                go_wp2_with (fail)
                go_quiet (fail)
                go_wp2_with (fail)
                go_quiet (fail)
                go_wp2_with (fail)
                go_roundw
                case rel => exact ⟨i + 1, by omega, by go_num, rfl, by rw [HLG.out], HN, by first | exact drew_more HD _ | exact drew_more (drew_more HD _) _⟩
                case measure => simp [intOf]; omega
          · obtain rfl : i = p.length := by omega
            have hdone := HST.out.done HGE.out
            have HDN := hide (show RetMoves p q w (.returned (.tuple #[.slice A9 mv.length c9, .nilIface])) wq from by
              obtain ⟨m, e⟩ := HD.out
              have hb : Below wi.heap.size wi wq := by rw [e]; exact below_drewN' HB6.out m
              exact ⟨A9, c9, mv, now, rfl, hc9, Trips.own (own_below HOUT.out hb), HST.out, hdone, below_trans (below_trans hB3w HBK.out) hb⟩)
            generalize lastGt (falls now) (falls q) p.length = lg
            clear hdone
            go_wp2_with (fail)
            go_ret2
            exact HDN.out
end Go.Proofs.YtcnecmcbjpehcaaDoor

/- The walks of faulted and of the law OrderApply. Condition: the variables read as laid. -/
namespace Go.Proofs.YtcnecmcbjpehcaaDoor
open Go.RowKit Go.Deep Go.Proofs.YtcnecmcbjpehcaaDoorW.PrintWords

theorem sub237 {c : Nat} (h : c ∈ [2, 3, 7]) : c ∈ codes := by
  simp at h
  rcases h with rfl | rfl | rfl <;> simp [codes]
set_option maxHeartbeats 2000000 in
theorem faulted_ok (w : World) (a : Nat → Addr) (hS : Sent codes w a) (hH : Handle w) (err : Value) (c p : Int) (h : FaultErr w a err c p) :
    Calls Tryd.prog 24 #[err, .agg #[.int .i64 c, .int .i64 p]] w fun e w' => e = .returned (.bool true) ∧ Below w.heap.size w w' := by
  have hb0 : Below w.heap.size w (w.alloc (.cells #[.int .i64 c, .int .i64 p] 41)) := below_alloc' (Below.refl _ _) _
  have HB0 := hide hb0
  have hcell := fun w' (h : Below (w.alloc (.cells #[.int .i64 c, .int .i64 p] 41)).heap.size (w.alloc (.cells #[.int .i64 c, .int .i64 p] 41)) w') => (⟨(h.cell (p := ⟨w.heap.size, 0, none⟩) (by simp)).trans (by simp), (h.cell (p := ⟨w.heap.size, 1, none⟩) (by simp)).trans (by simp)⟩ :
    w'.cell? ⟨w.heap.size, 0, none⟩ = some (.int .i64 c) ∧ w'.cell? ⟨w.heap.size, 1, none⟩ = some (.int .i64 p))
  have HCE := hide hcell
  clear hcell
  rcases h with ⟨rfl, rfl⟩ | ⟨k, h1, h8, hc, rfl, rfl⟩ | ⟨k, g, h1, h8, hc, rfl, hg, hp, he⟩
  · have e0 : ((0 : Int) == 0) = true := by decide
    go_enter Tryd.func24, Tryd.ntmps24
    go_wp2_with (go_at_call 45; refine Calls.mono (code_nil _) ?_; rintro e w1 ⟨rfl, hw1⟩; have hB1 := Below.refl (w.alloc (.cells #[.int .i64 0, .int .i64 p] 41)).heap.size (w.alloc (.cells #[.int .i64 0, .int .i64 p] 41)); rw [hw1] at hB1; obtain ⟨z0, z1⟩ := HCE.out w1 (by rw [hw1]; exact Below.refl _ _))
    go_ret
    exact ⟨rfl, by rw [← hw1]; exact HB0.out⟩
  · have hcd := code_sent (w.alloc (.cells #[.int .i64 c, .int .i64 (-1)] 41)) a (hS.below hb0) (hH.below hb0) k h1 h8
    rw [← hc] at hcd
    have HCD := hide hcd
    have b1 : (c == 0) = false := by rw [beq_eq_false_iff_ne]; omega
    have b2 : ((-1 : Int) == -1) = true := by decide
    have b3 : (c == c) = true := by simp
    clear hcd hc
    generalize a k = ak at HCD
    go_enter Tryd.func24, Tryd.ntmps24
    go_wp2_with (go_at_call 45; refine Calls.mono HCD.out ?_; rintro e w1 ⟨rfl, hb1⟩; obtain ⟨z0, z1⟩ := HCE.out w1 hb1)
    go_ret
    exact ⟨rfl, below_trans HB0.out hb1⟩
  · have hcd := code_fault (w.alloc (.cells #[.int .i64 c, .int .i64 p] 41)) a (hS.below hb0) (hH.below hb0) k h1 h8 g 0 p (Nat.lt_of_lt_of_le hg hb0.size) ((hb0.cell (p := ⟨g, 0, none⟩) hg).trans hp) ((hb0.cell (p := ⟨g, 1, none⟩) hg).trans he)
    rw [← hc] at hcd
    have HCD := hide hcd
    have b1 : (c == 0) = false := by rw [beq_eq_false_iff_ne]; omega
    have b2 : (p == p) = true := by simp
    have b3 : (c == c) = true := by simp
    clear hcd hc
    go_enter Tryd.func24, Tryd.ntmps24
    go_wp2_with (go_at_call 45; refine Calls.mono HCD.out ?_; rintro e w1 ⟨rfl, hb1⟩; obtain ⟨z0, z1⟩ := HCE.out w1 hb1)
    go_ret
    exact ⟨rfl, below_trans HB0.out hb1⟩

set_option maxRecDepth 100000 in
set_option maxHeartbeats 4000000 in
theorem law_apply (A B : Option Addr) (p : List Int) (l : List Mv) (c d : Nat) (w : World) (a : Nat → Addr) (hS : Sent codes w a) (hH : Handle w) (hA : Ints w A p) (hB : Trips w B l) (hc : p.length ≤ c) :
    Calls Tryd.prog 5 #[.slice A p.length c, .slice B l.length d] w fun e w' => e = .returned (.bool true) ∧ Below w.heap.size w w' := by
  have hlen := hA.len
  have hlenb := hB.len
  have HE : Hid (∀ w', Below w.heap.size w w' → Env [2, 3] w' a) := hide fun w' hb => (hS.toEnv.sub (fun c h => sub23 h)).below hb
  have HUN := hide (fun w' (hb : Below w.heap.size w w') => unlike_any w' a (HE.out w' hb))
  by_cases hl1 : 200 < (p.length : Int)
  · go_enter Tryd.func5, Tryd.ntmps5
    go_wp2_with (go_at_call 10; refine Calls.mono (HUN.out _ (Below.refl _ _)) ?_; rintro e w1 ⟨rfl, hB1⟩)
    go_ret
    exact ⟨rfl, hB1⟩
  by_cases hl2 : 200 < (l.length : Int) ∧ (l.length : Int) ≤ 4000
  · obtain ⟨hl2a, hl2b⟩ := hl2
    go_enter Tryd.func5, Tryd.ntmps5
    go_wp2_with (go_at_call 10; refine Calls.mono (HUN.out _ (Below.refl _ _)) ?_; rintro e w1 ⟨rfl, hB1⟩)
    go_ret
    exact ⟨rfl, hB1⟩
  by_cases hl3 : 5000 < (l.length : Int)
  · have q1 : 200 < (l.length : Int) := by omega
    have q2 : decide ((l.length : Int) ≤ 4000) = false := decide_eq_false (by omega)
    clear hl2
    go_enter Tryd.func5, Tryd.ntmps5
    go_wp2_with (go_at_call 10; refine Calls.mono (HUN.out _ (Below.refl _ _)) ?_; rintro e w1 ⟨rfl, hB1⟩)
    go_ret
    exact ⟨rfl, hB1⟩
  have HAF := hide (fun w' (hb : Below w.heap.size w w') => applyFault_ok A B p l c d w' (hA.below hb) (hB.below hb) hc (by omega))
  have HMV := hide (fun w' (hb : Below w.heap.size w w') => movesOf_ok B l d w' (hB.below hb) (by omega))
  have HIN := hide (fun w' (hb : Below w.heap.size w w') => ints_ok A p c w' (hA.below hb) hc (by omega))
  have HAP := hide (fun (A' B' : Option Addr) (x y : Nat) w' (g1 : Ints w' A' p) (g2 : Trips w' B' l) (hb : Below w.heap.size w w') => apply_ok A' B' p l x y w' a ((hS.toEnv.sub (fun c h => sub237 h)).below hb) g1 g2 (by omega))
  have hfa := fun w' (hb : Below w.heap.size w w') err c p h => faulted_ok w' a (hS.below hb) (hH.below hb) err c p h
  have HFA := hide hfa
  have hsame := fun (A' B' : Option Addr) (l : List Int) (x y : Nat) w' (g1 : Ints w' A' l) (g2 : Ints w' B' l) => (same_any A' B' l l x y w' g1 g2)
  simp only [decide_true] at hsame
  have HSAME := hide hsame
  have hnum : decide (200 < (l.length : Int)) = false ∨ (200 < (l.length : Int) ∧ decide ((l.length : Int) ≤ 4000) = false) := by
    by_cases h : 200 < (l.length : Int)
    · exact .inr ⟨h, decide_eq_false (fun h' => hl2 ⟨h, h'⟩)⟩
    · exact .inl (decide_eq_false h)
  clear hfa hsame hl2
  generalize apRes p l = r at HAF HAP
  obtain ⟨rl, rc, rp⟩ := r
  rcases hnum with q1 | ⟨q1, q2⟩
  all_goals
    go_enter Tryd.func5, Tryd.ntmps5
    go_wp2_with (first
      | (go_at_call 10; refine Calls.mono (HUN.out _ (Below.refl _ _)) ?_; rintro e w1 ⟨rfl, hB1⟩)
      | (go_at_call 21; refine Calls.mono (HAF.out w1 hB1) ?_; rintro e w2 ⟨G, x, rfl, hI2, hx, b2⟩; have hB2 := below_trans hB1 b2)
      | (go_at_call 18; refine Calls.mono (HIN.out _ (below_alloc' hB2 _)) ?_; rintro e w3 ⟨A3, c3, rfl, hI3, hc3, b3⟩; have hB3 := below_trans (below_alloc' hB2 (.cells #[.int .i64 rc, .int .i64 rp] 41)) b3)
      | (go_at_call 23; refine Calls.mono (HMV.out w3 hB3) ?_; rintro e w4 ⟨A4, c4, rfl, hI4, hc4, b4⟩; have hB4 := below_trans hB3 b4)
      | (go_at_call 22; refine Calls.mono (HAP.out A3 A4 c3 c4 w4 (hI3.below b4) hI4 hB4) ?_; rintro e w5 ⟨G5, d5, err, rfl, hI5, hd5, hF5, b5⟩; have hB5 := below_trans hB4 b5
         have hBX : Below (w2.alloc (.cells #[.int .i64 rc, .int .i64 rp] 41)).heap.size (w2.alloc (.cells #[.int .i64 rc, .int .i64 rp] 41)) w5 := below_trans b3 (below_trans b4 b5)
         have z0 : w5.heap[w2.heap.size]? = some (.cells #[.int .i64 rc, .int .i64 rp] 41 (0, 0)) := (hBX.block w2.heap.size (by simp)).trans (alloc_at _ _)
         obtain ⟨y0, q0⟩ := cell_of _ _ 0 _ _ (.int .i64 rc) z0 rfl
         obtain ⟨y1, q1'⟩ := cell_of _ _ 1 _ _ (.int .i64 rp) z0 rfl)
      | (go_at_call 24; refine Calls.mono (HFA.out w5 hB5 err rc rp hF5) ?_; rintro e w6 ⟨rfl, b6⟩; have hB6 := below_trans hB5 b6)
      | (go_at_call 25; refine Calls.mono (HSAME.out G5 G rl d5 x w6 (hI5.below b6) (hI2.below (below_trans (below_alloc' (Below.refl _ _) _) (below_trans hBX b6)))) ?_; rintro e w7 ⟨rfl, b7⟩; have hB7 := below_trans hB6 b7))
    go_ret
    exact ⟨rfl, hB7⟩
end Go.Proofs.YtcnecmcbjpehcaaDoor

/- The errors of order.Moves; copies of moves; the walk of the law OrderMoves. Condition: the variables read as laid. -/
namespace Go.Proofs.YtcnecmcbjpehcaaDoor
open Go.RowKit Go.Deep Go.Proofs.YtcnecmcbjpehcaaDoorW.PrintWords

theorem sub236 {c : Nat} (h : c ∈ [2, 3, 6]) : c ∈ codes := by
  simp at h
  rcases h with rfl | rfl | rfl <;> simp [codes]
theorem moves_err (A B : Option Addr) (p q : List Int) (c d : Nat) (w : World) (a : Nat → Addr) (hE : Env [2, 3] w a) (hA : Ints w A p) (hB : Ints w B q) (hc : p.length ≤ c) (hd : q.length ≤ d) (h0 : lErr p q ≠ 0) :
    Calls Tryd.prog 33 #[.slice A p.length c, .slice B q.length d] w fun e w' => e = .returned (.tuple #[.slice none 0 0, errC a (lErr p q)]) ∧ Below w.heap.size w w' := by
  have hl := lists_any A B p q c d w a hE hA hB hc hd
  rw [errC_pos' a h0] at hl ⊢
  generalize a (lErr p q).toNat = x at hl ⊢
  have HL := hide hl
  clear hl h0
  go_enter Tryd.func33, Tryd.ntmps33
  go_wp2_with (go_at_call 43; refine Calls.mono HL.out ?_; rintro e w1 ⟨rfl, b1⟩)
  go_ret2
  exact ⟨rfl, b1⟩
theorem moves_none (A B : Option Addr) (p q : List Int) (c d : Nat) (w : World) (a : Nat → Addr) (hE : Env [2, 3] w a) (hE6 : Env [6] w a) (hA : Ints w A p) (hB : Ints w B q) (hc : p.length ≤ c) (hd : q.length ≤ d) (h0 : lErr p q = 0) (hab : aboveB p q = false) :
    Calls Tryd.prog 33 #[.slice A p.length c, .slice B q.length d] w fun e w' => e = .returned (.tuple #[.slice none 0 0, .iface 155 (.pointer (some (a 6)))]) ∧ Below w.heap.size w w' := by
  obtain ⟨h1, n1, n2, h2, h3, _⟩ := lErr_zero h0
  have hl := lists_any A B p q c d w a hE hA hB hc hd
  rw [h0, errC_zero] at hl
  have HL := hide hl
  have hav := fun w' (hb : Below w.heap.size w w') => above_ok A B p q c d w' (hA.below hb) (hB.below hb) (numb_small n1 (by omega)) (numb_small n2 (by omega)) h2 h3
  rw [hab] at hav
  have HAV := hide hav
  have HEN := hide (fun w' (hb : Below w.heap.size w w') => (show w'.cell? ⟨3, 0, none⟩ = some (.iface 155 (.pointer (some (a 6)))) from (hE6.below hb).cell 6 (by decide)))
  clear hl hav h0 h1 n1 n2 h2 h3 hab hE hE6
  go_enter Tryd.func33, Tryd.ntmps33
  go_wp2_with (first
    | (go_at_call 43; refine Calls.mono HL.out ?_; rintro e w1 ⟨rfl, b1⟩)
    | (go_at_call 44; refine Calls.mono (HAV.out w1 b1) ?_; rintro e w2 ⟨rfl, b2⟩; have hB2 := below_trans b1 b2; have k6 := HEN.out w2 hB2))
  go_region
  go_wp2_with (fail)
  go_ret2
  exact ⟨rfl, hB2.drew⟩

theorem trips_new' (w : World) (f t s : Int) (ty : TypeId) : Trips (w.drew.alloc (.cells #[.int .i64 f, .int .i64 t, .int .i64 s] ty)) (some ⟨w.heap.size, 0, none⟩) [(f, t, s)] := trips_new w f t s ty
theorem trip_infoS : (Tryd.prog.info? 63).map (fun i => (i.zero, i.size, i.bytes)) = some (some (.agg #[.int .i64 0, .int .i64 0, .int .i64 0]), 3, 24) := by kernel_rfl
theorem step_app_tripsS (w : World) {ops : Array Oper} {o : Oper} {a : Act} {K : Act → World → Prop} {Q : Exit → Act → World → Prop} {E : Prop} (hgd : o.guard = none) (s x : Operand)
    (ho : o.op = .call { callee := .builtin .append, args := #[s, x], argTypes := #[39, 39] })
    (base : Nat) (v : Value) (l0 : List Mv) (hs : a.eval s = v) (hown : w.ownsRow base 63 3 v l0.length (tripCells l0))
    (A : Option Addr) (m c : Nat) (l : List Mv) (hx : a.eval x = .slice A m c) (hm : m = l.length) (hr : Trips w A l)
    (hbytes : (l0.length + m) * 24 ≤ 140737488355328) (hbase : base ≤ w.heap.size)
    (h : ∀ A' c' w', (l0 ++ l).length ≤ c' → w'.ownsRow base 63 3 (.slice A' (l0 ++ l).length c') (l0 ++ l).length (tripCells (l0 ++ l)) → w.grownBy w' v.ownBlock → ((Value.slice A' (l0 ++ l).length c').ownBlock = v.ownBlock ∨ (Value.slice A' (l0 ++ l).length c').ownBlock = some w.heap.size) →
      K (a.put o.dst (.slice A' (l0 ++ l).length c')) w') :
    if Region.wanted o (yielded ops a.tmps) = true then Oper.wp Tryd.prog o a w K Q else E := by
  obtain ⟨i0, hi0, hz0, hz1, hz2⟩ := info_parts trip_infoS
  subst hm
  refine step_append_any w hgd s x _ ho base 63 i0 _ 3 24 Tryd.underlying39 hi0 hz0 hz1 hz2 rfl (by omega) v l0.length (tripCells l0) hs hown w.heap.size A l.length c (tripCells l) hx hr.reads (tripCells_one l) (by simp only [maxLen]; omega) hbytes hbase ?_
  intro v' w' h1 h2 h3
  rw [← tripCells_append, ← List.length_append] at h1
  obtain ⟨A', c', rfl, hc, _⟩ := own_shape h1
  exact h A' c' w' hc h1 h2 h3
theorem falling4_ok (A : Option Addr) (l : List Int) (c : Nat) (w : World) (hA : Ints w A l) (hc : l.length ≤ c) (hl : l.length ≤ 1000000) :
    Calls Tryd.prog 34 #[.slice A l.length c] w fun e w' => ∃ B d, e = .returned (.slice B (falls l).length d) ∧ Ints w' B (falls l) ∧ Below w.heap.size w w' := by
  obtain ⟨k, hk⟩ := (falling_f l hl).rounds
  refine (POrderAbove.demonref4_Falling.calls k A c l (falls l) w hA.toC hc hk).mono ?_
  rintro e w' ⟨v, rfl, hR, hb⟩
  obtain ⟨B, d, rfl, hI, hd⟩ := Ints.ofR hR
  exact ⟨B, d, rfl, hI, hb⟩
/-- what the moves lead to, by the reference -/
theorem moves_apply {p q : List Int} {mv : List Mv} {now : List Int} (h : MSt p q p.length mv now) (hp : p.length ≤ 16) (hn : numb p = true) : apRes p mv = (now, 0, -1) := by
  unfold apRes
  have := h.few
  rw [if_neg (by omega), if_pos hn, firstBad_none h.ok, h.now_]
end Go.Proofs.YtcnecmcbjpehcaaDoor

/- The walk of the law OrderMoves. Condition: the variables read as laid. -/
namespace Go.Proofs.YtcnecmcbjpehcaaDoor
open Go.RowKit Go.Deep Go.Proofs.YtcnecmcbjpehcaaDoorW.PrintWords

set_option maxRecDepth 100000 in
set_option maxHeartbeats 4000000 in
theorem law_moves_bad (A B : Option Addr) (p q : List Int) (c d : Nat) (w : World) (a : Nat → Addr) (hS : Sent codes w a) (hH : Handle w) (hA : Ints w A p) (hB : Ints w B q) (hc : p.length ≤ c) (hd : q.length ≤ d) (hl1 : ¬ 200 < (p.length : Int)) (hl2 : ¬ 200 < (q.length : Int)) (h0 : lErr p q ≠ 0) :
    Calls Tryd.prog 8 #[.slice A p.length c, .slice B q.length d] w fun e w' => e = .returned (.bool true) ∧ Below w.heap.size w w' := by
  have hlen := hA.len
  have hlenb := hB.len
  have HE : Hid (∀ w', Below w.heap.size w w' → Env [2, 3] w' a) := hide fun w' hb => (hS.toEnv.sub (fun c h => sub23 h)).below hb
  have HUN := hide (fun w' (hb : Below w.heap.size w w') => unlike_any w' a (HE.out w' hb))
  have HC1 := hide (fun w' (hb : Below w.heap.size w w') => ints_ok A p c w' (hA.below hb) hc (by omega))
  have HC2 := hide (fun w' (hb : Below w.heap.size w w') => ints_ok B q d w' (hB.below hb) hd (by omega))
  have hle := fun w' (hb : Below w.heap.size w w') => listsError_ok A B p q c d w' (hA.below hb) (hB.below hb) hc hd (by omega) (by omega)
  obtain ⟨cc, hc', hc8⟩ := lErr_nat p q
  have hc0 : 0 < cc := by
    rcases Nat.eq_zero_or_pos cc with h | h
    · subst h; exact absurd hc' h0
    · exact h
  have hap := fun (A' B' : Option Addr) (x y : Nat) w' (h1 : Ints w' A' p) (h2 : Ints w' B' q) (hx : p.length ≤ x) (hy : q.length ≤ y) (hb : Below w.heap.size w w') => moves_err A' B' p q x y w' a (HE.out w' hb) h1 h2 hx hy h0
  have hcd := fun w' (hb : Below w.heap.size w w') => coded_any w' a (hS.below hb) (hH.below hb) cc hc8 cc
  rw [hc'] at hap hle
  rw [decide_eq_true rfl] at hcd
  have he : errC a (cc : Int) = .iface 155 (.pointer (some (a cc))) := errC_pos' a (by omega)
  rw [he] at hap hcd
  have HAP := hide hap
  have HCD := hide hcd
  have HLE := hide hle
  clear hap hcd he hc' h0 hle
  have hci : 0 < (cc : Int) := by omega
  have hcn : ((cc : Int) == 0) = false := by rw [beq_eq_false_iff_ne]; omega
  go_enter Tryd.func8, Tryd.ntmps8
  go_wp2_with (first
    | (go_at_call 10; refine Calls.mono (HUN.out _ (Below.refl _ _)) ?_; rintro e w1 ⟨rfl, hB1⟩)
    | (go_at_call 16; refine Calls.mono (HLE.out w1 hB1) ?_; rintro e w2 ⟨rfl, b2⟩; have hB2 := below_trans hB1 b2)
    | (go_at_call 18; refine Calls.mono (HC1.out w2 hB2) ?_; rintro e w3 ⟨A3, c3, rfl, hI3, hc3, b3⟩; have hB3 := below_trans hB2 b3; clear HC1)
    | (go_at_call 18; refine Calls.mono (HC2.out w3 hB3) ?_; rintro e w4 ⟨A4, c4, rfl, hI4, hc4, b4⟩; have hB4 := below_trans hB3 b4)
    | (go_at_call 33; refine Calls.mono (HAP.out A3 A4 c3 c4 w4 (hI3.below b4) hI4 hc3 hc4 hB4) ?_; rintro e w5 ⟨rfl, b5⟩; have hB5 := below_trans hB4 b5)
    | (go_at_call 19; refine Calls.mono (HCD.out w5 hB5) ?_; rintro e w6 ⟨rfl, b6⟩; have hB6 := below_trans hB5 b6))
  go_ret
  exact ⟨rfl, hB6⟩

set_option maxRecDepth 100000 in
set_option maxHeartbeats 4000000 in
theorem law_moves_none (A B : Option Addr) (p q : List Int) (c d : Nat) (w : World) (a : Nat → Addr) (hS : Sent codes w a) (hH : Handle w) (hA : Ints w A p) (hB : Ints w B q) (hc : p.length ≤ c) (hd : q.length ≤ d) (hl1 : ¬ 200 < (p.length : Int)) (hl2 : ¬ 200 < (q.length : Int)) (h0 : lErr p q = 0) (hab : aboveB p q = false) :
    Calls Tryd.prog 8 #[.slice A p.length c, .slice B q.length d] w fun e w' => e = .returned (.bool true) ∧ Below w.heap.size w w' := by
  have hlen := hA.len
  have hlenb := hB.len
  have HE : Hid (∀ w', Below w.heap.size w w' → Env [2, 3] w' a) := hide fun w' hb => (hS.toEnv.sub (fun c h => sub23 h)).below hb
  have HE6 : Hid (∀ w', Below w.heap.size w w' → Env [6] w' a) := hide fun w' hb => (hS.toEnv.sub (fun c h => by simp at h; subst h; simp [codes])).below hb
  have HUN := hide (fun w' (hb : Below w.heap.size w w') => unlike_any w' a (HE.out w' hb))
  have HC1 := hide (fun w' (hb : Below w.heap.size w w') => ints_ok A p c w' (hA.below hb) hc (by omega))
  have HC2 := hide (fun w' (hb : Below w.heap.size w w') => ints_ok B q d w' (hB.below hb) hd (by omega))
  have hle := fun w' (hb : Below w.heap.size w w') => listsError_ok A B p q c d w' (hA.below hb) (hB.below hb) hc hd (by omega) (by omega)
  rw [h0] at hle
  have HLE := hide hle
  have hia := fun w' (hb : Below w.heap.size w w') => isAbove_ok A B p q c d w' (hA.below hb) (hB.below hb) hc hd h0
  rw [hab] at hia
  have HIA := hide hia
  have HAP := hide (fun (A' B' : Option Addr) (x y : Nat) w' (h1 : Ints w' A' p) (h2 : Ints w' B' q) (hx : p.length ≤ x) (hy : q.length ≤ y) (hb : Below w.heap.size w w') => moves_none A' B' p q x y w' a (HE.out w' hb) (HE6.out w' hb) h1 h2 hx hy h0 hab)
  have hcd := fun w' (hb : Below w.heap.size w w') => coded_any w' a (hS.below hb) (hH.below hb) 6 (by decide) 6
  rw [show decide (((6 : Nat) : Int) = 6) = true from rfl, show errC a ((6 : Nat) : Int) = .iface 155 (.pointer (some (a 6))) from rfl] at hcd
  have HCD := hide hcd
  clear hcd hia hle h0 hab
  go_enter Tryd.func8, Tryd.ntmps8
  go_wp2_with (first
    | (go_at_call 10; refine Calls.mono (HUN.out _ (Below.refl _ _)) ?_; rintro e w1 ⟨rfl, hB1⟩)
    | (go_at_call 16; refine Calls.mono (HLE.out w1 hB1) ?_; rintro e w2 ⟨rfl, b2⟩; have hB2 := below_trans hB1 b2)
    | (go_at_call 20; refine Calls.mono (HIA.out w2 hB2) ?_; rintro e w21 ⟨rfl, b21⟩; have hB21 := below_trans hB2 b21)
    | (go_at_call 18; refine Calls.mono (HC1.out w21 hB21) ?_; rintro e w3 ⟨A3, c3, rfl, hI3, hc3, b3⟩; have hB3 := below_trans hB21 b3; clear HC1)
    | (go_at_call 18; refine Calls.mono (HC2.out w3 hB3) ?_; rintro e w4 ⟨A4, c4, rfl, hI4, hc4, b4⟩; have hB4 := below_trans hB3 b4)
    | (go_at_call 33; refine Calls.mono (HAP.out A3 A4 c3 c4 w4 (hI3.below b4) hI4 hc3 hc4 hB4) ?_; rintro e w5 ⟨rfl, b5⟩; have hB5 := below_trans hB4 b5)
    | (go_at_call 19; refine Calls.mono (HCD.out w5 hB5) ?_; rintro e w6 ⟨rfl, b6⟩; have hB6 := below_trans hB5 b6))
  go_ret
  exact ⟨rfl, hB6⟩

set_option maxRecDepth 100000 in
set_option maxHeartbeats 4000000 in
theorem law_moves_good (A B : Option Addr) (p q : List Int) (c d : Nat) (w : World) (a : Nat → Addr) (hS : Sent codes w a) (hA : Ints w A p) (hB : Ints w B q) (hc : p.length ≤ c) (hd : q.length ≤ d) (hl1 : ¬ 200 < (p.length : Int)) (hl2 : ¬ 200 < (q.length : Int)) (h0 : lErr p q = 0) (hab : aboveB p q = true) :
    Calls Tryd.prog 8 #[.slice A p.length c, .slice B q.length d] w fun e w' => e = .returned (.bool true) ∧ Below w.heap.size w w' := by
  have hlen := hA.len
  have hlenb := hB.len
  have HE : Hid (∀ w', Below w.heap.size w w' → Env [2, 3] w' a) := hide fun w' hb => (hS.toEnv.sub (fun c h => sub23 h)).below hb
  have HUN := hide (fun w' (hb : Below w.heap.size w w') => unlike_any w' a (HE.out w' hb))
  have HC1 := hide (fun w' (hb : Below w.heap.size w w') => ints_ok A p c w' (hA.below hb) hc (by omega))
  have HC2 := hide (fun w' (hb : Below w.heap.size w w') => ints_ok B q d w' (hB.below hb) hd (by omega))
  have hle := fun w' (hb : Below w.heap.size w w') => listsError_ok A B p q c d w' (hA.below hb) (hB.below hb) hc hd (by omega) (by omega)
  obtain ⟨h16, n1, n2, hn, hpq, hsum⟩ := lErr_zero h0
  have hia := fun w' (hb : Below w.heap.size w w') => isAbove_ok A B p q c d w' (hA.below hb) (hB.below hb) hc hd h0
  rw [h0] at hle
  have HLE := hide hle
  rw [hab] at hia
  have HIA := hide hia
  have HAP := hide (fun (A' B' : Option Addr) (x y : Nat) w' (h1 : Ints w' A' p) (h2 : Ints w' B' q) (hx : p.length ≤ x) (hy : q.length ≤ y) (hb : Below w.heap.size w w') => moves_ok A' B' p q x y w' a (HE.out w' hb) h1 h2 hx hy h0 hab)
  have HAF := hide (fun (B' : Option Addr) (l : List Mv) (y : Nat) w' (g : Trips w' B' l) (hb : Below w.heap.size w w') => applyFault_ok A B' p l c y w' (hA.below hb) g hc (by omega))
  have HF1 := hide (fun (A' : Option Addr) (l : List Int) (y : Nat) w' (g : Ints w' A' l) (hy : l.length ≤ y) (hl : l.length ≤ 1000000) => falling4_ok A' l y w' g hy hl)
  have HF2 := hide (fun w' (hb : Below w.heap.size w w') => falling4_ok B q d w' (hB.below hb) hd (by omega))
  have hsame := fun (A' B' : Option Addr) (l : List Int) (x y : Nat) w' (g1 : Ints w' A' l) (g2 : Ints w' B' l) => (same_any A' B' l l x y w' g1 g2)
  simp only [decide_true] at hsame
  have HSAME := hide hsame
  have HMA := hide (fun mv now (h : MSt p q p.length mv now) => moves_apply h h16.1 n1)
  have h16' : (p.length : Int) ≤ 16 := by omega
  clear hsame hia hle h0 hab n1 n2 hpq hsum
  go_enter Tryd.func8, Tryd.ntmps8
  go_wp2_with (first
    | (go_at_call 10; refine Calls.mono (HUN.out _ (Below.refl _ _)) ?_; rintro e w1 ⟨rfl, hB1⟩)
    | (go_at_call 16; refine Calls.mono (HLE.out w1 hB1) ?_; rintro e w2 ⟨rfl, b2⟩; have hB2 := below_trans hB1 b2)
    | (go_at_call 20; refine Calls.mono (HIA.out w2 hB2) ?_; rintro e w21 ⟨rfl, b21⟩; have hB21 := below_trans hB2 b21)
    | (go_at_call 18; refine Calls.mono (HC1.out w21 hB21) ?_; rintro e w3 ⟨A3, c3, rfl, hI3, hc3, b3⟩; have hB3 := below_trans hB21 b3; clear HC1)
    | (go_at_call 18; refine Calls.mono (HC2.out w3 hB3) ?_; rintro e w4 ⟨A4, c4, rfl, hI4, hc4, b4⟩; have hB4 := below_trans hB3 b4)
    | (go_at_call 33; refine Calls.mono (HAP.out A3 A4 c3 c4 w4 (hI3.below b4) hI4 hc3 hc4 hB4) ?_; rintro e w5 ⟨AM, cM, l, now, rfl, hcM, hTR, hMS, hFN, b5⟩; have hB5 := below_trans hB4 b5; have hfew := hMS.few; have hfew' : (l.length : Int) ≤ (p.length : Int) - 1 := by omega))
  have HMS := hide hMS
  have HTL := hTR.len
  clear hMS hfew
  go_loopw [9, 10] (fun ov iv wr => ∃ i : Nat, i ≤ l.length ∧ iv = .int .i64 i ∧ wr.ownsRow w5.heap.size 63 3 ov i (tripCells (l.take i)) ∧ Below w5.heap.size w5 wr) (fun _ iv _ => l.length - (intOf iv).toNat)
  case atStart => exact ⟨0, Nat.zero_le _, rfl, nil_own _ _ _ _, Below.refl _ _⟩
  case round =>
    obtain ⟨i, hi, rfl, hown, hBk⟩ := hrel
    obtain ⟨wi, rfl⟩ : ∃ wi : World, wi = wr := ⟨_, rfl⟩
    obtain ⟨A9, c9, rfl, hc9, _⟩ := own_shape hown
    have HO := hide hown
    clear hown
    have i0 : (0 : Int) ≤ (i : Int) := Int.natCast_nonneg _
    by_cases hil : i < l.length
    · have i1 : (i : Int) < (l.length : Int) := by omega
      obtain ⟨b, off, rfl, hb, e1w, e2w, e3w⟩ := hTR.at_ i hil
      have hss := take_trip l i hil
      generalize l.getD i (0, 0, 0) = m at e1w e2w e3w hss
      obtain ⟨f, t, s⟩ := m
      dsimp only at e1w e2w e3w
      have HEE := hide (fun w' (h : Below w5.heap.size w5 w') => (⟨(h.cell (p := ⟨b, off + i * 3, none⟩) hb).trans e1w, (h.cell (p := ⟨b, off + i * 3 + 1, none⟩) hb).trans e2w, (h.cell (p := ⟨b, off + i * 3 + 2, none⟩) hb).trans e3w⟩ :
        w'.cell? ⟨b, off + i * 3, none⟩ = some (.int .i64 f) ∧ w'.cell? ⟨b, off + i * 3 + 1, none⟩ = some (.int .i64 t) ∧ w'.cell? ⟨b, off + i * 3 + 2, none⟩ = some (.int .i64 s)))
      clear e1w e2w e3w
      obtain ⟨e1, e2, e3⟩ := HEE.out wi hBk
      have HSS := hide hss
      have HC3 := hide (show ((l.take i).length + 1) * 24 ≤ 140737488355328 by rw [List.length_take]; omega)
      have HSZ := hide hBk.size
      have hgr := fun o w' (hg : (wi.drew.alloc o).grownBy w' (Value.slice A9 i c9).ownBlock) => (show Below w5.heap.size w5 w' from ((hBk.drew.alloc HSZ.out o).grown hg (by rw [World.size_alloc]; exact Nat.le_succ_of_le HSZ.out) (fun j hj => (HO.out.lt j hj).1)))
      have HG := hide hgr
      have HO2 := hide (show wi.drew.ownsRow w5.heap.size 63 3 (.slice A9 i c9) (l.take i).length (tripCells (l.take i)) from trip_own_list HO.out)
      have HSZ2 := hide (fun o => (by rw [World.size_alloc]; exact Nat.le_succ_of_le HSZ.out : w5.heap.size ≤ (wi.drew.alloc o).heap.size))
      clear hgr hss
      go_wp2_with (fail)
      go_region_held3 (fun w' => w'.cell? ⟨b, off + i * 3, none⟩ = some (.int .i64 f) ∧ w'.cell? ⟨b, off + i * 3 + 1, none⟩ = some (.int .i64 t) ∧ w'.cell? ⟨b, off + i * 3 + 2, none⟩ = some (.int .i64 s))
        (first | go_keep | exact ⟨‹_›, ‹_›, ‹_›⟩ | trivial)
        ((first
          | (refine step_app_tripsS _ rfl _ _ rfl w5.heap.size (.slice A9 i c9) _ rfl (HO2.out.alloc _) _ 1 1 [(f, t, s)] rfl rfl (trips_new wi f t s _) HC3.out (HSZ2.out _) ?_
             intro A' c' w12 hc12 ho12 hg12 hob12
             have hb12 := HG.out _ _ hg12
             obtain ⟨q1, q2, q3⟩ := HEE.out w12 hb12)
          | fail))
      rw [← HSS.out] at ho12
      rw [show (l.take (i + 1)).length = i + 1 by rw [List.length_take]; omega] at ho12
      go_wp2_with (fail)
      go_roundw
      case rel => exact ⟨i + 1, by omega, by go_num, by first | exact ho12 | (rw [show (l.take i).length = i by rw [List.length_take]; omega]; exact ho12), hb12⟩
      case measure => simp [intOf]; omega
    · obtain rfl : i = l.length := by omega
      have hoo := HO.out
      rw [List.take_length] at hoo
      have HTR := hide (Trips.own hoo)
      have hBw := below_trans hB5 hBk
      clear hoo
      have HAF1 := HAF.out A9 l c9 wi HTR.out hBw
      rw [HMA.out l now HMS.out] at HAF1
      have HAF2 := hide HAF1
      have HNL := hide HMS.out.len
      have HFN := hide hFN
      clear HAF1 HAF hFN
      go_wp2_with (first
        | (go_at_call 21; refine Calls.mono HAF2.out ?_; rintro e w6 ⟨G, x, rfl, hI6, hx, b6⟩; have hB6 := below_trans hBw b6
           have z0 := alloc_at w6 (.cells #[.int .i64 0, .int .i64 (-1)] 41)
           obtain ⟨y0, q0⟩ := cell_of _ _ 0 _ _ (.int .i64 0) z0 rfl)
        | (go_at_call 34; refine Calls.mono (HF1.out G now x _ (hI6.below (below_alloc' (Below.refl _ _) _)) hx (by rw [HNL.out]; omega)) ?_; rintro e w7 ⟨B7, d7, rfl, hI7, b7⟩; have hB7 := below_trans (below_alloc' hB6 (.cells #[.int .i64 0, .int .i64 (-1)] 41)) b7; clear HF1)
        | (go_at_call 34; refine Calls.mono (HF2.out w7 hB7) ?_; rintro e w8 ⟨B8, d8, rfl, hI8, b8⟩; have hB8 := below_trans hB7 b8)
        | (go_at_call 25; rw [HFN.out]; refine Calls.mono (HSAME.out B7 B8 (falls q) d7 d8 w8 (by rw [← HFN.out]; exact hI7.below b8) hI8) ?_; rintro e w9 ⟨rfl, b9⟩; have hB9 := below_trans hB8 b9))
      go_ret
      exact ⟨rfl, hB9⟩

set_option maxHeartbeats 2000000 in
theorem law_moves (A B : Option Addr) (p q : List Int) (c d : Nat) (w : World) (a : Nat → Addr) (hS : Sent codes w a) (hH : Handle w) (hA : Ints w A p) (hB : Ints w B q) (hc : p.length ≤ c) (hd : q.length ≤ d) :
    Calls Tryd.prog 8 #[.slice A p.length c, .slice B q.length d] w fun e w' => e = .returned (.bool true) ∧ Below w.heap.size w w' := by
  have hlen := hA.len
  have hlenb := hB.len
  by_cases hl1 : 200 < (p.length : Int)
  · have HUN := hide (unlike_any w a (hS.toEnv.sub (fun c h => sub23 h)))
    go_enter Tryd.func8, Tryd.ntmps8
    go_wp2_with (go_at_call 10; refine Calls.mono HUN.out ?_; rintro e w1 ⟨rfl, hB1⟩)
    go_ret
    exact ⟨rfl, hB1⟩
  by_cases hl2 : 200 < (q.length : Int)
  · have HUN := hide (unlike_any w a (hS.toEnv.sub (fun c h => sub23 h)))
    go_enter Tryd.func8, Tryd.ntmps8
    go_wp2_with (go_at_call 10; refine Calls.mono HUN.out ?_; rintro e w1 ⟨rfl, hB1⟩)
    go_ret
    exact ⟨rfl, hB1⟩
  by_cases h0 : lErr p q = 0
  · cases hab : aboveB p q with
    | true => exact law_moves_good A B p q c d w a hS hA hB hc hd hl1 hl2 h0 hab
    | false => exact law_moves_none A B p q c d w a hS hH hA hB hc hd hl1 hl2 h0 hab
  · exact law_moves_bad A B p q c d w a hS hH hA hB hc hd hl1 hl2 h0
end Go.Proofs.YtcnecmcbjpehcaaDoor
