/- Words, plain laws and walks behind the law OrderParts, part 5. No condition. -/
import Derived.Test.YtcnecmcbjpehcaaDoorFlatOrderPartsd
import Derived.Test.YtcnecmcbjpehcaaDoorFlatOrderPartsb
import Derived.Deep.Slices
import Derived.Test.YtcnecmcbjpehcaaDoorWMore
import Derived.Test.YtcnecmcbjpehcaaDoorFlatOrderPartsc
import Derived.Test.YtcnecmcbjpehcaaDoorPOrderBirkhoffx8

/- Rows of rows in memory that may be written; what Parts builds: a copy of the table, the permutations, how often each. No condition. -/
namespace Go.Proofs.YtcnecmcbjpehcaaDoor
open Go.RowKit Go.Deep Go.Proofs.YtcnecmcbjpehcaaDoorW.PrintWords

/-- M rows of c numbers each: the outer slice lies in block g, row j in block (h j) -/
structure Tab2 (w : World) (B g : Nat) (h cp : Nat → Nat) (M c : Nat) (f : Nat → Nat → Int) : Prop where
  outer : ∀ j, j < M → w.cell? ⟨g, j, none⟩ = some (.slice (some ⟨h j, 0, none⟩) c (cp j)) ∧ c ≤ cp j
  inner : ∀ j, j < M → ∀ i, i < c → w.cell? ⟨h j, i, none⟩ = some (.int .i64 (f j i)) ∧ w.frozen? ⟨h j, i, none⟩ = false
  inj : ∀ i, i < M → ∀ j, j < M → h i = h j → i = j
  apart : ∀ j, j < M → h j ≠ g
  base : ∀ j, j < M → B ≤ h j
theorem Tab2.congr {w : World} {B g : Nat} {h cp : Nat → Nat} {M c : Nat} {f f' : Nat → Nat → Int} (t : Tab2 w B g h cp M c f) (e : ∀ j, j < M → ∀ i, i < c → f j i = f' j i) : Tab2 w B g h cp M c f' :=
  ⟨t.outer, fun j hj i hi => by rw [← e j hj i hi]; exact t.inner j hj i hi, t.inj, t.apart, t.base⟩
theorem Tab2.set {w : World} {B g : Nat} {h cp : Nat → Nat} {M c : Nat} {f : Nat → Nat → Int} (t : Tab2 w B g h cp M c f) (m s : Nat) (hm : m < M) (v : Int) :
    Tab2 (w.setCell ⟨h m, s, none⟩ (.int .i64 v)) B g h cp M c (fun x y => if x = m ∧ y = s then v else f x y) := by
  refine ⟨fun j hj => ⟨?_, (t.outer j hj).2⟩, fun j hj i hi => ⟨?_, ?_⟩, t.inj, t.apart, t.base⟩
  · rw [World.cell?_setCell_other]
    · exact (t.outer j hj).1
    · intro e
      injection e with e _ _
      exact t.apart m hm e
  · by_cases e : j = m ∧ i = s
    · obtain ⟨rfl, rfl⟩ := e
      rw [if_pos ⟨rfl, rfl⟩]
      exact World.cell?_setCell_same _ _ _ (t.inner j hj i hi).1
    · rw [if_neg e, World.cell?_setCell_other]
      · exact (t.inner j hj i hi).1
      · intro e2
        injection e2 with e2 e3 _
        exact e ⟨t.inj j hj m hm e2.symm, e3.symm⟩
  · rw [World.frozen?_setCell]
    exact (t.inner j hj i hi).2
theorem Tab2.drewN {w : World} {B g : Nat} {h cp : Nat → Nat} {M c : Nat} {f : Nat → Nat → Int} (t : Tab2 w B g h cp M c f) (n : Nat) : Tab2 (w.drewN n) B g h cp M c f :=
  ⟨t.outer, t.inner, t.inj, t.apart, t.base⟩
theorem Tab2.lists {w : World} {B g : Nat} {h cp : Nat → Nat} {M c : Nat} {f : Nat → Nat → Int} (t : Tab2 w B g h cp M c f) (hM : M ≤ 9223372036854775807) (hc : c ≤ 9223372036854775807) : Lists w (some ⟨g, 0, none⟩) ((List.range M).map fun j => (List.range c).map fun i => f j i) :=
  ⟨by simpa using hM, fun j hj => by
    have hj' : j < M := by simpa using hj
    have e : ((List.range M).map fun j => (List.range c).map fun i => f j i).getD j [] = (List.range c).map fun i => f j i := by
      simp [List.getD_eq_getElem?_getD, List.getElem?_map, List.getElem?_range hj']
    rw [e]
    obtain ⟨h1, h2⟩ := t.outer j hj'
    have hI : Ints w (some ⟨h j, 0, none⟩) ((List.range c).map fun i => f j i) := ⟨by simpa using hc, fun i hi => by
      have hi' : i < c := by simpa using hi
      have h3 := (t.inner j hj' i hi').1
      have e2 : ((List.range c).map fun i => f j i).getD i 0 = f j i := by simp [List.getD_eq_getElem?_getD, List.getElem?_map, List.getElem?_range hi']
      rw [e2]
      exact ⟨h j, 0, rfl, World.block_lt_of_cell? w _ h3, by rw [Nat.zero_add]; exact h3⟩⟩
    exact ⟨g, 0, some ⟨h j, 0, none⟩, cp j, rfl, World.block_lt_of_cell? w _ h1, by rw [Nat.zero_add, h1]; simp, by simpa using h2, hI⟩⟩
theorem tab2_of_S {w : World} {base : Nat} {ok : Nat → Prop} {v : Value} {xs : List (List Int)} {c : Nat} (h : Kd.S (Kd.slice 3 (Kd.int .i64)) 25 w base ok v xs) (hM : 0 < xs.length) (hc : 0 < c) (hrow : ∀ j, j < xs.length → (xs.getD j []).length = c) :
    ∃ g cap hh cp, v = .slice (some ⟨g, 0, none⟩) xs.length cap ∧ xs.length ≤ cap ∧ base ≤ g ∧ Tab2 w base g hh cp xs.length c (fun j i => (xs.getD j []).getD i 0) := by
  obtain ⟨g, cap, rfl, hg, _, _⟩ := Kd.S_form h hM
  obtain ⟨A, cc, e, hle, _⟩ := Kd.S_reads h
  injection e with _ _ e
  subst e
  obtain ⟨f, _, inner, ho, hr⟩ := h
  have each : ∀ j, j < xs.length → ∃ q : Nat × Nat, w.cell? ⟨g, j, none⟩ = some (.slice (some ⟨q.1, 0, none⟩) c q.2) ∧ c ≤ q.2 ∧ (∀ i, i < c → w.cell? ⟨q.1, i, none⟩ = some (.int .i64 ((xs.getD j []).getD i 0)) ∧ w.frozen? ⟨q.1, i, none⟩ = false) ∧ f q.1 = j ∧ q.1 ≠ g ∧ base ≤ q.1 := by
    intro j hj
    have hp : xs.zipIdx[j]? = some (xs.getD j [], j) := Kd.zip_at (by rw [List.getD_eq_getElem?_getD, List.getElem?_eq_getElem hj]; rfl)
    obtain ⟨u, hu, hR⟩ := hr.2 j _ hp
    have hl := hrow j hj
    obtain ⟨g', cap', hu', hb', _, cells, hcells⟩ := Kd.R_form hR (by rw [hl]; exact hc)
    obtain ⟨A', c', hu2, hI, hle'⟩ := Ints.ofR hR
    have hblk := hR.1 g' (by rw [hu']; rfl)
    obtain ⟨⟨_, hne⟩, hfj⟩ := hblk
    rw [hu'] at hu2
    injection hu2 with e1 _ e2
    subst e1 e2
    rw [hl] at hu' hle'
    have hin : inner[j]? = some u := by
      have h1 : ((inner.drop (j * 1)).take 1)[0]? = some u := by
        have : ((inner.drop (j * 1)).take 1) = [u] := hu
        rw [this]
        rfl
      rw [List.getElem?_take_of_lt (by omega), List.getElem?_drop, Nat.mul_one, Nat.add_zero] at h1
      exact h1
    refine ⟨(g', cap'), ?_, hle', fun i hi => ⟨?_, frozen_of_row w g' i cells _ hcells⟩, hfj, fun e => hne (by have e' : g' = g := e; rw [e']; rfl), hb'⟩
    · have := ho.cells (g := g) rfl j _ hin
      rw [addr_add, Nat.zero_add, hu'] at this
      exact this
    · obtain ⟨b, off, e, _, hcell⟩ := hI.at_ i (by rw [hl]; exact hi)
      injection e with e
      injection e with e1 e2 _
      subst e1 e2
      rw [Nat.zero_add] at hcell
      exact hcell
  obtain ⟨q, hq⟩ := choose_lt each
  exact ⟨g, cap, fun j => (q j).1, fun j => (q j).2, rfl, hle, hg, ⟨fun j hj => ⟨(hq j hj).1, (hq j hj).2.1⟩, fun j hj => (hq j hj).2.2.1, fun i hi j hj e => by
    have h1 := (hq i hi).2.2.2.1
    have h2 := (hq j hj).2.2.2.1
    have e' : (q i).1 = (q j).1 := e
    rw [← h1, e', h2], fun j hj => (hq j hj).2.2.2.2.1, fun j hj => (hq j hj).2.2.2.2.2⟩⟩

theorem own_same {w w' : World} {base e size n : Nat} {v : Value} {xs : List Value} (h : w.ownsRow base e size v n xs) (hs : ∀ b, v.ownBlock = some b → w'.heap[b]? = w.heap[b]?) : w'.ownsRow base e size v n xs := by
  refine ⟨h.1, ?_⟩
  rcases h.2 with h0 | ⟨g, cap, cur, rfl, hb, hh, r⟩
  · exact .inl h0
  · exact .inr ⟨g, cap, cur, rfl, hb, (hs g rfl).trans hh, r⟩
theorem ints_same {w w' : World} {b : Nat} {l : List Int} (h : Ints w (some ⟨b, 0, none⟩) l) (hs : w'.heap[b]? = w.heap[b]?) : Ints w' (some ⟨b, 0, none⟩) l :=
  ⟨h.len, fun i hi => by
    obtain ⟨b', off, e, hb, hc⟩ := h.at_ i hi
    injection e with e
    injection e with e1 e2 _
    subst e1 e2
    have hc' := (World.cell?_of_block (a := ⟨b, 0 + i, none⟩) hs).trans hc
    exact ⟨b, 0, rfl, World.block_lt_of_cell? w' _ hc', hc'⟩⟩
theorem heap_set_other (w : World) (g o : Nat) (v : Value) (b : Nat) (h : b ≠ g) : (w.setCell ⟨g, o, none⟩ v).heap[b]? = w.heap[b]? := by
  simp [World.setCell, Array.getElem?_modify, Ne.symm h]
theorem Tab2.same {w w' : World} {B g : Nat} {h cp : Nat → Nat} {M c : Nat} {f : Nat → Nat → Int} (t : Tab2 w B g h cp M c f) (hg : w'.heap[g]? = w.heap[g]?) (hh : ∀ j, j < M → w'.heap[h j]? = w.heap[h j]?) : Tab2 w' B g h cp M c f :=
  ⟨fun j hj => ⟨(World.cell?_of_block (a := ⟨g, j, none⟩) hg).trans (t.outer j hj).1, (t.outer j hj).2⟩,
   fun j hj i hi => ⟨(World.cell?_of_block (a := ⟨h j, i, none⟩) (hh j hj)).trans (t.inner j hj i hi).1, (World.frozen?_of_block (a := ⟨h j, i, none⟩) (hh j hj)).trans (t.inner j hj i hi).2⟩, t.inj, t.apart, t.base⟩
theorem Tab2.glt {w : World} {B g : Nat} {h cp : Nat → Nat} {M c : Nat} {f : Nat → Nat → Int} (t : Tab2 w B g h cp M c f) (hM : 0 < M) : g < w.heap.size := World.block_lt_of_cell? w _ (t.outer 0 hM).1
theorem Tab2.hlt {w : World} {B g : Nat} {h cp : Nat → Nat} {M c : Nat} {f : Nat → Nat → Int} (t : Tab2 w B g h cp M c f) (hc : 0 < c) (j : Nat) (hj : j < M) : h j < w.heap.size := World.block_lt_of_cell? w _ (t.inner j hj 0 hc).1
theorem Tab2.below {w w' : World} {B g : Nat} {h cp : Nat → Nat} {M c : Nat} {f : Nat → Nat → Int} (t : Tab2 w B g h cp M c f) (hM : 0 < M) (hc : 0 < c) (hb : Below w.heap.size w w') : Tab2 w' B g h cp M c f :=
  t.same (hb.block g (t.glt hM)) (fun j hj => hb.block _ (t.hlt hc j hj))
theorem Tab2.row {w : World} {B g : Nat} {h cp : Nat → Nat} {M c : Nat} {f : Nat → Nat → Int} (t : Tab2 w B g h cp M c f) (hm : c ≤ 9223372036854775807) (j : Nat) (hj : j < M) : Ints w (some ⟨h j, 0, none⟩) ((List.range c).map fun i => f j i) :=
  ⟨by simpa using hm, fun i hi => by
    have hi' : i < c := by simpa using hi
    have h3 := (t.inner j hj i hi').1
    have e2 : ((List.range c).map fun i => f j i).getD i 0 = f j i := by simp [List.getD_eq_getElem?_getD, List.getElem?_map, List.getElem?_range hi']
    rw [e2]
    exact ⟨h j, 0, rfl, World.block_lt_of_cell? w _ h3, by rw [Nat.zero_add]; exact h3⟩⟩

theorem lists_info : (Tryd.prog.info? 25).map (fun i => (i.zero, i.size, i.bytes)) = some (some (.slice none 0 0), 1, 24) := by kernel_rfl
/-- append of one slice of numbers onto a row of such slices -/
theorem wp_app_row (w : World) {ops : Array Oper} {rest : List Oper} {o : Oper} {a : Act} {Q : Exit → Act → World → Prop} (hgd : o.guard = none) (s x : Operand)
    (ho : o.op = .call { callee := .builtin .append, args := #[s, x], argTypes := #[22, 22] })
    (base : Nat) (v : Value) (k : Nat) (vals : List Value) (hs : a.eval s = v) (hown : w.ownsRow base 25 1 v k vals)
    (b c : Nat) (u : Value) (hu : u.oneCell' = true) (hx : a.eval x = .slice (some ⟨b, 0, none⟩) 1 c) (hb : b < w.heap.size) (hcell : w.cell? ⟨b, 0, none⟩ = some u)
    (hbytes : (k + 1) * 24 ≤ 140737488355328) (hbase : base ≤ w.heap.size)
    (h : ∀ A' c' w', k + 1 ≤ c' → w'.ownsRow base 25 1 (.slice A' (k + 1) c') (k + 1) (vals ++ [u]) → w.grownBy w' v.ownBlock → ((Value.slice A' (k + 1) c').ownBlock = v.ownBlock ∨ (Value.slice A' (k + 1) c').ownBlock = some w.heap.size) →
      wpList Tryd.prog ops Q rest (a.put o.dst (.slice A' (k + 1) c')) w') : wpList Tryd.prog ops Q (o :: rest) a w := by
  obtain ⟨i0, hi0, hz0, hz1, hz2⟩ := info_parts lists_info
  have hr : Reads w w.heap.size 1 (some ⟨b, 0, none⟩) 1 [u] := ⟨rfl, fun _ => ⟨⟨b, 0, none⟩, rfl, hb, fun j u' hu' => by
    cases j with
    | zero =>
      have : u = u' := by simpa using hu'
      subst this
      rw [addr_add]; exact hcell
    | succ j => simp at hu'⟩⟩
  refine wpList_append_any w hgd s x _ ho base 25 i0 _ 1 24 Tryd.underlying22 hi0 hz0 hz1 hz2 rfl (by omega) v k vals hs hown w.heap.size (some ⟨b, 0, none⟩) 1 c [u] hx hr (fun y hy => by
    have : y = u := by simpa using hy
    rw [this]; exact hu) (by simp only [maxLen]; omega) hbytes hbase ?_
  intro v' w' h1 h2 h3
  obtain ⟨A', c', rfl, hc, _⟩ := own_shape h1
  exact h A' c' w' hc h1 h2 h3

/-- the first k rows of a copy, each in a block of its own -/
structure Build (w : World) (base : Nat) (v : Value) (k n : Nat) (h cp : Nat → Nat) (f : Nat → Nat → Int) : Prop where
  spine : w.ownsRow base 25 1 v k ((List.range k).map fun j => Value.slice (some ⟨h j, 0, none⟩) n (cp j))
  inner : ∀ j, j < k → ∀ i, i < n → w.cell? ⟨h j, i, none⟩ = some (.int .i64 (f j i)) ∧ w.frozen? ⟨h j, i, none⟩ = false
  cap : ∀ j, j < k → n ≤ cp j
  inj : ∀ i, i < k → ∀ j, j < k → h i = h j → i = j
  apart : ∀ j, j < k → some (h j) ≠ v.ownBlock
  base : ∀ j, j < k → base ≤ h j
  lt : ∀ j, j < k → h j < w.heap.size
theorem Build.nil (w : World) (base n : Nat) (f : Nat → Nat → Int) : Build w base (.slice none 0 0) 0 n (fun _ => 0) (fun _ => 0) f :=
  ⟨nil_own _ _ _ _, fun j h => absurd h (Nat.not_lt_zero _), fun j h => absurd h (Nat.not_lt_zero _), fun j h => absurd h (Nat.not_lt_zero _), fun j h => absurd h (Nat.not_lt_zero _), fun j h => absurd h (Nat.not_lt_zero _), fun j h => absurd h (Nat.not_lt_zero _)⟩
theorem range_step (k : Nat) (F G : Nat → Value) (h : ∀ j, j < k → G j = F j) : (List.range (k + 1)).map G = (List.range k).map F ++ [G k] := by
  rw [List.range_succ, List.map_append]
  congr 1
  exact List.map_congr_left (fun j hj => h j (List.mem_range.1 hj))
theorem Build.more {wi w2 w3 : World} {base k n : Nat} {v v' : Value} {h cp : Nat → Nat} {f : Nat → Nat → Int} {o : Obj} {g2 D : Nat} (hB : Build wi base v k n h cp f) (hb2 : Below wi.heap.size wi w2)
    (hc : ∀ i, i < n → w2.cell? ⟨g2, i, none⟩ = some (.int .i64 (f k i)) ∧ w2.frozen? ⟨g2, i, none⟩ = false) (hgi : wi.heap.size ≤ g2) (hg2 : g2 < w2.heap.size) (hD : n ≤ D) (hbase : base ≤ wi.heap.size)
    (ho3 : w3.ownsRow base 25 1 v' (k + 1) (((List.range k).map fun j => Value.slice (some ⟨h j, 0, none⟩) n (cp j)) ++ [.slice (some ⟨g2, 0, none⟩) n D]))
    (hg3 : (w2.alloc o).grownBy w3 v.ownBlock) (hor : v'.ownBlock = v.ownBlock ∨ v'.ownBlock = some (w2.alloc o).heap.size) :
    Build w3 base v' (k + 1) n (fun j => if j = k then g2 else h j) (fun j => if j = k then D else cp j) f := by
  have hsz : (w2.alloc o).heap.size = w2.heap.size + 1 := World.size_alloc _ _
  have hvl : ∀ b, v.ownBlock = some b → b < wi.heap.size := fun b e => (hB.spine.lt b e).2
  have old : ∀ j, j < k → w3.heap[h j]? = wi.heap[h j]? := fun j hj => by
    have l1 := hB.lt j hj
    have l2 := hb2.size
    rw [hg3.block (h j) (by omega) (hB.apart j hj), alloc_old _ _ _ (by omega), hb2.block _ l1]
  have new : w3.heap[g2]? = w2.heap[g2]? := by
    rw [hg3.block g2 (by omega) (fun e => by have := hvl g2 e.symm; omega), alloc_old _ _ _ hg2]
  have hs3 := hg3.size
  refine ⟨?_, fun j hj i hi => ?_, fun j hj => ?_, fun i hi j hj e => ?_, fun j hj => ?_, fun j hj => ?_, fun j hj => ?_⟩
  · rw [range_step k (fun j => Value.slice (some ⟨h j, 0, none⟩) n (cp j)) _ (fun j hj => by simp only [if_neg (show j ≠ k by omega)])]
    simp only [if_true]
    exact ho3
  · by_cases q : j = k
    · subst q
      simp only [if_true]
      exact ⟨(World.cell?_of_block (a := ⟨g2, i, none⟩) new).trans (hc i hi).1, (World.frozen?_of_block (a := ⟨g2, i, none⟩) new).trans (hc i hi).2⟩
    · simp only [if_neg q]
      have hj' : j < k := by omega
      exact ⟨(World.cell?_of_block (a := ⟨h j, i, none⟩) (old j hj')).trans (hB.inner j hj' i hi).1, (World.frozen?_of_block (a := ⟨h j, i, none⟩) (old j hj')).trans (hB.inner j hj' i hi).2⟩
  · by_cases q : j = k
    · simp only [if_pos q]; exact hD
    · simp only [if_neg q]; exact hB.cap j (by omega)
  · by_cases qi : i = k
    · by_cases qj : j = k
      · omega
      · simp only [if_pos qi, if_neg qj] at e
        have := hB.lt j (by omega)
        omega
    · by_cases qj : j = k
      · simp only [if_neg qi, if_pos qj] at e
        have := hB.lt i (by omega)
        omega
      · simp only [if_neg qi, if_neg qj] at e
        exact hB.inj i (by omega) j (by omega) e
  · by_cases q : j = k
    · simp only [if_pos q]
      rcases hor with e | e
      · rw [e]; intro e2; have := hvl g2 e2.symm; omega
      · rw [e]; intro e2; injection e2 with e2; omega
    · simp only [if_neg q]
      rcases hor with e | e
      · rw [e]; exact hB.apart j (by omega)
      · rw [e]; intro e2; injection e2 with e2; have := hB.lt j (by omega); have := hb2.size; omega
  · by_cases q : j = k
    · simp only [if_pos q]; omega
    · simp only [if_neg q]; exact hB.base j (by omega)
  · by_cases q : j = k
    · simp only [if_pos q]; omega
    · simp only [if_neg q]; have := hB.lt j (by omega); have := hb2.size; omega
theorem Build.tab {w : World} {base : Nat} {v : Value} {n : Nat} {h cp : Nat → Nat} {f : Nat → Nat → Int} (hB : Build w base v n n h cp f) (hn : 0 < n) : ∃ g cap, v = .slice (some ⟨g, 0, none⟩) n cap ∧ base ≤ g ∧ Tab2 w base g h cp n n f := by
  obtain ⟨g, cap, e, hg, _⟩ := hB.spine.form hn
  subst e
  refine ⟨g, cap, rfl, hg, ⟨fun j hj => ⟨?_, hB.cap j hj⟩, hB.inner, hB.inj, fun j hj e => hB.apart j hj (by rw [e]; rfl), hB.base⟩⟩
  have := hB.spine.cells (g := g) rfl j (.slice (some ⟨h j, 0, none⟩) n (cp j)) (by rw [List.getElem?_map, List.getElem?_range hj]; rfl)
  rw [addr_add, Nat.zero_add] at this
  exact this

/-- the permutations so far, how often each; all apart from the table -/
structure PSt (w : World) (base g n : Nat) (h : Nat → Nat) (pv ov : Value) (acc : List (List Int × Int)) (pb px : Nat → Nat) : Prop where
  po : w.ownsRow base 25 1 pv acc.length ((List.range acc.length).map fun j => Value.slice (some ⟨pb j, 0, none⟩) n (px j))
  oo : w.ownsRow base 3 1 ov acc.length (intCells (acc.map Prod.snd))
  rows : ∀ j, j < acc.length → Ints w (some ⟨pb j, 0, none⟩) (acc.getD j ([], 0)).1 ∧ n ≤ px j ∧ (acc.getD j ([], 0)).1.length = n ∧ pb j < w.heap.size
  pbh : ∀ j, j < acc.length → ∀ i, i < n → pb j ≠ h i
  pbv : ∀ j, j < acc.length → some (pb j) ≠ pv.ownBlock ∧ some (pb j) ≠ ov.ownBlock
  hv : ∀ i, i < n → some (h i) ≠ pv.ownBlock ∧ some (h i) ≠ ov.ownBlock
  gv : some g ≠ pv.ownBlock ∧ some g ≠ ov.ownBlock
  ne : ∀ b, pv.ownBlock = some b → ov.ownBlock ≠ some b
theorem PSt.nil (w : World) (base g n : Nat) (h : Nat → Nat) : PSt w base g n h (.slice none 0 0) (.slice none 0 0) [] (fun _ => 0) (fun _ => 0) :=
  ⟨nil_own _ _ _ _, nil_own _ _ _ _, fun j q => absurd q (Nat.not_lt_zero _), fun j q => absurd q (Nat.not_lt_zero _), fun j q => absurd q (Nat.not_lt_zero _), fun i _ => ⟨by simp [Value.ownBlock], by simp [Value.ownBlock]⟩, ⟨by simp [Value.ownBlock], by simp [Value.ownBlock]⟩, fun b e => by simp [Value.ownBlock] at e⟩
theorem PSt.same {w w' : World} {base g n : Nat} {h : Nat → Nat} {pv ov : Value} {acc : List (List Int × Int)} {pb px : Nat → Nat} (s : PSt w base g n h pv ov acc pb px) (hsz : w.heap.size ≤ w'.heap.size) (hs : ∀ b, b < w.heap.size → (∀ i, i < n → b ≠ h i) → w'.heap[b]? = w.heap[b]?) : PSt w' base g n h pv ov acc pb px :=
  ⟨own_same s.po (fun b e => hs b (s.po.lt b e).2 (fun i hi q => (s.hv i hi).1 (by rw [e, q]))), own_same s.oo (fun b e => hs b (s.oo.lt b e).2 (fun i hi q => (s.hv i hi).2 (by rw [e, q]))),
   fun j hj => by
    obtain ⟨h1, h2, h3, h4⟩ := s.rows j hj
    exact ⟨ints_same h1 (hs _ h4 (s.pbh j hj)), h2, h3, Nat.lt_of_lt_of_le h4 hsz⟩, s.pbh, s.pbv, s.hv, s.gv, s.ne⟩
theorem PSt.below {w w' : World} {base g n : Nat} {h : Nat → Nat} {pv ov : Value} {acc : List (List Int × Int)} {pb px : Nat → Nat} (s : PSt w base g n h pv ov acc pb px) (hb : Below w.heap.size w w') : PSt w' base g n h pv ov acc pb px :=
  s.same hb.size (fun b hb' _ => hb.block b hb')
theorem PSt.set {w : World} {base g n : Nat} {h : Nat → Nat} {pv ov : Value} {acc : List (List Int × Int)} {pb px : Nat → Nat} (s : PSt w base g n h pv ov acc pb px) (i o : Nat) (hi : i < n) (v : Value) : PSt (w.setCell ⟨h i, o, none⟩ v) base g n h pv ov acc pb px :=
  s.same (by simp [World.setCell]) (fun b _ hn => heap_set_other w (h i) o v b (hn i hi))
theorem PSt.more {w5 w7 w9 : World} {base g n : Nat} {h : Nat → Nat} {pv ov pv' ov' : Value} {acc : List (List Int × Int)} {pb px : Nat → Nat} (s : PSt w5 base g n h pv ov acc pb px) {o1 o2 : Obj} {gp xp : Nat} {p : List Int} {x : Int}
    (hp : Ints w5 (some ⟨gp, 0, none⟩) p) (hpl : p.length = n) (hgp : gp < w5.heap.size) (hxp : n ≤ xp) (n1 : ∀ i, i < n → gp ≠ h i) (n2 : some gp ≠ pv.ownBlock ∧ some gp ≠ ov.ownBlock)
    (h7 : w7.ownsRow base 25 1 pv' (acc.length + 1) (((List.range acc.length).map fun j => Value.slice (some ⟨pb j, 0, none⟩) n (px j)) ++ [.slice (some ⟨gp, 0, none⟩) n xp])) (g7 : (w5.alloc o1).grownBy w7 pv.ownBlock) (r7 : pv'.ownBlock = pv.ownBlock ∨ pv'.ownBlock = some (w5.alloc o1).heap.size)
    (h9 : w9.ownsRow base 3 1 ov' (acc.length + 1) (intCells (acc.map Prod.snd ++ [x]))) (g9 : (w7.alloc o2).grownBy w9 ov.ownBlock) (r9 : ov'.ownBlock = ov.ownBlock ∨ ov'.ownBlock = some (w7.alloc o2).heap.size)
    (hlt : ∀ i, i < n → h i < w5.heap.size) (hg : g < w5.heap.size) :
    PSt w9 base g n h pv' ov' (acc ++ [(p, x)]) (fun j => if j = acc.length then gp else pb j) (fun j => if j = acc.length then xp else px j) ∧
      (∀ b, b < w5.heap.size → some b ≠ pv.ownBlock → some b ≠ ov.ownBlock → w9.heap[b]? = w5.heap[b]?) ∧ w5.heap.size ≤ w9.heap.size := by
  have z5 : (w5.alloc o1).heap.size = w5.heap.size + 1 := World.size_alloc _ _
  have z7 : (w7.alloc o2).heap.size = w7.heap.size + 1 := World.size_alloc _ _
  have s7 := g7.size
  have s9 := g9.size
  have pvl : ∀ b, pv.ownBlock = some b → b < w5.heap.size := fun b e => (s.po.lt b e).2
  have ovl : ∀ b, ov.ownBlock = some b → b < w5.heap.size := fun b e => (s.oo.lt b e).2
  have keep : ∀ b, b < w5.heap.size → some b ≠ pv.ownBlock → some b ≠ ov.ownBlock → w9.heap[b]? = w5.heap[b]? := fun b hb e1 e2 => by
    rw [g9.block b (by omega) e2, alloc_old _ _ _ (by omega), g7.block b (by omega) e1, alloc_old _ _ _ hb]
  have fresh : ∀ b, b < w5.heap.size → some b ≠ pv.ownBlock → some b ≠ ov.ownBlock → some b ≠ pv'.ownBlock ∧ some b ≠ ov'.ownBlock := fun b hb e1 e2 => by
    constructor
    · rcases r7 with e | e
      · rw [e]; exact e1
      · rw [e]; intro q; injection q with q; omega
    · rcases r9 with e | e
      · rw [e]; exact e2
      · rw [e]; intro q; injection q with q; omega
  have gl : ∀ j, j < acc.length → (acc ++ [(p, x)]).getD j ([], 0) = acc.getD j ([], 0) := fun j hj => by simp [List.getD_eq_getElem?_getD, List.getElem?_append_left hj]
  have gr : (acc ++ [(p, x)]).getD acc.length ([], 0) = (p, x) := by simp [List.getD_eq_getElem?_getD]
  have hlen : (acc ++ [(p, x)]).length = acc.length + 1 := by simp
  refine ⟨⟨?_, ?_, fun j hj => ?_, fun j hj i hi => ?_, fun j hj => ?_, fun i hi => fresh _ (hlt i hi) (s.hv i hi).1 (s.hv i hi).2, fresh g hg s.gv.1 s.gv.2, fun b e => ?_⟩, keep, by omega⟩
  · rw [hlen, range_step acc.length (fun j => Value.slice (some ⟨pb j, 0, none⟩) n (px j)) _ (fun j hj => by simp only [if_neg (show j ≠ acc.length by omega)])]
    simp only [if_true]
    refine own_same h7 (fun b e => ?_)
    have hb7 := (h7.lt b e).2
    rw [g9.block b (by omega) (fun q => ?_), alloc_old _ _ _ hb7]
    rcases r7 with e2 | e2
    · rw [e2] at e; exact s.ne b e q.symm
    · rw [e2] at e; injection e with e; have := ovl b q.symm; omega
  · rw [hlen, List.map_append]
    exact h9
  · rw [hlen] at hj
    by_cases q : j = acc.length
    · subst q
      simp only [if_true]
      rw [gr]
      exact ⟨ints_same hp (keep gp hgp n2.1 n2.2), hxp, hpl, by omega⟩
    · simp only [if_neg q]
      have hj' : j < acc.length := by omega
      obtain ⟨a1, a2, a3, a4⟩ := s.rows j hj'
      rw [gl j hj']
      exact ⟨ints_same a1 (keep _ a4 (s.pbv j hj').1 (s.pbv j hj').2), a2, a3, by omega⟩
  · rw [hlen] at hj
    by_cases q : j = acc.length
    · simp only [if_pos q]; exact n1 i hi
    · simp only [if_neg q]; exact s.pbh j (by omega) i hi
  · rw [hlen] at hj
    by_cases q : j = acc.length
    · simp only [if_pos q]; exact fresh gp hgp n2.1 n2.2
    · simp only [if_neg q]
      have hj' : j < acc.length := by omega
      exact fresh _ (s.rows j hj').2.2.2 (s.pbv j hj').1 (s.pbv j hj').2
  · rcases r7 with e7 | e7
    · rw [e7] at e
      rcases r9 with e9 | e9
      · rw [e9]; exact s.ne b e
      · rw [e9]; intro q; injection q with q; have := pvl b e; omega
    · rw [e7] at e
      injection e with e
      rcases r9 with e9 | e9
      · rw [e9]; intro q; have := ovl b q; omega
      · rw [e9]; intro q; injection q with q; omega
theorem PSt.lists {w : World} {base g n : Nat} {h : Nat → Nat} {pv ov : Value} {acc : List (List Int × Int)} {pb px : Nat → Nat} (s : PSt w base g n h pv ov acc pb px) :
    ∃ A c B d, pv = .slice A acc.length c ∧ acc.length ≤ c ∧ Lists w A (acc.map Prod.fst) ∧ ov = .slice B acc.length d ∧ acc.length ≤ d ∧ Ints w B (acc.map Prod.snd) := by
  obtain ⟨A, c, rfl, hc, hm⟩ := own_shape s.po
  obtain ⟨B, d, rfl, hd, _⟩ := own_shape s.oo
  refine ⟨A, c, B, d, rfl, hc, ⟨by simpa using hm, fun j hj => ?_⟩, rfl, hd, own_ints s.oo (by simp)⟩
  have hj' : j < acc.length := by simpa using hj
  obtain ⟨a1, a2, a3, _⟩ := s.rows j hj'
  obtain ⟨b, cap, e, _, hlt⟩ := s.po.form (by omega)
  injection e with e1 _ e2
  subst e1 e2
  have hcell := s.po.cells (g := b) rfl j (.slice (some ⟨pb j, 0, none⟩) n (px j)) (by rw [List.getElem?_map, List.getElem?_range hj']; rfl)
  rw [addr_add] at hcell
  have e3 : (acc.map Prod.fst).getD j [] = (acc.getD j ([], 0)).1 := by simp [List.getD_eq_getElem?_getD, List.getElem?_map, List.getElem?_eq_getElem hj']
  rw [e3]
  exact ⟨b, 0, some ⟨pb j, 0, none⟩, px j, rfl, hlt, by rw [hcell, a3], by rw [a3]; exact a2, a1⟩
end Go.Proofs.YtcnecmcbjpehcaaDoor

/- The walk of order.Parts. Condition: the variables read as laid. -/
namespace Go.Proofs.YtcnecmcbjpehcaaDoor
open Go.RowKit Go.Deep Go.Proofs.YtcnecmcbjpehcaaDoorW.PrintWords Go.Proofs.YtcnecmcbjpehcaaDoorW.PrintMore
attribute [local go_sem] max2_int min2_int max_two min_two

def fnOf (m : List (List Int)) : Nat → Nat → Int := fun j i => (m.getD j []).getD i 0
theorem tgood_of {m : List (List Int)} (h : sqErr m = 0) : TGood m.length (m.getD 0 []).sum (fnOf m) := by
  obtain ⟨_, _, hall, hg⟩ := sqErr_zero h
  have row : ∀ i, i < m.length → (m.getD i []).sum = (m.getD 0 []).sum ∧ colSum m i = (m.getD 0 []).sum := fun i hi => by
    have := List.all_eq_true.1 hg i (List.mem_range.2 hi)
    simpa [goodAt] using this
  refine ⟨fun i j hi hj => ?_, fun i hi => ?_, fun k hk => ?_⟩
  · obtain ⟨g1, g2⟩ := goodRow_get hall i hi
    exact numb_get g1 j (by omega)
  · have e := map_sumN (m.getD i []) 0 id
    rw [List.map_id, (row i hi).1, (goodRow_get hall i hi).2] at e
    exact e.symm
  · have e := map_sumN m [] (fun r => r.getD k 0)
    have r := (row k hk).2
    unfold colSum colTo at r
    rw [List.take_length] at r
    rw [r] at e
    exact e.symm
/-- what Parts hands back at a right table -/
def RetParts (m : List (List Int)) (w : World) (e : Ending) (w' : World) : Prop :=
  ∃ A c B d acc f, e = .returned (.tuple #[.slice A acc.length c, .slice B acc.length d, .nilIface]) ∧ Steps m.length (fnOf m) acc f ∧ TGood m.length 0 f ∧ acc.length + nzc m.length f ≤ m.length * m.length ∧
    Lists w' A (acc.map Prod.fst) ∧ Ints w' B (acc.map Prod.snd) ∧ acc.length ≤ c ∧ acc.length ≤ d ∧ Below w.heap.size w w'
def PLoop (w1 : World) (g n : Nat) (h cp : Nat → Nat) (f0 : Nat → Nat → Int) (pv ov : Value) (wr : World) (acc : List (List Int × Int)) (f : Nat → Nat → Int) (S : Int) : Prop :=
  ∃ pb px, Steps n f0 acc f ∧ TGood n S f ∧ Tab2 wr w1.heap.size g h cp n n f ∧ PSt wr w1.heap.size g n h pv ov acc pb px ∧ acc.length + nzc n f ≤ n * n ∧ Below w1.heap.size w1 wr
def vlen (v : Value) : Nat := match v with
  | .slice _ n _ => n
  | _ => 0
theorem ints_cell {w : World} {b : Nat} {l : List Int} (h : Ints w (some ⟨b, 0, none⟩) l) (i : Nat) (hi : i < l.length) : w.cell? ⟨b, i, none⟩ = some (.int .i64 (l.getD i 0)) := by
  obtain ⟨b', off, e, _, hc⟩ := h.at_ i hi
  injection e with e
  injection e with e1 e2 _
  subst e1 e2
  rw [Nat.zero_add] at hc
  exact hc
theorem parts_err (A : Option Addr) (m : List (List Int)) (c : Nat) (w : World) (a : Nat → Addr) (hE : Env [2, 3] w a) (hA : Lists w A m) (h : sqErr m ≠ 0) :
    Calls Tryd.prog 12 #[.slice A m.length c] w fun e w' => e = .returned (.tuple #[.slice none 0 0, .slice none 0 0, errC a (sqErr m)]) ∧ Below w.heap.size w w' := by
  have hs := square_any A m c w a hE hA
  have he := errC_pos' a h
  rw [he] at hs ⊢
  generalize a (sqErr m).toNat = x at hs
  have HS := hide hs
  clear hs he h
  go_enter Tryd.func12, Tryd.ntmps12
  go_wp2_with (go_at_call 39; refine Calls.mono HS.out ?_; rintro e w1 ⟨rfl, hb1⟩)
  go_ret3
  exact ⟨rfl, hb1⟩

set_option maxRecDepth 100000 in
set_option maxHeartbeats 8000000 in
theorem parts_ok (A : Option Addr) (m : List (List Int)) (c : Nat) (w : World) (a : Nat → Addr) (hE : Env [2, 3] w a) (hA : Lists w A m) (h : sqErr m = 0) :
    Calls Tryd.prog 12 #[.slice A m.length c] w fun e w' => RetParts m w e w' := by
  have hs := square_any A m c w a hE hA
  rw [h, errC_zero] at hs
  have HS := hide hs
  obtain ⟨h8, hn, hall, _⟩ := sqErr_zero h
  have htg := tgood_of h
  have hrow : ∀ i, i < m.length → (m.getD i []).length = m.length := fun i hi => (goodRow_get hall i hi).2
  have HROW := hide hrow
  have HTG := hide htg
  have hlen := hA.len
  clear hs hall htg hrow h
  go_enter Tryd.func12, Tryd.ntmps12
  go_wp2_with (go_at_call 39; refine Calls.mono HS.out ?_; rintro e w1 ⟨rfl, hB1⟩)
  go_loopw [6, 24] (fun rv iv wr => ∃ i : Nat, i ≤ m.length ∧ iv = .int .i64 i ∧ Hid (∃ hh cp, Build wr w1.heap.size rv i m.length hh cp (fnOf m)) ∧ Below w1.heap.size w1 wr) (fun _ iv _ => m.length - (intOf iv).toNat)
  case atStart => exact ⟨0, Nat.zero_le _, rfl, hide ⟨_, _, Build.nil _ _ _ _⟩, Below.refl _ _⟩
  case round =>
    obtain ⟨i, hi, rfl, HBU, hBk⟩ := hrel
    obtain ⟨wi, rfl⟩ : ∃ wi : World, wi = wr := ⟨_, rfl⟩
    have hBi := below_trans hB1 hBk
    obtain ⟨hh, cp, hbu⟩ := HBU.out
    have i0 : (0 : Int) ≤ (i : Int) := Int.natCast_nonneg _
    by_cases hil : i < m.length
    · have i1 : (i : Int) < (m.length : Int) := by omega
      obtain ⟨A6, c6, rfl, hc6, _⟩ := own_shape hbu.spine
      obtain ⟨b, off, A', c', rfl, hb, d1, hle, hI⟩ := (hA.below hBi).at_ i hil
      have hcl := clone_ok A' (m.getD i []) c' wi hI (by rw [HROW.out i hil]; exact hn) (by rw [HROW.out i hil]; omega)
      rw [HROW.out i hil] at hcl d1
      have HCL := hide hcl
      have HB := hide hbu
      have HSP := hide (fun w2 (hb : Below wi.heap.size wi w2) => own_below hbu.spine hb)
      have HC3 := hide (show (i + 1) * 24 ≤ 140737488355328 by omega)
      have HSZ := hide hBk.size
      clear hcl hbu hle hI HBU
      go_wp2_with (first
        | (go_at_call 40; refine Calls.mono HCL.out ?_; rintro e w2 ⟨g2, D2, rfl, hg2, hD2, ho2, b2⟩; have HS2 := hide (Nat.le_trans HSZ.out b2.size))
        | (at_builtin; refine wp_app_row _ rfl _ _ rfl w1.heap.size (.slice A6 i c6) i _ rfl ((HSP.out w2 b2).alloc _) w2.heap.size 1 (.slice (some ⟨g2, 0, none⟩) m.length D2) rfl rfl (by simp) (by simp) HC3.out (by rw [World.size_alloc]; exact Nat.le_succ_of_le HS2.out) ?_; intro A7 c7 w3 hc7 ho7 hg7 hor7))
      have hb3 : Below w1.heap.size w1 w3 := ((hBk.trans (b2.mono hBk.size)).alloc HS2.out _).grown hg7 (by rw [World.size_alloc]; exact Nat.le_succ_of_le HS2.out) (fun j hj => (HB.out.spine.lt j hj).1)
      have hcc : ∀ j, j < m.length → w2.cell? ⟨g2, j, none⟩ = some (.int .i64 (fnOf m i j)) ∧ w2.frozen? ⟨g2, j, none⟩ = false := fun j hj => by
        have := own_at (k := .i64) ho2 (j : Int) (by omega) (by omega)
        rw [Int.toNat_natCast] at this
        exact this
      have hbu3 := HB.out.more b2 hcc hg2 (ho2.lt g2 rfl).2 hD2 HSZ.out ho7 hg7 hor7
      have HB3 := hide hbu3
      clear hbu3 hcc
      go_roundw
      case rel => exact ⟨i + 1, by omega, by go_num, hide ⟨_, _, HB3.out⟩, hb3⟩
      case measure => simp [intOf]; omega
    · obtain rfl : i = m.length := by omega
      obtain ⟨g, cg, rfl, hg, htab⟩ := hbu.tab hn
      have HTAB := hide htab
      have HGB := hide hg
      clear hbu htab HBU hg
      go_wp2_with (fail)
      go_loopw [9, 10] (fun pv ov wr => ∃ acc f S, Hid (PLoop w1 g m.length hh cp (fnOf m) pv ov wr acc f S)) (fun _ ov _ => m.length * m.length + 1 - vlen ov)
      case atStart => exact ⟨[], fnOf m, (m.getD 0 []).sum, hide ⟨_, _, .nil, HTG.out, HTAB.out, PSt.nil _ _ _ _ _, by have := nzc_le m.length (fnOf m); simpa using this, hBk⟩⟩
      case round =>
        obtain ⟨acc, f, S, HP⟩ := hrel
        obtain ⟨wj, rfl⟩ : ∃ wj : World, wj = wr := ⟨_, rfl⟩
        obtain ⟨pb, px, hst, hgood, htab, hps, hcnt, hBj⟩ := HP.out
        obtain ⟨A9, c9, B9, d9, rfl, hc9, hLs, rfl, hd9, hIs⟩ := hps.lists
        have hBJ := below_trans hB1 hBj
        have m0 : (0 : Int) < (m.length : Int) := by omega
        obtain ⟨q0, k0⟩ := htab.outer 0 hn
        have hI0 := htab.row hlen 0 hn
        have hto := total_ok (some ⟨hh 0, 0, none⟩) ((List.range m.length).map fun i => f 0 i) (cp 0) wj hI0 (by simpa using k0) ⟨by simp; omega, fun x hx => by
          obtain ⟨i, hi, rfl⟩ := List.mem_map.1 hx
          have := hgood.cell 0 i hn (List.mem_range.1 hi)
          omega⟩
        rw [show ((List.range m.length).map fun i => f 0 i).length = m.length by simp, show ((List.range m.length).map fun i => f 0 i).sum = S from hgood.row 0 hn] at hto
        have HTO := hide hto
        by_cases hS : 0 < S
        · obtain ⟨p, hp, hpg, hpos⟩ := hgood.first hS
          obtain ⟨_, hx0, hxS, hgood', hnz⟩ := hgood.step hn hS hp
          have hst' := Steps.snoc hst (by rw [hgood.row 0 hn]; exact hS) hp
          have hfi := fun w' (hb : Below wj.heap.size wj w') o => first_ok (tabOf m.length f) (by rw [tabOf_len]; omega) (fun i hi => by rw [tabOf_len] at hi; rw [tabOf_rowlen _ _ _ hi, tabOf_len]) m.length [] w'.heap.size 0 cg (some ⟨g, 0, none⟩) (w'.alloc o) w'.heap.size (by rw [tabOf_len]; simp) (((htab.below hn hn hb).lists hlen hlen).below (below_alloc' (Below.refl _ _) o)) (Ints.nil _ _) (by simp) (Nat.le_refl _) (by rw [World.size_alloc]; omega) (Nat.le_refl _)
          rw [tabOf_len, hp] at hfi
          have HFI := hide hfi
          have HQ0 := hide (fun w' (hb : Below wj.heap.size wj w') => ((htab.below hn hn hb).outer 0 hn).1)
          have hpl := hpg.len
          have HW := hide (show True from trivial)
          clear hto hI0 hLs hIs hfi
          go_wp2_with (first
            | (go_at_call 41; refine Calls.mono HTO.out ?_; rintro e w2 ⟨rfl, b2⟩)
            | (go_at_call 42; refine Calls.mono (HFI.out w2 b2 _) ?_; rintro e w4 ⟨⟨gp, xp, rfl, hgp, hgl, hIp, hxp⟩, b4⟩))
          have hb4 : Below wj.heap.size wj w4 := below_trans b2 (below_trans (below_alloc' (Below.refl _ _) _) b4)
          have hz2 := b2.size
          have htab4 := htab.below hn hn hb4
          have hps4 := hps.below hb4
          have hgh : ∀ i, i < m.length → gp ≠ hh i := fun i hi e => by have := htab.hlt hn i hi; omega
          have hgb : some gp ≠ (Value.slice A9 acc.length c9).ownBlock ∧ some gp ≠ (Value.slice B9 acc.length d9).ownBlock := ⟨fun e => by have := (hps.po.lt gp e.symm).2; omega, fun e => by have := (hps.oo.lt gp e.symm).2; omega⟩
          obtain ⟨xa, xb⟩ := hpg.at_ 0 hn
          have pc0 := ints_cell hIp 0 (by omega)
          have fc0 := (htab4.inner 0 hn (p.getD 0 0).toNat (by omega)).1
          have q4 := (htab4.outer 0 hn).1
          generalize hxe : p.getD 0 0 = x0 at xa xb pc0 fc0
          go_quiet (fail)
          generalize hw5 : World.drewN w4 nq = w5
          have hb45 : Below w4.heap.size w4 w5 := by rw [← hw5]; exact below_drewN' (Below.refl _ _) nq
          have hb5 := below_trans hb4 hb45
          have htab5 := htab4.below hn hn hb45
          have hps5 := hps4.below hb45
          have hIp5 := hIp.below hb45
          have hgl5 : gp < w5.heap.size := Nat.lt_of_lt_of_le hgl hb45.size
          have hl0 : f 0 x0.toNat = leastTo f p 0 := by rw [leastTo, hxe]
          have HP5 := hide hps5
          have HTB := hide htab5
          have HBJ5 := hide (hBj.trans (hb5.mono hBj.size))
          clear hw5 hb45 hb4 htab4 hps4 hIp hgl q4 pc0 fc0 hps htab HP HFI HTO
          go_wp2_with (fail)
          go_loop [12, 52] (fun lv iv => ∃ i : Nat, i ≤ m.length ∧ iv = .int .i64 i ∧ lv = .int .i64 (leastTo f p i)) (fun _ iv => m.length - (intOf iv).toNat)
          case atStart => exact ⟨0, Nat.zero_le _, rfl, by rw [hl0]⟩
          case round =>
            obtain ⟨i, hi, rfl, rfl⟩ := hrel
            have i0 : (0 : Int) ≤ (i : Int) := Int.natCast_nonneg _
            by_cases hil : i < m.length
            · have i1 : (i : Int) < (m.length : Int) := by omega
              obtain ⟨za, zb⟩ := hpg.at_ i hil
              have pci := ints_cell hIp5 i (by omega)
              have fci := (HTB.out.inner i hil (p.getD i 0).toNat (by omega)).1
              have qi := (HTB.out.outer i hil).1
              have hls : leastTo f p (i + 1) = if f i (p.getD i 0).toNat < leastTo f p i then f i (p.getD i 0).toNat else leastTo f p i := by
                rw [leastTo]
                split <;> omega
              generalize p.getD i 0 = xi at za zb pci fci hls
              generalize f i xi.toNat = y at fci hls
              generalize leastTo f p i = l1 at hls
              by_cases hc : y < l1
              · rw [if_pos hc] at hls
                have HLS := hide hls
                clear hls
                go_wp2_with (fail)
                go_round
                case rel => exact ⟨i + 1, by omega, by go_num, by rw [HLS.out]⟩
                case measure => simp [intOf]; omega
              · rw [if_neg hc] at hls
                have HLS := hide hls
                clear hls
                go_wp2_with (fail)
                go_round
                case rel => exact ⟨i + 1, by omega, by go_num, by rw [HLS.out]⟩
                case measure => simp [intOf]; omega
            · obtain rfl : i = m.length := by omega
              have HGD := hide hgood'
              have hxle := fun i (hi : i < m.length) => leastTo_le f p m.length i hi
              generalize hxx : leastTo f p m.length = x at hx0 hxS hgood' hnz hst' hxle HGD
              have HXLE := hide hxle
              clear hxle
              go_wp2_with (fail)
              go_loopw [69] (fun v wr => ∃ i : Nat, i ≤ m.length ∧ v = .int .i64 i ∧ Hid (Tab2 wr w1.heap.size g hh cp m.length m.length (fun r c => if r < i then decT f p x r c else f r c) ∧ PSt wr w1.heap.size g m.length hh (.slice A9 acc.length c9) (.slice B9 acc.length d9) acc pb px ∧ Ints wr (some ⟨gp, 0, none⟩) p ∧ gp < wr.heap.size) ∧ Below w1.heap.size w1 wr) (fun v _ => m.length - (intOf v).toNat)
              case atStart => exact ⟨0, Nat.zero_le _, rfl, hide ⟨HTB.out.congr (fun r _ c _ => by simp), HP5.out, hIp5, hgl5⟩, HBJ5.out⟩
              case round =>
                obtain ⟨i, hi, rfl, HR, hBr⟩ := hrel
                obtain ⟨wk, rfl⟩ : ∃ wk : World, wk = wr := ⟨_, rfl⟩
                have i0 : (0 : Int) ≤ (i : Int) := Int.natCast_nonneg _
                by_cases hil : i < m.length
                · have i1 : (i : Int) < (m.length : Int) := by omega
                  obtain ⟨ht, hpst, hip, hgpl⟩ := HR.out
                  obtain ⟨za, zb⟩ := hpg.at_ i hil
                  have pci := ints_cell hip i (by omega)
                  obtain ⟨fci, ffi⟩ := ht.inner i hil (p.getD i 0).toNat (by omega)
                  have qi := (ht.outer i hil).1
                  simp only [Nat.lt_irrefl, if_false] at fci
                  have hcell := hgood.cell i (p.getD i 0).toNat hil (by omega)
                  have hle := HXLE.out i hil
                  have HSET := hide (fun v => And.intro (ht.set i (p.getD i 0).toNat hil v) (hpst.set i (p.getD i 0).toNat hil (.int .i64 v)))
                  have HIP := hide (fun v => ints_same (w' := wk.setCell ⟨hh i, (p.getD i 0).toNat, none⟩ (.int .i64 v)) hip (heap_set_other wk (hh i) (p.getD i 0).toNat (.int .i64 v) gp (hgh i hil)))
                  have hdec : ∀ v, f i (p.getD i 0).toNat - x = v → ∀ r, r < m.length → ∀ c, c < m.length → (if r = i ∧ c = (p.getD i 0).toNat then v else if r < i then decT f p x r c else f r c) = if r < i + 1 then decT f p x r c else f r c := fun v hv r hr c hc => by
                    by_cases e : r = i
                    · subst e
                      by_cases e2 : c = (p.getD r 0).toNat
                      · rw [if_pos ⟨rfl, e2⟩, if_pos (by omega), ← hv, e2]
                        unfold decT
                        rw [if_pos (by omega)]
                      · rw [if_neg (fun q => e2 q.2), if_neg (by omega), if_pos (by omega)]
                        unfold decT
                        rw [if_neg (by omega)]
                    · rw [if_neg (fun q => e q.1)]
                      by_cases e3 : r < i
                      · rw [if_pos e3, if_pos (by omega)]
                      · rw [if_neg e3, if_neg (by omega)]
                  have HDEC := hide hdec
                  clear ht hpst hip hdec HR
                  generalize p.getD i 0 = xi at za zb pci fci ffi HSET HIP HDEC hcell hle
                  generalize f i xi.toNat = y at fci HDEC hcell hle
                  have hw : IntKind.i64.wrap (y - x) = y - x := IntWalk.i64_in _ (by omega)
                  go_wp2_with (fail)
                  go_roundw
                  case rel => exact ⟨i + 1, by omega, by go_num, hide ⟨(HSET.out _).1.congr (HDEC.out _ rfl), (HSET.out _).2, HIP.out _, by simpa [World.setCell] using hgpl⟩, hBr.setCell (p := ⟨hh i, xi.toNat, none⟩) (HTB.out.base i hil) _⟩
                  case measure => simp [intOf]; omega
                · obtain rfl : i = m.length := by omega
                  obtain ⟨ht, hpst, hip, hgpl⟩ := HR.out
                  have hth := fun i hi => ht.hlt hn i hi
                  have htg := ht.glt hn
                  have ht2 : Tab2 wk w1.heap.size g hh cp m.length m.length (decT f p x) := ht.congr (fun r hr c _ => by rw [if_pos hr])
                  have hacc : acc.length + 1 + nzc m.length (decT f p x) ≤ m.length * m.length := by omega
                  have hsq : m.length * m.length ≤ 64 := Nat.mul_le_mul h8 h8
                  have HC3 := hide (show (acc.length + 1) * 24 ≤ 140737488355328 by omega)
                  have HC4 := hide (show ((acc.map Prod.snd).length + 1) * 8 ≤ 140737488355328 by rw [List.length_map]; omega)
                  have HPO := hide hpst.po
                  have HSZ := hide hBr.size
                  have hoo := fun (w7 : World) (o : Obj) (hg7 : (wk.alloc o).grownBy w7 (Value.slice A9 acc.length c9).ownBlock) => (own_list (own_same hpst.oo (fun b e => by
                    have hb := (hpst.oo.lt b e).2
                    rw [hg7.block b (by rw [World.size_alloc]; omega) (fun q => hpst.ne b q.symm e), alloc_old _ _ _ hb])) : w7.ownsRow w1.heap.size 3 1 (.slice B9 acc.length d9) (acc.map Prod.snd).length (intCells (acc.map Prod.snd)))
                  have hbe := fun (w7 w8 : World) (o o2 : Obj) (hg7 : (wk.alloc o).grownBy w7 (Value.slice A9 acc.length c9).ownBlock) (hg8 : (w7.alloc o2).grownBy w8 (Value.slice B9 acc.length d9).ownBlock) => (by
                    have e1 : Below w1.heap.size w1 w7 := (hBr.alloc hBr.size o).grown hg7 (by rw [World.size_alloc]; exact Nat.le_succ_of_le hBr.size) (fun j hj => (hpst.po.lt j hj).1)
                    exact (e1.alloc e1.size o2).grown hg8 (by rw [World.size_alloc]; exact Nat.le_succ_of_le e1.size) (fun j hj => (hpst.oo.lt j hj).1) : Below w1.heap.size w1 w8)
                  have hs7 := fun (w7 : World) (o : Obj) (hg7 : (wk.alloc o).grownBy w7 (Value.slice A9 acc.length c9).ownBlock) => (by
                    have e1 := hg7.size
                    rw [World.size_alloc] at e1
                    have := hBr.size
                    omega : w1.heap.size ≤ w7.heap.size)
                  have HOO := hide hoo
                  have HBE := hide hbe
                  have HS7 := hide hs7
                  clear hoo hbe hs7 HR
                  go_wp2_with (first
                    | (at_builtin; refine wp_app_row _ rfl _ _ rfl w1.heap.size (.slice A9 acc.length c9) acc.length _ rfl (HPO.out.alloc _) wk.heap.size 1 (.slice (some ⟨gp, 0, none⟩) m.length xp) rfl rfl (by simp) (by simp) HC3.out (by rw [World.size_alloc]; exact Nat.le_succ_of_le HSZ.out) ?_; intro A7 c7 w7 hc7 ho7 hg7 hor7)
                    | (at_builtin; refine wp_app_ints _ rfl _ _ rfl w1.heap.size (.slice B9 acc.length d9) (acc.map Prod.snd) rfl ((HOO.out w7 _ hg7).alloc _) _ 1 1 [x] rfl rfl (ints_one (b := w7.heap.size) (by simp) (by simp)) HC4.out (by rw [World.size_alloc]; exact Nat.le_succ_of_le (HS7.out w7 _ hg7)) ?_; intro A8 c8 w8 hc8 ho8 hg8 hor8))
                  simp only [List.length_append, List.length_map, List.length_cons, List.length_nil, Nat.zero_add] at ho8 hor8 hc8
                  obtain ⟨hps8, hkeep, hsz8⟩ := hpst.more hip hpl hgpl (by rw [← hpl]; exact hxp) hgh hgb ho7 hg7 hor7 ho8 hg8 hor8 hth htg
                  have ht8 := ht2.same (hkeep g htg hpst.gv.1 hpst.gv.2) (fun j hj => hkeep _ (hth j hj) (hpst.hv j hj).1 (hpst.hv j hj).2)
                  have hb8 := HBE.out w7 w8 _ _ hg7 hg8
                  have HFIN := hide (show PLoop w1 g m.length hh cp (fnOf m) (.slice A7 (acc.length + 1) c7) (.slice A8 (acc.length + 1) c8) w8 (acc ++ [(p, x)]) (decT f p x) (S - x) from ⟨_, _, hst', HGD.out, ht8, hps8, by rw [List.length_append]; exact hacc, hb8⟩)
                  clear hps8 ht8 hkeep hpst ht ht2 hip
                  go_roundw
                  case rel => exact ⟨acc ++ [(p, x)], decT f p x, S - x, by simpa using HFIN⟩
                  case measure => simp [vlen]; omega
        · have hS0 : S = 0 := by
            have h1 := sumN_le (n := m.length) (f := fun _ => 0) (g := f 0) (fun j hj => (hgood.cell 0 j hn hj).1)
            rw [sumN_zero, hgood.row 0 hn] at h1
            omega
          subst hS0
          have HFIN := hide (And.intro hst (And.intro hgood (And.intro hcnt (And.intro hLs hIs))))
          clear hto hI0 hst hgood hcnt hLs hIs htab hps HP
          go_wp2_with (go_at_call 41; refine Calls.mono HTO.out ?_; rintro e w2 ⟨rfl, b2⟩)
          go_ret3
          obtain ⟨a1, a2, a3, a4, a5⟩ := HFIN.out
          exact ⟨A9, c9, B9, d9, acc, f, rfl, a1, a2, a3, a4.below b2, a5.below b2, hc9, hd9, below_trans hBJ b2⟩
end Go.Proofs.YtcnecmcbjpehcaaDoor

/- The walk of the law OrderSpread, and what few and lists answer. Condition: the variables read as laid; the arguments are of modest bulk. -/
namespace Go.Proofs.YtcnecmcbjpehcaaDoor
open Go.RowKit Go.Deep Go.Proofs.YtcnecmcbjpehcaaDoorW.PrintWords

theorem row_le (l : List (List Int)) (i : Nat) : (l.getD i []).length ≤ l.flatten.length := by
  rcases Nat.lt_or_ge i l.length with h | h
  · rw [getDL_eq l i h]
    have : l[i] ∈ l := List.getElem_mem h
    exact List.Sublist.length_le (List.sublist_flatten_of_mem this)
  · rw [List.getD_eq_getElem?_getD, List.getElem?_eq_none h]
    simp
theorem flat_take (l : List (List Int)) (i : Nat) (h : i < l.length) : (l.take (i + 1)).flatten = (l.take i).flatten ++ l.getD i [] := by
  rw [takeL_at l i h, List.flatten_append]
  simp
theorem flat_take_le (l : List (List Int)) (i : Nat) : (l.take i).flatten.length ≤ l.flatten.length := by
  have : l.flatten = (l.take i).flatten ++ (l.drop i).flatten := by rw [← List.flatten_append, List.take_append_drop]
  rw [this, List.length_append]
  omega
theorem flat_l0 (l : List (List Int)) (hl : l.length ≤ 2000000) (hf : l.flatten.length ≤ 2000000) : ∀ (d i k : Nat), i + d = l.length → d < k → POrderSpread.demonref1_Flat.l0 k l (l.take i).flatten (i : Int) = some l.flatten := by
  intro d
  induction d with
  | zero =>
    intro i k hi hk
    obtain ⟨k, rfl⟩ : ∃ m, k = m + 1 := ⟨k - 1, by omega⟩
    obtain rfl : i = l.length := by omega
    simp only [POrderSpread.demonref1_Flat.l0]
    rw [if_neg (by omega), List.take_length]
  | succ d ih =>
    intro i k hi hk
    obtain ⟨k, rfl⟩ : ∃ m, k = m + 1 := ⟨k - 1, by omega⟩
    have hil : i < l.length := by omega
    have h1 := flat_take_le l i
    have h2 := row_le l i
    simp only [POrderSpread.demonref1_Flat.l0]
    rw [if_pos (by omega), if_pos (by omega), rdL_nat, if_pos (by omega), wrap_up i (by omega), ← flat_take l i hil]
    exact ih (i + 1) k (by omega) (by omega)
theorem flat_f (l : List (List Int)) (hl : l.length ≤ 2000000) (hf : l.flatten.length ≤ 2000000) (k : Nat) (hk : l.length < k) : POrderSpread.demonref1_Flat.f k l = some l.flatten :=
  flat_l0 l hl hf l.length 0 k (by omega) hk
/-- is a table of few rows and few numbers? -/
def fewS (l : List (List Int)) : Bool := decide (l.length ≤ 70) && decide (l.flatten.length ≤ 600)
theorem few_f (l : List (List Int)) (hl : l.length ≤ 2000000) (hf : l.flatten.length ≤ 2000000) (k : Nat) (hk : l.length < k) : POrderSpread.demonlaw4_few.f k l = some (fewS l) := by
  unfold POrderSpread.demonlaw4_few.f fewS
  by_cases h : l.length ≤ 70
  · rw [if_pos (by omega), flat_f l hl hf k hk]
    have e : decide ((l.flatten.length : Int) ≤ 600) = decide (l.flatten.length ≤ 600) := by
      by_cases h2 : l.flatten.length ≤ 600
      · rw [decide_eq_true h2, decide_eq_true (by omega)]
      · rw [decide_eq_false h2, decide_eq_false (by omega)]
    show some (decide ((l.flatten.length : Int) ≤ 600)) = _
    rw [e, decide_eq_true h, Bool.true_and]
  · rw [if_neg (by omega), decide_eq_false h, Bool.false_and]
theorem intsS_f (l : List Int) (hl : l.length ≤ 2000000) : POrderSpread.demonlaw4_ints.f l = some l := by
  unfold POrderSpread.demonlaw4_ints.f
  rw [if_pos (by simp; omega)]
  rfl
theorem lists_l0 (l : List (List Int)) (hl : l.length ≤ 2000000) (hf : l.flatten.length ≤ 2000000) : ∀ (d i k : Nat), i + d = l.length → d < k → POrderSpread.demonlaw4_lists.l0 k l (l.take i) (i : Int) = some l := by
  intro d
  induction d with
  | zero =>
    intro i k hi hk
    obtain ⟨k, rfl⟩ : ∃ m, k = m + 1 := ⟨k - 1, by omega⟩
    obtain rfl : i = l.length := by omega
    simp only [POrderSpread.demonlaw4_lists.l0]
    rw [if_neg (by omega), List.take_length]
  | succ d ih =>
    intro i k hi hk
    obtain ⟨k, rfl⟩ : ∃ m, k = m + 1 := ⟨k - 1, by omega⟩
    have hil : i < l.length := by omega
    have h2 := row_le l i
    have h3 : (l.take i).length ≤ i := by simp; omega
    simp only [POrderSpread.demonlaw4_lists.l0]
    rw [if_pos (by omega), if_pos (by omega), rdL_nat, intsS_f _ (by omega), Option.bind_some, if_pos (by omega), wrap_up i (by omega), ← takeL_at l i hil]
    exact ih (i + 1) k (by omega) (by omega)
theorem lists_f (l : List (List Int)) (hl : l.length ≤ 2000000) (hf : l.flatten.length ≤ 2000000) (k : Nat) (hk : l.length < k) : POrderSpread.demonlaw4_lists.f k l = some l :=
  lists_l0 l hl hf l.length 0 k (by omega) hk
theorem fewS_ok (A : Option Addr) (m : List (List Int)) (c : Nat) (w : World) (hA : Lists w A m) (hc : m.length ≤ c) (hl : m.length ≤ 2000000) (hf : m.flatten.length ≤ 2000000) :
    Calls Tryd.prog 11 #[.slice A m.length c] w fun e w' => e = .returned (.bool (fewS m)) ∧ Below w.heap.size w w' :=
  POrderSpread.demonlaw4_few.calls (m.length + 1) A c m (fewS m) w hA.toC hc (few_f m hl hf _ (by omega))
theorem listsS_ok (A : Option Addr) (m : List (List Int)) (c : Nat) (w : World) (hA : Lists w A m) (hc : m.length ≤ c) (hl : m.length ≤ 2000000) (hf : m.flatten.length ≤ 2000000) :
    Calls Tryd.prog 13 #[.slice A m.length c] w fun e w' => ∃ B d, e = .returned (.slice B m.length d) ∧ Lists w' B m ∧ m.length ≤ d ∧ Below w.heap.size w w' := by
  refine (POrderSpread.demonlaw4_lists.calls (m.length + 1) A c m m w hA.toC hc (lists_f m hl hf _ (by omega))).mono ?_
  rintro e w' ⟨v, rfl, hS, hb⟩
  obtain ⟨B, d, rfl, hI, hd⟩ := Lists.ofR (Kd.S_R hS)
  exact ⟨B, d, rfl, hI, hd, hb⟩
theorem spreadOf_ok (A B : Option Addr) (m : List (List Int)) (W : List Int) (c d : Nat) (w : World) (hA : Lists w A m) (hB : Ints w B W) (hc : m.length ≤ c) (hd : W.length ≤ d) (h : sqErr m = 0) (hl : W.length = m.length) (hn : numb W = true) :
    Calls Tryd.prog 28 #[.slice A m.length c, .slice B W.length d] w fun e w' => RetInts (spreadOf m W) w e w' := by
  obtain ⟨h8, _, hall, _⟩ := sqErr_zero h
  obtain ⟨k, hk⟩ := (spreadOf_f hall h8 hn hl).rounds
  refine (POrderSpread.demonref4_SpreadOf.calls k A c m B d W (spreadOf m W) w hA.toC hc hB.toC hd hk).mono ?_
  rintro e w' ⟨v, rfl, hR, hb⟩
  obtain ⟨B, d, rfl, hI, hd⟩ := Ints.ofR hR
  exact ⟨B, d, rfl, hI, hd, hb⟩
theorem same_nil (w : World) : Calls Tryd.prog 25 #[.slice none 0 0, .slice none 0 0] w fun e w' => e = .returned (.bool true) ∧ Below w.heap.size w w' := by
  have h := same_any none none [] [] 0 0 w (Ints.nil w _) (Ints.nil w _)
  rw [decide_eq_true rfl] at h
  exact h
theorem step_app_ints (w : World) {ops : Array Oper} {o : Oper} {a : Act} {K : Act → World → Prop} {Q : Exit → Act → World → Prop} {E : Prop} (hgd : o.guard = none) (s x : Operand)
    (ho : o.op = .call { callee := .builtin .append, args := #[s, x], argTypes := #[25, 25] })
    (base : Nat) (v : Value) (l0 : List Int) (hs : a.eval s = v) (hown : w.ownsRow base 3 1 v l0.length (intCells l0))
    (A : Option Addr) (m c : Nat) (l : List Int) (hx : a.eval x = .slice A m c) (hm : m = l.length) (hr : Ints w A l)
    (hbytes : (l0.length + m) * 8 ≤ 140737488355328) (hbase : base ≤ w.heap.size)
    (h : ∀ A' c' w', (l0 ++ l).length ≤ c' → w'.ownsRow base 3 1 (.slice A' (l0 ++ l).length c') (l0 ++ l).length (intCells (l0 ++ l)) → w.grownBy w' v.ownBlock → ((Value.slice A' (l0 ++ l).length c').ownBlock = v.ownBlock ∨ (Value.slice A' (l0 ++ l).length c').ownBlock = some w.heap.size) →
      K (a.put o.dst (.slice A' (l0 ++ l).length c')) w') :
    if Region.wanted o (yielded ops a.tmps) = true then Oper.wp Tryd.prog o a w K Q else E := by
  obtain ⟨i0, hi0, hz0, hz1, hz2⟩ := info_parts int_info
  subst hm
  refine step_append_any w hgd s x _ ho base 3 i0 _ 1 8 Tryd.underlying25 hi0 hz0 hz1 hz2 rfl (by omega) v l0.length (intCells l0) hs hown w.heap.size A l.length c (intCells l) hx hr.reads (intCells_one l) (by simp only [maxLen]; omega) hbytes hbase ?_
  intro v' w' h1 h2 h3
  rw [← intCells_append, ← List.length_append] at h1
  obtain ⟨A', c', rfl, hc, _⟩ := own_shape h1
  exact h A' c' w' hc h1 h2 h3

set_option maxRecDepth 100000 in
set_option maxHeartbeats 4000000 in
theorem law_spread_many (A B : Option Addr) (m : List (List Int)) (W : List Int) (c d : Nat) (w : World) (a : Nat → Addr) (hS : Sent codes w a) (hA : Lists w A m) (hB : Ints w B W) (hc : m.length ≤ c) (hm : m.length ≤ 2000000) (hf : m.flatten.length ≤ 2000000) (hbad : ¬ (fewS m = true ∧ W.length ≤ 200)) :
    Calls Tryd.prog 6 #[.slice A m.length c, .slice B W.length d] w fun e w' => e = .returned (.bool true) ∧ Below w.heap.size w w' := by
  have HE : Hid (∀ w', Below w.heap.size w w' → Env [2, 3] w' a) := hide fun w' hb => (hS.toEnv.sub (fun c h => sub23 h)).below hb
  have HUN := hide (fun w' (hb : Below w.heap.size w w') => unlike_any w' a (HE.out w' hb))
  have hfw := fun w' (hb : Below w.heap.size w w') => fewS_ok A m c w' (hA.below hb) hc hm hf
  have hlen := hB.len
  by_cases h1 : fewS m = true
  · have h2 : 200 < (W.length : Int) := by
      have : ¬ W.length ≤ 200 := fun h => hbad ⟨h1, h⟩
      omega
    rw [h1] at hfw
    have HF := hide hfw
    clear hfw hbad
    go_enter Tryd.func6, Tryd.ntmps6
    go_wp2_with (first
      | (go_at_call 10; refine Calls.mono (HUN.out _ (Below.refl _ _)) ?_; rintro e w1 ⟨rfl, hB1⟩)
      | (go_at_call 11; refine Calls.mono (HF.out w1 hB1) ?_; rintro e w2 ⟨rfl, b2⟩; have hB2 := below_trans hB1 b2))
    go_ret
    exact ⟨rfl, hB2⟩
  · rw [show fewS m = false by simpa using h1] at hfw
    have HF := hide hfw
    clear hfw hbad h1
    go_enter Tryd.func6, Tryd.ntmps6
    go_wp2_with (first
      | (go_at_call 10; refine Calls.mono (HUN.out _ (Below.refl _ _)) ?_; rintro e w1 ⟨rfl, hB1⟩)
      | (go_at_call 11; refine Calls.mono (HF.out w1 hB1) ?_; rintro e w2 ⟨rfl, b2⟩; have hB2 := below_trans hB1 b2))
    go_ret
    exact ⟨rfl, hB2⟩

set_option maxRecDepth 100000 in
set_option maxHeartbeats 4000000 in
theorem law_spread_bad (A B : Option Addr) (m : List (List Int)) (W : List Int) (c d : Nat) (w : World) (a : Nat → Addr) (hS : Sent codes w a) (hH : Handle w) (hA : Lists w A m) (hB : Ints w B W) (hc : m.length ≤ c) (hd : W.length ≤ d) (hm : m.length ≤ 2000000) (hf : m.flatten.length ≤ 2000000)
    (h1 : fewS m = true) (h2 : W.length ≤ 200) (hbad : ¬ (sqErr m = 0 ∧ W.length = m.length ∧ numb W = true)) :
    Calls Tryd.prog 6 #[.slice A m.length c, .slice B W.length d] w fun e w' => e = .returned (.bool true) ∧ Below w.heap.size w w' := by
  have HE : Hid (∀ w', Below w.heap.size w w' → Env [2, 3] w' a) := hide fun w' hb => (hS.toEnv.sub (fun c h => sub23 h)).below hb
  have HUN := hide (fun w' (hb : Below w.heap.size w w') => unlike_any w' a (HE.out w' hb))
  have hfw := fun w' (hb : Below w.heap.size w w') => fewS_ok A m c w' (hA.below hb) hc hm hf
  rw [h1] at hfw
  have HF := hide hfw
  have hlen := hB.len
  have hlena := hA.len
  have h2' : (W.length : Int) ≤ 200 := by omega
  have hrows : ∀ r, r ∈ m → r.length ≤ 2000000 := fun r hr => Nat.le_trans (List.Sublist.length_le (List.sublist_flatten_of_mem hr)) hf
  have hse := fun w' (hb : Below w.heap.size w w') => squareError_ok A m c w' (hA.below hb) hc hrows
  have HCL := hide (fun w' (hb : Below w.heap.size w w') => listsS_ok A m c w' (hA.below hb) hc hm hf)
  have HCI := hide (fun w' (hb : Below w.heap.size w w') => ints_ok B W d w' (hB.below hb) hd (by omega))
  have HNIL := hide (fun w' => same_nil w')
  by_cases h0 : sqErr m = 0
  · rw [h0] at hse
    have HSE := hide hse
    have hsp := fun (A' B' : Option Addr) (x y : Nat) w' (g1 : Lists w' A' m) (g2 : Ints w' B' W) (hb : Below w.heap.size w w') => spread_err3 A' B' m W x y w' a (HE.out w' hb) g1 g2 h0 (fun g => hbad ⟨h0, g⟩)
    have hcd := fun w' (hb : Below w.heap.size w w') => coded_any w' a (hS.below hb) (hH.below hb) 3 (by decide) 3
    rw [decide_eq_true (by rfl)] at hcd
    have HSP := hide hsp
    have HCD := hide hcd
    have HNU := hide (fun w' (hb : Below w.heap.size w w') => numbersS_ok B W d w' (hB.below hb) hd (by omega))
    by_cases hl : (W.length : Int) = m.length
    · have hne : ((W.length : Int) != (m.length : Int)) = false := by rw [hl]; simp
      have hn : numb W = false := by
        cases hq : numb W with
        | false => rfl
        | true => exact absurd ⟨h0, by omega, hq⟩ hbad
      have hnu := HNU.out
      rw [hn] at hnu
      have HN := hide hnu
      clear hse hsp hcd hnu HNU hfw h0 h1 hbad hn
      go_enter Tryd.func6, Tryd.ntmps6
      go_wp2_with (first
        | (go_at_call 10; refine Calls.mono (HUN.out _ (Below.refl _ _)) ?_; rintro e w1 ⟨rfl, hB1⟩)
        | (go_at_call 11; refine Calls.mono (HF.out w1 hB1) ?_; rintro e w2 ⟨rfl, b2⟩; have hB2 := below_trans hB1 b2)
        | (go_at_call 26; refine Calls.mono (HSE.out w2 hB2) ?_; rintro e w3 ⟨rfl, b3⟩; have hB3 := below_trans hB2 b3)
        | (go_at_call 27; refine Calls.mono (HN.out w3 hB3) ?_; rintro e w4 ⟨rfl, b4⟩; have hB4 := below_trans hB3 (drawn_below b4))
        | (go_at_call 13; refine Calls.mono (HCL.out w4 hB4) ?_; rintro e w5 ⟨A5, c5, rfl, hI5, hc5, b5⟩; have hB5 := below_trans hB4 b5)
        | (go_at_call 18; refine Calls.mono (HCI.out w5 hB5) ?_; rintro e w6 ⟨A6, c6, rfl, hI6, hc6, b6⟩; have hB6 := below_trans hB5 b6)
        | (go_at_call 29; refine Calls.mono (HSP.out A5 A6 c5 c6 w6 (hI5.below b6) hI6 hB6) ?_; rintro e w7 ⟨rfl, b7⟩; have hB7 := below_trans hB6 b7)
        | (go_at_call 19; refine Calls.mono (HCD.out w7 hB7) ?_; rintro e w8 ⟨rfl, b8⟩; have hB8 := below_trans hB7 b8)
        | (go_at_call 25; refine Calls.mono (HNIL.out w8) ?_; rintro e w9 ⟨rfl, b9⟩; have hB9 := below_trans hB8 b9))
      go_ret
      exact ⟨rfl, hB9⟩
    · have hne : ((W.length : Int) != (m.length : Int)) = true := by rw [bne_iff_ne]; exact hl
      clear hse hsp hcd HNU hfw h0 h1 hbad hl
      go_enter Tryd.func6, Tryd.ntmps6
      go_wp2_with (first
        | (go_at_call 10; refine Calls.mono (HUN.out _ (Below.refl _ _)) ?_; rintro e w1 ⟨rfl, hB1⟩)
        | (go_at_call 11; refine Calls.mono (HF.out w1 hB1) ?_; rintro e w2 ⟨rfl, b2⟩; have hB2 := below_trans hB1 b2)
        | (go_at_call 26; refine Calls.mono (HSE.out w2 hB2) ?_; rintro e w4 ⟨rfl, b3⟩; have hB4 := below_trans hB2 b3)
        | (go_at_call 13; refine Calls.mono (HCL.out w4 hB4) ?_; rintro e w5 ⟨A5, c5, rfl, hI5, hc5, b5⟩; have hB5 := below_trans hB4 b5)
        | (go_at_call 18; refine Calls.mono (HCI.out w5 hB5) ?_; rintro e w6 ⟨A6, c6, rfl, hI6, hc6, b6⟩; have hB6 := below_trans hB5 b6)
        | (go_at_call 29; refine Calls.mono (HSP.out A5 A6 c5 c6 w6 (hI5.below b6) hI6 hB6) ?_; rintro e w7 ⟨rfl, b7⟩; have hB7 := below_trans hB6 b7)
        | (go_at_call 19; refine Calls.mono (HCD.out w7 hB7) ?_; rintro e w8 ⟨rfl, b8⟩; have hB8 := below_trans hB7 b8)
        | (go_at_call 25; refine Calls.mono (HNIL.out w8) ?_; rintro e w9 ⟨rfl, b9⟩; have hB9 := below_trans hB8 b9))
      go_ret
      exact ⟨rfl, hB9⟩
  · obtain ⟨cc, hc', hc8⟩ := sqErr_nat m
    have hc0 : 0 < cc := by
      rcases Nat.eq_zero_or_pos cc with h | h
      · subst h; exact absurd hc' h0
      · exact h
    have hsp := fun (A' B' : Option Addr) (x y : Nat) w' (g1 : Lists w' A' m) (hb : Below w.heap.size w w') => spread_err1 A' B' m W x y w' a (HE.out w' hb) g1 h0
    have hcd := fun w' (hb : Below w.heap.size w w') => coded_any w' a (hS.below hb) (hH.below hb) cc hc8 cc
    rw [hc'] at hsp hse
    rw [decide_eq_true rfl] at hcd
    have he : errC a (cc : Int) = .iface 155 (.pointer (some (a cc))) := errC_pos' a (by omega)
    rw [he] at hsp hcd
    have HSE := hide hse
    have HSP := hide hsp
    have HCD := hide hcd
    have hci : 0 < (cc : Int) := by omega
    have hcn : ((cc : Int) == 0) = false := by rw [beq_eq_false_iff_ne]; omega
    clear hse hsp hcd he hc' h0 hfw h1 hbad
    go_enter Tryd.func6, Tryd.ntmps6
    go_wp2_with (first
      | (go_at_call 10; refine Calls.mono (HUN.out _ (Below.refl _ _)) ?_; rintro e w1 ⟨rfl, hB1⟩)
      | (go_at_call 11; refine Calls.mono (HF.out w1 hB1) ?_; rintro e w2 ⟨rfl, b2⟩; have hB2 := below_trans hB1 b2)
      | (go_at_call 26; refine Calls.mono (HSE.out w2 hB2) ?_; rintro e w4 ⟨rfl, b3⟩; have hB4 := below_trans hB2 b3)
      | (go_at_call 13; refine Calls.mono (HCL.out w4 hB4) ?_; rintro e w5 ⟨A5, c5, rfl, hI5, hc5, b5⟩; have hB5 := below_trans hB4 b5)
      | (go_at_call 18; refine Calls.mono (HCI.out w5 hB5) ?_; rintro e w6 ⟨A6, c6, rfl, hI6, hc6, b6⟩; have hB6 := below_trans hB5 b6)
      | (go_at_call 29; refine Calls.mono (HSP.out A5 A6 c5 c6 w6 (hI5.below b6) hB6) ?_; rintro e w7 ⟨rfl, b7⟩; have hB7 := below_trans hB6 b7)
      | (go_at_call 19; refine Calls.mono (HCD.out w7 hB7) ?_; rintro e w8 ⟨rfl, b8⟩; have hB8 := below_trans hB7 b8)
      | (go_at_call 25; refine Calls.mono (HNIL.out w8) ?_; rintro e w9 ⟨rfl, b9⟩; have hB9 := below_trans hB8 b9))
    go_ret
    exact ⟨rfl, hB9⟩
end Go.Proofs.YtcnecmcbjpehcaaDoor

/- What the steps of Parts make: the law's facts; what R.Contains and lists answer. No condition. -/
namespace Go.Proofs.YtcnecmcbjpehcaaDoor
open Go.RowKit Go.Deep Go.Proofs.YtcnecmcbjpehcaaDoorW.PrintWords

def decAll (f0 : Nat → Nat → Int) (acc : List (List Int × Int)) : Nat → Nat → Int := acc.foldl (fun f q => decT f q.1 q.2) f0
theorem decAll_snoc (f0 : Nat → Nat → Int) (acc : List (List Int × Int)) (q : List Int × Int) : decAll f0 (acc ++ [q]) = decT (decAll f0 acc) q.1 q.2 := by
  unfold decAll
  rw [List.foldl_append]
  rfl
/-- at step k: a permutation, how often it can be taken -/
structure StepAt (n : Nat) (f : Nat → Nat → Int) (p : List Int) (x : Int) : Prop where
  perm : PGood n p
  pos : 0 < x
  cell : ∀ i j, i < n → j < n → 0 ≤ f i j ∧ f i j ≤ 4096
  le : ∀ i, i < n → x ≤ f i (p.getD i 0).toNat
theorem Steps.facts {n : Nat} (hn : 0 < n) {S0 : Int} {f0 : Nat → Nat → Int} (h0 : TGood n S0 f0) {acc : List (List Int × Int)} {f : Nat → Nat → Int} (h : Steps n f0 acc f) :
    (∃ S, TGood n S f) ∧ f = decAll f0 acc ∧ ∀ k, k < acc.length → StepAt n (decAll f0 (acc.take k)) (acc.getD k ([], 0)).1 (acc.getD k ([], 0)).2 := by
  induction h with
  | nil => exact ⟨⟨S0, h0⟩, rfl, fun k hk => absurd hk (Nat.not_lt_zero _)⟩
  | @snoc acc f p hs hpos hp ih =>
    obtain ⟨⟨S, hg⟩, hf, ha⟩ := ih
    rw [hg.row 0 hn] at hpos
    obtain ⟨h1, h2, h3, h4, _⟩ := hg.step hn hpos hp
    refine ⟨⟨_, h4⟩, by rw [decAll_snoc, ← hf], fun k hk => ?_⟩
    rw [List.length_append] at hk
    by_cases e : k < acc.length
    · rw [List.take_append_of_le_length (by omega), show (acc ++ [(p, leastTo f p n)]).getD k ([], 0) = acc.getD k ([], 0) by simp [List.getD_eq_getElem?_getD, List.getElem?_append_left e]]
      exact ha k e
    · obtain rfl : k = acc.length := by simp at hk; omega
      rw [List.take_append_of_le_length (Nat.le_refl _), List.take_length, ← hf, show (acc ++ [(p, leastTo f p n)]).getD acc.length ([], 0) = (p, leastTo f p n) by simp [List.getD_eq_getElem?_getD]]
      exact ⟨h1, h2, hg.cell, fun i hi => leastTo_le f p n i hi⟩
theorem zero_table {n : Nat} {f : Nat → Nat → Int} (h : TGood n 0 f) : ∀ i j, i < n → j < n → f i j = 0 := fun i j hi hj => by
  have h1 := sumN_sub_one n (f i) j hj (f i j)
  have h2 := sumN_le (n := n) (f := fun _ => 0) (g := fun k => if k = j then f i k - f i j else f i k) (fun k hk => by
    by_cases q : k = j
    · simp only [q, if_true]; omega
    · simp only [q, if_false]; exact (h.cell i k hi hk).1)
  rw [sumN_zero] at h2
  rw [h.row i hi] at h1
  have := (h.cell i j hi hj).1
  omega
theorem contains_ev (l : List Int) (x : Int) (hl : l.length ≤ 2000000) : ∀ (d i : Nat), i + d = l.length → (l.take i).contains x = false → Ev (fun k => POrderBirkhoff.demonref1_Contains.l0 k l x (i : Int)) (l.contains x) := by
  intro d
  induction d with
  | zero =>
    intro i hi hc
    obtain rfl : i = l.length := by omega
    rw [List.take_length] at hc
    rw [hc]
    refine Ev.step (f := fun _ => some false) (fun k => ?_) (Ev.now _)
    simp only [POrderBirkhoff.demonref1_Contains.l0]
    rw [if_neg (by omega)]
  | succ d ih =>
    intro i hi hc
    have hil : i < l.length := by omega
    by_cases e : l.getD i 0 = x
    · have : l.contains x = true := by
        rw [List.contains_iff_mem, ← e]
        simp [List.getD_eq_getElem?_getD, hil]
      rw [this]
      refine Ev.step (f := fun _ => some true) (fun k => ?_) (Ev.now _)
      simp only [POrderBirkhoff.demonref1_Contains.l0]
      rw [if_pos (by omega), if_pos (by omega), rd_nat, if_pos e]
    · have hn : (l.take (i + 1)).contains x = false := by
        rw [take_at l i hil, Bool.eq_false_iff]
        intro hc2
        rcases List.mem_append.1 (List.contains_iff_mem.1 hc2) with q | q
        · rw [List.contains_iff_mem.2 q] at hc; cases hc
        · exact e (List.mem_singleton.1 q).symm
      refine Ev.step (fun k => ?_) (ih (i + 1) (by omega) hn)
      simp only [POrderBirkhoff.demonref1_Contains.l0]
      rw [if_pos (by omega), if_pos (by omega), rd_nat, if_neg e, wrap_up i (by omega)]
theorem containsR_ok (A : Option Addr) (l : List Int) (c : Nat) (x : Int) (w : World) (hA : Ints w A l) (hc : l.length ≤ c) (hl : l.length ≤ 2000000) :
    Calls Tryd.prog 14 #[.slice A l.length c, .int .i64 x] w fun e w' => e = .returned (.bool (l.contains x)) ∧ Drawn0 w w' := by
  obtain ⟨k, hk⟩ := (contains_ev l x hl l.length 0 (by omega) rfl).rounds
  exact POrderBirkhoff.demonref1_Contains.calls k A c l x (l.contains x) w hA.toC hc hk
theorem flat_ok (A : Option Addr) (m : List (List Int)) (c : Nat) (w : World) (hA : Lists w A m) (hc : m.length ≤ c) (hl : m.length ≤ 2000000) (hf : m.flatten.length ≤ 2000000) :
    Calls Tryd.prog 15 #[.slice A m.length c] w fun e w' => RetInts m.flatten w e w' := by
  refine (POrderSpread.demonref1_Flat.calls (m.length + 1) A c m m.flatten w hA.toC hc (flat_f m hl hf _ (by omega))).mono ?_
  rintro e w' ⟨v, rfl, hR, hb⟩
  obtain ⟨B, d, rfl, hI, hd⟩ := Ints.ofR hR
  exact ⟨B, d, rfl, hI, hd, hb⟩
theorem listsT_ok (A : Option Addr) (m : List (List Int)) (c : Nat) (w : World) (hA : Lists w A m) (hc : m.length ≤ c) (hl : m.length ≤ 2000000) (hf : m.flatten.length ≤ 2000000) (hn : 0 < m.length) (hrow : ∀ i, i < m.length → (m.getD i []).length = m.length) :
    Calls Tryd.prog 13 #[.slice A m.length c] w fun e w' => ∃ g cap hh cp, e = .returned (.slice (some ⟨g, 0, none⟩) m.length cap) ∧ m.length ≤ cap ∧ Tab2 w' w.heap.size g hh cp m.length m.length (fnOf m) ∧ Below w.heap.size w w' := by
  refine (POrderSpread.demonlaw4_lists.calls (m.length + 1) A c m m w hA.toC hc (lists_f m hl hf _ (by omega))).mono ?_
  rintro e w' ⟨v, rfl, hS, hb⟩
  obtain ⟨g, cap, hh, cp, rfl, hcap, _, ht⟩ := tab2_of_S (c := m.length) hS hn hn hrow
  exact ⟨g, cap, hh, cp, rfl, hcap, ht, hb⟩
theorem flatten_const (l : List (List Int)) (n : Nat) (h : ∀ r, r ∈ l → r.length = n) : l.flatten.length = n * l.length := by
  induction l with
  | nil => rfl
  | cons r l ih =>
    rw [List.flatten_cons, List.length_append, ih (fun s hs => h s (List.mem_cons_of_mem _ hs)), h r (List.mem_cons_self ..), List.length_cons, Nat.mul_succ]
    omega
theorem tabOf_flat (n : Nat) (f : Nat → Nat → Int) (hf : ∀ i j, i < n → j < n → f i j = 0) : (tabOf n f).flatten.length = n * n ∧ ∀ i, i < (tabOf n f).flatten.length → (tabOf n f).flatten.getD i 0 = 0 := by
  constructor
  · rw [flatten_const _ n (fun r hr => by
      obtain ⟨j, _, rfl⟩ := List.mem_map.1 hr
      simp), tabOf_len]
  · intro i hi
    have hm : (tabOf n f).flatten[i] ∈ (tabOf n f).flatten := List.getElem_mem hi
    obtain ⟨r, hr, hx⟩ := List.mem_flatten.1 hm
    obtain ⟨j, hj, rfl⟩ := List.mem_map.1 hr
    obtain ⟨k, hk, e⟩ := List.mem_map.1 hx
    have := hf j k (List.mem_range.1 hj) (List.mem_range.1 hk)
    rw [List.getD_eq_getElem?_getD, List.getElem?_eq_getElem hi]
    show (tabOf n f).flatten[i] = 0
    rw [← e]
    exact this
theorem PGood.not_before {n : Nat} {p : List Int} (h : PGood n p) (r : Nat) (hr : r < n) : (p.take r).contains (p.getD r 0) = false := by
  rw [Bool.eq_false_iff]
  intro hc
  obtain ⟨i, hi, e⟩ := List.getElem_of_mem (List.contains_iff_mem.1 hc)
  rw [List.length_take, h.len] at hi
  rw [List.getElem_take] at e
  have e1 : p.getD i 0 = p.getD r 0 := by
    have hl : i < p.length := by rw [h.len]; omega
    rw [← e, List.getD_eq_getElem?_getD, List.getElem?_eq_getElem hl]
    rfl
  have := h.inj i r (by omega) hr e1
  omega
end Go.Proofs.YtcnecmcbjpehcaaDoor

/- The permutations in order, each taken as often as it can be: the same as the first one each time. No condition. -/
namespace Go.Proofs.YtcnecmcbjpehcaaDoor

/-- the permutations of the numbers below n that begin with a, d numbers more, in order -/
def permsFrom (n : Nat) : Nat → List Int → List (List Int)
  | 0, a => [a]
  | d + 1, a => (List.range' 0 n).flatMap fun (k : Nat) => if a.contains (k : Int) = true then [] else permsFrom n d (a ++ [(k : Int)])
structure AheadN (n : Nat) (a : List Int) : Prop where
  at_ : ∀ i, i < a.length → 0 ≤ a.getD i 0 ∧ a.getD i 0 < n
  nodup : a.Nodup
theorem AheadN.more {n : Nat} {a : List Int} (h : AheadN n a) {k : Nat} (hk : k < n) (hs : a.contains (k : Int) = false) : AheadN n (a ++ [(k : Int)]) := by
  refine ⟨fun i hi => ?_, ?_⟩
  · rw [List.length_append] at hi
    by_cases e : i < a.length
    · rw [getD_appendL a _ i e]; exact h.at_ i e
    · obtain rfl : i = a.length := by simp at hi; omega
      rw [getD_appendR]
      omega
  · rw [List.nodup_append]
    refine ⟨h.nodup, by simp, fun x hx y hy e => ?_⟩
    have : y = (k : Int) := by simpa using hy
    subst this
    subst e
    rw [List.contains_iff_mem.2 hx] at hs
    cases hs
theorem permsFrom_mem (n : Nat) : ∀ (d : Nat) (a p : List Int), AheadN n a → p ∈ permsFrom n d a → p.length = a.length + d ∧ AheadN n p ∧ ∀ i, i < a.length → p.getD i 0 = a.getD i 0
  | 0, a, p, h, hp => by
    have : p = a := by simpa [permsFrom] using hp
    subst this
    exact ⟨rfl, h, fun _ _ => rfl⟩
  | d + 1, a, p, h, hp => by
    rw [permsFrom, List.mem_flatMap] at hp
    obtain ⟨k, hk, hp⟩ := hp
    rw [List.mem_range'_1] at hk
    by_cases hc : a.contains (k : Int) = true
    · rw [if_pos hc] at hp; cases hp
    · rw [if_neg hc] at hp
      obtain ⟨h1, h2, h3⟩ := permsFrom_mem n d _ p (h.more (by omega) (by simpa using hc)) hp
      rw [List.length_append] at h1
      refine ⟨by simp at h1; omega, h2, fun i hi => ?_⟩
      rw [h3 i (by rw [List.length_append]; omega), getD_appendL a _ i hi]
theorem perms_good (n : Nat) (p : List Int) (hp : p ∈ permsFrom n n []) : PGood n p := by
  obtain ⟨h1, h2, _⟩ := permsFrom_mem n n [] p ⟨fun i hi => absurd hi (by simp), List.nodup_nil⟩ hp
  have hl : p.length = n := by simpa using h1
  refine ⟨hl, fun i hi => h2.at_ i (by omega), fun i j hi hj e => ?_⟩
  have q1 : p.getD i 0 = p[i]'(by omega) := by simp [List.getD_eq_getElem?_getD, show i < p.length by omega]
  have q2 : p.getD j 0 = p[j]'(by omega) := by simp [List.getD_eq_getElem?_getD, show j < p.length by omega]
  rw [q1, q2] at e
  exact nodup_inj h2.nodup _ _ e
/-- are the numbers of m at p not 0, from row i0 on? -/
def okFrom (m : List (List Int)) (i0 : Nat) (p : List Int) : Bool := (List.range m.length).all fun i => decide (i < i0) || decide ((m.getD i []).getD (p.getD i 0).toNat 0 ≠ 0)
theorem find_congr {α : Type} {q1 q2 : α → Bool} : ∀ l : List α, (∀ x, x ∈ l → q1 x = q2 x) → l.find? q1 = l.find? q2
  | [], _ => rfl
  | x :: l, h => by
    rw [List.find?_cons, List.find?_cons, h x (List.mem_cons_self ..), find_congr l (fun y hy => h y (List.mem_cons_of_mem _ hy))]
theorem find_flat (block : Nat → List (List Int)) (q : List Int → Bool) : ∀ c k, ((List.range' k c).flatMap block).find? q = tryFrom (fun k => (block k).find? q) c k
  | 0, _ => rfl
  | c + 1, k => by
    rw [List.range'_succ, List.flatMap_cons, List.find?_append, find_flat block q c (k + 1), tryFrom]
    cases (block k).find? q <;> rfl
theorem try_congr {c1 c2 : Nat → Option (List Int)} : ∀ c k, (∀ j, k ≤ j → j < k + c → c1 j = c2 j) → tryFrom c1 c k = tryFrom c2 c k
  | 0, _, _ => rfl
  | c + 1, k, h => by
    rw [tryFrom, tryFrom, h k (Nat.le_refl _) (by omega), try_congr c (k + 1) (fun j h1 h2 => h j (by omega) (by omega))]
theorem firstP_find (m : List (List Int)) : ∀ (d : Nat) (a : List Int), a.length + d = m.length → AheadN m.length a → firstP m d a = (permsFrom m.length d a).find? (okFrom m a.length)
  | 0, a, hl, h => by
    rw [firstP, permsFrom, List.find?_cons]
    have : okFrom m a.length a = true := by
      unfold okFrom
      rw [List.all_eq_true]
      intro i hi
      rw [decide_eq_true (by have := List.mem_range.1 hi; omega), Bool.true_or]
    rw [this]
  | d + 1, a, hl, h => by
    rw [firstP, permsFrom, find_flat]
    refine try_congr _ _ (fun k _ hk => ?_)
    by_cases hc : a.contains (k : Int) = true
    · rw [hc, Bool.or_true, if_pos rfl, if_pos rfl]
      rfl
    · have hc' : a.contains (k : Int) = false := by simpa using hc
      have hmore := h.more (show k < m.length by omega) hc'
      rw [hc', Bool.or_false, if_neg (by decide : ¬ (false = true))]
      have hat : ∀ p, p ∈ permsFrom m.length d (a ++ [(k : Int)]) → p.getD a.length 0 = (k : Int) := fun p hp => by
        rw [(permsFrom_mem m.length d _ p hmore hp).2.2 a.length (by rw [List.length_append]; simp), getD_appendR]
      by_cases h0 : (m.getD a.length []).getD k 0 = 0
      · rw [decide_eq_true h0, if_pos rfl]
        refine (List.find?_eq_none.2 (fun p hp hq => ?_)).symm
        unfold okFrom at hq
        have := List.all_eq_true.1 hq a.length (List.mem_range.2 (by omega))
        rw [hat p hp, Int.toNat_natCast, h0] at this
        simp at this
      · rw [decide_eq_false h0, if_neg (by decide), firstP_find m d (a ++ [(k : Int)]) (by rw [List.length_append]; simp; omega) hmore]
        refine find_congr _ (fun p hp => ?_)
        have hlen : (a ++ [(k : Int)]).length = a.length + 1 := by simp
        rw [hlen]
        unfold okFrom
        rw [Bool.eq_iff_iff, List.all_eq_true, List.all_eq_true]
        constructor
        · intro hall i hi
          by_cases e : i = a.length
          · subst e
            rw [hat p hp, Int.toNat_natCast, decide_eq_true h0, Bool.or_true]
          · have := hall i hi
            by_cases q : i < a.length
            · simp [q]
            · simp only [Bool.or_eq_true, decide_eq_true_iff] at this ⊢
              rcases this with t | t
              · omega
              · exact .inr t
        · intro hall i hi
          have := hall i hi
          simp only [Bool.or_eq_true, decide_eq_true_iff] at this ⊢
          rcases this with t | t
          · exact .inl (by omega)
          · exact .inr t

/-! ### one permutation after another -/
def passStep (n : Nat) (s : List (List Int × Int) × (Nat → Nat → Int)) (p : List Int) : List (List Int × Int) × (Nat → Nat → Int) :=
  if leastTo s.2 p n = 0 then s else (s.1 ++ [(p, leastTo s.2 p n)], decT s.2 p (leastTo s.2 p n))
def passTo (n : Nat) (f0 : Nat → Nat → Int) (ps : List (List Int)) (k : Nat) : List (List Int × Int) × (Nat → Nat → Int) := (ps.take k).foldl (passStep n) ([], f0)
theorem passTo_succ (n : Nat) (f0 : Nat → Nat → Int) (ps : List (List Int)) (k : Nat) (h : k < ps.length) : passTo n f0 ps (k + 1) = passStep n (passTo n f0 ps k) (ps.getD k []) := by
  unfold passTo
  rw [List.take_succ_eq_append_getElem h, List.foldl_append]
  simp [List.getD_eq_getElem?_getD, h]
theorem TGood.le_sum {n : Nat} {S : Int} {f : Nat → Nat → Int} (h : TGood n S f) {i j : Nat} (hi : i < n) (hj : j < n) : f i j ≤ S := by
  have h1 := sumN_sub_one n (f i) j hj (f i j)
  have h2 := sumN_le (n := n) (f := fun _ => 0) (g := fun k => if k = j then f i k - f i j else f i k) (fun k hk => by
    by_cases q : k = j
    · simp only [q, if_true]; omega
    · simp only [q, if_false]; exact (h.cell i k hi hk).1)
  rw [sumN_zero] at h2
  rw [h.row i hi] at h1
  omega
theorem least_nonneg {n : Nat} {S : Int} {f : Nat → Nat → Int} (hn : 0 < n) (h : TGood n S f) {p : List Int} (hp : PGood n p) : 0 ≤ leastTo f p n := by
  obtain ⟨i, hi, e⟩ := leastTo_is f p n hn n (Nat.le_refl _)
  have := hp.at_ i hi
  rw [e]
  exact (h.cell i _ hi (by omega)).1
theorem find_at {q : List Int → Bool} : ∀ (ps : List (List Int)) (k : Nat), k < ps.length → (∀ j, j < k → q (ps.getD j []) = false) → q (ps.getD k []) = true → ps.find? q = some (ps.getD k [])
  | x :: ps, 0, _, _, h => by
    have h' : q x = true := h
    rw [List.find?_cons, h']
    rfl
  | x :: ps, k + 1, hk, hf, h => by
    have h0 : q x = false := hf 0 (by omega)
    rw [List.find?_cons, h0]
    exact find_at ps k (by simpa using hk) (fun j hj => hf (j + 1) (by omega)) h
theorem ok_iff {n : Nat} {f : Nat → Nat → Int} {p : List Int} (hp : PGood n p) : okFrom (tabOf n f) 0 p = true ↔ ∀ i, i < n → f i (p.getD i 0).toNat ≠ 0 := by
  unfold okFrom
  rw [tabOf_len, List.all_eq_true]
  constructor
  · intro h i hi
    have := h i (List.mem_range.2 hi)
    have ha := hp.at_ i hi
    rw [tabOf_at n f i _ hi (by omega)] at this
    simpa using this
  · intro h i hi
    have hi' := List.mem_range.1 hi
    have ha := hp.at_ i hi'
    rw [tabOf_at n f i _ hi' (by omega)]
    simpa using h i hi'
structure PassOk (n : Nat) (f0 : Nat → Nat → Int) (ps : List (List Int)) (k : Nat) (s : List (List Int × Int) × (Nat → Nat → Int)) : Prop where
  steps : Steps n f0 s.1 s.2
  good : ∃ S, TGood n S s.2
  done : ∀ j, j < k → leastTo s.2 (ps.getD j []) n = 0
theorem pass_ok {n : Nat} (hn : 0 < n) {S0 : Int} {f0 : Nat → Nat → Int} (h0 : TGood n S0 f0) : ∀ k, k ≤ (permsFrom n n []).length → PassOk n f0 (permsFrom n n []) k (passTo n f0 (permsFrom n n []) k)
  | 0, _ => ⟨.nil, ⟨S0, h0⟩, fun j hj => absurd hj (Nat.not_lt_zero _)⟩
  | k + 1, hk => by
    obtain ⟨hst, ⟨S, hg⟩, hd⟩ := pass_ok hn h0 k (by omega)
    have hpm : ∀ j, j < (permsFrom n n []).length → PGood n ((permsFrom n n []).getD j []) := fun j hj => perms_good n _ (by rw [getDL_eq _ j hj]; exact List.getElem_mem hj)
    have hp := hpm k (by omega)
    have hsucc := passTo_succ n f0 (permsFrom n n []) k (by omega)
    have hfind : firstP (tabOf n (passTo n f0 (permsFrom n n []) k).2) n [] = (permsFrom n n []).find? (okFrom (tabOf n (passTo n f0 (permsFrom n n []) k).2) 0) := by
      have := firstP_find (tabOf n (passTo n f0 (permsFrom n n []) k).2) n [] (by rw [tabOf_len]; simp) ⟨fun i hi => absurd hi (by simp), List.nodup_nil⟩
      rw [tabOf_len] at this
      exact this
    generalize passTo n f0 (permsFrom n n []) (k + 1) = s' at hsucc ⊢
    generalize passTo n f0 (permsFrom n n []) k = s at hsucc hst hg hd hfind
    generalize hps : permsFrom n n [] = ps at *
    generalize hpe : ps.getD k [] = p at *
    have hx0 := least_nonneg hn hg hp
    have hle := fun i (hi : i < n) => leastTo_le s.2 p n i hi
    unfold passStep at hsucc
    by_cases hx : leastTo s.2 p n = 0
    · rw [if_pos hx] at hsucc
      subst hsucc
      refine ⟨hst, ⟨S, hg⟩, fun j hj => ?_⟩
      by_cases e : j = k
      · rw [e, hpe]; exact hx
      · exact hd j (by omega)
    · rw [if_neg hx] at hsucc
      subst hsucc
      have hS : 0 < S := by
        have h1 := hle 0 hn
        have ha := hp.at_ 0 hn
        have := hg.le_sum hn (show (p.getD 0 0).toNat < n by omega)
        omega
      have hz : ∀ j, j < k → ∃ i, i < n ∧ s.2 i ((ps.getD j []).getD i 0).toNat = 0 := fun j hj => by
        obtain ⟨i, hi, e⟩ := leastTo_is s.2 (ps.getD j []) n hn n (Nat.le_refl _)
        rw [hd j hj] at e
        exact ⟨i, hi, e.symm⟩
      have hfirst : firstP (tabOf n s.2) n [] = some p := by
        rw [hfind, ← hpe]
        refine find_at ps k (by omega) (fun j hj => ?_) ?_
        · rw [Bool.eq_false_iff]
          intro hq
          obtain ⟨i, hi, e⟩ := hz j hj
          exact (ok_iff (hpm j (by omega))).1 hq i hi e
        · rw [hpe]
          exact (ok_iff hp).2 (fun i hi => by have := hle i hi; omega)
      refine ⟨.snoc hst (by rw [hg.row 0 hn]; exact hS) hfirst, ⟨_, dec_good hg hp hx0 hle⟩, fun j hj => ?_⟩
      show leastTo (decT s.2 p (leastTo s.2 p n)) (ps.getD j []) n = 0
      have hg' := dec_good hg hp hx0 hle
      have hpj := hpm j (by omega)
      have hzero : ∃ i, i < n ∧ decT s.2 p (leastTo s.2 p n) i ((ps.getD j []).getD i 0).toNat = 0 := by
        by_cases e : j = k
        · rw [e, hpe]
          obtain ⟨i, hi, e2⟩ := leastTo_is s.2 p n hn n (Nat.le_refl _)
          have ha := hp.at_ i hi
          refine ⟨i, hi, ?_⟩
          unfold decT
          rw [if_pos (by omega), ← e2]
          omega
        · obtain ⟨i, hi, e2⟩ := hz j (by omega)
          refine ⟨i, hi, ?_⟩
          unfold decT
          rw [if_neg (fun q => ?_)]
          · exact e2
          · have h1 := hle i hi
            rw [q, Int.toNat_natCast, e2] at h1
            omega
      obtain ⟨i, hi, e⟩ := hzero
      have h1 := leastTo_le (decT s.2 p (leastTo s.2 p n)) (ps.getD j []) n i hi
      have h2 := least_nonneg hn hg' hpj
      omega
theorem pass_end {n : Nat} (hn : 0 < n) {S0 : Int} {f0 : Nat → Nat → Int} (h0 : TGood n S0 f0) : TGood n 0 (passTo n f0 (permsFrom n n []) (permsFrom n n []).length).2 := by
  obtain ⟨_, ⟨S, hg⟩, hd⟩ := pass_ok hn h0 (permsFrom n n []).length (Nat.le_refl _)
  by_cases hS : 0 < S
  · obtain ⟨p, hp, hpg, hpos⟩ := hg.first hS
    have hf := firstP_find (tabOf n (passTo n f0 (permsFrom n n []) (permsFrom n n []).length).2) n [] (by rw [tabOf_len]; simp) ⟨fun i hi => absurd hi (by simp), List.nodup_nil⟩
    rw [hp, tabOf_len] at hf
    have hm := List.mem_of_find?_eq_some hf.symm
    obtain ⟨j, hj, e⟩ := List.getElem_of_mem hm
    have hdj := hd j hj
    rw [getDL_eq _ j hj, e] at hdj
    obtain ⟨i, hi, e2⟩ := leastTo_is (passTo n f0 (permsFrom n n []) (permsFrom n n []).length).2 p n hn n (Nat.le_refl _)
    have := hpos i hi
    omega
  · have h1 := hg.le_sum hn hn
    have h2 := (hg.cell 0 0 hn hn).1
    obtain rfl : S = 0 := by omega
    exact hg
theorem steps_prefix {n : Nat} {f0 : Nat → Nat → Int} {a b : List (List Int × Int)} {f g : Nat → Nat → Int} (ha : Steps n f0 a f) (hb : Steps n f0 b g) : a.length ≤ b.length → a = b.take a.length ∧ (a.length = b.length → f = g) ∧ (a.length < b.length → 0 < sumN n (f 0)) := by
  induction hb generalizing a f with
  | nil =>
    intro hl
    cases ha with
    | nil => exact ⟨rfl, fun _ => rfl, fun h => absurd h (by simp)⟩
    | snoc => simp at hl
  | @snoc b' g' p hb' hs hp ih =>
    intro hl
    rw [List.length_append] at hl
    simp only [List.length_cons, List.length_nil, Nat.zero_add] at hl
    by_cases e : a.length ≤ b'.length
    · obtain ⟨h1, h2, h3⟩ := ih ha e
      refine ⟨by rw [List.take_append_of_le_length e]; exact h1, fun q => by rw [List.length_append] at q; simp at q; omega, fun _ => ?_⟩
      by_cases e2 : a.length = b'.length
      · rw [h2 e2]; exact hs
      · exact h3 (by omega)
    · cases ha with
      | nil => simp at e
      | @snoc a' f' p2 ha' hs2 hp2 =>
        rw [List.length_append] at e hl
        simp only [List.length_cons, List.length_nil, Nat.zero_add] at e hl
        obtain ⟨h1, h2, _⟩ := ih ha' (by omega)
        have e3 : a'.length = b'.length := by omega
        have e4 := h2 e3
        subst e4
        rw [hp] at hp2
        injection hp2 with hp2
        subst hp2
        have e5 : a' = b' := by rw [h1, e3, List.take_length]
        subst e5
        refine ⟨by rw [List.take_length], fun _ => rfl, fun q => absurd q (Nat.lt_irrefl _)⟩
theorem steps_same {n : Nat} (hn : 0 < n) {f0 : Nat → Nat → Int} {a b : List (List Int × Int)} {f g : Nat → Nat → Int} (ha : Steps n f0 a f) (hb : Steps n f0 b g) (h1 : TGood n 0 f) (h2 : TGood n 0 g) : a = b := by
  rcases Nat.le_total a.length b.length with h | h
  · obtain ⟨e, _, hlt⟩ := steps_prefix ha hb h
    by_cases q : a.length < b.length
    · have := hlt q
      rw [h1.row 0 hn] at this
      exact absurd this (by decide)
    · rw [e, show a.length = b.length by omega, List.take_length]
  · obtain ⟨e, _, hlt⟩ := steps_prefix hb ha h
    by_cases q : b.length < a.length
    · have := hlt q
      rw [h2.row 0 hn] at this
      exact absurd this (by decide)
    · rw [e, show b.length = a.length by omega, List.take_length]
end Go.Proofs.YtcnecmcbjpehcaaDoor
