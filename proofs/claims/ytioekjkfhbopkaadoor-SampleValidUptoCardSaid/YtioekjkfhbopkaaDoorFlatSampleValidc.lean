/- Words, plain laws and walks behind the law SampleValid, part 3. No condition. -/
import Derived.Test.YtioekjkfhbopkaaDoorFlatSampleValidb
import Derived.Test.YtioekjkfhbopkaaDoorFlatSampleValida
import Derived.Lib.OwnBridge
import Derived.Lib.AppendIntMem
import Derived.Shelf.Strings.SlTrimAscii
import Derived.Test.YtioekjkfhbopkaaDoorWMore
import Derived.Deep.RegionHeld3
import Derived.LaidEql
import Derived.Stop.Asserts
import Derived.RowKitTokens

/- What the reference draws: the walk along the tree. No condition. -/
namespace Go.Proofs.YtioekjkfhbopkaaDoor
open Go Go.RowKit Go.Proofs.YtioekjkfhbopkaaDoorW.PrintWords

/-- a text's bits -/
def bitsOf (s : ByteArray) : List Nat := s.data.toList.map fun b => if b = 49 then 1 else 0
theorem bitsOf_len (s : ByteArray) : (bitsOf s).length = s.size := by
  unfold bitsOf
  rw [List.length_map]
  rfl
theorem bitsOf_drop (s : ByteArray) (i : Nat) (hi : i < s.size) : (bitsOf s).drop i = (if bt s (i : Int) = 49 then 1 else 0) :: (bitsOf s).drop (i + 1) := by
  have hl : s.data.toList.length = s.size := rfl
  rw [List.drop_eq_getElem_cons (by rw [bitsOf_len]; exact hi)]
  congr 1
  unfold bitsOf
  rw [List.getElem_map, bt_list, List.getD_eq_getElem?_getD, List.getElem?_eq_getElem (by rw [hl]; exact hi)]
  simp only [Option.getD_some]
  generalize s.data.toList[i]'(by rw [hl]; exact hi) = b
  by_cases h : b = 49
  · subst h; rfl
  · rw [if_neg h, if_neg]
    intro e
    apply h
    apply UInt8.toNat_inj.1
    have : b.toNat = 49 := by omega
    rw [this]
    rfl
theorem modSum_le (l : List Nat) (m : Nat) : modSum l m ≤ l.sum := by
  induction l with
  | nil => exact Nat.le_refl _
  | cons x r ih =>
    unfold modSum at *
    rw [List.map_cons, List.sum_cons, List.sum_cons]
    have := Nat.mod_le x m
    omega
theorem nodes_le {l : List Nat} {D : Nat} (h : l.sum = 2 ^ D) (d : Nat) (hd : d ≤ D) : nodesAt l D d ≤ 2 ^ D := by
  have h1 := nodes_mod l D h d hd
  have h2 := modSum_le l (2 ^ (D - d + 1))
  rw [h] at h2
  rw [← h1] at h2
  exact Nat.le_trans (Nat.le_mul_of_pos_right _ (Nat.two_pow_pos _)) h2
theorem nodes_le' {W : List Int} (h : GoodW W) (d : Nat) (hd : d ≤ dep W) : nodesAt (parts W) (dep W) d ≤ 4096 := by
  have h1 := nodes_le (parts_sum h) d hd
  have h2 : (2 : Nat) ^ dep W ≤ 2 ^ 12 := Nat.pow_le_pow_right (by decide) (dep_le h).2.2
  omega
theorem getD_le_of_sum (l : List Nat) (i : Nat) : l.getD i 0 ≤ l.sum := by
  by_cases hi : i < l.length
  · rw [List.getD_eq_getElem?_getD, List.getElem?_eq_getElem hi]
    exact le_sumN _ _ (List.getElem_mem hi)
  · rw [List.getD_eq_getElem?_getD, List.getElem?_eq_none (by omega)]
    exact Nat.zero_le _
theorem leaf_mem (P : List Nat) (D d v : Nat) (hv : v < (leafs P D d).length) : (leafs P D d).getD v 0 < P.length ∧ bitAt (P.getD ((leafs P D d).getD v 0) 0) (D - d) = true := by
  have hm : (leafs P D d).getD v 0 ∈ leafs P D d := by
    rw [List.getD_eq_getElem?_getD, List.getElem?_eq_getElem hv]
    exact List.getElem_mem hv
  obtain ⟨h1, h2⟩ := List.mem_filter.1 hm
  exact ⟨List.mem_range.1 h1, h2⟩
/-- where the tree begins again it has two nodes at depth one -/
theorem again_nodes {W : List Int} (h : GoodW W) {d v : Nat} (hv : v < (leafs (parts W) (dep W) d).length) (ha : ¬ (leafs (parts W) (dep W) d).getD v 0 + 1 < (parts W).length) :
    1 ≤ dep W ∧ nodesAt (parts W) (dep W) 1 = 2 ∧ (leafs (parts W) (dep W) 0).length = 0 := by
  obtain ⟨h1, h2⟩ := leaf_mem _ _ _ _ hv
  have hl := parts_len W
  have e : (leafs (parts W) (dep W) d).getD v 0 = W.length := by omega
  rw [e] at h2
  have h3 := parts_last h
  have h4 := h.pos
  have hx : 0 < (parts W).getD W.length 0 := by
    rcases Nat.eq_zero_or_pos ((parts W).getD W.length 0) with q | q
    · rw [q] at h2
      unfold bitAt at h2
      simp at h2
    · exact q
  have hlast : (parts W).getD W.length 0 < 2 ^ dep W := by omega
  have hsum := parts_sum h
  -- no part is the whole
  have small : ∀ i, (parts W).getD i 0 < 2 ^ dep W := by
    intro i
    have hle := getD_le_of_sum (parts W) i
    by_cases hi : i < W.length
    · have h5 := parts_at h i hi
      have h6 : W.getD i 0 ≤ W.sum := by
        have := take_le h.nn (i + 1) (by omega)
        rw [sum_take W i hi] at this
        have := (take_le h.nn i (by omega)).1
        omega
      omega
    · by_cases hi2 : i = W.length
      · subst hi2; exact hlast
      · rw [List.getD_eq_getElem?_getD, List.getElem?_eq_none (by omega)]
        exact Nat.two_pow_pos _
  have hc : (leafs (parts W) (dep W) 0).length = 0 := by
    rw [List.length_eq_zero_iff]
    unfold leafs
    rw [List.filter_eq_nil_iff]
    intro i _
    have := small i
    unfold bitAt
    rw [Nat.sub_zero, Nat.div_eq_of_lt this]
    decide
  refine ⟨?_, ?_, hc⟩
  · rcases Nat.eq_zero_or_pos (dep W) with q | q
    · rw [q] at hlast; omega
    · exact q
  · rw [nodesAt, nodesAt, ← leafs_len, hc]
/-- what is drawn, in the program's words -/
def drawn (o : Option (Nat × Nat)) : Int × Int × Bool := match o with
  | some (k, n) => ((k : Int), (n : Int), true)
  | none => (0, 0, false)
/-- what a round does with the leaves of its depth -/
def drawK (k : Nat) (x0 : List Int) (x1 : ByteArray) (x7 x8 x9 : Int) (l : List Int) : Option (Int × Int × Bool) :=
  if x7 < (l.length : Int) then (if 0 ≤ x7 then (if (rd l x7) < (x0.length : Int) then (some (rd l x7, x9, true)) else ((PSampleDraw.demonref4_LeavesAt.f k x0 0).bind fun t139 => (PSampleDraw.demonref4_DrawOf.j1 k x0 x1 0 0 x9 t139))) else (none)) else (PSampleDraw.demonref4_DrawOf.j1 k x0 x1 x7 x8 x9 l)
theorem draw_round {W : List Int} {s : ByteArray} {v d used : Int} {L : List Int} {r : Int × Int × Bool} (hL : Ev (fun n => PSampleDraw.demonref4_LeavesAt.f n W d) L) (h : Ev (fun n => drawK n W s v d used L) r) : Ev (fun n => PSampleDraw.demonref4_DrawOf.l0 n W s v d used) r :=
  Ev.step (f := fun n => (PSampleDraw.demonref4_LeavesAt.f n W d).bind (drawK n W s v d used)) (fun n => by simp only [PSampleDraw.demonref4_DrawOf.l0]; rfl) (Ev.bind hL h)
theorem drawOf_l0 {W : List Int} (h : GoodW W) (s : ByteArray) (hs : s.size ≤ 2000000) (hb : isBits s = true) : ∀ (e used v d : Nat), used + e = s.size → d ≤ dep W → v < nodesAt (parts W) (dep W) d →
    Ev (fun n => PSampleDraw.demonref4_DrawOf.l0 n W s (v : Int) (d : Int) (used : Int)) (drawn (drawB (parts W) (dep W) ((bitsOf s).drop used) v d used)) := by
  have hD := dep_le h
  have hbits := (isBits_iff s).1 hb
  intro e
  induction e with
  | zero =>
    intro used v d hu hd hv
    obtain rfl : used = s.size := by omega
    have hdrop : (bitsOf s).drop s.size = [] := List.drop_eq_nil_of_le (by rw [bitsOf_len]; exact Nat.le_refl _)
    have hv4 := nodes_le' h d hd
    rw [hdrop]
    have fin2 : ∀ (v8 d8 : Int), Ev (fun n => PSampleDraw.demonref4_DrawOf.j2 n W s v8 d8 (s.size : Int)) (0, 0, false) := fun v8 d8 =>
      Ev.step (f := fun _ => some (0, 0, false)) (fun n => by simp only [PSampleDraw.demonref4_DrawOf.j2]; rw [if_pos (by simp)]) (Ev.now _)
    have fin1 : ∀ (v8 d8 : Int) (l : List Int), Ev (fun n => PSampleDraw.demonref4_DrawOf.j1 n W s v8 d8 (s.size : Int) l) (0, 0, false) := fun v8 d8 l => by
      by_cases q : d8 = 0
      · exact Ev.step (fun n => by simp only [PSampleDraw.demonref4_DrawOf.j1]; rw [if_pos q]) (fin2 _ _)
      · exact Ev.step (fun n => by simp only [PSampleDraw.demonref4_DrawOf.j1]; rw [if_neg q]) (fin2 _ _)
    have hL := leavesAt_f h d hd
    unfold drawB
    generalize hLs : leafs (parts W) (dep W) d = L at hL ⊢
    by_cases c1 : v < L.length
    · have c1' : (v : Int) < ((L.map fun (j : Nat) => (j : Int)).length : Int) := by rw [List.length_map]; omega
      have hr : rd (L.map fun (j : Nat) => (j : Int)) (v : Int) = ((L.getD v 0 : Nat) : Int) := by
        rw [rd_nat]; simp [List.getD_eq_getElem?_getD, c1]
      by_cases c2 : L.getD v 0 + 1 < (parts W).length
      · rw [if_pos ⟨c1, c2⟩]
        rw [parts_len] at c2
        exact draw_round hL (Ev.congr (fun n => by unfold drawK; rw [if_pos c1', if_pos (by omega), hr, if_pos (by omega)]; rfl) (Ev.now _))
      · rw [if_neg (fun q => c2 q.2)]
        rw [parts_len] at c2
        exact draw_round hL (Ev.congr (f := fun n => (PSampleDraw.demonref4_LeavesAt.f n W ((0 : Nat) : Int)).bind fun t => PSampleDraw.demonref4_DrawOf.j1 n W s 0 0 (s.size : Int) t) (fun n => by unfold drawK; rw [if_pos c1', if_pos (by omega), hr, if_neg (by omega)]; rfl) (Ev.bind (leavesAt_f h 0 (by omega)) (fin1 _ _ _)))
    · rw [if_neg (fun q => c1 q.1)]
      exact draw_round hL (Ev.congr (fun n => by unfold drawK; rw [if_neg (by rw [List.length_map]; omega)]) (fin1 _ _ _))
  | succ e ih =>
    intro used v d hu hd hv
    have hlt : used < s.size := by omega
    have hv4 := nodes_le' h d hd
    rw [bitsOf_drop s used hlt]
    have hbt := hbits used hlt
    obtain ⟨b, hb1, hb2, hbe⟩ : ∃ b : Nat, (if bt s (used : Int) = 49 then 1 else 0) = b ∧ b ≤ 1 ∧ (bt s (used : Int) = 49 ↔ b = 1) := by
      by_cases q : bt s (used : Int) = 49
      · exact ⟨1, by rw [if_pos q], by decide, by simp [q]⟩
      · exact ⟨0, by rw [if_neg q], by decide, by simp [q]⟩
    rw [hb1]
    have step2 : ∀ (v8 d8 : Nat), v8 ≤ 4096 → d8 ≤ 4096 → d8 + 1 ≤ dep W → 2 * v8 + b < nodesAt (parts W) (dep W) (d8 + 1) → Ev (fun n => PSampleDraw.demonref4_DrawOf.j2 n W s (v8 : Int) (d8 : Int) (used : Int)) (drawn (drawB (parts W) (dep W) ((bitsOf s).drop (used + 1)) (2 * v8 + b) (d8 + 1) (used + 1))) := by
      intro v8 d8 h8 h9 g1 g2
      have hih := ih (used + 1) (2 * v8 + b) (d8 + 1) (by omega) g1 g2
      have hw2 : wrap64 (2 * (v8 : Int)) = ((2 * v8 : Nat) : Int) := by unfold wrap64; omega
      by_cases q : bt s (used : Int) = 49
      · have := hbe.1 q
        subst this
        exact Ev.step (fun n => by simp only [PSampleDraw.demonref4_DrawOf.j2]; rw [if_neg (by omega), if_pos (by omega), if_pos (by omega), if_pos q, hw2, wrap_up _ (by omega), wrap_up d8 (by omega), wrap_up used (by omega)]) hih
      · obtain rfl : b = 0 := by
          rcases Nat.eq_zero_or_pos b with r | r
          · exact r
          · exact absurd (hbe.2 (by omega)) q
        exact Ev.step (fun n => by simp only [PSampleDraw.demonref4_DrawOf.j2]; rw [if_neg (by omega), if_pos (by omega), if_pos (by omega), if_neg q, hw2, wrap_up d8 (by omega), wrap_up used (by omega)]; rfl) hih
    have hL := leavesAt_f h d hd
    unfold drawB
    by_cases c1 : v < (leafs (parts W) (dep W) d).length
    · have hag := fun c2 => again_nodes h c1 c2
      rw [if_pos c1]
      generalize hLs : leafs (parts W) (dep W) d = L at hL c1 hag ⊢
      have c1' : (v : Int) < ((L.map fun (j : Nat) => (j : Int)).length : Int) := by rw [List.length_map]; omega
      have hr : rd (L.map fun (j : Nat) => (j : Int)) (v : Int) = ((L.getD v 0 : Nat) : Int) := by
        rw [rd_nat]; simp [List.getD_eq_getElem?_getD, c1]
      by_cases c2 : L.getD v 0 + 1 < (parts W).length
      · rw [if_pos c2]
        rw [parts_len] at c2
        exact draw_round hL (Ev.congr (fun n => by unfold drawK; rw [if_pos c1', if_pos (by omega), hr, if_pos (by omega)]; rfl) (Ev.now _))
      · rw [if_neg c2]
        obtain ⟨a1, a2, a3⟩ := hag c2
        rw [parts_len] at c2
        have := step2 0 0 (by omega) (by omega) (by omega) (by rw [a2]; omega)
        rw [Nat.mul_zero, Nat.zero_add, Nat.zero_add] at this
        exact draw_round hL (Ev.congr (f := fun n => (PSampleDraw.demonref4_LeavesAt.f n W ((0 : Nat) : Int)).bind fun t => PSampleDraw.demonref4_DrawOf.j1 n W s 0 0 (used : Int) t) (fun n => by unfold drawK; rw [if_pos c1', if_pos (by omega), hr, if_neg (by omega)]; rfl) (Ev.bind (leavesAt_f h 0 (by omega)) (Ev.step (f := fun n => PSampleDraw.demonref4_DrawOf.j2 n W s 0 0 (used : Int)) (fun n => by simp only [PSampleDraw.demonref4_DrawOf.j1]; rw [if_pos (by trivial)]) this)))
    · rw [if_neg c1]
      obtain ⟨n1, n2⟩ := next_node (parts_sum h) hd hv c1 hb2
      have hn4 := nodes_le' h (d + 1) n1
      generalize hLs : leafs (parts W) (dep W) d = L at hL c1 n2 ⊢
      have hst := step2 (v - L.length) d (by omega) (by omega) n1 n2
      refine draw_round hL (Ev.congr (fun n => by unfold drawK; rw [if_neg (by rw [List.length_map]; omega)]) ?_)
      by_cases q : d = 0
      · subst q
        have hv0 : v = 0 := by rw [nodesAt] at hv; omega
        have hz : v - L.length = 0 := by omega
        rw [hz] at hst ⊢
        exact Ev.step (fun n => by simp only [PSampleDraw.demonref4_DrawOf.j1]; rw [if_pos (by simp)]; rfl) hst
      · have hw : wrap64 ((v : Int) - ((L.map fun (j : Nat) => (j : Int)).length : Int)) = ((v - L.length : Nat) : Int) := by rw [List.length_map]; unfold wrap64; omega
        exact Ev.step (fun n => by simp only [PSampleDraw.demonref4_DrawOf.j1]; rw [if_neg (by omega), hw]) hst
theorem drawOf_f {W : List Int} (h : GoodW W) (s : ByteArray) (hs : s.size ≤ 2000000) (hb : isBits s = true) : Ev (fun n => PSampleDraw.demonref4_DrawOf.f n W s) (drawn (drawB (parts W) (dep W) (bitsOf s) 0 0 0)) :=
  drawOf_l0 h s hs hb s.size 0 0 0 (by omega) (Nat.zero_le _) (by rw [nodesAt]; omega)
end Go.Proofs.YtioekjkfhbopkaaDoor

/- Helpers for the sample seat: copies that one owns, cells of rows, make. No condition. -/
namespace Go.Proofs.YtioekjkfhbopkaaDoor
open Go.RowKit Go.Deep Go.Sort Go.Proofs.YtioekjkfhbopkaaDoorW.PrintWords

theorem grown_of_below {w w' : World} (h : Below w.heap.size w w') : w.grownBy w' none := ⟨h.os, h.tape, h.output, h.size, fun k hk _ => h.block k hk⟩
theorem own_below {w w' : World} {base e size n : Nat} {v : Value} {xs : List Value} (h : w.ownsRow base e size v n xs) (hb : Below w.heap.size w w') : w'.ownsRow base e size v n xs := h.kept (grown_of_below hb) (by cases v.ownBlock <;> simp)
theorem own_ints {w : World} {base n c e : Nat} {A : Option Addr} {l : List Int} (h : w.ownsRow base e 1 (.slice A n c) n (intCells l)) (hn : l.length = n) : Ints w A l := by
  subst hn
  exact Ints.own h
theorem own_list {w : World} {base e : Nat} {v : Value} {n : Nat} {l : List Int} (h : w.ownsRow base e 1 v n (intCells l)) : w.ownsRow base e 1 v l.length (intCells l) := by
  have : n = l.length := by have := h.1; rw [intCells_length] at this; omega
  rw [← this]; exact h
theorem ints_one {w : World} {b : Nat} {y : Int} (hb : b < w.heap.size) (h : w.cell? ⟨b, 0, none⟩ = some (.int .i64 y)) : Ints w (some ⟨b, 0, none⟩) [y] :=
  ⟨by simp, fun i hi => by
    obtain rfl : i = 0 := by simp at hi; omega
    exact ⟨b, 0, rfl, hb, h⟩⟩
/-- a copy that the call owns -/
theorem clone_ok (A : Option Addr) (l : List Int) (c : Nat) (w : World) (hA : Ints w A l) (h0 : 0 < l.length) (hl : l.length ≤ 2000000) :
    Calls Tryd.prog 65 #[.slice A l.length c] w fun e w' => ∃ g d, e = .returned (.slice (some ⟨g, 0, none⟩) l.length d) ∧ w.heap.size ≤ g ∧ l.length ≤ d ∧ w'.ownsRow w.heap.size 3 1 (.slice (some ⟨g, 0, none⟩) l.length d) l.length (intCells l) ∧ Below w.heap.size w w' := by
  obtain ⟨b, off, rfl, _, _⟩ := hA.at_ 0 h0
  have hc : ∀ j, j < l.length → w.cell? ⟨b, off + j, none⟩ = some (.int .i64 (l.getD j 0)) := fun j hj => by
    obtain ⟨b1, off1, e, _, h⟩ := hA.at_ j hj
    injection e with e
    injection e with e1 e2 _
    subst e1 e2
    exact h
  refine (Tryd.slices_Clone_int b off l.length c l w (Nat.le_refl _) (by omega) hc).mono ?_
  rintro e w' ⟨v, rfl, ho, hne, hb⟩
  rw [List.take_length] at ho
  obtain ⟨g, d, rfl, hg, _, hd, _⟩ := Lib.holds_of_ownsRow ho hne
  exact ⟨g, d, rfl, hg, hd, ho, hb⟩
theorem own_same {w w' : World} {base e size n : Nat} {v : Value} {xs : List Value} (h : w.ownsRow base e size v n xs) (hs : ∀ b, v.ownBlock = some b → w'.heap[b]? = w.heap[b]?) : w'.ownsRow base e size v n xs := by
  refine ⟨h.1, ?_⟩
  rcases h.2 with h0 | ⟨g, cap, cur, rfl, hb, hh, r⟩
  · exact .inl h0
  · exact .inr ⟨g, cap, cur, rfl, hb, (hs g rfl).trans hh, r⟩
theorem ints_same {w w' : World} {b : Nat} {l : List Int} (h : Ints w (some ⟨b, 0, none⟩) l) (hs : w'.heap[b]? = w.heap[b]?) : Ints w' (some ⟨b, 0, none⟩) l :=
  ⟨h.len, fun i hi => by
    obtain ⟨b', off, e, hb, hc⟩ := h.at_ i hi
    injection e with e
    injection e with e1 e2 _
    subst e1 e2
    have hc' := (World.cell?_of_block (a := ⟨b, 0 + i, none⟩) hs).trans hc
    exact ⟨b, 0, rfl, World.block_lt_of_cell? w' _ hc', hc'⟩⟩
theorem heap_set_other (w : World) (g o : Nat) (v : Value) (b : Nat) (h : b ≠ g) : (w.setCell ⟨g, o, none⟩ v).heap[b]? = w.heap[b]? := by
  simp [World.setCell, Array.getElem?_modify, Ne.symm h]
theorem own_cell {W : World} {base g n cap : Nat} {e : TypeId} {l : List Int} (h : W.ownsRow base e 1 (.slice (some ⟨g, 0, none⟩) n cap) n (intCells l)) (i : Nat) (hi : i < n) : W.cell? ⟨g, i, none⟩ = some (.int .i64 (l.getD i 0)) ∧ W.frozen? ⟨g, i, none⟩ = false := by
  have := own_at (k := .i64) h (i : Int) (by omega) (by omega)
  rw [Int.toNat_natCast] at this
  exact this
theorem own_put {W : World} {base g n cap : Nat} {e : TypeId} {l : List Int} (h : W.ownsRow base e 1 (.slice (some ⟨g, 0, none⟩) n cap) n (intCells l)) (i : Nat) (x : Int) : (W.setCell ⟨g, i, none⟩ (.int .i64 x)).ownsRow base e 1 (.slice (some ⟨g, 0, none⟩) n cap) n (intCells (l.set i x)) := by
  have := (own_store (k := .i64) h (i : Int) x).1
  rw [Int.toNat_natCast] at this
  exact this

theorem alloc_at (w : World) (o : Obj) : (w.alloc o).heap[w.heap.size]? = some o := by
  show (w.heap.push o)[w.heap.size]? = some o
  simp
theorem alloc_old (w : World) (o : Obj) (g : Nat) (h : g < w.heap.size) : (w.alloc o).heap[g]? = w.heap[g]? := by
  show (w.heap.push o)[g]? = _
  rw [Array.getElem?_push_lt h, Array.getElem?_eq_getElem h]
theorem rows_same (W : World) (g i : Nat) (cs : Array Value) (t : TypeId) (v : Value) (h : W.heap[g]? = some (.cells cs t (0, 0))) : (W.setCell ⟨g, i, none⟩ v).heap[g]? = some (.cells (cs.setIfInBounds i v) t (0, 0)) := by
  simp [World.setCell, Array.getElem?_modify, h]
theorem put_two (W : World) (g : Nat) (t : TypeId) (a b x y : Value) (h : W.heap[g]? = some (.cells #[a, b] t (0, 0))) : ((W.setCell ⟨g, 0, none⟩ x).setCell ⟨g, 1, none⟩ y).heap[g]? = some (.cells #[x, y] t (0, 0)) := by
  have h1 := rows_same W g 0 _ t x h
  have h2 := rows_same _ g 1 _ t y h1
  exact h2
theorem cell_of (W : World) (g i : Nat) (t : TypeId) (cs : Array Value) (u : Value) (h : W.heap[g]? = some (.cells cs t (0, 0))) (hu : cs[i]? = some u) : W.cell? ⟨g, i, none⟩ = some u ∧ W.frozen? ⟨g, i, none⟩ = false := by
  constructor
  · simp [World.cell?, h, hu]
  · simp [World.frozen?, h]
/-- make([]int, n), owned -/
theorem wp_make_own (w : World) {ops : Array Oper} {rest : List Oper} {o : Oper} {a : Act} {Q : Exit → Act → World → Prop}
    (hg : o.guard = none) (l c : Operand) (hop : o.op = Op.makeSlice 23 l c) (kl kc : IntKind) (n : Nat) (hl : a.eval l = .int kl (n : Int)) (hc : a.eval c = .int kc (n : Int)) (hn : n ≤ 1000000) (base : Nat) (hb : base ≤ w.heap.size)
    (hK : ∀ w', w'.ownsRow base 3 1 (.slice (some ⟨w.heap.size, 0, none⟩) n n) n (intCells (List.replicate n 0)) → w.grownBy w' none → wpList Tryd.prog ops Q rest (a.put o.dst (.slice (some ⟨w.heap.size, 0, none⟩) n n)) w') :
    wpList Tryd.prog ops Q (o :: rest) a w := by
  obtain ⟨i0, hi0, hz0, hz1, hz2⟩ := info_parts int_info
  refine wpList_make_full w hg l c _ hop base 3 i0 _ 1 Tryd.underlying23 hi0 hz0 hz1 kl kc n n n hl hc rfl rfl (by rw [hz2]; omega) (by simp only [maxLen]; omega) hb ?_
  intro w' h1 h2
  have e : (madeCells (Value.int IntKind.i64 0).cells (n * 1)).toList = intCells (List.replicate n 0) := by
    apply List.ext_getElem
    · simp [intCells, madeCells, Value.cells]
    · intro i h1 h2
      simp [intCells, madeCells, Value.cells, Nat.mod_one]
  rw [e] at h1
  exact hK w' h1 h2

theorem lists_info : (Tryd.prog.info? 23).map (fun i => (i.zero, i.size, i.bytes)) = some (some (.slice none 0 0), 1, 24) := by kernel_rfl
/-- make([][]int, n), owned: no row yet -/
theorem wp_make_rows (w : World) {ops : Array Oper} {rest : List Oper} {o : Oper} {a : Act} {Q : Exit → Act → World → Prop}
    (hg : o.guard = none) (l c : Operand) (hop : o.op = Op.makeSlice 22 l c) (kl kc : IntKind) (n : Nat) (hl : a.eval l = .int kl (n : Int)) (hc : a.eval c = .int kc (n : Int)) (hn : n ≤ 1000000) (base : Nat) (hb : base ≤ w.heap.size)
    (hK : ∀ w', w'.ownsRow base 23 1 (.slice (some ⟨w.heap.size, 0, none⟩) n n) n (List.replicate n (.slice none 0 0)) → w.grownBy w' none → wpList Tryd.prog ops Q rest (a.put o.dst (.slice (some ⟨w.heap.size, 0, none⟩) n n)) w') :
    wpList Tryd.prog ops Q (o :: rest) a w := by
  obtain ⟨i0, hi0, hz0, hz1, hz2⟩ := info_parts lists_info
  refine wpList_make_full w hg l c _ hop base 23 i0 _ 1 Tryd.underlying22 hi0 hz0 hz1 kl kc n n n hl hc rfl rfl (by rw [hz2]; omega) (by simp only [maxLen]; omega) hb ?_
  intro w' h1 h2
  have e : (madeCells (Value.slice none 0 0).cells (n * 1)).toList = List.replicate n (.slice none 0 0) := by
    apply List.ext_getElem
    · simp [madeCells, Value.cells]
    · intro i h1 h2
      simp [madeCells, Value.cells, Nat.mod_one]
  rw [e] at h1
  exact hK w' h1 h2

/-- append inside a region that draws its order -/
theorem step_app_ints (w : World) {ops : Array Oper} {o : Oper} {a : Act} {K : Act → World → Prop} {Q : Exit → Act → World → Prop} {E : Prop} (hgd : o.guard = none) (s x : Operand)
    (ho : o.op = .call { callee := .builtin .append, args := #[s, x], argTypes := #[23, 23] })
    (base : Nat) (v : Value) (l0 : List Int) (hs : a.eval s = v) (hown : w.ownsRow base 3 1 v l0.length (intCells l0))
    (A : Option Addr) (m c : Nat) (l : List Int) (hx : a.eval x = .slice A m c) (hm : m = l.length) (hr : Ints w A l)
    (hbytes : (l0.length + m) * 8 ≤ 140737488355328) (hbase : base ≤ w.heap.size)
    (h : ∀ A' c' w', (l0 ++ l).length ≤ c' → w'.ownsRow base 3 1 (.slice A' (l0 ++ l).length c') (l0 ++ l).length (intCells (l0 ++ l)) → w.grownBy w' v.ownBlock → ((Value.slice A' (l0 ++ l).length c').ownBlock = v.ownBlock ∨ (Value.slice A' (l0 ++ l).length c').ownBlock = some w.heap.size) →
      K (a.put o.dst (.slice A' (l0 ++ l).length c')) w') :
    if Region.wanted o (yielded ops a.tmps) = true then Oper.wp Tryd.prog o a w K Q else E := by
  obtain ⟨i0, hi0, hz0, hz1, hz2⟩ := info_parts int_info
  subst hm
  refine step_append_any w hgd s x _ ho base 3 i0 _ 1 8 Tryd.underlying23 hi0 hz0 hz1 hz2 rfl (by omega) v l0.length (intCells l0) hs hown w.heap.size A l.length c (intCells l) hx hr.reads (intCells_one l) (by simp only [maxLen]; omega) hbytes hbase ?_
  intro v' w' h1 h2 h3
  rw [← intCells_append, ← List.length_append] at h1
  obtain ⟨A', c', rfl, hc, _⟩ := own_shape h1
  exact h A' c' w' hc h1 h2 h3
theorem Ints.lit (w : World) (l : List Int) (t : TypeId) (hl : l.length ≤ 9223372036854775807) : Ints (w.alloc (.cells (intCells l).toArray t)) (some ⟨w.heap.size, 0, none⟩) l :=
  ⟨hl, fun i hi => ⟨w.heap.size, 0, rfl, by simp, by
    have := intCells_at l i hi
    simpa using this⟩⟩
theorem ints_lit1 (w : World) (y : Int) (t : TypeId) : Ints (w.alloc (.cells #[.int .i64 y] t)) (some ⟨w.heap.size, 0, none⟩) [y] := Ints.lit w [y] t (by simp)
/-- rows of one's own that grow in their places -/
structure LSt (w : World) (base g n cap : Nat) (vs : Nat → Value) (rows : Nat → List Int) : Prop where
  spine : w.ownsRow base 23 1 (.slice (some ⟨g, 0, none⟩) n cap) n ((List.range n).map vs)
  row : ∀ j, j < n → w.ownsRow base 3 1 (vs j) (rows j).length (intCells (rows j))
  apart : ∀ j, j < n → (vs j).ownBlock ≠ some g
  ne : ∀ i, i < n → ∀ j, j < n → i ≠ j → ∀ b, (vs i).ownBlock = some b → (vs j).ownBlock ≠ some b
theorem LSt.start {w : World} {base g n cap : Nat} (h : w.ownsRow base 23 1 (.slice (some ⟨g, 0, none⟩) n cap) n (List.replicate n (.slice none 0 0))) : LSt w base g n cap (fun _ => .slice none 0 0) (fun _ => []) := by
  refine ⟨?_, fun j _ => nil_own _ _ _ _, fun j _ => by simp [Value.ownBlock], fun i _ j _ _ b e => by simp [Value.ownBlock] at e⟩
  rw [show (List.range n).map (fun _ => Value.slice none 0 0) = List.replicate n (Value.slice none 0 0) by
    apply List.ext_getElem
    · simp
    · intro i h1 h2; simp]
  exact h
theorem LSt.cell {w : World} {base g n cap : Nat} {vs : Nat → Value} {rows : Nat → List Int} (h : LSt w base g n cap vs rows) (j : Nat) (hj : j < n) : w.cell? ⟨g, j, none⟩ = some (vs j) ∧ w.frozen? ⟨g, j, none⟩ = false := by
  refine ⟨?_, h.spine.frozenAt j⟩
  rw [h.spine.cellAt j (by omega), List.getElem?_map, List.getElem?_range hj]
  rfl
theorem map_set_range (n d : Nat) (vs : Nat → Value) (u : Value) : ((List.range n).map vs).set d u = (List.range n).map fun j => if j = d then u else vs j := by
  apply List.ext_getElem
  · simp
  · intro i h1 h2
    rw [List.getElem_set]
    simp only [List.getElem_map, List.getElem_range]
    by_cases e : d = i
    · rw [if_pos e, if_pos e.symm]
    · rw [if_neg e, if_neg (fun q => e q.symm)]
theorem LSt.more {w w2 : World} {base g n cap : Nat} {vs : Nat → Value} {rows : Nat → List Int} (h : LSt w base g n cap vs rows) {o : Obj} {d : Nat} (hd : d < n) {v' : Value} {l : List Int}
    (h2 : w2.ownsRow base 3 1 v' l.length (intCells l)) (hg : (w.alloc o).grownBy w2 (vs d).ownBlock) (hor : v'.ownBlock = (vs d).ownBlock ∨ v'.ownBlock = some (w.alloc o).heap.size) :
    LSt (w2.setCell ⟨g, d, none⟩ v') base g n cap (fun j => if j = d then v' else vs j) (fun j => if j = d then l else rows j) := by
  have hsz : (w.alloc o).heap.size = w.heap.size + 1 := World.size_alloc _ _
  have hgl := (h.spine.lt g rfl).2
  have old : ∀ b, b < w.heap.size → some b ≠ (vs d).ownBlock → w2.heap[b]? = w.heap[b]? := fun b hb hne => by
    rw [hg.block b (by omega) hne, alloc_old _ _ _ hb]
  have vlt : ∀ j, j < n → ∀ b, (vs j).ownBlock = some b → b < w.heap.size := fun j hj b e => ((h.row j hj).lt b e).2
  have vg : v'.ownBlock ≠ some g := by
    rcases hor with e | e
    · rw [e]; exact h.apart d hd
    · rw [e]; intro q; injection q with q; omega
  have hsp : w2.ownsRow base 23 1 (.slice (some ⟨g, 0, none⟩) n cap) n ((List.range n).map vs) := own_same h.spine (fun b e => by
    injection e with e
    subst e
    exact old _ hgl (fun q => h.apart d hd q.symm))
  have hset : ∀ b, b ≠ g → (w2.setCell ⟨g, d, none⟩ v').heap[b]? = w2.heap[b]? := fun b hb => heap_set_other w2 g d v' b hb
  refine ⟨?_, fun j hj => ?_, fun j hj => ?_, fun i hi j hj hij b e => ?_⟩
  · have := (hsp.stored d v').1
    rw [map_set_range] at this
    exact this
  · by_cases q : j = d
    · subst q
      simp only [if_true]
      exact own_same h2 (fun b e => hset b (fun q => vg (by rw [e, q])))
    · simp only [if_neg q]
      refine own_same (h.row j hj) (fun b e => ?_)
      rw [hset b (fun r => h.apart j hj (by rw [e, r])), old b (vlt j hj b e) (fun r => h.ne j hj d hd q b e r.symm)]
  · by_cases q : j = d
    · simp only [if_pos q]; exact vg
    · simp only [if_neg q]; exact h.apart j hj
  · by_cases qi : i = d
    · have qj : ¬ j = d := fun q => hij (by omega)
      simp only [if_pos qi, if_neg qj] at e ⊢
      rcases hor with r | r
      · rw [r] at e
        exact h.ne d hd j hj (fun q => qj q.symm) b e
      · rw [r] at e
        injection e with e
        intro q
        have := vlt j hj b q
        omega
    · by_cases qj : j = d
      · simp only [if_neg qi, if_pos qj] at e ⊢
        rcases hor with r | r
        · rw [r]
          exact h.ne i hi d hd qi b e
        · rw [r]
          intro q
          injection q with q
          have := vlt i hi b e
          omega
      · simp only [if_neg qi, if_neg qj] at e ⊢
        exact h.ne i hi j hj hij b e
theorem LSt.congr {w : World} {base g n cap : Nat} {vs vs' : Nat → Value} {rows rows' : Nat → List Int} (h : LSt w base g n cap vs rows) (e1 : ∀ j, j < n → vs j = vs' j) (e2 : ∀ j, j < n → rows j = rows' j) : LSt w base g n cap vs' rows' := by
  refine ⟨?_, fun j hj => by rw [← e1 j hj, ← e2 j hj]; exact h.row j hj, fun j hj => by rw [← e1 j hj]; exact h.apart j hj, fun i hi j hj => by rw [← e1 i hi, ← e1 j hj]; exact h.ne i hi j hj⟩
  rw [List.map_congr_left (fun j hj => (e1 j (List.mem_range.1 hj)).symm)]
  exact h.spine
theorem LSt.lists {w : World} {base g n cap : Nat} {vs : Nat → Value} {rows : Nat → List Int} (h : LSt w base g n cap vs rows) (hn : n ≤ 9223372036854775807) : Lists w (some ⟨g, 0, none⟩) ((List.range n).map rows) :=
  ⟨by simpa using hn, fun j hj => by
    have hj' : j < n := by simpa using hj
    have e : ((List.range n).map rows).getD j [] = rows j := by
      simp [List.getD_eq_getElem?_getD, List.getElem?_map, List.getElem?_range hj']
    rw [e]
    obtain ⟨A, c, ev, hc, _⟩ := own_shape (h.row j hj')
    have hr := h.row j hj'
    have h1 := (h.cell j hj').1
    rw [ev] at hr h1
    exact ⟨g, 0, A, c, rfl, World.block_lt_of_cell? w _ h1, by rw [Nat.zero_add, h1], hc, Ints.own hr⟩⟩
end Go.Proofs.YtioekjkfhbopkaaDoor

/- The walks of dist.list, dist.Valid, dist.Total; strings.Trim at the digits 0 and 1. No condition. -/
namespace Go.Proofs.YtioekjkfhbopkaaDoor
open Go.RowKit Go.Deep Go.Proofs.YtioekjkfhbopkaaDoorW.PrintWords Go.Proofs.YtioekjkfhbopkaaDoorW.PrintMore
attribute [local go_sem] max2_int min2_int max_two min_two

/-- a sum that stands still beyond a bound -/
def sat (most t : Int) : Int := if most + 1 < t then most + 1 else t

set_option maxHeartbeats 2000000 in
theorem list_any (A : Option Addr) (l : List Int) (c : Nat) (most : Int) (hm : 0 ≤ most) (hm2 : most ≤ 1000000) (w : World) (a : Nat → Addr) (hE : Env [2, 3] w a) (hA : Ints w A l) :
    Calls Tryd.prog 55 #[.slice A l.length c, .int .i64 most] w fun e w' => e = .returned (errC a (wcode most l)) ∧ Below w.heap.size w w' := by
  have hlen := hA.len
  have x3 : w.cell? ⟨1, 0, none⟩ = some (.iface 160 (.pointer (some (a 3)))) := hE.cell 3 (by simp)
  have x2 : w.cell? ⟨0, 0, none⟩ = some (.iface 160 (.pointer (some (a 2)))) := hE.cell 2 (by simp)
  go_enter Tryd.func55, Tryd.ntmps55
  go_wp2_with (fail)
  go_loopw [5, 6, 11] (fun s t i wr => ∃ k : Nat, k ≤ l.length ∧ i = .int .i64 k ∧ s = .bool (anyPos (l.take k)) ∧ t = .int .i64 (sat most (l.take k).sum) ∧ Hid (anyNeg (l.take k) = false) ∧ Below w.heap.size w wr) (fun _ _ i _ => l.length - (intOf i).toNat)
  case atStart => exact ⟨0, Nat.zero_le _, rfl, rfl, by unfold sat; rw [List.take_zero, List.sum_nil, if_neg (by omega)], hide rfl, Below.refl _ _⟩
  case round =>
    obtain ⟨k, hk, rfl, rfl, rfl, HN, hB⟩ := hrel
    have y3 : wr.cell? ⟨1, 0, none⟩ = some (.iface 160 (.pointer (some (a 3)))) := (hB.cell (p := ⟨1, 0, none⟩) (hE.lt (c := 3) (by simp))).trans x3
    have y2 : wr.cell? ⟨0, 0, none⟩ = some (.iface 160 (.pointer (some (a 2)))) := (hB.cell (p := ⟨0, 0, none⟩) (hE.lt (c := 2) (by simp))).trans x2
    have h0 := sum_nonneg _ HN.out
    by_cases hlt : k < l.length
    · obtain ⟨b, off, rfl, _, dk⟩ := (hA.below hB).at_ k hlt
      have k0 : (0 : Int) ≤ (k : Int) := Int.natCast_nonneg _
      have k1 : (k : Int) < (l.length : Int) := by omega
      have hneg := fun h => wcode_neg most l k hlt h
      have hp' : anyPos (l.take (k + 1)) = (anyPos (l.take k) || decide (0 < l.getD k 0)) := any_take _ l k hlt
      have hn' : anyNeg (l.take (k + 1)) = (anyNeg (l.take k) || decide (l.getD k 0 < 0)) := any_take _ l k hlt
      have hs' := sum_take l k hlt
      rw [HN.out, Bool.false_or] at hn'
      generalize l.getD k 0 = x at dk hneg hp' hn' hs'
      have HNEG := hide hneg
      have HP := hide hp'
      have HN' := hide hn'
      have HS := hide hs'
      clear hneg hp' hn' hs'
      by_cases hx : x < 0
      · go_wp2_with (fail)
        go_ret
        exact ⟨by rw [HNEG.out hx]; rfl, hB⟩
      · have hsat : 0 ≤ sat most (l.take k).sum ∧ sat most (l.take k).sum ≤ most + 1 := by unfold sat; split <;> omega
        have hst : sat most ((l.take k).sum + x) = if most + 1 < sat most (l.take k).sum + (if most + 1 < x then most + 1 else x) then most + 1 else sat most (l.take k).sum + (if most + 1 < x then most + 1 else x) := by
          unfold sat
          by_cases e1 : most + 1 < (l.take k).sum <;> by_cases e2 : most + 1 < x <;> simp only [e1, e2, if_true, if_false] <;> (split <;> split <;> omega)
        have HST := hide hst
        clear hst
        generalize sat most (l.take k).sum = t0 at hsat HST ⊢
        generalize anyPos (l.take k) = s0 at HP ⊢
        have hsl := hsat.1
        have hsr := hsat.2
        clear hsat h0
        by_cases hpos : 0 < x
        · by_cases e2 : most + 1 < x
          · by_cases e3 : most + 1 < t0 + (most + 1)
            · cases s0
              all_goals
                go_wp2_with (fail)
                go_roundw
                case rel => exact ⟨k + 1, by omega, by go_num, by rw [HP.out, decide_eq_true hpos]; rfl, by rw [HS.out, HST.out, if_pos e2, if_pos e3], hide (by rw [HN'.out, decide_eq_false hx]), hB⟩
                case measure => simp [intOf]; omega
            · cases s0
              all_goals
                go_wp2_with (fail)
                go_roundw
                case rel => exact ⟨k + 1, by omega, by go_num, by rw [HP.out, decide_eq_true hpos]; rfl, by rw [HS.out, HST.out, if_pos e2, if_neg e3], hide (by rw [HN'.out, decide_eq_false hx]), hB⟩
                case measure => simp [intOf]; omega
          · by_cases e3 : most + 1 < t0 + x
            · cases s0
              all_goals
                go_wp2_with (fail)
                go_roundw
                case rel => exact ⟨k + 1, by omega, by go_num, by rw [HP.out, decide_eq_true hpos]; rfl, by rw [HS.out, HST.out, if_neg e2, if_pos e3], hide (by rw [HN'.out, decide_eq_false hx]), hB⟩
                case measure => simp [intOf]; omega
            · cases s0
              all_goals
                go_wp2_with (fail)
                go_roundw
                case rel => exact ⟨k + 1, by omega, by go_num, by rw [HP.out, decide_eq_true hpos]; rfl, by rw [HS.out, HST.out, if_neg e2, if_neg e3], hide (by rw [HN'.out, decide_eq_false hx]), hB⟩
                case measure => simp [intOf]; omega
        · obtain rfl : x = 0 := by omega
          have e2 : ¬ most + 1 < 0 := by omega
          have e3 : ¬ most + 1 < t0 + 0 := by omega
          have e4 : ¬ most + 1 < t0 := by omega
          cases s0
          all_goals
            go_wp2_with (fail)
            go_roundw
            case rel => exact ⟨k + 1, by omega, by go_num, by rw [HP.out]; rfl, by rw [HS.out, HST.out, if_neg e2, if_neg e3]; first | rfl | rw [Int.add_zero], hide (by rw [HN'.out]; rfl), hB⟩
            case measure => simp [intOf]; omega
    · obtain rfl : k = l.length := by omega
      have hend := wcode_end most l (anyPos l) (decide (most < l.sum)) (anyNeg_false l HN.out) rfl rfl
      rw [List.take_length] at h0 ⊢
      have hcmp : (most < sat most l.sum) = (most < l.sum) := by
        unfold sat
        split <;> simp <;> omega
      have HC := hide hcmp
      have HE := hide hend
      clear hend hcmp
      by_cases hpos : anyPos l = true
      · by_cases hgr : most < sat most l.sum
        · go_wp2_with (fail)
          go_ret
          rw [HE.out, hpos, decide_eq_true (by rw [← HC.out]; exact hgr)]
          exact ⟨rfl, hB⟩
        · go_wp2_with (fail)
          go_ret
          rw [HE.out, hpos, decide_eq_false (by rw [← HC.out]; omega)]
          exact ⟨rfl, hB⟩
      · have hpos' : anyPos l = false := by simpa using hpos
        go_wp2_with (fail)
        go_ret
        rw [HE.out, hpos']
        exact ⟨rfl, hB⟩

theorem distValid_any (A : Option Addr) (l : List Int) (c : Nat) (w : World) (a : Nat → Addr) (hE : Env [2, 3] w a) (hA : Ints w A l) :
    Calls Tryd.prog 36 #[.slice A l.length c] w fun e w' => e = .returned (errC a (wErr l)) ∧ Below w.heap.size w w' := by
  have hlen := hA.len
  have x2 : w.cell? ⟨0, 0, none⟩ = some (.iface 160 (.pointer (some (a 2)))) := hE.cell 2 (by simp)
  unfold wErr
  by_cases h : 16 < l.length
  · rw [if_pos h]
    go_enter Tryd.func36, Tryd.ntmps36
    go_wp2_with (fail)
    go_ret
    exact ⟨rfl, Below.refl _ _⟩
  · rw [if_neg h]
    have HL := hide (list_any A l c 4096 (by decide) (by decide) w a hE hA)
    go_enter Tryd.func36, Tryd.ntmps36
    go_wp2_with (go_at_call 55; refine HL.out.mono ?_; rintro e w1 ⟨rfl, hb1⟩)
    go_ret
    exact ⟨rfl, hb1⟩

theorem distTotal_ok (A : Option Addr) (l : List Int) (c : Nat) (w : World) (hA : Ints w A l) (hc : l.length ≤ c) (hg : GoodW l) :
    Calls Tryd.prog 63 #[.slice A l.length c] w fun e w' => e = .returned (.int .i64 l.sum) ∧ Below w.heap.size w w' := by
  obtain ⟨k, hk⟩ := (total_f hg).rounds
  refine (PSampleDraw.dist_Total.calls k A c l l.sum w hA.toC hc hk).mono ?_
  rintro e w' ⟨rfl, h⟩
  exact ⟨rfl, drawn_below h⟩
theorem dropWhile_all (p : UInt8 → Bool) (l : List UInt8) (h : l.all p = true) : l.dropWhile p = [] := by
  induction l with
  | nil => rfl
  | cons x r ih =>
    rw [List.all_cons, Bool.and_eq_true] at h
    rw [List.dropWhile_cons, if_pos h.1]
    exact ih h.2
theorem dropWhile_none {p : UInt8 → Bool} : ∀ (l : List UInt8), l.dropWhile p = [] → l.all p = true
  | [], _ => rfl
  | x :: r, h => by
    rw [List.dropWhile_cons] at h
    by_cases q : p x = true
    · rw [if_pos q] at h
      rw [List.all_cons, q, dropWhile_none r h]
      rfl
    · rw [if_neg q] at h
      cases h
theorem trimS_nil (l cs : List UInt8) : Lib.trimS l cs = [] ↔ l.all (cs.contains ·) = true := by
  unfold Lib.trimS Lib.trimLeftS Lib.trimRightS
  constructor
  · intro h
    have h1 := dropWhile_none _ h
    rw [List.all_reverse] at h1
    -- what is left of the reversed list begins with a byte that is none of them, unless it is empty
    cases hr : l.reverse.dropWhile (cs.contains ·) with
    | nil =>
      have := dropWhile_none _ hr
      rw [List.all_reverse] at this
      exact this
    | cons x r =>
      rw [hr, List.all_cons, Bool.and_eq_true] at h1
      have hx : cs.contains x = false := by
        have : ∀ (m : List UInt8), m.dropWhile (cs.contains ·) = x :: r → cs.contains x = false := by
          intro m
          induction m with
          | nil => intro e; cases e
          | cons y m ih =>
            intro e
            rw [List.dropWhile_cons] at e
            by_cases q : cs.contains y = true
            · rw [if_pos q] at e
              exact ih e
            · rw [if_neg q] at e
              injection e with e1 _
              rw [← e1]
              simpa using q
        exact this _ hr
      rw [hx] at h1
      cases h1.1
  · intro h
    rw [dropWhile_all _ l.reverse (by rw [List.all_reverse]; exact h)]
    rfl
theorem trim_bits (s : ByteArray) : (⟨(Lib.trimS s.data.toList [48, 49]).toArray⟩ : ByteArray) = ⟨#[]⟩ ↔ isBits s = true := by
  unfold isBits
  have e : s.data.toList.all ([48, 49].contains ·) = s.data.toList.all (fun b => b == 48 || b == 49) := by
    congr 1
    funext b
    simp [List.contains, List.elem]
    cases (b == 48) <;> cases (b == 49) <;> rfl
  rw [← e, ← trimS_nil]
  constructor
  · intro h
    injection h with h
    have := congrArg Array.toList h
    simpa using this
  · intro h
    rw [h]
theorem trim_ok (s : ByteArray) (w : World) (hs : s.size ≤ 9223372036854775807) :
    Calls Tryd.prog 37 #[.string s, .string ⟨#[48, 49]⟩] w fun e w' => ∃ t : ByteArray, e = .returned (.string t) ∧ (t = ⟨#[]⟩ ↔ isBits s = true) ∧ Below w.heap.size w w' := by
  refine (Any.strings_Trim_laid Tryd.lays160 (by kernel_rfl) s ⟨#[48, 49]⟩ w hs (by decide) (ascii_of_all (by decide))).mono ?_
  rintro e w' ⟨rfl, hb⟩
  exact ⟨_, rfl, trim_bits s, hb⟩
end Go.Proofs.YtioekjkfhbopkaaDoor

/- The walk of sample.leaves: the leaves of each depth. No condition. -/
namespace Go.Proofs.YtioekjkfhbopkaaDoor
open Go.RowKit Go.Deep Go.Proofs.YtioekjkfhbopkaaDoorW.PrintWords

/-- the leaves of each depth, as lists of whole numbers -/
def levels (W : List Int) : List (List Int) := (List.range (dep W + 1)).map fun d => leafTo (parts W) (dep W - d) (W.length + 1)
/-- all parts, in the program's words -/
def allI (W : List Int) : List Int := W ++ [((2 ^ dep W : Nat) : Int) - W.sum]
theorem allI_at {W : List Int} (h : GoodW W) (i : Nat) (hi : i < W.length + 1) : (allI W).getD i 0 = ((parts W).getD i 0 : Int) := by
  unfold allI
  by_cases e : i < W.length
  · rw [parts_at h i e, List.getD_eq_getElem?_getD, List.getElem?_append_left e, List.getD_eq_getElem?_getD]
  · obtain rfl : i = W.length := by omega
    rw [parts_last h, List.getD_eq_getElem?_getD, List.getElem?_append_right (Nat.le_refl _)]
    simp
theorem allI_len (W : List Int) : (allI W).length = W.length + 1 := by simp [allI]

/-- the rows, d of them whole, the next one up to the part i -/
def rowsAt (P : List Nat) (D n d i : Nat) (j : Nat) : List Int := if j < d then leafTo P (D - j) (n + 1) else if j = d then leafTo P (D - d) i else []
theorem rowsAt_start (P : List Nat) (D n j : Nat) : rowsAt P D n 0 0 j = [] := by
  unfold rowsAt
  rw [if_neg (by omega)]
  split
  · simp [leafTo]
  · rfl
theorem rowsAt_turn (P : List Nat) (D n d j : Nat) : rowsAt P D n d (n + 1) j = rowsAt P D n (d + 1) 0 j := by
  unfold rowsAt
  by_cases h1 : j < d
  · rw [if_pos h1, if_pos (by omega)]
  · rw [if_neg h1]
    by_cases h2 : j = d
    · subst h2
      rw [if_pos rfl, if_pos (by omega)]
    · rw [if_neg h2, if_neg (by omega)]
      split
      · simp [leafTo]
      · rfl
theorem rowsAt_same (P : List Nat) (D n d i : Nat) (h : ¬ bitAt (P.getD i 0) (D - d) = true) (j : Nat) : rowsAt P D n d i j = rowsAt P D n d (i + 1) j := by
  unfold rowsAt
  rw [leafTo_succ P (D - d) i, if_neg h]
theorem rowsAt_more (P : List Nat) (D n d i : Nat) (h : bitAt (P.getD i 0) (D - d) = true) (j : Nat) : (if j = d then rowsAt P D n d i d ++ [(i : Int)] else rowsAt P D n d i j) = rowsAt P D n d (i + 1) j := by
  unfold rowsAt
  rw [leafTo_succ P (D - d) i, if_pos h]
  by_cases e : j = d
  · subst e
    rw [if_pos rfl, if_neg (Nat.lt_irrefl _), if_pos rfl, if_neg (Nat.lt_irrefl _), if_pos rfl]
  · rw [if_neg e, if_neg e, if_neg e]
theorem bit_testI (x D d : Nat) : ((x : Int) / 2 ^ (D - d) % 2 == 1) = bitAt x (D - d) := by
  unfold bitAt
  rw [show (2 : Int) ^ (D - d) = ((2 ^ (D - d) : Nat) : Int) by simp, ← Int.natCast_ediv, Bool.eq_iff_iff, beq_iff_eq, decide_eq_true_iff]
  omega
theorem i64_and1 (n : Int) : bits .and .i64 n 1 = n % 2 := by
  have h1 : (BitVec.ofInt 64 1).toNat = 2 ^ 1 - 1 := by decide
  have key : (BitVec.ofInt 64 n &&& BitVec.ofInt 64 1).toNat = (n % ((2 ^ 64 : Nat) : Int)).toNat % 2 ^ 1 := by
    rw [BitVec.toNat_and, BitVec.toNat_ofInt, h1, Nat.and_two_pow_sub_one_eq_mod]
  show IntKind.i64.wrap ((BitVec.ofInt 64 n &&& BitVec.ofInt 64 1).toNat : Nat) = n % 2
  rw [key, IntKind.wrap_i64]
  omega
attribute [local go_sem] i64_and1
set_option maxRecDepth 100000 in
set_option maxHeartbeats 4000000 in
theorem leaves_ok (A : Option Addr) (W : List Int) (c : Nat) (w : World) (hA : Ints w A W) (hc : W.length ≤ c) (hg : GoodW W) :
    Calls Tryd.prog 38 #[.slice A W.length c] w fun e w' => ∃ B d, e = .returned (.slice B (levels W).length d) ∧ Lists w' B (levels W) ∧ (levels W).length ≤ d ∧ Below w.heap.size w w' := by
  have hln := hg.len
  have h0 : 0 < W.length := by
    rcases Nat.eq_zero_or_pos W.length with q | q
    · have := hg.pos
      rw [List.length_eq_zero_iff.1 q] at this
      simp at this
    · exact q
  have HT := hide (distTotal_ok A W c w hA hc hg)
  have HC := hide (fun w' (hb : Below w.heap.size w w') => clone_ok A W c w' (hA.below hb) h0 (by omega))
  have hs1 := hg.pos
  have hs2 := hg.le
  obtain ⟨hd1, hd2, hd3⟩ := dep_le hg
  have hpw : 2 ^ dep W ≤ 4096 := by
    have : (2 : Nat) ^ dep W ≤ 2 ^ 12 := Nat.pow_le_pow_right (by decide) hd3
    omega
  have hln2 : Lib.bitLen (W.sum - 1).toNat = dep W := rfl
  have HL := hide (fun w' => Tryd.bits_Len (W.sum - 1) w' (by omega) (by omega))
  rw [hln2] at HL
  have HLV := hide (show levels W = (List.range (dep W + 1)).map fun d => leafTo (parts W) (dep W - d) (W.length + 1) from rfl)
  have HALL := hide (fun i hi => allI_at hg i hi)
  have HPL := hide (fun i => parts_le hg i)
  have HAL := hide (show allI W = W ++ [((2 ^ dep W : Nat) : Int) - W.sum] from rfl)
  generalize allI W = aI at HALL HAL
  generalize dep W = D at *
  generalize levels W = LV at HLV ⊢
  generalize W.sum = S at *
  generalize parts W = P at *
  clear hln2
  go_enter Tryd.func38, Tryd.ntmps38
  go_wp2_with (first
    | (go_at_call 63; refine Calls.mono HT.out ?_; rintro e w1 ⟨rfl, hB1⟩)
    | (go_at_call 64; refine Calls.mono (HL.out w1) ?_; rintro e w2 ⟨rfl, hw2⟩; subst hw2))
  obtain ⟨q, hq⟩ : ∃ q : Int, q = ((2 ^ D : Nat) : Int) := ⟨_, rfl⟩
  obtain ⟨r, hr⟩ : ∃ r : Int, r = q - S := ⟨_, rfl⟩
  have f1 : IntKind.i64.wrap (2 ^ D) = q := by
    have e : (2 : Int) ^ D = ((2 ^ D : Nat) : Int) := by simp
    rw [e, hq]
    exact IntWalk.i64_in _ (by omega)
  have f2 : IntKind.i64.wrap (q - S) = r := by rw [hr]; exact IntWalk.i64_in _ (by omega)
  have HB1 := hide hB1
  have HR := hide hr
  have HQ := hide hq
  clear hr hq
  have HBY := hide (show (W.length + 1) * 8 ≤ 140737488355328 by omega)
  have HSZ := hide HB1.out.size
  have hn1 := HB1.out.drew
  have hn2 := fun o => (HB1.out.alloc HB1.out.size o).drew
  have HN1 := hide hn1
  have HN2 := hide hn2
  clear hn1 hn2
  go_region_held3 (fun _ => True)
    (first | go_keep | trivial)
    ((first
      | (go_at_call 65
         refine Calls.mono (HC.out _ (by first | exact HN1.out | exact HN2.out _)) ?_
         rintro e w3 ⟨gA, dA, rfl, hgA, hdA, hoA, b3⟩
         have hB3 : Below w.heap.size w w3 := below_trans (by first | exact HN1.out | exact HN2.out _) b3
         have hz3 := hB3.size
         have hx3 := own_weaken hoA (show w.heap.size ≤ _ by first | exact HN1.out.size | exact (HN2.out _).size))
      | (refine step_app_ints _ rfl _ _ rfl w.heap.size (.slice (some ⟨gA, 0, none⟩) W.length dA) W rfl (by first | exact hx3.alloc _ | exact hx3) _ 1 1 [r] rfl rfl (by first | exact ints_lit1 w3 r _ | exact (ints_lit1 w2 r _).below ((below_drewN' (Below.refl _ _) 1).trans b3)) HBY.out (by first | exact hz3 | (rw [World.size_alloc]; exact Nat.le_succ_of_le hz3)) ?_
         intro A5 c5 w5 hc5 ho5 hg5 hob5
         have hb5 : Below w.heap.size w w5 := by
           first
             | exact (hB3.alloc hz3 _).grown hg5 (by rw [World.size_alloc]; exact Nat.le_succ_of_le hz3) (fun j hj => (hx3.lt j hj).1)
             | exact hB3.grown hg5 hz3 (fun j hj => (hx3.lt j hj).1)
         clear hoA hx3 hg5 hob5 hgA hdA)
      | fail))
  all_goals
    have HI := hide (show Ints w5 A5 aI by rw [HAL.out, ← HQ.out, ← HR.out]; exact Ints.own ho5)
    have HLEN := hide (show aI.length = W.length + 1 by rw [HAL.out]; simp)
    clear ho5 f1 f2 hB3 hz3 b3
    go_wp2_with (at_make; refine wp_make_rows _ rfl _ _ rfl .i64 .i64 (D + 1) rfl rfl (by omega) w5.heap.size (Nat.le_refl _) ?_; intro w6 ho6 hg6)
    have HS0 := hide (LSt.start ho6)
    have HB6 := hide ((Below.refl w5.heap.size w5).grown hg6 (Nat.le_refl _) (fun j hj => by cases hj))
    clear ho6 hg6
    go_loopw [29] (fun iv wr => ∃ d : Nat, d ≤ D + 1 ∧ iv = .int .i64 d ∧ Hid (∃ vs, LSt wr w5.heap.size w5.heap.size (D + 1) (D + 1) vs (rowsAt P D W.length d 0)) ∧ Hid (Below w5.heap.size w5 wr)) (fun iv _ => D + 1 - (intOf iv).toNat)
    case atStart => exact ⟨0, Nat.zero_le _, rfl, hide ⟨_, HS0.out.congr (fun _ _ => rfl) (fun j hj => (rowsAt_start P D W.length j).symm)⟩, HB6⟩
    case round =>
      obtain ⟨d, hd, rfl, HS, HB⟩ := hrel
      obtain ⟨wi, rfl⟩ : ∃ wi : World, wi = wr := ⟨_, rfl⟩
      have d0 : (0 : Int) ≤ (d : Int) := Int.natCast_nonneg _
      by_cases hdl : d < D + 1
      · have d1 : (d : Int) < (D : Int) + 1 := by omega
        go_wp2_with (fail)
        go_loopw [34] (fun iv wr => ∃ i : Nat, i ≤ W.length + 1 ∧ iv = .int .i64 i ∧ Hid (∃ vs, LSt wr w5.heap.size w5.heap.size (D + 1) (D + 1) vs (rowsAt P D W.length d i)) ∧ Hid (Below w5.heap.size w5 wr)) (fun iv _ => W.length + 1 - (intOf iv).toNat)
        case atStart => exact ⟨0, Nat.zero_le _, rfl, HS, HB⟩
        case round =>
          obtain ⟨i, hi, rfl, HS9, HB9⟩ := hrel
          obtain ⟨wk, rfl⟩ : ∃ wk : World, wk = wr := ⟨_, rfl⟩
          have i0 : (0 : Int) ≤ (i : Int) := Int.natCast_nonneg _
          by_cases hil : i < W.length + 1
          · have i1 : (i : Int) < (W.length : Int) + 1 := by omega
            obtain ⟨b, off, rfl, hbl, hcell⟩ := (HI.out.below HB9.out).at_ i (by rw [HLEN.out]; exact hil)
            rw [HALL.out i hil] at hcell
            have hx4 := HPL.out i
            obtain ⟨vs, hLS⟩ := HS9.out
            obtain ⟨hc1, hf1⟩ := hLS.cell d hdl
            have hrow := hLS.row d hdl
            have hlt4 := leafTo_len P (D - d) i
            have hrd : rowsAt P D W.length d i d = leafTo P (D - d) i := by unfold rowsAt; rw [if_neg (Nat.lt_irrefl _), if_pos rfl]
            obtain ⟨A8, c8, hv8, hc8, _⟩ := own_shape hrow
            by_cases hbit : bitAt (P.getD i 0) (D - d) = true
            · have HMR := hide (rowsAt_more P D W.length d i hbit)
              have hz := bit_testI (P.getD i 0) D d
              rw [hbit] at hz
              generalize P.getD i 0 = x at hcell hx4 hz
              have HLS := hide hLS
              have hkeep := fun (o : Obj) (W' : World) (hg : (wk.alloc o).grownBy W' (vs d).ownBlock) => (show W'.heap[w5.heap.size]? = wk.heap[w5.heap.size]? from by
                have hgl := (HLS.out.spine.lt w5.heap.size rfl).2
                rw [hg.block w5.heap.size (by rw [World.size_alloc]; omega) (fun q => HLS.out.apart d hdl q.symm), alloc_old _ _ _ hgl])
              have hmore := fun (o : Obj) (W' : World) (v' : Value) (l : List Int) (g1 : W'.ownsRow w5.heap.size 3 1 v' l.length (intCells l)) (g2 : (wk.alloc o).grownBy W' (vs d).ownBlock) (g3 : v'.ownBlock = (vs d).ownBlock ∨ v'.ownBlock = some (wk.alloc o).heap.size) => HLS.out.more hdl g1 g2 g3
              have hown : ∀ o, (wk.alloc o).ownsRow w5.heap.size 3 1 (vs d) (rowsAt P D W.length d i d).length (intCells (rowsAt P D W.length d i d)) := fun o => hrow.alloc o
              have hro : (rowsAt P D W.length d i d).length ≤ 17 := by rw [hrd]; omega
              rw [hv8] at hc1 hkeep hmore hown
              generalize rowsAt P D W.length d i d = ro at hc1 hkeep hmore hown hro HMR hc8
              have hby : (ro.length + 1) * 8 ≤ 140737488355328 := by omega
              have HKEEP := hide hkeep
              have HMORE := hide hmore
              have HOWN := hide hown
              have HBY2 := hide hby
              have HC1 := hide hc1
              have HF1 := hide hf1
              have hsk : w5.heap.size ≤ wk.heap.size := HB9.out.size
              have HSK := hide (fun o => (show w5.heap.size ≤ (wk.alloc o).heap.size by rw [World.size_alloc]; exact Nat.le_succ_of_le hsk))
              have hbg := fun (o : Obj) (W' : World) (hg : (wk.alloc o).grownBy W' (Value.slice A8 ro.length c8).ownBlock) => ((HB9.out.alloc hsk o).grown hg (HSK.out o) (fun j hj => ((HOWN.out o).lt j hj).1))
              have HBG := hide hbg
              clear hLS hrow hbit hkeep hmore hown hby hsk hv8 hrd hbg hlt4
              go_wp2_with (at_builtin; refine wp_app_ints _ rfl _ _ rfl w5.heap.size (.slice A8 ro.length c8) ro rfl (HOWN.out _) _ 1 1 [(i : Int)] rfl rfl (ints_lit1 wk _ _) HBY2.out (HSK.out _) ?_; intro A12 c12 w12 hc12 ho12 hg12 hob12; have y12 := (World.cell?_of_block (a := ⟨w5.heap.size, d, none⟩) (HKEEP.out _ _ hg12)).trans HC1.out; have z12 := (World.frozen?_of_block (a := ⟨w5.heap.size, d, none⟩) (HKEEP.out _ _ hg12)).trans HF1.out)
              go_roundw
              case rel =>
                have hfin := (HMORE.out _ _ _ _ ho12 hg12 hob12).congr (fun _ _ => rfl) (fun j _ => HMR.out j)
                have hbel := (HBG.out _ _ hg12).setCell (p := ⟨w5.heap.size, d, none⟩) (Nat.le_refl _) (.slice A12 (ro ++ [(i : Int)]).length c12)
                rw [show (ro ++ [(i : Int)]).length = ro.length + 1 by simp] at hfin hbel
                exact ⟨i + 1, by omega, by go_num, hide ⟨_, hfin⟩, hide hbel⟩
              case measure => simp [intOf]; omega
            · have hz := bit_testI (P.getD i 0) D d
              rw [show bitAt (P.getD i 0) (D - d) = false by simpa using hbit] at hz
              have HSM := hide (fun j => rowsAt_same P D W.length d i hbit j)
              generalize P.getD i 0 = x at hcell hx4 hz
              have HLS := hide hLS
              clear hLS hrow hbit hc1 hf1 hv8 hc8
              go_wp2_with (fail)
              go_roundw
              case rel => exact ⟨i + 1, by omega, by go_num, hide ⟨vs, HLS.out.congr (fun _ _ => rfl) (fun j _ => HSM.out j)⟩, HB9⟩
              case measure => simp [intOf]; omega
          · obtain rfl : i = W.length + 1 := by omega
            go_wp2_with (fail)
            go_roundw
            case rel => exact ⟨d + 1, by omega, by go_num, by
              obtain ⟨vs, hLS⟩ := HS9.out
              exact hide ⟨vs, hLS.congr (fun _ _ => rfl) (fun j _ => rowsAt_turn P D W.length d j)⟩, HB9⟩
            case measure => simp [intOf]; omega
      · obtain rfl : d = D + 1 := by omega
        go_wp2_with (fail)
        go_ret
        obtain ⟨vs, hLS⟩ := HS.out
        have e : LV = (List.range (D + 1)).map (rowsAt P D W.length (D + 1) 0) := by
          rw [HLV.out]
          refine List.map_congr_left (fun j hj => ?_)
          have := List.mem_range.1 hj
          unfold rowsAt
          rw [if_pos (by omega)]
        have hl := hLS.lists (by omega)
        rw [← e] at hl
        exact ⟨some ⟨w5.heap.size, 0, none⟩, D + 1, by rw [e]; simp, hl, by rw [e]; simp, below_trans hb5 HB.out⟩
end Go.Proofs.YtioekjkfhbopkaaDoor

/- The walks of errors.Is and errors.As at the errors of this program: a sentinel (a pointer to an errors.errorString) and a *api.Fault (after the kit's worked Sentry and Toyas). Condition: the variables read as laid. -/
namespace Go.Proofs.YtioekjkfhbopkaaDoor
open Go.RowKit Go.Deep Go.Extern.Stop Go.Stop Go.Extern

/-- the sentinels of the codes S: their cells, their blocks, none twice -/
structure Sent (S : List Nat) (w : World) (a : Nat → Addr) : Prop extends Env S w a where
  blk : ∀ c, c ∈ S → ∃ ca ta, w.heap[(a c).block]? = some (.cells ca ta (0, 0))
  inj : ∀ c, c ∈ S → ∀ d, d ∈ S → a c = a d → c = d
theorem Sent.lt {S : List Nat} {w : World} {a : Nat → Addr} (h : Sent S w a) {c : Nat} (hc : c ∈ S) : (a c).block < w.heap.size := by
  obtain ⟨ca, ta, hb⟩ := h.blk c hc
  exact (Array.getElem?_eq_some_iff.1 hb).1
theorem Sent.below {S : List Nat} {w w' : World} {a : Nat → Addr} (h : Sent S w a) (hb : Below w.heap.size w w') : Sent S w' a :=
  ⟨h.toEnv.below hb, fun c hc => by
    obtain ⟨ca, ta, hx⟩ := h.blk c hc
    exact ⟨ca, ta, (hb.block _ (h.lt hc)).trans hx⟩, h.inj⟩
/-- the handle of the type error -/
def Handle (w : World) : Prop := w.cell? ⟨8, 0, none⟩ = some (.iface 138 (.agg #[.pointer (some ⟨12, 27, none⟩)]))
theorem Handle.below {w w' : World} (h : Handle w) (hb : Below w.heap.size w w') : Handle w' :=
  (hb.cell (p := ⟨8, 0, none⟩) (World.block_lt_of_cell? w _ h)).trans h

/-! ### errors.Is -/
theorem is_typeOf (v : Value) (w : World) : (Extern.ReflectliteType.typeOf #[.iface 160 v]).run Tryd.prog w = .ok (.iface 138 (.agg #[.pointer (some ⟨12, 160, none⟩)])) w := by kernel_rfl
/-- the model's own entry for (rtype).Comparable, behind a name -/
def compExt : TypeId → Sem Value := fun t => do Rtype.noPackHeld "Comparable" t; pure (.bool (← typeInfo t).comparable)
theorem is_comparable (w : World) : (Extern.ReflectliteType.method compExt #[.agg #[.pointer (some ⟨12, 160, none⟩)]]).run Tryd.prog w = .ok (.bool true) w := by kernel_rfl
theorem is_methodComparable (v : Value) (w : World) : (Go.method 299 138 v "Comparable").run Tryd.prog w = .ok (125, v) w := by kernel_rfl
theorem is_comp : (Tryd.prog.info? 160).map (·.comparable) = some true := by kernel_rfl
theorem is_size : (Tryd.prog.info? 183).map (·.size) = some 1 := by kernel_rfl
theorem no_is_E (v : Value) (xT : TypeId) (w : World) : (Instr.typeAssert (.iface 160 v) xT 149 true).run Tryd.prog w = .ok (.tuple #[.nilIface, .bool false]) w := run_typeAssert_lacksB Tryd.underlying149 (by kernel_rfl) (by kernel_rfl) v xT w
theorem no_unwrap_E (v : Value) (xT : TypeId) (w : World) : (Instr.typeAssert (.iface 160 v) xT 145 true).run Tryd.prog w = .ok (.tuple #[.nilIface, .bool false]) w := run_typeAssert_lacksB Tryd.underlying145 (by kernel_rfl) (by kernel_rfl) v xT w
theorem no_unwraps_E (v : Value) (xT : TypeId) (w : World) : (Instr.typeAssert (.iface 160 v) xT 147 true).run Tryd.prog w = .ok (.tuple #[.nilIface, .bool false]) w := run_typeAssert_lacksB Tryd.underlying147 (by kernel_rfl) (by kernel_rfl) v xT w
theorem no_is_F (v : Value) (xT : TypeId) (w : World) : (Instr.typeAssert (.iface 67 v) xT 149 true).run Tryd.prog w = .ok (.tuple #[.nilIface, .bool false]) w := run_typeAssert_lacksB Tryd.underlying149 (by kernel_rfl) (by kernel_rfl) v xT w
theorem has_unwrap_F (v : Value) (xT : TypeId) (w : World) : (Instr.typeAssert (.iface 67 v) xT 145 true).run Tryd.prog w = .ok (.tuple #[.iface 67 v, .bool true]) w := run_typeAssert_hasB Tryd.underlying145 (by kernel_rfl) v xT w
theorem method_unwrap_F (v : Value) (w : World) : (Go.method 299 67 v "Unwrap").run Tryd.prog w = .ok (119, v) w := by kernel_rfl

set_option maxHeartbeats 1000000 in
theorem is_same (a : Addr) (w : World) :
    Calls Tryd.prog 67 #[.iface 160 (.pointer (some a)), .iface 160 (.pointer (some a))] w fun e w' => e = .returned (.bool true) ∧ w' = w := by
  obtain ⟨i, hi, hcmp⟩ := Option.map_eq_some_iff.1 is_comp
  obtain ⟨j, hj, hjs⟩ := Option.map_eq_some_iff.1 is_size
  have h8 := @run_callFunc_extern Tryd.prog 87 _ Extern.ReflectliteType.typeOf Tryd.func87 (by kernel_rfl) (by kernel_rfl) (by kernel_rfl) (by kernel_rfl)
  have h32 := @run_callFunc_extern Tryd.prog 125 _ (Extern.ReflectliteType.method compExt) Tryd.func125 (by kernel_rfl) (by kernel_rfl) (by kernel_rfl) (by kernel_rfl)
  have tT := is_typeOf
  have cT := is_comparable
  have mR := is_methodComparable
  have heq := run_eql_iface_ptr_same (P := Tryd.prog) w a Tryd.underlying27 Tryd.underlying160 hi hcmp hj
  clear hi hcmp hj hjs
  go_enter Tryd.func67, Tryd.ntmps67
  go_wp2
  refine wp_loop_rounds 1 ?_
  rw [rounds_succ]
  go_wp2
  go_ret
  exact ⟨rfl, rfl⟩

set_option maxHeartbeats 1000000 in
theorem is_other (a b : Addr) (ca cb : Array Value) (ta tb : TypeId) (w : World) (hne : a ≠ b) (ha : w.heap[a.block]? = some (.cells ca ta (0, 0))) (hb : w.heap[b.block]? = some (.cells cb tb (0, 0))) :
    Calls Tryd.prog 67 #[.iface 160 (.pointer (some a)), .iface 160 (.pointer (some b))] w fun e w' => e = .returned (.bool false) ∧ w' = w := by
  obtain ⟨i, hi, hcmp⟩ := Option.map_eq_some_iff.1 is_comp
  obtain ⟨j, hj, hjs⟩ := Option.map_eq_some_iff.1 is_size
  have h8 := @run_callFunc_extern Tryd.prog 87 _ Extern.ReflectliteType.typeOf Tryd.func87 (by kernel_rfl) (by kernel_rfl) (by kernel_rfl) (by kernel_rfl)
  have h32 := @run_callFunc_extern Tryd.prog 125 _ (Extern.ReflectliteType.method compExt) Tryd.func125 (by kernel_rfl) (by kernel_rfl) (by kernel_rfl) (by kernel_rfl)
  have tT := is_typeOf
  have cT := is_comparable
  have mR := is_methodComparable
  have nE := no_is_E
  have uE := no_unwrap_E
  have vE := no_unwraps_E
  have heq := run_eql_iface_ptr_other (P := Tryd.prog) w Tryd.underlying27 Tryd.underlying160 hi hcmp hj (by rw [hjs]; decide) hne ha hb
  clear hi hcmp hj hjs
  go_enter Tryd.func67, Tryd.ntmps67
  go_wp2
  refine wp_loop_rounds 1 ?_
  rw [rounds_succ]
  go_wp2
  go_ret
  exact ⟨rfl, rfl⟩

/-- errors.Is between sentinels -/
theorem is_sent {S : List Nat} (w : World) (a : Nat → Addr) (h : Sent S w a) (c d : Nat) (hc : c ∈ S) (hd : d ∈ S) :
    Calls Tryd.prog 67 #[.iface 160 (.pointer (some (a c))), .iface 160 (.pointer (some (a d)))] w fun e w' => e = .returned (.bool (decide (c = d))) ∧ w' = w := by
  by_cases e : c = d
  · subst e
    rw [decide_eq_true rfl]
    exact is_same (a c) w
  · rw [decide_eq_false e]
    obtain ⟨ca, ta, ha⟩ := h.blk c hc
    obtain ⟨cb, tb, hb⟩ := h.blk d hd
    exact is_other (a c) (a d) ca cb ta tb w (fun x => e (h.inj c hc d hd x)) ha hb

set_option maxHeartbeats 1000000 in
theorem is_fault_same (pb po : Nat) (b : Addr) (w : World) (h1 : w.cell? ⟨pb, po + 1, none⟩ = some (.iface 160 (.pointer (some b)))) :
    Calls Tryd.prog 67 #[.iface 67 (.pointer (some ⟨pb, po, none⟩)), .iface 160 (.pointer (some b))] w fun e w' => e = .returned (.bool true) ∧ w' = w := by
  obtain ⟨i, hi, hcmp⟩ := Option.map_eq_some_iff.1 is_comp
  obtain ⟨j, hj, hjs⟩ := Option.map_eq_some_iff.1 is_size
  have h8 := @run_callFunc_extern Tryd.prog 87 _ Extern.ReflectliteType.typeOf Tryd.func87 (by kernel_rfl) (by kernel_rfl) (by kernel_rfl) (by kernel_rfl)
  have h32 := @run_callFunc_extern Tryd.prog 125 _ (Extern.ReflectliteType.method compExt) Tryd.func125 (by kernel_rfl) (by kernel_rfl) (by kernel_rfl) (by kernel_rfl)
  have tT := is_typeOf
  have cT := is_comparable
  have mR := is_methodComparable
  have nE := no_is_E
  have uE := no_unwrap_E
  have vE := no_unwraps_E
  have nW := no_is_F
  have uW := has_unwrap_F
  have mU := method_unwrap_F
  have heq := run_eql_iface_ptr_same (P := Tryd.prog) w b Tryd.underlying27 Tryd.underlying160 hi hcmp hj
  have hty := run_eql_iface_types (P := Tryd.prog) 67 160 (.pointer (some ⟨pb, po, none⟩)) (.pointer (some b)) Tryd.underlying27 (by decide) w
  clear hi hcmp hj hjs
  go_enter Tryd.func67, Tryd.ntmps67
  go_wp2
  refine wp_loop_rounds 2 ?_
  rw [rounds_succ]
  go_wp2
  rw [rounds_succ]
  go_wp2
  go_ret
  exact ⟨rfl, rfl⟩

set_option maxHeartbeats 1000000 in
theorem is_fault_other (pb po : Nat) (b a : Addr) (ca cb : Array Value) (ta tb : TypeId) (w : World) (h1 : w.cell? ⟨pb, po + 1, none⟩ = some (.iface 160 (.pointer (some a)))) (hne : a ≠ b) (ha : w.heap[a.block]? = some (.cells ca ta (0, 0))) (hb : w.heap[b.block]? = some (.cells cb tb (0, 0))) :
    Calls Tryd.prog 67 #[.iface 67 (.pointer (some ⟨pb, po, none⟩)), .iface 160 (.pointer (some b))] w fun e w' => e = .returned (.bool false) ∧ w' = w := by
  obtain ⟨i, hi, hcmp⟩ := Option.map_eq_some_iff.1 is_comp
  obtain ⟨j, hj, hjs⟩ := Option.map_eq_some_iff.1 is_size
  have h8 := @run_callFunc_extern Tryd.prog 87 _ Extern.ReflectliteType.typeOf Tryd.func87 (by kernel_rfl) (by kernel_rfl) (by kernel_rfl) (by kernel_rfl)
  have h32 := @run_callFunc_extern Tryd.prog 125 _ (Extern.ReflectliteType.method compExt) Tryd.func125 (by kernel_rfl) (by kernel_rfl) (by kernel_rfl) (by kernel_rfl)
  have tT := is_typeOf
  have cT := is_comparable
  have mR := is_methodComparable
  have nE := no_is_E
  have uE := no_unwrap_E
  have vE := no_unwraps_E
  have nW := no_is_F
  have uW := has_unwrap_F
  have mU := method_unwrap_F
  have heq := run_eql_iface_ptr_other (P := Tryd.prog) w Tryd.underlying27 Tryd.underlying160 hi hcmp hj (by rw [hjs]; decide) hne ha hb
  have hty := run_eql_iface_types (P := Tryd.prog) 67 160 (.pointer (some ⟨pb, po, none⟩)) (.pointer (some b)) Tryd.underlying27 (by decide) w
  clear hi hcmp hj hjs
  go_enter Tryd.func67, Tryd.ntmps67
  go_wp2
  refine wp_loop_rounds 2 ?_
  rw [rounds_succ]
  go_wp2
  rw [rounds_succ]
  go_wp2
  go_ret
  exact ⟨rfl, rfl⟩

/-- errors.Is of a fault whose error is a sentinel -/
theorem is_fault {S : List Nat} (w : World) (a : Nat → Addr) (h : Sent S w a) (pb po : Nat) (c d : Nat) (hc : c ∈ S) (hd : d ∈ S) (h1 : w.cell? ⟨pb, po + 1, none⟩ = some (.iface 160 (.pointer (some (a c))))) :
    Calls Tryd.prog 67 #[.iface 67 (.pointer (some ⟨pb, po, none⟩)), .iface 160 (.pointer (some (a d)))] w fun e w' => e = .returned (.bool (decide (c = d))) ∧ w' = w := by
  by_cases e : c = d
  · subst e
    rw [decide_eq_true rfl]
    exact is_fault_same pb po (a c) w h1
  · rw [decide_eq_false e]
    obtain ⟨ca, ta, ha⟩ := h.blk c hc
    obtain ⟨cb, tb, hb⟩ := h.blk d hd
    exact is_fault_other pb po (a d) (a c) ca cb ta tb w h1 (fun x => e (h.inj c hc d hd x)) ha hb
end Go.Proofs.YtioekjkfhbopkaaDoor
