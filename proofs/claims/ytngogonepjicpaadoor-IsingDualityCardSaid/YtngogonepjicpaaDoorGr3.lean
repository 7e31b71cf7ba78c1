/- The walks of ising's closures: a face (bonds$1), a pair put (Grid$1, Faces$1). No condition. -/
import Derived.Test.YtngogonepjicpaaDoorGr1
namespace Go.Proofs.YtngogonepjicpaaDoor
open Go.RowKit Go.Deep

theorem face_ok (h L : Nat) (c r : Int) (w : World) (BL BH BO : Nat) (hh : 1 ≤ h) (hh1 : h ≤ 100) (hL : 1 ≤ L) (hL1 : L ≤ 100) (hc : -1 ≤ c) (hc1 : c ≤ 100) (hr : -1 ≤ r) (hr1 : r ≤ 100)
    (x1 : w.cell? ⟨BL, 0, none⟩ = some (.int .i64 L)) (x0 : w.cell? ⟨BH, 0, none⟩ = some (.int .i64 h)) (x2 : w.cell? ⟨BO, 0, none⟩ = some (.int .i64 (((h : Int) - 1) * ((L : Int) - 1)))) :
    Calls Tryd.prog 62 #[.int .i64 c, .int .i64 r, .pointer (some ⟨BL, 0, none⟩), .pointer (some ⟨BH, 0, none⟩), .pointer (some ⟨BO, 0, none⟩)] w fun e w' => e = .returned (.int .i64 (faceOf h L c r)) ∧ w = w' := by
  by_cases h1 : c < 0
  · have hf : faceOf h L c r = ((h : Int) - 1) * ((L : Int) - 1) := by unfold faceOf; rw [if_pos (by omega)]
    rw [hf]
    generalize ((h : Int) - 1) * ((L : Int) - 1) = Q at *
    clear hf
    go_enter Tryd.func62, Tryd.ntmps62
    go_wp2_with (fail)
    go_ret
    exact ⟨rfl, rfl⟩
  by_cases h2 : r < 0
  · have hf : faceOf h L c r = ((h : Int) - 1) * ((L : Int) - 1) := by unfold faceOf; rw [if_pos (by omega)]
    rw [hf]
    generalize ((h : Int) - 1) * ((L : Int) - 1) = Q at *
    clear hf
    go_enter Tryd.func62, Tryd.ntmps62
    go_wp2_with (fail)
    go_ret
    exact ⟨rfl, rfl⟩
  by_cases h3 : (L : Int) - 1 ≤ c
  · have hf : faceOf h L c r = ((h : Int) - 1) * ((L : Int) - 1) := by unfold faceOf; rw [if_pos (by omega)]
    rw [hf]
    generalize ((h : Int) - 1) * ((L : Int) - 1) = Q at *
    clear hf
    go_enter Tryd.func62, Tryd.ntmps62
    go_wp2_with (fail)
    go_ret
    exact ⟨rfl, rfl⟩
  by_cases h4 : (h : Int) - 1 ≤ r
  · have hf : faceOf h L c r = ((h : Int) - 1) * ((L : Int) - 1) := by unfold faceOf; rw [if_pos (by omega)]
    rw [hf]
    generalize ((h : Int) - 1) * ((L : Int) - 1) = Q at *
    clear hf
    go_enter Tryd.func62, Tryd.ntmps62
    go_wp2_with (fail)
    go_ret
    exact ⟨rfl, rfl⟩
  have hf : faceOf h L c r = c * ((h : Int) - 1) + r := by unfold faceOf; rw [if_neg (by omega)]
  obtain ⟨q, hq, hq'⟩ := prod_small (a := c) (b := (h : Int) - 1) (m := 100) (n := 100) (by omega) (by omega) (by omega) (by omega)
  rw [hf, hq]
  generalize ((h : Int) - 1) * ((L : Int) - 1) = Q at *
  clear hf
  go_enter Tryd.func62, Tryd.ntmps62
  go_wp2_with (fail)
  go_ret
  exact ⟨rfl, rfl⟩

/-- since W1: the system at Bs has n spins, its bonds read as l and lie in memory newer than W1; nothing else that W1 has is turned -/
structure PutInv (W1 w : World) (Bs : Nat) (n : Int) (l : List (Int × Int)) : Prop where
  ex : ∃ A c, w.heap[Bs]? = some (.cells #[.int .i64 n, .slice A l.length c] 35 (0, 0)) ∧ w.ownsRow W1.heap.size 64 2 (.slice A l.length c) l.length (pairCells l)
  grown : W1.grownBy w (some Bs)
  lt : Bs < W1.heap.size
theorem grown_past {W w w1 : World} {B : Nat} {row : Option Nat} (h : W.grownBy w (some B)) (hg : w.grownBy w1 row) (hr : ∀ k, row = some k → W.heap.size ≤ k) : W.grownBy w1 (some B) :=
  ⟨hg.os.trans h.os, hg.tape.trans h.tape, hg.output.trans h.output, Nat.le_trans h.size hg.size, fun k hk hne =>
    (hg.block k (Nat.lt_of_lt_of_le hk h.size) (fun e => by have := hr k e.symm; omega)).trans (h.block k hk hne)⟩
theorem PutInv.drewN {W1 w : World} {Bs : Nat} {n : Int} {l : List (Int × Int)} (h : PutInv W1 w Bs n l) (k : Nat) : PutInv W1 (w.drewN k) Bs n l :=
  ⟨h.ex, ⟨h.grown.os, h.grown.tape, h.grown.output, h.grown.size, h.grown.block⟩, h.lt⟩
theorem PutInv.drew {W1 w : World} {Bs : Nat} {n : Int} {l : List (Int × Int)} (h : PutInv W1 w Bs n l) : PutInv W1 w.drew Bs n l :=
  ⟨h.ex, ⟨h.grown.os, h.grown.tape, h.grown.output, h.grown.size, h.grown.block⟩, h.lt⟩
theorem PutInv.cell {W1 w : World} {Bs : Nat} {n : Int} {l : List (Int × Int)} (h : PutInv W1 w Bs n l) {b : Nat} (hb : b < W1.heap.size) (hne : b ≠ Bs) (o : Nat) : w.cell? ⟨b, o, none⟩ = W1.cell? ⟨b, o, none⟩ :=
  World.cell?_of_block (h.grown.block b hb (by simp [hne]))
theorem two_cells {w : World} {b : Nat} {u v : Value} {t : TypeId} (h : w.heap[b]? = some (.cells #[u, v] t (0, 0))) : w.cell? ⟨b, 0, none⟩ = some u ∧ w.cell? ⟨b, 1, none⟩ = some v ∧ w.frozen? ⟨b, 0, none⟩ = false ∧ w.frozen? ⟨b, 1, none⟩ = false := by
  refine ⟨?_, ?_, ?_, ?_⟩ <;> simp [World.cell?, World.frozen?, h]
theorem two_set {w : World} {b : Nat} {u v v' : Value} {t : TypeId} (h : w.heap[b]? = some (.cells #[u, v] t (0, 0))) : (w.setCell ⟨b, 1, none⟩ v').heap[b]? = some (.cells #[u, v'] t (0, 0)) := by
  obtain ⟨hlt, hk⟩ := Array.getElem?_eq_some_iff.1 h
  show (w.heap.modify b _)[b]? = _
  rw [Array.getElem?_eq_getElem (by rw [Array.size_modify]; exact hlt), Array.getElem_modify_self, hk]
  rfl

set_option maxHeartbeats 1000000 in
theorem putGrid_ok (W1 w : World) (Bs : Nat) (n : Int) (l : List (Int × Int)) (a b c d : Int) (h : PutInv W1 w Bs n l) (hl : l.length ≤ 100000) :
    Calls Tryd.prog 49 #[.int .i64 a, .int .i64 b, .int .i64 c, .int .i64 d, .pointer (some ⟨Bs, 0, none⟩)] w fun e w' => e = .returned (.tuple #[]) ∧ PutInv W1 w' Bs n (l ++ [(a, b)]) := by
  obtain ⟨A0, c0, hB, hrow⟩ := h.ex
  obtain ⟨x0, x1, x2, x3⟩ := two_cells hB
  have hlt := Array.getElem?_eq_some_iff.1 hB |>.1
  have hsz := h.grown.size
  have hBs := h.lt
  have hown := hrow.lt
  have hrow' : (w.alloc (.cells #[.int .i64 a, .int .i64 b] 64)).ownsRow W1.heap.size 64 2 (.slice A0 l.length c0) l.length (pairCells l) := by
    refine hrow.kept (row := some w.heap.size) (World.grownBy_alloc w _ (some w.heap.size)) ?_
    cases e : (Value.slice A0 l.length c0).ownBlock with
    | none => exact .inl rfl
    | some k => refine .inr ?_; have := hown k e; intro e2; injection e2 with e2; omega
  go_enter Tryd.func49, Tryd.ntmps49
  go_wp2_with
    (at_builtin
     refine wp_app_pairs _ rfl (.tmp 10) (.tmp 14) rfl W1.heap.size (.slice A0 l.length c0) l rfl hrow' (some ⟨w.heap.size, 0, none⟩) 1 1 [(a, b)] rfl rfl (pair_one (by simp) (cell_new0 _ _ _ _) (cell_new1 _ _ _ _)) (by omega) (by simp; omega) ?_
     intro A1 c1 w1 hc1 hr1 hg1 _
     have hB1 : w1.heap[Bs]? = some (.cells #[.int .i64 n, .slice A0 l.length c0] 35 (0, 0)) := by
       rw [hg1.block Bs (by simp; omega) (by intro e; have := hown Bs e.symm; omega), (World.grownBy_alloc w _ none).block Bs hlt (by simp)]
       exact hB
     obtain ⟨y0, y1, y2, y3⟩ := two_cells hB1)
  go_end0
  have hG : W1.grownBy w1 (some Bs) := grown_past (grown_past h.grown (World.grownBy_alloc w _ none) (fun k e => by cases e)) hg1 (fun k e => (hown k e).1)
  have e : (l ++ [(a, b)]).length = l.length + 1 := by simp
  rw [e] at hr1
  refine ⟨rfl, ⟨A1, c1, by rw [e]; exact two_set hB1, by rw [e]; exact ownsRow_setCell_below hr1 (a := ⟨Bs, 1, none⟩) (by show Bs < W1.heap.size; omega) _⟩, ?_, hBs⟩
  exact ⟨hG.os, hG.tape, hG.output, by rw [nblk_setCell]; exact hG.size, fun k hk hne => (blk_setCell_other _ _ _ k (fun e => hne (by rw [e]))).trans (hG.block k hk hne)⟩

set_option maxHeartbeats 1000000 in
theorem putFaces_ok (W1 w : World) (Bs : Nat) (n : Int) (l : List (Int × Int)) (a b c d : Int) (h : PutInv W1 w Bs n l) (hl : l.length ≤ 100000) :
    Calls Tryd.prog 50 #[.int .i64 a, .int .i64 b, .int .i64 c, .int .i64 d, .pointer (some ⟨Bs, 0, none⟩)] w fun e w' => e = .returned (.tuple #[]) ∧ PutInv W1 w' Bs n (l ++ [(c, d)]) := by
  obtain ⟨A0, c0, hB, hrow⟩ := h.ex
  obtain ⟨x0, x1, x2, x3⟩ := two_cells hB
  have hlt := Array.getElem?_eq_some_iff.1 hB |>.1
  have hsz := h.grown.size
  have hBs := h.lt
  have hown := hrow.lt
  have hrow' : (w.alloc (.cells #[.int .i64 c, .int .i64 d] 64)).ownsRow W1.heap.size 64 2 (.slice A0 l.length c0) l.length (pairCells l) := by
    refine hrow.kept (row := some w.heap.size) (World.grownBy_alloc w _ (some w.heap.size)) ?_
    cases e : (Value.slice A0 l.length c0).ownBlock with
    | none => exact .inl rfl
    | some k => refine .inr ?_; have := hown k e; intro e2; injection e2 with e2; omega
  go_enter Tryd.func50, Tryd.ntmps50
  go_wp2_with
    (at_builtin
     refine wp_app_pairs _ rfl (.tmp 10) (.tmp 14) rfl W1.heap.size (.slice A0 l.length c0) l rfl hrow' (some ⟨w.heap.size, 0, none⟩) 1 1 [(c, d)] rfl rfl (pair_one (by simp) (cell_new0 _ _ _ _) (cell_new1 _ _ _ _)) (by omega) (by simp; omega) ?_
     intro A1 c1 w1 hc1 hr1 hg1 _
     have hB1 : w1.heap[Bs]? = some (.cells #[.int .i64 n, .slice A0 l.length c0] 35 (0, 0)) := by
       rw [hg1.block Bs (by simp; omega) (by intro e; have := hown Bs e.symm; omega), (World.grownBy_alloc w _ none).block Bs hlt (by simp)]
       exact hB
     obtain ⟨y0, y1, y2, y3⟩ := two_cells hB1)
  go_end0
  have hG : W1.grownBy w1 (some Bs) := grown_past (grown_past h.grown (World.grownBy_alloc w _ none) (fun k e => by cases e)) hg1 (fun k e => (hown k e).1)
  have e : (l ++ [(c, d)]).length = l.length + 1 := by simp
  rw [e] at hr1
  refine ⟨rfl, ⟨A1, c1, by rw [e]; exact two_set hB1, by rw [e]; exact ownsRow_setCell_below hr1 (a := ⟨Bs, 1, none⟩) (by show Bs < W1.heap.size; omega) _⟩, ?_, hBs⟩
  exact ⟨hG.os, hG.tape, hG.output, by rw [nblk_setCell]; exact hG.size, fun k hk hne => (blk_setCell_other _ _ _ k (fun e => hne (by rw [e]))).trans (hG.block k hk hne)⟩
end Go.Proofs.YtngogonepjicpaaDoor
