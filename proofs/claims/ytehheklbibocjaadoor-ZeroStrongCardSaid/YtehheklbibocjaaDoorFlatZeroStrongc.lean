/- Words, plain laws and walks behind the law ZeroStrong, part 3. No condition. -/
import Derived.Test.YtehheklbibocjaaDoorFlatZeroStrongb
import Derived.Laws.StructEq

/- The walk of zero.Strong. Condition: the variables read as laid. -/
namespace Go.Proofs.YtehheklbibocjaaDoor
open Go.RowKit Go.Deep Go.Proofs.YtehheklbibocjaaDoorW.PrintWords

/-- the number of the error of two graphs at once -/
def sErr (n : Int) (l : List (Int × Int)) (m : Int) (k : List (Int × Int)) : Int := if gErr n l ≠ 0 then gErr n l else if gErr m k ≠ 0 then gErr m k else if 16 < n * m then 2 else 0
def graphObj (n : Int) (A : Option Addr) (len c : Nat) : Obj := .cells #[.int .i64 n, .slice A len c] 27
/-- the world in which the first loop begins -/
def strongW (w : World) (n : Int) (A : Option Addr) (la c : Nat) (m : Int) (B : Option Addr) (lb d : Nat) : World :=
  (((w.alloc (graphObj n A la c)).alloc (graphObj m B lb d)).alloc (graphObj 0 none 0 0)).alloc (.cells #[.int .i64 n, .slice A la c, .int .i64 m, .slice B lb d] 27)
structure StrongAt (w : World) (n : Int) (A : Option Addr) (la c : Nat) (m : Int) (B : Option Addr) (lb d : Nat) (W : World) : Prop where
  below : Below w.heap.size w W
  size : w.heap.size + 4 ≤ W.heap.size
  a0 : W.cell? ⟨w.heap.size, 0, none⟩ = some (.int .i64 n)
  a1 : W.cell? ⟨w.heap.size, 1, none⟩ = some (.slice A la c)
  b0 : W.cell? ⟨w.heap.size + 1, 0, none⟩ = some (.int .i64 m)
  b1 : W.cell? ⟨w.heap.size + 1, 1, none⟩ = some (.slice B lb d)
  r0 : W.cell? ⟨w.heap.size + 2, 0, none⟩ = some (.int .i64 0)
  r1 : W.cell? ⟨w.heap.size + 2, 1, none⟩ = some (.slice none 0 0)
  f0 : W.frozen? ⟨w.heap.size + 2, 0, none⟩ = false
  f1 : W.frozen? ⟨w.heap.size + 2, 1, none⟩ = false
  g0 : W.cell? ⟨w.heap.size + 3, 0, none⟩ = some (.int .i64 n)
  g1 : W.cell? ⟨w.heap.size + 3, 1, none⟩ = some (.slice A la c)
  g2 : W.cell? ⟨w.heap.size + 3, 2, none⟩ = some (.int .i64 m)
  g3 : W.cell? ⟨w.heap.size + 3, 3, none⟩ = some (.slice B lb d)
theorem strong_at (w : World) (n : Int) (A : Option Addr) (la c : Nat) (m : Int) (B : Option Addr) (lb d : Nat) : StrongAt w n A la c m B lb d (strongW w n A la c m B lb d) := by
  obtain ⟨V1, hV1⟩ : ∃ V, w.alloc (graphObj n A la c) = V := ⟨_, rfl⟩
  obtain ⟨V2, hV2⟩ : ∃ V, V1.alloc (graphObj m B lb d) = V := ⟨_, rfl⟩
  obtain ⟨V3, hV3⟩ : ∃ V, V2.alloc (graphObj 0 none 0 0) = V := ⟨_, rfl⟩
  obtain ⟨V4, hV4⟩ : ∃ V, V3.alloc (.cells #[.int .i64 n, .slice A la c, .int .i64 m, .slice B lb d] 27) = V := ⟨_, rfl⟩
  have e : strongW w n A la c m B lb d = V4 := by unfold strongW; rw [hV1, hV2, hV3, hV4]
  rw [e]
  have s1 : V1.heap.size = w.heap.size + 1 := by rw [← hV1, World.size_alloc]
  have s2 : V2.heap.size = w.heap.size + 2 := by rw [← hV2, World.size_alloc, s1]
  have s3 : V3.heap.size = w.heap.size + 3 := by rw [← hV3, World.size_alloc, s2]
  have s4 : V4.heap.size = w.heap.size + 4 := by rw [← hV4, World.size_alloc, s3]
  have b1 : Below w.heap.size w V1 := by rw [← hV1]; exact below_alloc' (Below.refl _ _) _
  have b2 : Below V1.heap.size V1 V2 := by rw [← hV2]; exact below_alloc' (Below.refl _ _) _
  have b3 : Below V2.heap.size V2 V3 := by rw [← hV3]; exact below_alloc' (Below.refl _ _) _
  have b4 : Below V3.heap.size V3 V4 := by rw [← hV4]; exact below_alloc' (Below.refl _ _) _
  have e1 : V4.heap[w.heap.size]? = some (.cells #[.int .i64 n, .slice A la c] 27 (0, 0)) := by
    rw [b4.block _ (by omega), b3.block _ (by omega), b2.block _ (by omega), ← hV1]
    exact alloc_at _ _
  have e2 : V4.heap[w.heap.size + 1]? = some (.cells #[.int .i64 m, .slice B lb d] 27 (0, 0)) := by
    rw [b4.block _ (by omega), b3.block _ (by omega), ← s1, ← hV2]
    exact alloc_at _ _
  have e3 : V4.heap[w.heap.size + 2]? = some (.cells #[.int .i64 0, .slice none 0 0] 27 (0, 0)) := by
    rw [b4.block _ (by omega), ← s2, ← hV3]
    exact alloc_at _ _
  have e4 : V4.heap[w.heap.size + 3]? = some (.cells #[.int .i64 n, .slice A la c, .int .i64 m, .slice B lb d] 27 (0, 0)) := by
    rw [← s3, ← hV4]
    exact alloc_at _ _
  exact ⟨below_trans (below_trans (below_trans b1 b2) b3) b4, by omega, (cell_of _ _ 0 _ _ _ e1 rfl).1, (cell_of _ _ 1 _ _ _ e1 rfl).1, (cell_of _ _ 0 _ _ _ e2 rfl).1, (cell_of _ _ 1 _ _ _ e2 rfl).1, (cell_of _ _ 0 _ _ _ e3 rfl).1, (cell_of _ _ 1 _ _ _ e3 rfl).1, (cell_of _ _ 0 _ _ _ e3 rfl).2, (cell_of _ _ 1 _ _ _ e3 rfl).2, (cell_of _ _ 0 _ _ _ e4 rfl).1, (cell_of _ _ 1 _ _ _ e4 rfl).1, (cell_of _ _ 2 _ _ _ e4 rfl).1, (cell_of _ _ 3 _ _ _ e4 rfl).1⟩
theorem StrongAt.later {w : World} {n : Int} {A : Option Addr} {la c : Nat} {m : Int} {B : Option Addr} {lb d : Nat} {W W' : World} (h : StrongAt w n A la c m B lb d W) (b : Below W.heap.size W W') : StrongAt w n A la c m B lb d W' := by
  have hs := h.size
  have key : ∀ q o, q < w.heap.size + 4 → W'.cell? ⟨q, o, none⟩ = W.cell? ⟨q, o, none⟩ := fun q o hq => b.cell (p := ⟨q, o, none⟩) (by show q < _; omega)
  have fkey : ∀ q o, q < w.heap.size + 4 → W'.frozen? ⟨q, o, none⟩ = W.frozen? ⟨q, o, none⟩ := fun q o hq => b.frozen (p := ⟨q, o, none⟩) (by show q < _; omega)
  exact ⟨below_trans h.below b, Nat.le_trans hs b.size, (key _ _ (by omega)).trans h.a0, (key _ _ (by omega)).trans h.a1, (key _ _ (by omega)).trans h.b0, (key _ _ (by omega)).trans h.b1, (key _ _ (by omega)).trans h.r0, (key _ _ (by omega)).trans h.r1, (fkey _ _ (by omega)).trans h.f0, (fkey _ _ (by omega)).trans h.f1, (key _ _ (by omega)).trans h.g0, (key _ _ (by omega)).trans h.g1, (key _ _ (by omega)).trans h.g2, (key _ _ (by omega)).trans h.g3⟩
theorem errC_pos (a : Nat → Addr) {r : Int} (h : r ≠ 0) : errC a r = .iface 108 (.pointer (some (a r.toNat))) := by unfold errC; rw [if_neg h]; rfl

set_option maxRecDepth 100000 in
set_option maxHeartbeats 4000000 in
theorem strong_bad (n : Int) (A : Option Addr) (l : List (Int × Int)) (c : Nat) (m : Int) (B : Option Addr) (k : List (Int × Int)) (d : Nat) (w : World) (a : Nat → Addr) (hE : Env [2, 3] w a) (hA : Pairs w A l) (hB : Pairs w B k) (h0 : sErr n l m k ≠ 0) :
    Calls Tryd.prog 9 #[.agg #[.int .i64 n, .slice A l.length c], .agg #[.int .i64 m, .slice B k.length d]] w fun e w' => e = .returned (.tuple #[.agg #[.int .i64 0, .slice none 0 0], .iface 108 (.pointer (some (a (sErr n l m k).toNat)))]) ∧ Below w.heap.size w w' := by
  obtain ⟨r, hr⟩ : ∃ r, sErr n l m k = r := ⟨_, rfl⟩
  rw [hr] at h0 ⊢
  have HR := hide (And.intro hr h0)
  obtain ⟨x, hx⟩ : ∃ x, a r.toNat = x := ⟨_, rfl⟩
  rw [hx]
  have HX := hide hx
  have HVA := hide (fun V (hb : Below w.heap.size w V) => gvalid_any n A l c V a (hE.below hb) (hA.below hb))
  have HVB := hide (fun V (hb : Below w.heap.size w V) => gvalid_any m B k d V a (hE.below hb) (hB.below hb))
  have HEN := hide (fun V (hb : Below w.heap.size w V) => ((hE.below hb).cell 2 (by decide) : V.cell? ⟨glob 2, 0, none⟩ = _))
  simp only [glob] at HEN
  have HST := hide (strong_at w n A l.length c m B k.length d)
  clear hE hA hB hr h0 hx
  go_enter Tryd.func9, Tryd.ntmps9
  go_wp2_with (fail)
  go_loopw [22] (fun jv wr => ∃ i : Nat, i ≤ 2 ∧ jv = .int .i64 i ∧ StrongAt w n A l.length c m B k.length d wr ∧ Hid ((0 < i → gErr n l = 0) ∧ (1 < i → gErr m k = 0))) (fun jv _ => 2 - (intOf jv).toNat)
  case atStart => exact ⟨0, by omega, rfl, HST.out, hide ⟨fun h => absurd h (by omega), fun h => absurd h (by omega)⟩⟩
  case round =>
    obtain ⟨i, hi, rfl, hS, HI⟩ := hrel
    obtain ⟨wi, rfl⟩ : ∃ wi : World, wi = wr := ⟨_, rfl⟩
    clear HST
    have hsz := hS.size
    have z3 : w.heap.size + 3 < wi.heap.size := by omega
    by_cases hi0 : i = 0
    · subst hi0
      have x0 := hS.g0
      have x1 := hS.g1
      have hb2 := below_alloc' hS.below (graphObj n A l.length c)
      have hv := HVA.out _ (below_alloc' hS.below (graphObj n A l.length c))
      by_cases he : gErr n l = 0
      · rw [he, errC_zero] at hv
        have HV := hide hv
        have HE := hide he
        clear hv he
        go_wp2_with (go_at_call 20; refine Calls.mono HV.out ?_; rintro e w1 ⟨rfl, hB1⟩)
        go_roundw
        case rel => exact ⟨1, by omega, by go_num, hS.later (below_trans (below_alloc' (Below.refl _ _) _) hB1), hide ⟨fun _ => HE.out, fun h => absurd h (by omega)⟩⟩
        case measure => simp [intOf]
      · have hr : r = gErr n l := by rw [← HR.out.1]; unfold sErr; rw [if_pos he]
        rw [errC_pos a he, ← hr, HX.out] at hv
        have HV := hide hv
        clear hv he hr
        go_wp2_with (go_at_call 20; refine Calls.mono HV.out ?_; rintro e w1 ⟨rfl, hB1⟩; have hS1 := hS.later (below_trans (below_alloc' (Below.refl _ _) _) hB1); have y0 := hS1.r0; have y1 := hS1.r1; have y2 := hS1.f0; have y3 := hS1.f1; have y4 := hS1.size; have y5 : w.heap.size + 2 < w1.heap.size := by omega)
        refine bodyPost_ret (v := .tuple #[.agg #[.int .i64 0, .slice none 0 0], .iface 108 (.pointer (some x))]) (by simp [results, Tryd.results9, go_sem, y0, y1]) rfl ⟨rfl, ?_⟩
        exact (hS1.below.setCell (p := ⟨w.heap.size + 1 + 1, 0, none⟩) (by show w.heap.size ≤ w.heap.size + 1 + 1; omega) _).setCell (p := ⟨w.heap.size + 1 + 1, 1, none⟩) (by show w.heap.size ≤ w.heap.size + 1 + 1; omega) _
    · by_cases hi1 : i = 1
      · subst hi1
        have x0 := hS.g2
        have x1 := hS.g3
        have hv := HVB.out _ (below_alloc' hS.below (graphObj m B k.length d))
        by_cases he : gErr m k = 0
        · rw [he, errC_zero] at hv
          have HV := hide hv
          have HE := hide he
          clear hv he
          go_wp2_with (go_at_call 20; refine Calls.mono HV.out ?_; rintro e w1 ⟨rfl, hB1⟩)
          go_roundw
          case rel => exact ⟨2, by omega, by go_num, hS.later (below_trans (below_alloc' (Below.refl _ _) _) hB1), hide ⟨fun _ => HI.out.1 (by omega), fun _ => HE.out⟩⟩
          case measure => simp [intOf]
        · have hr : r = gErr m k := by rw [← HR.out.1]; unfold sErr; rw [if_neg (fun h => h (HI.out.1 (by omega))), if_pos he]
          rw [errC_pos a he, ← hr, HX.out] at hv
          have HV := hide hv
          clear hv he hr
          go_wp2_with (go_at_call 20; refine Calls.mono HV.out ?_; rintro e w1 ⟨rfl, hB1⟩; have hS1 := hS.later (below_trans (below_alloc' (Below.refl _ _) _) hB1); have y0 := hS1.r0; have y1 := hS1.r1; have y2 := hS1.f0; have y3 := hS1.f1; have y4 := hS1.size; have y5 : w.heap.size + 2 < w1.heap.size := by omega)
          refine bodyPost_ret (v := .tuple #[.agg #[.int .i64 0, .slice none 0 0], .iface 108 (.pointer (some x))]) (by simp [results, Tryd.results9, go_sem, y0, y1]) rfl ⟨rfl, ?_⟩
          exact (hS1.below.setCell (p := ⟨w.heap.size + 1 + 1, 0, none⟩) (by show w.heap.size ≤ w.heap.size + 1 + 1; omega) _).setCell (p := ⟨w.heap.size + 1 + 1, 1, none⟩) (by show w.heap.size ≤ w.heap.size + 1 + 1; omega) _
      · obtain rfl : i = 2 := by omega
        have he1 := HI.out.1 (by omega)
        have he2 := HI.out.2 (by omega)
        obtain ⟨hn0, hn1, _⟩ := gErr_zero he1
        obtain ⟨hm0, hm1, _⟩ := gErr_zero he2
        have hbig : 16 < n * m ∧ r = 2 := by
          obtain ⟨hr, h0⟩ := HR.out
          unfold sErr at hr
          rw [if_neg (fun h => h he1), if_neg (fun h => h he2)] at hr
          by_cases q : 16 < n * m
          · rw [if_pos q] at hr
            exact ⟨q, hr.symm⟩
          · rw [if_neg q] at hr
            exact absurd hr.symm h0
        obtain ⟨hb16, rfl⟩ := hbig
        have hmul : n * m ≤ 16 * 16 := Int.mul_le_mul hn1 hm1 hm0 (by omega)
        obtain ⟨a0, a1, b0, b1, r0, r1, f0, f1⟩ := And.intro hS.a0 (And.intro hS.a1 (And.intro hS.b0 (And.intro hS.b1 (And.intro hS.r0 (And.intro hS.r1 (And.intro hS.f0 hS.f1))))))
        have e2c := HEN.out _ hS.below
        have hx2 : a 2 = x := HX.out
        rw [hx2] at e2c
        have e2z : 0 < wi.heap.size := World.block_lt_of_cell? wi _ e2c
        have hw : wrap64 (n * m) = n * m := by unfold wrap64; generalize n * m = p at hb16 hmul; omega
        have hsz := hS.size
        have hz2 : w.heap.size + 2 < wi.heap.size := by omega
        have hbw := hS.below
        go_wp2_with (fail)
        go_region
        all_goals go_wp2_with (fail)
        all_goals refine bodyPost_ret (v := .tuple #[.agg #[.int .i64 0, .slice none 0 0], .iface 108 (.pointer (some x))]) (by simp [results, Tryd.results9, go_sem, r0, r1]) rfl ⟨rfl, ?_⟩
        all_goals have hbb := (hbw.setCell (p := ⟨w.heap.size + 1 + 1, 0, none⟩) (by show w.heap.size ≤ w.heap.size + 1 + 1; omega) (.int .i64 0)).setCell (p := ⟨w.heap.size + 1 + 1, 1, none⟩) (by show w.heap.size ≤ w.heap.size + 1 + 1; omega) (.slice none 0 0)
        all_goals first | exact below_drewN' hbb 1 | exact hbb | trace_state
end Go.Proofs.YtehheklbibocjaaDoor

/- A graph whose edges grow in their order, plain and in memory. No condition. -/
namespace Go.Proofs.YtehheklbibocjaaDoor
open Go.RowKit Go.Deep Go.Proofs.YtehheklbibocjaaDoorW.PrintWords

/-- the edges of v ahead of vertex w -/
def rowTo (P : Nat → Nat → Bool) (v w : Nat) : List (Int × Int) := ((List.range w).filter fun (j : Nat) => decide (v < j) && P v j).map fun (j : Nat) => ((v : Int), (j : Int))
/-- all edges of the vertices ahead of v -/
def allTo (P : Nat → Nat → Bool) (N v : Nat) : List (Int × Int) := (List.range v).flatMap fun i => rowTo P i N
theorem rowTo_first (P : Nat → Nat → Bool) (v : Nat) : rowTo P v (v + 1) = [] := by
  unfold rowTo
  rw [List.map_eq_nil_iff, List.filter_eq_nil_iff]
  intro j hj
  have := List.mem_range.1 hj
  rw [decide_eq_false (by omega), Bool.false_and]
  decide
theorem rowTo_yes {P : Nat → Nat → Bool} {v w : Nat} (h : v < w) (hp : P v w = true) : rowTo P v (w + 1) = rowTo P v w ++ [((v : Int), (w : Int))] := by
  unfold rowTo
  rw [List.range_succ, List.filter_append, List.map_append]
  congr 1
  rw [List.filter_cons, decide_eq_true h, hp]
  rfl
theorem rowTo_no {P : Nat → Nat → Bool} {v w : Nat} (hp : P v w = false) : rowTo P v (w + 1) = rowTo P v w := by
  unfold rowTo
  rw [List.range_succ, List.filter_append, List.map_append]
  rw [List.filter_cons, hp, Bool.and_false]
  simp
theorem allTo_succ (P : Nat → Nat → Bool) (N v : Nat) : allTo P N (v + 1) = allTo P N v ++ rowTo P v N := by
  unfold allTo
  rw [List.range_succ, List.flatMap_append]
  simp
theorem rowTo_length (P : Nat → Nat → Bool) (v w : Nat) : (rowTo P v w).length ≤ w := by
  unfold rowTo
  rw [List.length_map]
  have := List.length_filter_le (fun j => decide (v < j) && P v j) (List.range w)
  rw [List.length_range] at this
  exact this
theorem allTo_length (P : Nat → Nat → Bool) (N v : Nat) : (allTo P N v).length ≤ v * N := by
  induction v with
  | zero => simp [allTo]
  | succ v ih =>
    rw [allTo_succ, List.length_append, Nat.succ_mul]
    have := rowTo_length P v N
    omega
theorem grown_length {P : Nat → Nat → Bool} {N v w : Nat} (hN : N ≤ 100) (hv : v ≤ N) (hw : w ≤ N) : (allTo P N v ++ rowTo P v w).length ≤ 20000 := by
  rw [List.length_append]
  have h1 := allTo_length P N v
  have h2 := rowTo_length P v w
  have h3 : v * N ≤ 100 * 100 := Nat.mul_le_mul (by omega) hN
  omega

/-- a graph's box, its edges a row that grows -/
structure SGr (W3 : World) (T : TypeId) (N : Int) (W : World) (L : List (Int × Int)) (E : Option Addr) (c : Nat) : Prop where
  below : Below W3.heap.size W3 W
  box : W.heap[W3.heap.size]? = some (.cells #[.int .i64 N, .slice E L.length c] T (0, 0))
  own : W.ownsRow (W3.heap.size + 1) 51 2 (.slice E L.length c) L.length (pairCells L)
theorem SGr.cells {W3 : World} {T : TypeId} {N : Int} {W : World} {L : List (Int × Int)} {E : Option Addr} {c : Nat} (h : SGr W3 T N W L E c) : W.cell? ⟨W3.heap.size, 0, none⟩ = some (.int .i64 N) ∧ W.cell? ⟨W3.heap.size, 1, none⟩ = some (.slice E L.length c) ∧ W.frozen? ⟨W3.heap.size, 1, none⟩ = false ∧ W3.heap.size < W.heap.size :=
  ⟨(cell_of _ _ 0 _ _ _ h.box rfl).1, (cell_of _ _ 1 _ _ _ h.box rfl).1, (cell_of _ _ 1 _ _ _ h.box rfl).2, lt_of_block h.box⟩
theorem SGr.later {W3 : World} {T : TypeId} {N : Int} {W W' : World} {L : List (Int × Int)} {E : Option Addr} {c : Nat} (h : SGr W3 T N W L E c) (b : Below W.heap.size W W') : SGr W3 T N W' L E c :=
  ⟨below_trans h.below b, (b.block _ (lt_of_block h.box)).trans h.box, own_below h.own b⟩
theorem SGr.start (W3 : World) (T : TypeId) (N : Int) : SGr W3 T N (W3.alloc (.cells #[.int .i64 N, .slice none 0 0] T)) [] none 0 :=
  ⟨below_alloc' (Below.refl _ _) _, alloc_at _ _, nil_own _ _ _ _⟩
theorem SGr.push {W3 : World} {T : TypeId} {N : Int} {W W' : World} {L : List (Int × Int)} {E E' : Option Addr} {c c' : Nat} {o : Obj} {p : Int × Int} (h : SGr W3 T N W L E c)
    (ho : W'.ownsRow (W3.heap.size + 1) 51 2 (.slice E' (L ++ [p]).length c') (L ++ [p]).length (pairCells (L ++ [p]))) (hg : (W.alloc o).grownBy W' (Value.slice E L.length c).ownBlock) :
    SGr W3 T N (W'.setCell ⟨W3.heap.size, 1, none⟩ (.slice E' (L ++ [p]).length c')) (L ++ [p]) E' c' ∧ W'.cell? ⟨W3.heap.size, 1, none⟩ = some (.slice E L.length c) ∧ W'.frozen? ⟨W3.heap.size, 1, none⟩ = false := by
  have hz := lt_of_block h.box
  have hEb : ∀ a, E = some a → W3.heap.size + 1 ≤ a.block := fun a e => by
    rcases own_at h.own with ⟨e', _⟩ | ⟨g', e', h, _⟩
    · rw [e'] at e; cases e
    · rw [e'] at e; injection e with e; subst e; exact h
  have hsA : (W.alloc o).heap.size = W.heap.size + 1 := World.size_alloc _ _
  have lowb : ∀ b, b < W3.heap.size + 1 → W'.heap[b]? = W.heap[b]? := fun b hb => by
    rw [hg.block b (by omega) (fun e => by
      cases E with
      | none => cases e
      | some a => injection e with e; have := hEb a rfl; omega), alloc_old W o b (by omega)]
  have hbox := (lowb _ (Nat.lt_succ_self _)).trans h.box
  have hb' : Below W3.heap.size W3 W' := ⟨hg.os.trans h.below.os, hg.tape.trans h.below.tape, hg.output.trans h.below.output, Nat.le_trans h.below.size (by have := hg.size; omega), fun k hk => (lowb k (by omega)).trans (h.below.block k hk)⟩
  refine ⟨⟨hb'.setCell (p := ⟨W3.heap.size, 1, none⟩) (Nat.le_refl _) _, rows_same W' _ 1 _ _ _ hbox, ownsRow_setCell_below ho (a := ⟨W3.heap.size, 1, none⟩) (Nat.lt_succ_self _) _⟩, (cell_of _ _ 1 _ _ _ hbox rfl).1, (cell_of _ _ 1 _ _ _ hbox rfl).2⟩
/-- two cells read as one pair -/
theorem pairs_one {w : World} {b o : Nat} {x y : Int} (h1 : w.cell? ⟨b, o, none⟩ = some (.int .i64 x)) (h2 : w.cell? ⟨b, o + 1, none⟩ = some (.int .i64 y)) : Pairs w (some ⟨b, o, none⟩) [(x, y)] :=
  ⟨by simp, fun i hi => by
    have hb := World.block_lt_of_cell? w _ h1
    obtain rfl : i = 0 := by simp at hi; omega
    exact ⟨b, o, rfl, hb, by rw [Nat.zero_mul, Nat.add_zero]; exact h1, by rw [Nat.zero_mul, Nat.add_zero]; exact h2⟩⟩
/-- a bit, as the walk reads it -/
theorem bit_eq {x : Nat} (j : Nat) (h : x < 2 ^ 16) : (bits BinOp.and IntKind.u64 ((x : Int) / 2 ^ j) 1 == 1) = x.testBit j := by
  have e : (x : Int) / 2 ^ j = ((x / 2 ^ j : Nat) : Int) := by simp
  rw [e, and_one (div_lt16 h), Nat.testBit_eq_decide_div_mod_eq]
  rcases Nat.mod_two_eq_zero_or_one (x / 2 ^ j) with q | q <;> rw [q] <;> rfl
/-- have two vertices of the product an edge (by bits)? -/
def strongP (X Y : List Nat) (m v w : Nat) : Bool := (decide (v / m = w / m) || (X.getD (v / m) 0).testBit (w / m)) && (decide (v % m = w % m) || (Y.getD (v % m) 0).testBit (w % m))
theorem tdiv_nat (a b : Nat) : Int.tdiv (a : Int) (b : Int) = ((a / b : Nat) : Int) := by
  rw [Int.tdiv_eq_ediv_of_nonneg (Int.natCast_nonneg _)]
  rfl
theorem tmod_nat (a b : Nat) : Int.tmod (a : Int) (b : Int) = ((a % b : Nat) : Int) := by
  rw [Int.tmod_eq_emod_of_nonneg (Int.natCast_nonneg _)]
  rfl
theorem div_wrap {a b : Nat} (h : a ≤ 1000) : wrap64 ((a : Int) / (b : Int)) = ((a / b : Nat) : Int) := by
  have e : (a : Int) / (b : Int) = ((a / b : Nat) : Int) := rfl
  have h2 : a / b ≤ a := Nat.div_le_self _ _
  rw [e]
  generalize a / b = q at h2
  unfold wrap64
  omega
end Go.Proofs.YtehheklbibocjaaDoor

/- The walk of zero.Strong at right graphs. Condition: the variables read as laid. -/
namespace Go.Proofs.YtehheklbibocjaaDoor
open Go.RowKit Go.Deep Go.Proofs.YtehheklbibocjaaDoorW.PrintWords

set_option maxRecDepth 100000 in
set_option maxHeartbeats 8000000 in
theorem strong_good (n m : Nat) (A : Option Addr) (l : List (Int × Int)) (c : Nat) (B : Option Addr) (k : List (Int × Int)) (d : Nat) (w : World) (a : Nat → Addr) (hE : Env [2, 3] w a) (hA : Pairs w A l) (hB : Pairs w B k) (h1 : gErr n l = 0) (h2 : gErr m k = 0) (h3 : n * m ≤ 16) :
    Calls Tryd.prog 9 #[.agg #[.int .i64 n, .slice A l.length c], .agg #[.int .i64 m, .slice B k.length d]] w fun e w' => ∃ E f, e = .returned (.tuple #[.agg #[.int .i64 (n * m : Nat), .slice E (allTo (strongP (nearL n l) (nearL m k) m) (n * m) (n * m)).length f], .nilIface]) ∧ Pairs w' E (allTo (strongP (nearL n l) (nearL m k) m) (n * m) (n * m)) ∧ (allTo (strongP (nearL n l) (nearL m k) m) (n * m) (n * m)).length ≤ f ∧ (∀ x, E = some x → w.heap.size ≤ x.block) ∧ Below w.heap.size w w' := by
  obtain ⟨_, hn', hg1⟩ := gErr_zero h1
  obtain ⟨_, hm', hg2⟩ := gErr_zero h2
  have hn : n ≤ 16 := by omega
  have hm : m ≤ 16 := by omega
  have hlX : Low (nearL n l) := by
    have e : nearTo n l l.length = nearL n l := by unfold nearTo nearL; rw [List.take_length]
    rw [← e]; exact nearTo_low hn hg1 _ (Nat.le_refl _)
  have hlY : Low (nearL m k) := by
    have e : nearTo m k k.length = nearL m k := by unfold nearTo nearL; rw [List.take_length]
    rw [← e]; exact nearTo_low hm hg2 _ (Nat.le_refl _)
  have HNA := hide (fun V (hb : Below w.heap.size w V) => near_ok n A l c V (hA.below hb) hn hg1)
  have HNB := hide (fun V (hb : Below w.heap.size w V) => near_ok m B k d V (hB.below hb) hm hg2)
  have HG := hide (And.intro h1 h2)
  have HVA := hide (fun V (hb : Below w.heap.size w V) => gvalid_any n A l c V a (hE.below hb) (hA.below hb))
  have HVB := hide (fun V (hb : Below w.heap.size w V) => gvalid_any m B k d V a (hE.below hb) (hB.below hb))
  have HST := hide (strong_at w n A l.length c m B k.length d)
  obtain ⟨X, hX⟩ : ∃ X, nearL n l = X := ⟨_, rfl⟩
  obtain ⟨Y, hY⟩ : ∃ Y, nearL m k = Y := ⟨_, rfl⟩
  rw [hX] at hlX HNA ⊢
  rw [hY] at hlY HNB ⊢
  obtain ⟨N, hN⟩ : ∃ N, n * m = N := ⟨_, rfl⟩
  rw [hN] at h3 ⊢
  have hNi : (n : Int) * (m : Int) = (N : Int) := by rw [← hN]; rfl
  have hwN : wrap64 (N : Int) = (N : Int) := by unfold wrap64; omega
  obtain ⟨P, hP⟩ : ∃ P, strongP X Y m = P := ⟨_, rfl⟩
  have HP := hide hP
  rw [hP]
  clear hP
  have HLX := hide hlX
  have HLY := hide hlY
  have HNN := hide hN
  clear hE hA hB h1 h2 hg1 hg2 hlX hlY hX hY hN
  go_enter Tryd.func9, Tryd.ntmps9
  go_wp2_with (fail)
  go_loopw [22] (fun jv wr => ∃ i : Nat, i ≤ 2 ∧ jv = .int .i64 i ∧ StrongAt w n A l.length c m B k.length d wr ∧ Hid ((0 < i → gErr (n : Int) l = 0) ∧ (1 < i → gErr (m : Int) k = 0))) (fun jv _ => 2 - (intOf jv).toNat)
  case atStart => exact ⟨0, by omega, rfl, HST.out, hide ⟨fun h => absurd h (by omega), fun h => absurd h (by omega)⟩⟩
  case round =>
    obtain ⟨i, hi, rfl, hS, HI⟩ := hrel
    obtain ⟨wi, rfl⟩ : ∃ wi : World, wi = wr := ⟨_, rfl⟩
    clear HST
    have hsz := hS.size
    have z3 : w.heap.size + 3 < wi.heap.size := by omega
    by_cases hi0 : i = 0
    · subst hi0
      have x0 := hS.g0
      have x1 := hS.g1
      have hb2 := below_alloc' hS.below (graphObj n A l.length c)
      have hv := HVA.out _ (below_alloc' hS.below (graphObj n A l.length c))
      have he := HG.out.1
      · rw [he, errC_zero] at hv
        have HV := hide hv
        have HE := hide he
        clear hv he
        go_wp2_with (go_at_call 20; refine Calls.mono HV.out ?_; rintro e w1 ⟨rfl, hB1⟩)
        go_roundw
        case rel => exact ⟨1, by omega, by go_num, hS.later (below_trans (below_alloc' (Below.refl _ _) _) hB1), hide ⟨fun _ => HE.out, fun h => absurd h (by omega)⟩⟩
        case measure => simp [intOf]
    · by_cases hi1 : i = 1
      · subst hi1
        have x0 := hS.g2
        have x1 := hS.g3
        have hv := HVB.out _ (below_alloc' hS.below (graphObj m B k.length d))
        have he := HG.out.2
        · rw [he, errC_zero] at hv
          have HV := hide hv
          have HE := hide he
          clear hv he
          go_wp2_with (go_at_call 20; refine Calls.mono HV.out ?_; rintro e w1 ⟨rfl, hB1⟩)
          go_roundw
          case rel => exact ⟨2, by omega, by go_num, hS.later (below_trans (below_alloc' (Below.refl _ _) _) hB1), hide ⟨fun _ => HI.out.1 (by omega), fun _ => HE.out⟩⟩
          case measure => simp [intOf]

      · obtain rfl : i = 2 := by omega
        obtain ⟨a0, a1, b0, b1, r0, r1, f0, f1⟩ := And.intro hS.a0 (And.intro hS.a1 (And.intro hS.b0 (And.intro hS.b1 (And.intro hS.r0 (And.intro hS.r1 (And.intro hS.f0 hS.f1))))))
        have hw : wrap64 ((n : Int) * (m : Int)) = (N : Int) := by rw [hNi, hwN]
        have hle : decide (16 < (N : Int)) = false := decide_eq_false (by omega)
        clear r0 r1 f0 f1 hwN
        have zz : w.heap.size + 1 < wi.heap.size := by omega
        go_wp2_with (fail)
        go_region_held3 (fun w' => w'.cell? ⟨w.heap.size, 0, none⟩ = some (.int .i64 (n : Int)) ∧ w'.cell? ⟨w.heap.size, 1, none⟩ = some (.slice A l.length c) ∧ w'.cell? ⟨w.heap.size + 1, 0, none⟩ = some (.int .i64 (m : Int)) ∧ w'.cell? ⟨w.heap.size + 1, 1, none⟩ = some (.slice B k.length d))
          (first | go_keep | exact ⟨‹_›, ‹_›, ‹_›, ‹_›⟩)
          ((first
            | (go_at_call_of 25 (Value.agg #[.int .i64 (n : Int), .slice A l.length c])
               refine Calls.mono (HNA.out _ (below_drewN' hS.below 1)) ?_
               rintro e w1 ⟨rfl, hR1, hb1⟩
               have hS1 := hS.later (below_trans (below_drewN' (Below.refl _ _) 1) hb1)
               have p0 := hS1.a0
               have p1 := hS1.a1
               have p2 := hS1.b0
               have p3 := hS1.b1)
            | (go_at_call_of 25 (Value.agg #[.int .i64 (m : Int), .slice B k.length d])
               refine Calls.mono (HNB.out _ hS1.below) ?_
               rintro e w2 ⟨rfl, hR2, hb2⟩
               have hS2 := hS1.later hb2
               have q0 := hS2.a0
               have q1 := hS2.a1
               have q2 := hS2.b0
               have q3 := hS2.b1)))
        have hR1' : NRow w2 (wi.heap.size + 1) n X := World.rowIs.of_block hR1 (hb2.block _ (World.rowIs.lt hR1))
        have HB := hide (And.intro hS2 (And.intro hR1' hR2))
        have zx : wi.heap.size + 1 < w2.heap.size := World.rowIs.lt hR1'
        have zy : w1.heap.size + 1 < w2.heap.size := World.rowIs.lt hR2
        have zs := hS2.size
        generalize wi.heap.size + 1 = bx at *
        generalize w1.heap.size + 1 = bY at *
        clear a0 a1 b0 b1 p0 p1 p2 p3 q1 q3 hS hS1 hb1 hb2 hR1 hR2 hR1' hsz z3 zz HVA HVB HNA HNB hS2
        have z1 : w.heap.size + 1 < w2.heap.size := by omega
        go_wp2_with (fail)
        have hst := SGr.start w2 27 (N : Int)
        have HSTART : Hid (∃ E f, SGr w2 27 (N : Int) (w2.alloc (.cells #[.int .i64 (N : Int), .slice none 0 0] 27)) (allTo P N 0) E f) := hide ⟨_, _, hst⟩
        clear hst q0 q2 z1
        go_loopw [53] (fun jv wr => ∃ v : Nat, v ≤ N ∧ jv = .int .i64 v ∧ Hid (∃ E f, SGr w2 27 (N : Int) wr (allTo P N v) E f)) (fun jv _ => N - (intOf jv).toNat)
        case atStart => exact ⟨0, Nat.zero_le _, rfl, HSTART⟩
        case round =>
          obtain ⟨v, hv, rfl, HJ⟩ := hrel
          obtain ⟨wv, rfl⟩ : ∃ wv : World, wv = wr := ⟨_, rfl⟩
          clear HSTART
          have v0 : (0 : Int) ≤ (v : Int) := Int.natCast_nonneg _
          by_cases hvl : v < N
          · have v1 : (v : Int) < (N : Int) := by omega
            go_wp2_with (fail)
            go_loopw [13] (fun jv wr => ∃ x : Nat, v + 1 ≤ x ∧ x ≤ N ∧ jv = .int .i64 x ∧ Hid (∃ E f, SGr w2 27 (N : Int) wr (allTo P N v ++ rowTo P v x) E f)) (fun jv _ => N - (intOf jv).toNat)
            case atStart => exact ⟨v + 1, Nat.le_refl _, hvl, by go_num, by rw [rowTo_first, List.append_nil]; exact HJ⟩
            case round =>
              obtain ⟨x, hvx, hx, rfl, HK⟩ := hrel
              obtain ⟨wx, rfl⟩ : ∃ wx : World, wx = wr := ⟨_, rfl⟩
              clear HJ
              have hbd := grown_length (P := P) (N := N) (v := v) (w := x) (by omega) hv hx
              obtain ⟨L, hL⟩ : ∃ L, allTo P N v ++ rowTo P v x = L := ⟨_, rfl⟩
              rw [hL] at HK hbd
              obtain ⟨E, f, hG⟩ := HK.out
              obtain ⟨c0, c1, c2, c3⟩ := hG.cells
              have x0 : (0 : Int) ≤ (x : Int) := Int.natCast_nonneg _
              by_cases hxl : x < N
              · have x1 : (x : Int) < (N : Int) := by omega
                have hm0 : 0 < m := Nat.pos_of_ne_zero fun e => by have := HNN.out; rw [e, Nat.mul_zero] at this; omega
                have hvd : v / m < n := Nat.div_lt_of_lt_mul (by rw [Nat.mul_comm, HNN.out]; exact hvl)
                have hvm : v % m < m := Nat.mod_lt _ hm0
                have d0 := (hG.below.cell (p := ⟨w.heap.size + 1, 0, none⟩) (by show w.heap.size + 1 < _; omega)).trans HB.out.1.b0
                have d1 := (hG.below.cell (p := ⟨bx, v / m, none⟩) zx).trans (World.rowIs.cell HB.out.2.1 hvd)
                have d2 := (hG.below.cell (p := ⟨bY, v % m, none⟩) zy).trans (World.rowIs.cell HB.out.2.2 hvm)
                have zz1 : w.heap.size + 1 < wx.heap.size := by omega
                have zz2 : bx < wx.heap.size := by omega
                have zz3 : bY < wx.heap.size := by omega
                have hbX := bit_eq (x / m) (HLX.out (v / m))
                have hbY := bit_eq (x % m) (HLY.out (v % m))
                have hPP : P v x = ((decide (v / m = x / m) || (X.getD (v / m) 0).testBit (x / m)) && (decide (v % m = x % m) || (Y.getD (v % m) 0).testBit (x % m))) := by rw [← HP.out]; rfl
                generalize X.getD (v / m) 0 = mx at d1 hbX hPP
                generalize Y.getD (v % m) 0 = my at d2 hbY hPP
                have t1 := tdiv_nat v m
                have t2 := tmod_nat v m
                have t3 := tdiv_nat x m
                have t4 := tmod_nat x m
                have m0 : ((m : Int) == 0) = false := beq_eq_false_iff_ne.2 (by omega)
                have m1 : (m : Int) ≠ 0 := by omega
                have m2 : (0 : Int) < (m : Int) := by omega
                have HXB := hide (And.intro hbX (And.intro hbY hPP))
                have HT := hide (And.intro t1 (And.intro t3 (And.intro t2 t4)))
                have hxd : x / m < n := Nat.div_lt_of_lt_mul (by rw [Nat.mul_comm, HNN.out]; exact hxl)
                have hxm : x % m < m := Nat.mod_lt _ hm0
                have HDM := hide (And.intro hvd (And.intro hvm (And.intro hxd hxm)))
                clear hbX hbY hPP t1 t2 t3 t4 hvd hvm hxd hxm
                go_wp2_with (fail)
                go_quiet (fail)
                have e1 : wrap64 ((v : Int) / (m : Int)) = ((v / m : Nat) : Int) := div_wrap (by omega)
                have e2 : wrap64 ((x : Int) / (m : Int)) = ((x / m : Nat) : Int) := div_wrap (by omega)
                have e3 : (v : Int) % (m : Int) = ((v % m : Nat) : Int) := rfl
                have e4 : (x : Int) % (m : Int) = ((x % m : Nat) : Int) := rfl
                rw [e1, e2, e3, e4]
                clear e1 e2 e3 e4
                obtain ⟨hvd, hvm, hxd, hxm⟩ := HDM.out
                obtain ⟨hbX, hbY, hPP⟩ := HXB.out
                clear HXB HT HDM
                generalize v / m = vi at *
                generalize v % m = vk at *
                generalize x / m = xi at *
                generalize x % m = xk at *
                have hGq := hG.later (below_drewN' (Below.refl _ _) nq)
                have f1 := d1
                have f2 := d2
                generalize hwq : World.drewN wx nq = wq at hGq ⊢
                have d1 : wq.cell? ⟨bx, vi, none⟩ = some (.int .u64 (mx : Int)) := by rw [← hwq]; exact f1
                have d2 : wq.cell? ⟨bY, vk, none⟩ = some (.int .u64 (my : Int)) := by rw [← hwq]; exact f2
                obtain ⟨c0, c1, c2, c3⟩ := hGq.cells
                have HGQ := hide hGq
                have HLL := hide hL
                have hlen : (L ++ [((v : Int), (x : Int))]).length = L.length + 1 := by rw [List.length_append, List.length_singleton]
                have HLEN := hide hlen
                have HPP := hide hPP
                have s1 : (vi : Int) < (n : Int) := by omega
                have s2 : (vk : Int) < (m : Int) := by omega
                have s3 : (0 : Int) ≤ (vi : Int) := Int.natCast_nonneg _
                have s4 : (0 : Int) ≤ (vk : Int) := Int.natCast_nonneg _
                have s5 : (0 : Int) ≤ (xi : Int) := Int.natCast_nonneg _
                have s6 : (0 : Int) ≤ (xk : Int) := Int.natCast_nonneg _
                clear f1 f2 hwq hGq hL hlen hPP hG zz1 zz2 zz3
                by_cases g0 : vi = xi
                · have q0 : ((vi : Int) == (xi : Int)) = true := by rw [g0]; simp
                  by_cases g2 : vk = xk
                  · have q2 : ((vk : Int) == (xk : Int)) = true := by rw [g2]; simp
                    have hp : P v x = true := by rw [HPP.out]; simp [g0, g2]
                    have HROW := hide (rowTo_yes (P := P) (v := v) (w := x) (by omega) hp)
                    clear hp
                    go_wp2_with (at_builtin; refine wp_app_pairs _ rfl (.tmp 109) (.tmp 113) rfl (w2.heap.size + 1) (.slice E L.length f) L rfl (own_below HGQ.out.own (below_alloc' (Below.refl _ _) _)) (some ⟨wq.heap.size, 0, none⟩) 1 1 [((v : Int), (x : Int))] rfl rfl (pairs_one (by simp) (by simp)) (by omega) (by rw [World.size_alloc]; omega) ?_; intro E' f' w5 hf5 ho5 hg5 _; obtain ⟨hG5, y1, y2⟩ := SGr.push HGQ.out ho5 hg5; rw [HLEN.out] at hG5; have HG5 := hide hG5; clear ho5 hg5 hf5 hG5)
                    go_roundw
                    case rel => exact ⟨x + 1, by omega, by omega, by go_num, hide ⟨E', f', by rw [HROW.out, ← List.append_assoc, HLL.out]; exact HG5.out⟩⟩
                    case measure => simp [intOf]; omega
                  · have q2 : ((vk : Int) == (xk : Int)) = false := beq_eq_false_iff_ne.2 (by omega)
                    cases g3 : my.testBit xk
                    · rw [g3] at hbY
                      have hbYn := beq_eq_false_iff_ne.1 hbY
                      have hp : P v x = false := by rw [HPP.out]; simp [g0, g2, g3]
                      have HROW := hide (rowTo_no (P := P) (v := v) (w := x) hp)
                      clear hp
                      go_wp2_with (fail)
                      go_roundw
                      case rel => exact ⟨x + 1, by omega, by omega, by go_num, hide ⟨E, f, by rw [HROW.out, HLL.out]; exact HGQ.out⟩⟩
                      case measure => simp [intOf]; omega
                    · rw [g3] at hbY
                      have hp : P v x = true := by rw [HPP.out]; simp [g0, g3]
                      have HROW := hide (rowTo_yes (P := P) (v := v) (w := x) (by omega) hp)
                      clear hp
                      go_wp2_with (at_builtin; refine wp_app_pairs _ rfl (.tmp 109) (.tmp 113) rfl (w2.heap.size + 1) (.slice E L.length f) L rfl (own_below HGQ.out.own (below_alloc' (Below.refl _ _) _)) (some ⟨wq.heap.size, 0, none⟩) 1 1 [((v : Int), (x : Int))] rfl rfl (pairs_one (by simp) (by simp)) (by omega) (by rw [World.size_alloc]; omega) ?_; intro E' f' w5 hf5 ho5 hg5 _; obtain ⟨hG5, y1, y2⟩ := SGr.push HGQ.out ho5 hg5; rw [HLEN.out] at hG5; have HG5 := hide hG5; clear ho5 hg5 hf5 hG5)
                      go_roundw
                      case rel => exact ⟨x + 1, by omega, by omega, by go_num, hide ⟨E', f', by rw [HROW.out, ← List.append_assoc, HLL.out]; exact HG5.out⟩⟩
                      case measure => simp [intOf]; omega
                · have q0 : ((vi : Int) == (xi : Int)) = false := beq_eq_false_iff_ne.2 (by omega)
                  cases g1 : mx.testBit xi
                  · rw [g1] at hbX
                    have hbXn := beq_eq_false_iff_ne.1 hbX
                    have hp : P v x = false := by rw [HPP.out]; simp [g0, g1]
                    have HROW := hide (rowTo_no (P := P) (v := v) (w := x) hp)
                    clear hp
                    go_wp2_with (fail)
                    go_roundw
                    case rel => exact ⟨x + 1, by omega, by omega, by go_num, hide ⟨E, f, by rw [HROW.out, HLL.out]; exact HGQ.out⟩⟩
                    case measure => simp [intOf]; omega
                  · rw [g1] at hbX
                    by_cases g2 : vk = xk
                    · have q2 : ((vk : Int) == (xk : Int)) = true := by rw [g2]; simp
                      have hp : P v x = true := by rw [HPP.out]; simp [g1, g2]
                      have HROW := hide (rowTo_yes (P := P) (v := v) (w := x) (by omega) hp)
                      clear hp
                      go_wp2_with (at_builtin; refine wp_app_pairs _ rfl (.tmp 109) (.tmp 113) rfl (w2.heap.size + 1) (.slice E L.length f) L rfl (own_below HGQ.out.own (below_alloc' (Below.refl _ _) _)) (some ⟨wq.heap.size, 0, none⟩) 1 1 [((v : Int), (x : Int))] rfl rfl (pairs_one (by simp) (by simp)) (by omega) (by rw [World.size_alloc]; omega) ?_; intro E' f' w5 hf5 ho5 hg5 _; obtain ⟨hG5, y1, y2⟩ := SGr.push HGQ.out ho5 hg5; rw [HLEN.out] at hG5; have HG5 := hide hG5; clear ho5 hg5 hf5 hG5)
                      go_roundw
                      case rel => exact ⟨x + 1, by omega, by omega, by go_num, hide ⟨E', f', by rw [HROW.out, ← List.append_assoc, HLL.out]; exact HG5.out⟩⟩
                      case measure => simp [intOf]; omega
                    · have q2 : ((vk : Int) == (xk : Int)) = false := beq_eq_false_iff_ne.2 (by omega)
                      cases g3 : my.testBit xk
                      · rw [g3] at hbY
                        have hbYn := beq_eq_false_iff_ne.1 hbY
                        have hp : P v x = false := by rw [HPP.out]; simp [g1, g2, g3]
                        have HROW := hide (rowTo_no (P := P) (v := v) (w := x) hp)
                        clear hp
                        go_wp2_with (fail)
                        go_roundw
                        case rel => exact ⟨x + 1, by omega, by omega, by go_num, hide ⟨E, f, by rw [HROW.out, HLL.out]; exact HGQ.out⟩⟩
                        case measure => simp [intOf]; omega
                      · rw [g3] at hbY
                        have hp : P v x = true := by rw [HPP.out]; simp [g1, g3]
                        have HROW := hide (rowTo_yes (P := P) (v := v) (w := x) (by omega) hp)
                        clear hp
                        go_wp2_with (at_builtin; refine wp_app_pairs _ rfl (.tmp 109) (.tmp 113) rfl (w2.heap.size + 1) (.slice E L.length f) L rfl (own_below HGQ.out.own (below_alloc' (Below.refl _ _) _)) (some ⟨wq.heap.size, 0, none⟩) 1 1 [((v : Int), (x : Int))] rfl rfl (pairs_one (by simp) (by simp)) (by omega) (by rw [World.size_alloc]; omega) ?_; intro E' f' w5 hf5 ho5 hg5 _; obtain ⟨hG5, y1, y2⟩ := SGr.push HGQ.out ho5 hg5; rw [HLEN.out] at hG5; have HG5 := hide hG5; clear ho5 hg5 hf5 hG5)
                        go_roundw
                        case rel => exact ⟨x + 1, by omega, by omega, by go_num, hide ⟨E', f', by rw [HROW.out, ← List.append_assoc, HLL.out]; exact HG5.out⟩⟩
                        case measure => simp [intOf]; omega
              · have hxN : x = N := by omega
                have x1 : ¬ (x : Int) < (N : Int) := by omega
                rw [← hL, hxN, ← allTo_succ] at HK
                have HV1 := hide (show v + 1 ≤ N from hvl)
                go_wp2_with (fail)
                go_roundw
                case rel => exact ⟨v + 1, HV1.out, by go_num, HK⟩
                case measure =>
                  have := HV1.out
                  simp [intOf]
                  omega
          · obtain rfl : v = N := by omega
            obtain ⟨E, f, hG⟩ := HJ.out
            obtain ⟨c0, c1, c2, c3⟩ := hG.cells
            have hrr := HB.out.1.later hG.below
            obtain ⟨r0, r1, f0, f1⟩ := And.intro hrr.r0 (And.intro hrr.r1 (And.intro hrr.f0 hrr.f1))
            have zr : w.heap.size + 2 < wv.heap.size := by have := hrr.size; omega
            have hown := hG.own
            have hcap := own_cap hG.own
            have hbw := hrr.below
            have hzz : w.heap.size + 2 < w2.heap.size + 1 := by omega
            have hEb : ∀ x, E = some x → w.heap.size ≤ x.block := fun x e => by
              rcases own_at hG.own with ⟨e', _⟩ | ⟨g, e', h, _⟩
              · rw [e'] at e; cases e
              · rw [e'] at e
                injection e with e
                subst e
                show w.heap.size ≤ g
                omega
            go_wp2_with (fail)
            refine bodyPost_ret (v := .tuple #[.agg #[.int .i64 (v : Int), .slice E (allTo P v v).length f], .nilIface]) (by simp [results, Tryd.results9, go_sem, r0, r1]) rfl ⟨E, f, rfl, ?_, hcap, hEb, ?_⟩
            · exact Pairs.own (ownsRow_setCell_below (ownsRow_setCell_below hown (a := ⟨w.heap.size + 2, 0, none⟩) hzz _) (a := ⟨w.heap.size + 2, 1, none⟩) hzz _)
            · exact (hbw.setCell (p := ⟨w.heap.size + 2, 0, none⟩) (by show w.heap.size ≤ w.heap.size + 2; omega) _).setCell (p := ⟨w.heap.size + 2, 1, none⟩) (by show w.heap.size ≤ w.heap.size + 2; omega) _
end Go.Proofs.YtehheklbibocjaaDoor

/- The walks of Joined and SameGraph. No condition. -/
namespace Go.Proofs.YtehheklbibocjaaDoor
open Go.RowKit Go.Deep Go.Proofs.YtehheklbibocjaaDoorW.PrintWords

/-- does an edge join two vertices? -/
def adjAt (p q a b : Int) : Bool := (p == a && q == b) || (p == b && q == a)
def adjL (l : List (Int × Int)) (a b : Int) : Bool := l.any fun e => adjAt e.1 e.2 a b
/-- none of the first k edges joins them -/
structure NoneTo (l : List (Int × Int)) (a b : Int) (k : Nat) : Prop where
  out : ∀ j, j < k → adjAt (l.getD j (0, 0)).1 (l.getD j (0, 0)).2 a b = false
theorem NoneTo.zero (l : List (Int × Int)) (a b : Int) : NoneTo l a b 0 := ⟨fun j h => absurd h (by omega)⟩
theorem NoneTo.succ {l : List (Int × Int)} {a b : Int} {k : Nat} (h : NoneTo l a b k) (hk : adjAt (l.getD k (0, 0)).1 (l.getD k (0, 0)).2 a b = false) : NoneTo l a b (k + 1) :=
  ⟨fun j hj => by
    by_cases e : j = k
    · rw [e]; exact hk
    · exact h.out j (by omega)⟩
theorem adjL_yes {l : List (Int × Int)} {a b : Int} {k : Nat} (hk : k < l.length) (h : adjAt (l.getD k (0, 0)).1 (l.getD k (0, 0)).2 a b = true) : adjL l a b = true := by
  rw [getD_eq l k _ hk] at h
  exact List.any_eq_true.2 ⟨l[k], List.getElem_mem hk, h⟩
theorem adjL_no {l : List (Int × Int)} {a b : Int} (h : NoneTo l a b l.length) : adjL l a b = false := by
  unfold adjL
  rw [List.any_eq_false]
  intro e he
  obtain ⟨i, hi, rfl⟩ := List.getElem_of_mem he
  have := h.out i hi
  rw [getD_eq l i _ hi] at this
  rw [this]
  decide

set_option maxRecDepth 100000 in
set_option maxHeartbeats 4000000 in
theorem joined_any (n : Int) (A : Option Addr) (l : List (Int × Int)) (cap : Nat) (a b : Int) (w : World) (hP : Pairs w A l) :
    Calls Tryd.prog 31 #[.agg #[.int .i64 n, .slice A l.length cap], .int .i64 a, .int .i64 b] w fun e w' => e = .returned (.bool (adjL l a b)) ∧ Below w.heap.size w w' := by
  have hl := hP.len
  have HP := hide hP
  clear hP
  go_enter Tryd.func31, Tryd.ntmps31
  go_wp2_with (fail)
  go_loopw [7] (fun i wr => ∃ k : Nat, k ≤ l.length ∧ Hid (NoneTo l a b k) ∧ i = .int .i64 k ∧ Hid (Below (w.heap.size + 1) (w.alloc (.cells #[.int .i64 n, .slice A l.length cap] 24)) wr)) (fun i _ => l.length - (intOf i).toNat)
  case atStart => exact ⟨0, Nat.zero_le _, hide (NoneTo.zero _ _ _), rfl, hide (Below.refl _ _)⟩
  case round =>
    obtain ⟨k, hk, hg, rfl, hB⟩ := hrel
    obtain ⟨wi, rfl⟩ : ∃ wi : World, wi = wr := ⟨_, rfl⟩
    have hsz : w.heap.size + 1 ≤ wi.heap.size := by have := hB.out.size; simp at this; exact this
    have hbw : Below w.heap.size w wi := (below_alloc' (Below.refl _ _) _).trans (hB.out.mono (Nat.le_succ _))
    have HBW := hide hbw
    have k0 : (0 : Int) ≤ (k : Int) := Int.natCast_nonneg _
    have zw : w.heap.size < wi.heap.size := by omega
    by_cases hlt : k < l.length
    · obtain ⟨g, off, rfl, hb, c1, c2⟩ := (HP.out.below hbw).at_ k hlt
      have HY := hide (fun h => adjL_yes (a := a) (b := b) hlt h)
      have HN := hide (fun h => hg.out.succ (k := k) h)
      generalize (l.getD k (0,0)).1 = p at c1 HY HN
      generalize (l.getD k (0,0)).2 = q at c2 HY HN
      have k1 : (k : Int) < (l.length : Int) := by omega
      have y1 : wi.cell? ⟨w.heap.size, 1, none⟩ = some (.slice (some ⟨g, off, none⟩) l.length cap) := by
        rw [hB.out.cell (p := ⟨w.heap.size, 1, none⟩) (by show w.heap.size < _; omega)]; simp
      clear hbw
      cases e1 : (p == a) <;> cases e2 : (q == b) <;> cases e3 : (p == b) <;> cases e4 : (q == a)
      all_goals have HV := hide (show adjAt p q a b = ((p == a && q == b) || (p == b && q == a)) from rfl)
      all_goals rw [e1, e2, e3, e4] at HV
      all_goals go_wp2_with (fail)
      all_goals first
        | (go_ret
           exact ⟨ret_bool (HY.out HV.out).symm, below_alloc' HBW.out _⟩)
        | (go_roundw
           case rel => exact ⟨k + 1, by omega, hide (HN.out HV.out), by go_num, hide (hB.out.alloc hsz _)⟩
           case measure => simp [intOf]; omega)
    · obtain rfl : k = l.length := by omega
      have HF := hide (adjL_no hg.out)
      have y1 : wi.cell? ⟨w.heap.size, 1, none⟩ = some (.slice A l.length cap) := by
        rw [hB.out.cell (p := ⟨w.heap.size, 1, none⟩) (by show w.heap.size < _; omega)]; simp
      go_wp2_with (fail)
      go_ret
      rw [HF.out]
      exact ⟨rfl, HBW.out⟩

/-- two lists of pairs are alike ahead of place k -/
structure AlikeP (l m : List (Int × Int)) (k : Nat) : Prop where
  out : ∀ j, j < k → l.getD j (0, 0) = m.getD j (0, 0)
theorem AlikeP.zero (l m : List (Int × Int)) : AlikeP l m 0 := ⟨fun j h => absurd h (by omega)⟩
theorem AlikeP.succ {l m : List (Int × Int)} {k : Nat} (h : AlikeP l m k) (hk : l.getD k (0, 0) = m.getD k (0, 0)) : AlikeP l m (k + 1) :=
  ⟨fun j hj => by
    by_cases e : j = k
    · rw [e]; exact hk
    · exact h.out j (by omega)⟩

@[go_sem] theorem eq_pair (a b c d : Int) (w : World) : (Op.equalIn 10000 51 (.agg #[.int .i64 a, .int .i64 b]) (.agg #[.int .i64 c, .int .i64 d])).run Tryd.prog w = .ok (a == c && b == d) w := by
  have u3 := Tryd.underlying3
  have a3 := Tryd.isAgg3
  have z3 := Tryd.sizeOf3
  rw [show (10000 : Nat) = 9999 + 1 from rfl, Op.equalIn]
  simp only [Sem.run_bind, run_underlying Tryd.underlying51, Result.andThen_ok]
  simp only [Std.Legacy.Range.forIn_eq_forIn_range', Std.Legacy.Range.size, Nat.sub_zero, Nat.add_sub_cancel, Nat.div_one, List.range'_succ, List.range'_zero, List.forIn_cons, List.forIn_nil]
  go_simp
  by_cases h1 : a = c <;> by_cases h2 : b = d <;> simp [h1, h2]

set_option maxRecDepth 100000 in
set_option maxHeartbeats 4000000 in
/-- the same graph twice is the same -/
theorem sameGraph_yes (n : Int) (A B : Option Addr) (l : List (Int × Int)) (c d : Nat) (w : World) (hA : Pairs w A l) (hB : Pairs w B l) :
    Calls Tryd.prog 17 #[.agg #[.int .i64 n, .slice A l.length c], .agg #[.int .i64 n, .slice B l.length d]] w fun e w' => e = .returned (.bool true) ∧ Below w.heap.size w w' := by
  have hl := hA.len
  have HAB := hide (And.intro hA hB)
  have n1 : (n != n) = false := by simp
  have n2 : ((l.length : Int) != (l.length : Int)) = false := by simp
  clear hA hB
  go_enter Tryd.func17, Tryd.ntmps17
  go_wp2_with (fail)
  go_loopw [5] (fun i wr => ∃ k m : Nat, k ≤ l.length ∧ i = .int .i64 k ∧ wr = World.drewN ((w.alloc (.cells #[.int .i64 n, .slice A l.length c] 24)).alloc (.cells #[.int .i64 n, .slice B l.length d] 24)) m) (fun i _ => l.length - (intOf i).toNat)
  case atStart => exact ⟨0, 0, Nat.zero_le _, rfl, rfl⟩
  case round =>
    obtain ⟨k, m, hk, rfl, hwr⟩ := hrel
    obtain ⟨wi, rfl⟩ : ∃ wi : World, wi = wr := ⟨_, rfl⟩
    have k0 : (0 : Int) ≤ (k : Int) := Int.natCast_nonneg _
    have hbw : Below w.heap.size w wi := by rw [hwr]; exact below_drewN' (below_alloc' (below_alloc' (Below.refl _ _) _) _) _
    have y1 : wi.cell? ⟨w.heap.size, 1, none⟩ = some (.slice A l.length c) := by rw [hwr]; show (World.alloc _ _).cell? _ = _; simp
    have y2 : wi.cell? ⟨w.heap.size + 1, 1, none⟩ = some (.slice B l.length d) := by rw [hwr]; show (World.alloc _ _).cell? _ = _; simp
    have HBW := hide hbw
    have HWR := hide hwr
    clear hwr
    by_cases hlt : k < l.length
    · obtain ⟨g, off, rfl, hb, c1, c2⟩ := (HAB.out.1.below hbw).at_ k hlt
      obtain ⟨g', off', rfl, hb', d1, d2⟩ := (HAB.out.2.below hbw).at_ k hlt
      clear hbw
      generalize (l.getD k (0,0)).1 = p at c1 d1
      generalize (l.getD k (0,0)).2 = q at c2 d2
      have k1 : (k : Int) < (l.length : Int) := by omega
      have p1 : (p != p) = false := by simp
      have q1 : (q != q) = false := by simp
      go_wp2_with (fail)
      go_quiet (fail)
      go_wp2_with (fail)
      go_roundw
      case rel => exact ⟨k + 1, m + nq, by omega, by go_num, by rw [HWR.out, World.drewN_drewN]⟩
      case measure => simp [intOf]; omega
    · obtain rfl : k = l.length := by omega
      go_wp2_with (fail)
      go_ret
      exact ⟨rfl, HBW.out⟩
end Go.Proofs.YtehheklbibocjaaDoor
