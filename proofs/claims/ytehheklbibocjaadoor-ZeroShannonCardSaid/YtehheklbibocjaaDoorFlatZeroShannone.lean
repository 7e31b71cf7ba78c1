/- Words, plain laws and walks behind the law ZeroShannon, part 5. No condition. -/
import Derived.Test.YtehheklbibocjaaDoorFlatZeroShannonc
import Derived.Test.YtehheklbibocjaaDoorFlatZeroShannond
import Derived.Deep.RegionHeld3
import Derived.Test.YtehheklbibocjaaDoorFlatZeroShannona
import Derived.OpenShut
import Derived.Deep.Slices
import Derived.Deep.Matrix
import Derived.Lib.SmallJoins

/- The law ZeroStrong. Condition: the variables read as laid. -/
namespace Go.Proofs.YtehheklbibocjaaDoor
open Go.RowKit Go.Deep Go.Proofs.YtehheklbibocjaaDoorW.PrintWords

theorem sub23 {c : Nat} (h : c ∈ [2, 3]) : c ∈ codes := by
  simp at h
  rcases h with rfl | rfl <;> decide
/-- the boxes of two graphs that came in -/
structure AB (w : World) (n : Int) (A : Option Addr) (la c : Nat) (m : Int) (B : Option Addr) (lb d : Nat) (W : World) : Prop where
  below : Below w.heap.size w W
  size : w.heap.size + 2 ≤ W.heap.size
  a0 : W.cell? ⟨w.heap.size, 0, none⟩ = some (.int .i64 n)
  a1 : W.cell? ⟨w.heap.size, 1, none⟩ = some (.slice A la c)
  b0 : W.cell? ⟨w.heap.size + 1, 0, none⟩ = some (.int .i64 m)
  b1 : W.cell? ⟨w.heap.size + 1, 1, none⟩ = some (.slice B lb d)
theorem AB.start (w : World) (n : Int) (A : Option Addr) (la c : Nat) (m : Int) (B : Option Addr) (lb d : Nat) : AB w n A la c m B lb d ((w.alloc (gObj n A la c)).alloc (gObj m B lb d)) := by
  obtain ⟨V1, hV1⟩ : ∃ V, w.alloc (gObj n A la c) = V := ⟨_, rfl⟩
  obtain ⟨V2, hV2⟩ : ∃ V, V1.alloc (gObj m B lb d) = V := ⟨_, rfl⟩
  rw [hV1, hV2]
  have s1 : V1.heap.size = w.heap.size + 1 := by rw [← hV1, World.size_alloc]
  have s2 : V2.heap.size = w.heap.size + 2 := by rw [← hV2, World.size_alloc, s1]
  have b1 : Below w.heap.size w V1 := by rw [← hV1]; exact below_alloc' (Below.refl _ _) _
  have b2 : Below V1.heap.size V1 V2 := by rw [← hV2]; exact below_alloc' (Below.refl _ _) _
  have e1 : V2.heap[w.heap.size]? = some (gObj n A la c) := by
    rw [b2.block _ (by omega), ← hV1]
    exact alloc_at _ _
  have e2 : V2.heap[w.heap.size + 1]? = some (gObj m B lb d) := by
    rw [← s1, ← hV2]
    exact alloc_at _ _
  exact ⟨below_trans b1 b2, by omega, (cell_of _ _ 0 _ _ _ e1 rfl).1, (cell_of _ _ 1 _ _ _ e1 rfl).1, (cell_of _ _ 0 _ _ _ e2 rfl).1, (cell_of _ _ 1 _ _ _ e2 rfl).1⟩
theorem AB.later {w : World} {n : Int} {A : Option Addr} {la c : Nat} {m : Int} {B : Option Addr} {lb d : Nat} {W W' : World} (h : AB w n A la c m B lb d W) (b : Below W.heap.size W W') : AB w n A la c m B lb d W' := by
  have hs := h.size
  have key : ∀ q o, q < w.heap.size + 2 → W'.cell? ⟨q, o, none⟩ = W.cell? ⟨q, o, none⟩ := fun q o hq => b.cell (p := ⟨q, o, none⟩) (by show q < _; omega)
  exact ⟨below_trans h.below b, Nat.le_trans hs b.size, (key _ _ (by omega)).trans h.a0, (key _ _ (by omega)).trans h.a1, (key _ _ (by omega)).trans h.b0, (key _ _ (by omega)).trans h.b1⟩
theorem sErr_cases (n : Int) (l : List (Int × Int)) (m : Int) (k : List (Int × Int)) : sErr n l m k = 0 ∨ sErr n l m k = 2 ∨ sErr n l m k = 3 := by
  unfold sErr
  split
  · exact gErr_cases n l
  · split
    · exact gErr_cases m k
    · split
      · exact .inr (.inl rfl)
      · exact .inl rfl

set_option maxRecDepth 100000 in
set_option maxHeartbeats 4000000 in
/-- more edges than are asked about -/
theorem law_strong_many (n : Int) (A : Option Addr) (l : List (Int × Int)) (c : Nat) (m : Int) (B : Option Addr) (k : List (Int × Int)) (d : Nat) (w : World) (a : Nat → Addr) (hS : Sent codes w a) (hA : Pairs w A l) (hB : Pairs w B k) (h : 200 < l.length ∨ 200 < k.length) :
    Calls Tryd.prog 5 #[.agg #[.int .i64 n, .slice A l.length c], .agg #[.int .i64 m, .slice B k.length d]] w fun e w' => e = .returned (.bool true) ∧ Below w.heap.size w w' := by
  have hla := hA.len
  have hlb := hB.len
  have HAB := hide (AB.start w n A l.length c m B k.length d)
  have HPE := hide (fun V (hb : Below w.heap.size w V) => pentagon_ok V a ((hS.toEnv.sub (fun c h => sub23 h)).below hb))
  clear hS hA hB
  have HLA := hide (fun V => little_any n A l.length c V hla)
  have HLB := hide (fun V => little_any m B k.length d V hlb)
  by_cases h1 : l.length ≤ 200
  · have h2 : ¬ k.length ≤ 200 := by omega
    have t1 := decide_eq_true h1
    have t2 := decide_eq_false h2
    rw [t1] at HLA
    rw [t2] at HLB
    clear h h1 h2 t1 t2
    go_enter Tryd.func5, Tryd.ntmps5
    go_wp2_with (first
      | (go_at_call 7; refine Calls.mono (HPE.out _ HAB.out.below) ?_; rintro e w1 ⟨rfl, hb1⟩; have hs1 := HAB.out.later hb1; obtain ⟨a0, a1, b0, b1⟩ := And.intro hs1.a0 (And.intro hs1.a1 (And.intro hs1.b0 hs1.b1)))
      | (go_at_call_of 8 (Value.agg #[.int .i64 n, .slice A l.length c]); refine Calls.mono (HLA.out _) ?_; rintro e w2 ⟨rfl, hb2⟩; have hs2 := hs1.later hb2; obtain ⟨a0', a1', b0', b1'⟩ := And.intro hs2.a0 (And.intro hs2.a1 (And.intro hs2.b0 hs2.b1)))
      | (go_at_call_of 8 (Value.agg #[.int .i64 m, .slice B k.length d]); refine Calls.mono (HLB.out _) ?_; rintro e w3 ⟨rfl, hb3⟩; have hs3 := hs2.later hb3))
    go_ret
    exact ⟨rfl, hs3.below⟩
  · have t1 := decide_eq_false h1
    rw [t1] at HLA
    clear h h1 t1
    go_enter Tryd.func5, Tryd.ntmps5
    go_wp2_with (first
      | (go_at_call 7; refine Calls.mono (HPE.out _ HAB.out.below) ?_; rintro e w1 ⟨rfl, hb1⟩; have hs1 := HAB.out.later hb1; obtain ⟨a0, a1, b0, b1⟩ := And.intro hs1.a0 (And.intro hs1.a1 (And.intro hs1.b0 hs1.b1)))
      | (go_at_call_of 8 (Value.agg #[.int .i64 n, .slice A l.length c]); refine Calls.mono (HLA.out _) ?_; rintro e w2 ⟨rfl, hb2⟩; have hs2 := hs1.later hb2; obtain ⟨a0', a1', b0', b1'⟩ := And.intro hs2.a0 (And.intro hs2.a1 (And.intro hs2.b0 hs2.b1))))
    go_ret
    exact ⟨rfl, hs2.below⟩

/-- the graph that is wanted, in its box -/
structure WN (z : Nat) (gn : Int) (F : Option Addr) (gl : List (Int × Int)) (f0 : Nat) (V : World) : Prop where
  lt : z < V.heap.size
  y0 : V.cell? ⟨z, 0, none⟩ = some (.int .i64 gn)
  y1 : V.cell? ⟨z, 1, none⟩ = some (.slice F gl.length f0)
  pr : Pairs V F gl
theorem WN.later {z : Nat} {gn : Int} {F : Option Addr} {gl : List (Int × Int)} {f0 : Nat} {V W : World} (h : WN z gn F gl f0 V) (b : Below V.heap.size V W) : WN z gn F gl f0 W :=
  ⟨Nat.lt_of_lt_of_le h.lt b.size, (b.cell (p := ⟨z, 0, none⟩) h.lt).trans h.y0, (b.cell (p := ⟨z, 1, none⟩) h.lt).trans h.y1, h.pr.below b⟩
theorem WN.none (V : World) : WN V.heap.size 0 none [] 0 (V.alloc (gObj 0 none 0 0)) :=
  ⟨by rw [World.size_alloc]; omega, (cell_of _ _ 0 _ _ _ (alloc_at V _) rfl).1, (cell_of _ _ 1 _ _ _ (alloc_at V _) rfl).1, Pairs.nil _ _⟩

theorem pairs_put {V : World} {A : Option Addr} {l : List (Int × Int)} {b i : Nat} {v : Value} (h : Pairs V A l) (hne : ∀ x, A = some x → x.block ≠ b) : Pairs (V.setCell ⟨b, i, none⟩ v) A l :=
  ⟨h.len, fun j hj => by
    obtain ⟨q, off, e, h1, h2, h3⟩ := h.at_ j hj
    have hq := hne _ e
    have hq' : q ≠ b := hq
    exact ⟨q, off, e, by rw [World.size_setCell]; exact h1, (World.cell?_setCell_other _ _ _ _ (fun e' => hq' (by injection e' with e'; exact e'.symm))).trans h2, (World.cell?_setCell_other _ _ _ _ (fun e' => hq' (by injection e' with e'; exact e'.symm))).trans h3⟩⟩
/-- what the last region reads -/
structure FinS (w : World) (z : Nat) (gn : Int) (F : Option Addr) (gl : List (Int × Int)) (f0 b8 : Nat) (E : Option Addr) (f : Nat) (W : World) : Prop where
  bel : Below w.heap.size w W
  wn : WN z gn F gl f0 W
  c0 : W.cell? ⟨b8, 0, none⟩ = some (.int .i64 gn)
  c1 : W.cell? ⟨b8, 1, none⟩ = some (.slice E gl.length f)
  pe : Pairs W E gl
  lt : b8 < W.heap.size
theorem FinS.put {w w9 : World} {z : Nat} {gn : Int} {F : Option Addr} {gl : List (Int × Int)} {f0 b8 : Nat} {E : Option Addr} {f : Nat} {t : TypeId} {x y : Value} (hx : w9.heap[b8]? = some (.cells #[x, y] t (0, 0))) (hz : WN z gn F gl f0 w9) (hzb : z < b8) (hw : Below w.heap.size w w9) (hB : w.heap.size ≤ b8) (hE : Pairs w9 E gl) (hEb : ∀ x, E = some x → b8 < x.block) (hF : ∀ x, F = some x → x.block < b8) :
    FinS w z gn F gl f0 b8 E f ((w9.setCell ⟨b8, 0, none⟩ (.int .i64 gn)).setCell ⟨b8, 1, none⟩ (.slice E gl.length f)) := by
  have h1 := rows_same w9 b8 0 _ t (.int .i64 gn) hx
  have h2 := rows_same _ b8 1 _ t (.slice E gl.length f) h1
  have key : ∀ o, ((w9.setCell ⟨b8, 0, none⟩ (.int .i64 gn)).setCell ⟨b8, 1, none⟩ (.slice E gl.length f)).cell? ⟨z, o, none⟩ = w9.cell? ⟨z, o, none⟩ := fun o => by
    rw [World.cell?_setCell_other _ _ _ _ (fun e => by injection e with e; omega), World.cell?_setCell_other _ _ _ _ (fun e => by injection e with e; omega)]
  refine ⟨(hw.setCell (p := ⟨b8, 0, none⟩) hB _).setCell (p := ⟨b8, 1, none⟩) hB _, ⟨by rw [World.size_setCell, World.size_setCell]; exact hz.lt, (key 0).trans hz.y0, (key 1).trans hz.y1, pairs_put (pairs_put hz.pr fun x e => by have := hF x e; omega) fun x e => by have := hF x e; omega⟩, (cell_of _ _ 0 _ _ _ h2 rfl).1, (cell_of _ _ 1 _ _ _ h2 rfl).1, pairs_put (pairs_put hE fun x e => by have := hEb x e; omega) fun x e => by have := hEb x e; omega, by rw [World.size_setCell, World.size_setCell]; exact lt_of_block hx⟩
theorem FinS.fresh {w w9 : World} {z : Nat} {gn : Int} {F : Option Addr} {gl : List (Int × Int)} {f0 : Nat} {E : Option Addr} {f : Nat} {t : TypeId} (hz : WN z gn F gl f0 w9) (hw : Below w.heap.size w w9) (hE : Pairs w9 E gl) :
    FinS w z gn F gl f0 w9.heap.size E f (w9.alloc (.cells #[.int .i64 gn, .slice E gl.length f] t)) :=
  ⟨below_alloc' hw _, hz.later (below_alloc' (Below.refl _ _) _), (cell_of _ _ 0 _ _ _ (alloc_at w9 _) rfl).1, (cell_of _ _ 1 _ _ _ (alloc_at w9 _) rfl).1, hE.below (below_alloc' (Below.refl _ _) _), by rw [World.size_alloc]; omega⟩
theorem FinS.later {w : World} {z : Nat} {gn : Int} {F : Option Addr} {gl : List (Int × Int)} {f0 b8 : Nat} {E : Option Addr} {f : Nat} {V W : World} (h : FinS w z gn F gl f0 b8 E f V) (b : Below V.heap.size V W) : FinS w z gn F gl f0 b8 E f W :=
  ⟨below_trans h.bel b, h.wn.later b, (b.cell (p := ⟨b8, 0, none⟩) h.lt).trans h.c0, (b.cell (p := ⟨b8, 1, none⟩) h.lt).trans h.c1, h.pe.below b, Nat.lt_of_lt_of_le h.lt b.size⟩
theorem coded_same (V : World) (a : Nat → Addr) (hS : Sent codes V a) (hH : Handle V) (r : Nat) (hr : r ≤ 8) : Calls Tryd.prog 14 #[errC a r, .int .i64 r] V fun e w' => e = .returned (.bool true) ∧ Below V.heap.size V w' := by
  have h := coded_any V a hS hH r hr r
  rw [decide_eq_true rfl] at h
  exact h

set_option maxRecDepth 100000 in
set_option maxHeartbeats 8000000 in
theorem law_strong_b1 (n : Int) (A : Option Addr) (l : List (Int × Int)) (c : Nat) (m : Int) (B : Option Addr) (k : List (Int × Int)) (d : Nat) (w : World) (a : Nat → Addr) (hS : Sent codes w a) (hH : Handle w) (hA : Pairs w A l) (hB : Pairs w B k) (hl : l.length ≤ 200) (hk : k.length ≤ 200) (h1 : gErr n l ≠ 0) :
    Calls Tryd.prog 5 #[.agg #[.int .i64 n, .slice A l.length c], .agg #[.int .i64 m, .slice B k.length d]] w fun e w' => e = .returned (.bool true) ∧ Below w.heap.size w w' := by
  have hla := hA.len
  have hlb := hB.len
  have hE : Env [2, 3] w a := hS.toEnv.sub (fun c h => sub23 h)
  have HAB := hide (AB.start w n A l.length c m B k.length d)
  have HPE := hide (fun V (hb : Below w.heap.size w V) => pentagon_ok V a (hE.below hb))
  have HLA := hide (fun V => little_any n A l.length c V hla)
  have HLB := hide (fun V => little_any m B k.length d V hlb)
  rw [decide_eq_true hl] at HLA
  rw [decide_eq_true hk] at HLB
  have HGA := hide (fun V (hb : Below w.heap.size w V) => graphErr_any n A l c V (hA.below hb))
  have HGB := hide (fun V (hb : Below w.heap.size w V) => graphErr_any m B k d V (hB.below hb))
  have HA' := hide (fun V (hb : Below w.heap.size w V) => graph_any n A l c V (hA.below hb) (by omega))
  have HB' := hide (fun V (hb : Below w.heap.size w V) => graph_any m B k d V (hB.below hb) (by omega))
  have HCO0 := hide (fun V (hb : Below w.heap.size w V) (r : Nat) (hr : r ≤ 8) => coded_same V a (hS.below hb) (hH.below hb) r hr)
  obtain ⟨r, hr, hr8⟩ : ∃ r : Nat, gErr n l = (r : Int) ∧ r ≤ 8 := by
    rcases gErr_cases n l with h | h | h
    · exact absurd h h1
    · exact ⟨2, h, by omega⟩
    · exact ⟨3, h, by omega⟩
  have hse : sErr n l m k = (r : Int) := by unfold sErr; rw [if_pos h1, hr]
  have hrn : ((r : Int) == 0) = false := beq_eq_false_iff_ne.2 (by omega)
  have hrp : ¬ (r : Int) = 0 := by omega
  have hec : errC a (r : Int) = .iface 108 (.pointer (some (a r))) := errC_pos a hrp
  have HCO := hide (fun V (hb : Below w.heap.size w V) => HCO0.out V hb r hr8)
  rw [hec] at HCO
  rw [hr] at HGA
  have HST := hide (fun (A' : Option Addr) (c' : Nat) (B' : Option Addr) (d' : Nat) V (hb : Below w.heap.size w V) (gA : Pairs V A' l) (gB : Pairs V B' k) => strong_bad n A' l c' m B' k d' V a (hE.below hb) gA gB (by rw [hse]; omega))
  rw [hse] at HST
  clear h1 hr hse hec HCO0
  clear hE hS hH hA hB
  go_enter Tryd.func5, Tryd.ntmps5
  go_wp2_with (first
    | (go_at_call 7; refine Calls.mono (HPE.out _ HAB.out.below) ?_; rintro e w1 ⟨rfl, hb1⟩; have hs1 := HAB.out.later hb1; obtain ⟨a0, a1, b0, b1⟩ := And.intro hs1.a0 (And.intro hs1.a1 (And.intro hs1.b0 hs1.b1)))
    | (go_at_call_of 8 (Value.agg #[.int .i64 n, .slice A l.length c]); refine Calls.mono (HLA.out _) ?_; rintro e w2 ⟨rfl, hb2⟩; have hs2 := hs1.later hb2; clear a0 a1 b0 b1; obtain ⟨a0, a1, b0, b1⟩ := And.intro hs2.a0 (And.intro hs2.a1 (And.intro hs2.b0 hs2.b1)))
    | (go_at_call_of 8 (Value.agg #[.int .i64 m, .slice B k.length d]); refine Calls.mono (HLB.out _) ?_; rintro e w3 ⟨rfl, hb3⟩; have hs3 := hs2.later hb3; clear a0 a1 b0 b1; obtain ⟨a0, a1, b0, b1⟩ := And.intro hs3.a0 (And.intro hs3.a1 (And.intro hs3.b0 hs3.b1)))
    | (go_at_call_of 12 (Value.agg #[.int .i64 n, .slice A l.length c]); refine Calls.mono (HGA.out _ hs3.below) ?_; rintro e w4 ⟨rfl, hb4⟩; have hs4 := hs3.later hb4; clear a0 a1 b0 b1; obtain ⟨a0, a1, b0, b1⟩ := And.intro hs4.a0 (And.intro hs4.a1 (And.intro hs4.b0 hs4.b1)); have z4 := hs4.size))
  obtain ⟨w6, hw6⟩ : ∃ W, w4.alloc (.cells #[.int .i64 0, .slice none 0 0] 24) = W := ⟨_, rfl⟩
  have hN6 : WN w4.heap.size 0 none [] 0 w6 := by rw [← hw6]; exact WN.none w4
  have hs6 : AB w n A l.length c m B k.length d w6 := by rw [← hw6]; exact hs4.later (below_alloc' (Below.refl _ _) _)
  rw [hw6]
  clear hw6
  generalize w4.heap.size = z at hN6 ⊢
  have HS6 := hide (And.intro hs6 hN6)
  have zN := hN6.lt
  have hs6s := hs6.size
  clear a0 a1 b0 b1
  obtain ⟨a0, a1, b0, b1⟩ := And.intro hs6.a0 (And.intro hs6.a1 (And.intro hs6.b0 hs6.b1))
  have zs := hs6.size
  have z0 : w.heap.size < w6.heap.size := by omega
  have z1 : w.heap.size + 1 < w6.heap.size := by omega
  clear hs6 hN6
  go_region_held3 (fun w' => w'.cell? ⟨w.heap.size, 0, none⟩ = some (.int .i64 n) ∧ w'.cell? ⟨w.heap.size, 1, none⟩ = some (.slice A l.length c) ∧ w'.cell? ⟨w.heap.size + 1, 0, none⟩ = some (.int .i64 m) ∧ w'.cell? ⟨w.heap.size + 1, 1, none⟩ = some (.slice B k.length d))
    (first | go_keep | exact ⟨‹_›, ‹_›, ‹_›, ‹_›⟩ | (refine ⟨?_, ?_, ?_, ?_⟩ <;> (rw [World.cell?_setCell_other _ _ _ _ (fun e => by injection e with e; omega), World.cell?_setCell_other _ _ _ _ (fun e => by injection e with e; omega)]; assumption)))
    ((first
      | (go_at_call_of 10 (Value.agg #[.int .i64 n, .slice A l.length c])
         first
         | (refine Calls.mono (HA'.out w6.drew (below_drewN' HS6.out.1.below 1)) ?_
            rintro e w7 ⟨A7, c7, rfl, hP7, hc7, hb7⟩
            have hk7 := below_trans (below_drewN' (Below.refl w6.heap.size w6) 1) hb7)
         | (refine Calls.mono (HA'.out (w6.drew.alloc (.cells #[.int .i64 0, .slice none 0 0] 27)) (below_alloc' (below_drewN' HS6.out.1.below 1) _)) ?_
            rintro e w7 ⟨A7, c7, rfl, hP7, hc7, hb7⟩
            have hk7 := below_trans (below_alloc' (below_drewN' (Below.refl w6.heap.size w6) 1) _) hb7
            have hx7 : w7.heap[w6.heap.size]? = some (.cells #[.int .i64 0, .slice none 0 0] 27 (0, 0)) := (hb7.block w6.heap.size (by rw [World.size_alloc]; exact Nat.lt_succ_self _)).trans (alloc_at w6.drew _))
         have hs7 := HS6.out.1.later hk7
         have p0 := hs7.a0
         have p1 := hs7.a1
         have p2 := hs7.b0
         have p3 := hs7.b1
         have z2 : w.heap.size < w7.heap.size := by have := hs7.size; omega
         have z3 : w.heap.size + 1 < w7.heap.size := by have := hs7.size; omega)
      | (go_at_call_of 10 (Value.agg #[.int .i64 m, .slice B k.length d])
         first
         | (refine Calls.mono (HB'.out w7 hs7.below) ?_
            rintro e w8 ⟨A8, c8, rfl, hP8, hc8, hb8⟩
            have hk8 := hb8)
         | (refine Calls.mono (HB'.out (w7.alloc (.cells #[.int .i64 0, .slice none 0 0] 27)) (below_alloc' hs7.below _)) ?_
            rintro e w8 ⟨A8, c8, rfl, hP8, hc8, hb8⟩
            have hk8 := below_trans (below_alloc' (Below.refl w7.heap.size w7) _) hb8
            have hx8 : w8.heap[w7.heap.size]? = some (.cells #[.int .i64 0, .slice none 0 0] 27 (0, 0)) := (hb8.block w7.heap.size (by rw [World.size_alloc]; exact Nat.lt_succ_self _)).trans (alloc_at w7 _))
         have hs8 := hs7.later hk8
         have q0 := hs8.a0
         have q1 := hs8.a1
         have q2 := hs8.b0
         have q3 := hs8.b1
         have z4' : w.heap.size < w8.heap.size := by have := hs8.size; omega
         have z5' : w.heap.size + 1 < w8.heap.size := by have := hs8.size; omega)
      | (go_at_call 9
         first
         | (refine Calls.mono (HST.out A7 c7 A8 c8 w8 hs8.below (hP7.below hk8) hP8) ?_
            rintro e w9 ⟨rfl, hb9⟩
            have hk9 := hb9)
         | (refine Calls.mono (HST.out A7 c7 A8 c8 (w8.alloc (.cells #[.int .i64 0, .slice none 0 0] 27)) (below_alloc' hs8.below _) ((hP7.below hk8).below (below_alloc' (Below.refl _ _) _)) (hP8.below (below_alloc' (Below.refl _ _) _))) ?_
            rintro e w9 ⟨rfl, hb9⟩
            have hk9 := below_trans (below_alloc' (Below.refl w8.heap.size w8) _) hb9
            have hx9 : w9.heap[w8.heap.size]? = some (.cells #[.int .i64 0, .slice none 0 0] 27 (0, 0)) := (hb9.block w8.heap.size (by rw [World.size_alloc]; exact Nat.lt_succ_self _)).trans (alloc_at w8 _)
            obtain ⟨u0, u2⟩ := cell_of _ _ 0 _ _ (.int .i64 0) hx9 rfl
            obtain ⟨u1, u3⟩ := cell_of _ _ 1 _ _ (.slice none 0 0) hx9 rfl
            have uz := lt_of_block hx9)
         try (have hx9a := (hk9.block _ (lt_of_block hx8)).trans hx8
              obtain ⟨u0, u2⟩ := cell_of _ _ 0 _ _ (.int .i64 0) hx9a rfl
              obtain ⟨u1, u3⟩ := cell_of _ _ 1 _ _ (.slice none 0 0) hx9a rfl
              have uz := lt_of_block hx9a)
         try (have hx9b := (hk9.block _ (Nat.lt_of_lt_of_le (lt_of_block hx7) hk8.size)).trans ((hk8.block _ (lt_of_block hx7)).trans hx7)
              obtain ⟨u0, u2⟩ := cell_of _ _ 0 _ _ (.int .i64 0) hx9b rfl
              obtain ⟨u1, u3⟩ := cell_of _ _ 1 _ _ (.slice none 0 0) hx9b rfl
              have uz := lt_of_block hx9b)
         have hs9 := hs8.later hk9
         have s0 := hs9.a0
         have s1 := hs9.a1
         have s2 := hs9.b0
         have s3 := hs9.b1)))
  · have hN9 := HS6.out.2.later (below_trans (below_trans hk7 hk8) hk9)
    obtain ⟨W, hW⟩ : ∃ W, w9.alloc (.cells #[.int .i64 0, .slice none 0 0] 27) = W := ⟨_, rfl⟩
    have hF : FinS w z 0 none [] 0 w9.heap.size none 0 W := by rw [← hW]; exact FinS.fresh hN9 hs9.below (Pairs.nil _ _)
    rw [hW]
    clear hW
    generalize w9.heap.size = b8 at hF ⊢
    have HF := hide hF
    obtain ⟨x0, x1, y0, y1⟩ := And.intro hF.c0 (And.intro hF.c1 (And.intro hF.wn.y0 hF.wn.y1))
    have zz0 := hF.lt
    have zz1 := hF.wn.lt
    clear hF
    go_wp2_with (fail)
    go_region_held3 (fun w' => w'.cell? ⟨b8, 0, none⟩ = some (.int .i64 0) ∧ w'.cell? ⟨b8, 1, none⟩ = some (.slice none 0 0) ∧ w'.cell? ⟨z, 0, none⟩ = some (.int .i64 0) ∧ w'.cell? ⟨z, 1, none⟩ = some (.slice none 0 0))
      (first | go_keep | exact ⟨‹_›, ‹_›, ‹_›, ‹_›⟩)
      ((first
        | (go_at_call 14
           refine Calls.mono (HCO.out _ (below_drewN' HF.out.bel 1)) ?_
           rintro e w10 ⟨rfl, hb10⟩
           have hF10 := HF.out.later (below_trans (below_drewN' (Below.refl _ _) 1) hb10)
           obtain ⟨xa0, xa1, ya0, ya1⟩ := And.intro hF10.c0 (And.intro hF10.c1 (And.intro hF10.wn.y0 hF10.wn.y1))
           have zz2 := hF10.lt
           have zz3 := hF10.wn.lt)
        | (go_at_call 18
           refine Calls.mono (back_any _ _ _ _ w10) ?_
           rintro e w11 ⟨rfl, hb11⟩
           have hF11 := hF10.later hb11
           obtain ⟨xb0, xb1, yb0, yb1⟩ := And.intro hF11.c0 (And.intro hF11.c1 (And.intro hF11.wn.y0 hF11.wn.y1))
           have zz4 := hF11.lt
           have zz5 := hF11.wn.lt)
        | (go_at_call 17
           refine Calls.mono (sameGraph_yes 0 none none [] 0 0 w11 hF11.pe hF11.wn.pr) ?_
           rintro e w12 ⟨rfl, hb12⟩
           have hF12 := hF11.later hb12
           obtain ⟨xc0, xc1, yc0, yc1⟩ := And.intro hF12.c0 (And.intro hF12.c1 (And.intro hF12.wn.y0 hF12.wn.y1)))))
    go_wp2_with (fail)
    go_ret
    exact ⟨rfl, hF12.bel⟩
  · have hN9 := HS6.out.2.later (below_trans (below_trans hk7 hk8) hk9)
    obtain ⟨W, hW⟩ : ∃ W, (w9.setCell ⟨w8.heap.size, 0, none⟩ (.int .i64 0)).setCell ⟨w8.heap.size, 1, none⟩ (.slice none 0 0) = W := ⟨_, rfl⟩
    have hF : FinS w z 0 none [] 0 w8.heap.size none 0 W := by rw [← hW]; exact FinS.put hx9 hN9 (by have := zN; have := hk7.size; have := hk8.size; omega) hs9.below (by have := hs6s; have := hk7.size; have := hk8.size; omega) (Pairs.nil _ _) (fun x e => by cases e) (fun x e => by cases e)
    rw [hW]
    clear hW
    generalize w8.heap.size = b8 at hF ⊢
    have HF := hide hF
    obtain ⟨x0, x1, y0, y1⟩ := And.intro hF.c0 (And.intro hF.c1 (And.intro hF.wn.y0 hF.wn.y1))
    have zz0 := hF.lt
    have zz1 := hF.wn.lt
    clear hF
    go_wp2_with (fail)
    go_region_held3 (fun w' => w'.cell? ⟨b8, 0, none⟩ = some (.int .i64 0) ∧ w'.cell? ⟨b8, 1, none⟩ = some (.slice none 0 0) ∧ w'.cell? ⟨z, 0, none⟩ = some (.int .i64 0) ∧ w'.cell? ⟨z, 1, none⟩ = some (.slice none 0 0))
      (first | go_keep | exact ⟨‹_›, ‹_›, ‹_›, ‹_›⟩)
      ((first
        | (go_at_call 14
           refine Calls.mono (HCO.out _ (below_drewN' HF.out.bel 1)) ?_
           rintro e w10 ⟨rfl, hb10⟩
           have hF10 := HF.out.later (below_trans (below_drewN' (Below.refl _ _) 1) hb10)
           obtain ⟨xa0, xa1, ya0, ya1⟩ := And.intro hF10.c0 (And.intro hF10.c1 (And.intro hF10.wn.y0 hF10.wn.y1))
           have zz2 := hF10.lt
           have zz3 := hF10.wn.lt)
        | (go_at_call 18
           refine Calls.mono (back_any _ _ _ _ w10) ?_
           rintro e w11 ⟨rfl, hb11⟩
           have hF11 := hF10.later hb11
           obtain ⟨xb0, xb1, yb0, yb1⟩ := And.intro hF11.c0 (And.intro hF11.c1 (And.intro hF11.wn.y0 hF11.wn.y1))
           have zz4 := hF11.lt
           have zz5 := hF11.wn.lt)
        | (go_at_call 17
           refine Calls.mono (sameGraph_yes 0 none none [] 0 0 w11 hF11.pe hF11.wn.pr) ?_
           rintro e w12 ⟨rfl, hb12⟩
           have hF12 := hF11.later hb12
           obtain ⟨xc0, xc1, yc0, yc1⟩ := And.intro hF12.c0 (And.intro hF12.c1 (And.intro hF12.wn.y0 hF12.wn.y1)))))
    go_wp2_with (fail)
    go_ret
    exact ⟨rfl, hF12.bel⟩
  · have hN9 := HS6.out.2.later (below_trans (below_trans hk7 hk8) hk9)
    obtain ⟨W, hW⟩ : ∃ W, (w9.setCell ⟨w7.heap.size, 0, none⟩ (.int .i64 0)).setCell ⟨w7.heap.size, 1, none⟩ (.slice none 0 0) = W := ⟨_, rfl⟩
    have hF : FinS w z 0 none [] 0 w7.heap.size none 0 W := by rw [← hW]; exact FinS.put ((hk9.block _ (lt_of_block hx8)).trans hx8) hN9 (by have := zN; have := hk7.size; have := hk8.size; omega) hs9.below (by have := hs6s; have := hk7.size; have := hk8.size; omega) (Pairs.nil _ _) (fun x e => by cases e) (fun x e => by cases e)
    rw [hW]
    clear hW
    generalize w7.heap.size = b8 at hF ⊢
    have HF := hide hF
    obtain ⟨x0, x1, y0, y1⟩ := And.intro hF.c0 (And.intro hF.c1 (And.intro hF.wn.y0 hF.wn.y1))
    have zz0 := hF.lt
    have zz1 := hF.wn.lt
    clear hF
    go_wp2_with (fail)
    go_region_held3 (fun w' => w'.cell? ⟨b8, 0, none⟩ = some (.int .i64 0) ∧ w'.cell? ⟨b8, 1, none⟩ = some (.slice none 0 0) ∧ w'.cell? ⟨z, 0, none⟩ = some (.int .i64 0) ∧ w'.cell? ⟨z, 1, none⟩ = some (.slice none 0 0))
      (first | go_keep | exact ⟨‹_›, ‹_›, ‹_›, ‹_›⟩)
      ((first
        | (go_at_call 14
           refine Calls.mono (HCO.out _ (below_drewN' HF.out.bel 1)) ?_
           rintro e w10 ⟨rfl, hb10⟩
           have hF10 := HF.out.later (below_trans (below_drewN' (Below.refl _ _) 1) hb10)
           obtain ⟨xa0, xa1, ya0, ya1⟩ := And.intro hF10.c0 (And.intro hF10.c1 (And.intro hF10.wn.y0 hF10.wn.y1))
           have zz2 := hF10.lt
           have zz3 := hF10.wn.lt)
        | (go_at_call 18
           refine Calls.mono (back_any _ _ _ _ w10) ?_
           rintro e w11 ⟨rfl, hb11⟩
           have hF11 := hF10.later hb11
           obtain ⟨xb0, xb1, yb0, yb1⟩ := And.intro hF11.c0 (And.intro hF11.c1 (And.intro hF11.wn.y0 hF11.wn.y1))
           have zz4 := hF11.lt
           have zz5 := hF11.wn.lt)
        | (go_at_call 17
           refine Calls.mono (sameGraph_yes 0 none none [] 0 0 w11 hF11.pe hF11.wn.pr) ?_
           rintro e w12 ⟨rfl, hb12⟩
           have hF12 := hF11.later hb12
           obtain ⟨xc0, xc1, yc0, yc1⟩ := And.intro hF12.c0 (And.intro hF12.c1 (And.intro hF12.wn.y0 hF12.wn.y1)))))
    go_wp2_with (fail)
    go_ret
    exact ⟨rfl, hF12.bel⟩
  · have hN9 := HS6.out.2.later (below_trans (below_trans hk7 hk8) hk9)
    obtain ⟨W, hW⟩ : ∃ W, (w9.setCell ⟨w6.heap.size, 0, none⟩ (.int .i64 0)).setCell ⟨w6.heap.size, 1, none⟩ (.slice none 0 0) = W := ⟨_, rfl⟩
    have hF : FinS w z 0 none [] 0 w6.heap.size none 0 W := by rw [← hW]; exact FinS.put ((hk9.block _ (Nat.lt_of_lt_of_le (lt_of_block hx7) hk8.size)).trans ((hk8.block _ (lt_of_block hx7)).trans hx7)) hN9 (by have := zN; have := hk7.size; have := hk8.size; omega) hs9.below (by have := hs6s; have := hk7.size; have := hk8.size; omega) (Pairs.nil _ _) (fun x e => by cases e) (fun x e => by cases e)
    rw [hW]
    clear hW
    generalize w6.heap.size = b8 at hF ⊢
    have HF := hide hF
    obtain ⟨x0, x1, y0, y1⟩ := And.intro hF.c0 (And.intro hF.c1 (And.intro hF.wn.y0 hF.wn.y1))
    have zz0 := hF.lt
    have zz1 := hF.wn.lt
    clear hF
    go_wp2_with (fail)
    go_region_held3 (fun w' => w'.cell? ⟨b8, 0, none⟩ = some (.int .i64 0) ∧ w'.cell? ⟨b8, 1, none⟩ = some (.slice none 0 0) ∧ w'.cell? ⟨z, 0, none⟩ = some (.int .i64 0) ∧ w'.cell? ⟨z, 1, none⟩ = some (.slice none 0 0))
      (first | go_keep | exact ⟨‹_›, ‹_›, ‹_›, ‹_›⟩)
      ((first
        | (go_at_call 14
           refine Calls.mono (HCO.out _ (below_drewN' HF.out.bel 1)) ?_
           rintro e w10 ⟨rfl, hb10⟩
           have hF10 := HF.out.later (below_trans (below_drewN' (Below.refl _ _) 1) hb10)
           obtain ⟨xa0, xa1, ya0, ya1⟩ := And.intro hF10.c0 (And.intro hF10.c1 (And.intro hF10.wn.y0 hF10.wn.y1))
           have zz2 := hF10.lt
           have zz3 := hF10.wn.lt)
        | (go_at_call 18
           refine Calls.mono (back_any _ _ _ _ w10) ?_
           rintro e w11 ⟨rfl, hb11⟩
           have hF11 := hF10.later hb11
           obtain ⟨xb0, xb1, yb0, yb1⟩ := And.intro hF11.c0 (And.intro hF11.c1 (And.intro hF11.wn.y0 hF11.wn.y1))
           have zz4 := hF11.lt
           have zz5 := hF11.wn.lt)
        | (go_at_call 17
           refine Calls.mono (sameGraph_yes 0 none none [] 0 0 w11 hF11.pe hF11.wn.pr) ?_
           rintro e w12 ⟨rfl, hb12⟩
           have hF12 := hF11.later hb12
           obtain ⟨xc0, xc1, yc0, yc1⟩ := And.intro hF12.c0 (And.intro hF12.c1 (And.intro hF12.wn.y0 hF12.wn.y1)))))
    go_wp2_with (fail)
    go_ret
    exact ⟨rfl, hF12.bel⟩

set_option maxRecDepth 100000 in
set_option maxHeartbeats 8000000 in
theorem law_strong_b2 (n : Int) (A : Option Addr) (l : List (Int × Int)) (c : Nat) (m : Int) (B : Option Addr) (k : List (Int × Int)) (d : Nat) (w : World) (a : Nat → Addr) (hS : Sent codes w a) (hH : Handle w) (hA : Pairs w A l) (hB : Pairs w B k) (hl : l.length ≤ 200) (hk : k.length ≤ 200) (h1 : gErr n l = 0) (h2 : gErr m k ≠ 0) :
    Calls Tryd.prog 5 #[.agg #[.int .i64 n, .slice A l.length c], .agg #[.int .i64 m, .slice B k.length d]] w fun e w' => e = .returned (.bool true) ∧ Below w.heap.size w w' := by
  have hla := hA.len
  have hlb := hB.len
  have hE : Env [2, 3] w a := hS.toEnv.sub (fun c h => sub23 h)
  have HAB := hide (AB.start w n A l.length c m B k.length d)
  have HPE := hide (fun V (hb : Below w.heap.size w V) => pentagon_ok V a (hE.below hb))
  have HLA := hide (fun V => little_any n A l.length c V hla)
  have HLB := hide (fun V => little_any m B k.length d V hlb)
  rw [decide_eq_true hl] at HLA
  rw [decide_eq_true hk] at HLB
  have HGA := hide (fun V (hb : Below w.heap.size w V) => graphErr_any n A l c V (hA.below hb))
  have HGB := hide (fun V (hb : Below w.heap.size w V) => graphErr_any m B k d V (hB.below hb))
  have HA' := hide (fun V (hb : Below w.heap.size w V) => graph_any n A l c V (hA.below hb) (by omega))
  have HB' := hide (fun V (hb : Below w.heap.size w V) => graph_any m B k d V (hB.below hb) (by omega))
  have HCO0 := hide (fun V (hb : Below w.heap.size w V) (r : Nat) (hr : r ≤ 8) => coded_same V a (hS.below hb) (hH.below hb) r hr)
  obtain ⟨r, hr, hr8⟩ : ∃ r : Nat, gErr m k = (r : Int) ∧ r ≤ 8 := by
    rcases gErr_cases m k with h | h | h
    · exact absurd h h2
    · exact ⟨2, h, by omega⟩
    · exact ⟨3, h, by omega⟩
  rw [h1] at HGA
  rw [hr] at HGB
  have hse : sErr n l m k = ((r : Nat) : Int) := by unfold sErr; rw [if_neg (fun h => h h1), if_pos h2, hr]
  have hrn : ((r : Int) == 0) = false := beq_eq_false_iff_ne.2 (by omega)
  have hrp : ¬ (r : Int) = 0 := by omega
  have hec : errC a (r : Int) = .iface 108 (.pointer (some (a r))) := errC_pos a hrp
  have HCO := hide (fun V (hb : Below w.heap.size w V) => HCO0.out V hb r hr8)
  rw [hec] at HCO
  have HST := hide (fun (A' : Option Addr) (c' : Nat) (B' : Option Addr) (d' : Nat) V (hb : Below w.heap.size w V) (gA : Pairs V A' l) (gB : Pairs V B' k) => strong_bad n A' l c' m B' k d' V a (hE.below hb) gA gB (by rw [hse]; omega))
  rw [hse] at HST
  clear h1 h2 hr hse hec HCO0
  clear hE hS hH hA hB
  go_enter Tryd.func5, Tryd.ntmps5
  go_wp2_with (first
    | (go_at_call 7; refine Calls.mono (HPE.out _ HAB.out.below) ?_; rintro e w1 ⟨rfl, hb1⟩; have hs1 := HAB.out.later hb1; obtain ⟨a0, a1, b0, b1⟩ := And.intro hs1.a0 (And.intro hs1.a1 (And.intro hs1.b0 hs1.b1)))
    | (go_at_call_of 8 (Value.agg #[.int .i64 n, .slice A l.length c]); refine Calls.mono (HLA.out _) ?_; rintro e w2 ⟨rfl, hb2⟩; have hs2 := hs1.later hb2; clear a0 a1 b0 b1; obtain ⟨a0, a1, b0, b1⟩ := And.intro hs2.a0 (And.intro hs2.a1 (And.intro hs2.b0 hs2.b1)))
    | (go_at_call_of 8 (Value.agg #[.int .i64 m, .slice B k.length d]); refine Calls.mono (HLB.out _) ?_; rintro e w3 ⟨rfl, hb3⟩; have hs3 := hs2.later hb3; clear a0 a1 b0 b1; obtain ⟨a0, a1, b0, b1⟩ := And.intro hs3.a0 (And.intro hs3.a1 (And.intro hs3.b0 hs3.b1)))
    | (go_at_call_of 12 (Value.agg #[.int .i64 n, .slice A l.length c]); refine Calls.mono (HGA.out _ hs3.below) ?_; rintro e w4 ⟨rfl, hb4⟩; have hs4 := hs3.later hb4; clear a0 a1 b0 b1; obtain ⟨a0, a1, b0, b1⟩ := And.intro hs4.a0 (And.intro hs4.a1 (And.intro hs4.b0 hs4.b1)); have z4 := hs4.size)
    | (go_at_call_of 12 (Value.agg #[.int .i64 m, .slice B k.length d]); refine Calls.mono (HGB.out _ hs4.below) ?_; rintro e w5 ⟨rfl, hb5⟩; have hs5 := hs4.later hb5; clear a0 a1 b0 b1; obtain ⟨a0, a1, b0, b1⟩ := And.intro hs5.a0 (And.intro hs5.a1 (And.intro hs5.b0 hs5.b1)); have z5 := hs5.size))
  obtain ⟨w6, hw6⟩ : ∃ W, w5.alloc (.cells #[.int .i64 0, .slice none 0 0] 24) = W := ⟨_, rfl⟩
  have hN6 : WN w5.heap.size 0 none [] 0 w6 := by rw [← hw6]; exact WN.none w5
  have hs6 : AB w n A l.length c m B k.length d w6 := by rw [← hw6]; exact hs5.later (below_alloc' (Below.refl _ _) _)
  rw [hw6]
  clear hw6
  generalize w5.heap.size = z at hN6 ⊢
  have HS6 := hide (And.intro hs6 hN6)
  have zN := hN6.lt
  have hs6s := hs6.size
  clear a0 a1 b0 b1
  obtain ⟨a0, a1, b0, b1⟩ := And.intro hs6.a0 (And.intro hs6.a1 (And.intro hs6.b0 hs6.b1))
  have zs := hs6.size
  have z0 : w.heap.size < w6.heap.size := by omega
  have z1 : w.heap.size + 1 < w6.heap.size := by omega
  clear hs6 hN6
  go_region_held3 (fun w' => w'.cell? ⟨w.heap.size, 0, none⟩ = some (.int .i64 n) ∧ w'.cell? ⟨w.heap.size, 1, none⟩ = some (.slice A l.length c) ∧ w'.cell? ⟨w.heap.size + 1, 0, none⟩ = some (.int .i64 m) ∧ w'.cell? ⟨w.heap.size + 1, 1, none⟩ = some (.slice B k.length d))
    (first | go_keep | exact ⟨‹_›, ‹_›, ‹_›, ‹_›⟩ | (refine ⟨?_, ?_, ?_, ?_⟩ <;> (rw [World.cell?_setCell_other _ _ _ _ (fun e => by injection e with e; omega), World.cell?_setCell_other _ _ _ _ (fun e => by injection e with e; omega)]; assumption)))
    ((first
      | (go_at_call_of 10 (Value.agg #[.int .i64 n, .slice A l.length c])
         first
         | (refine Calls.mono (HA'.out w6.drew (below_drewN' HS6.out.1.below 1)) ?_
            rintro e w7 ⟨A7, c7, rfl, hP7, hc7, hb7⟩
            have hk7 := below_trans (below_drewN' (Below.refl w6.heap.size w6) 1) hb7)
         | (refine Calls.mono (HA'.out (w6.drew.alloc (.cells #[.int .i64 0, .slice none 0 0] 27)) (below_alloc' (below_drewN' HS6.out.1.below 1) _)) ?_
            rintro e w7 ⟨A7, c7, rfl, hP7, hc7, hb7⟩
            have hk7 := below_trans (below_alloc' (below_drewN' (Below.refl w6.heap.size w6) 1) _) hb7
            have hx7 : w7.heap[w6.heap.size]? = some (.cells #[.int .i64 0, .slice none 0 0] 27 (0, 0)) := (hb7.block w6.heap.size (by rw [World.size_alloc]; exact Nat.lt_succ_self _)).trans (alloc_at w6.drew _))
         have hs7 := HS6.out.1.later hk7
         have p0 := hs7.a0
         have p1 := hs7.a1
         have p2 := hs7.b0
         have p3 := hs7.b1
         have z2 : w.heap.size < w7.heap.size := by have := hs7.size; omega
         have z3 : w.heap.size + 1 < w7.heap.size := by have := hs7.size; omega)
      | (go_at_call_of 10 (Value.agg #[.int .i64 m, .slice B k.length d])
         first
         | (refine Calls.mono (HB'.out w7 hs7.below) ?_
            rintro e w8 ⟨A8, c8, rfl, hP8, hc8, hb8⟩
            have hk8 := hb8)
         | (refine Calls.mono (HB'.out (w7.alloc (.cells #[.int .i64 0, .slice none 0 0] 27)) (below_alloc' hs7.below _)) ?_
            rintro e w8 ⟨A8, c8, rfl, hP8, hc8, hb8⟩
            have hk8 := below_trans (below_alloc' (Below.refl w7.heap.size w7) _) hb8
            have hx8 : w8.heap[w7.heap.size]? = some (.cells #[.int .i64 0, .slice none 0 0] 27 (0, 0)) := (hb8.block w7.heap.size (by rw [World.size_alloc]; exact Nat.lt_succ_self _)).trans (alloc_at w7 _))
         have hs8 := hs7.later hk8
         have q0 := hs8.a0
         have q1 := hs8.a1
         have q2 := hs8.b0
         have q3 := hs8.b1
         have z4' : w.heap.size < w8.heap.size := by have := hs8.size; omega
         have z5' : w.heap.size + 1 < w8.heap.size := by have := hs8.size; omega)
      | (go_at_call 9
         first
         | (refine Calls.mono (HST.out A7 c7 A8 c8 w8 hs8.below (hP7.below hk8) hP8) ?_
            rintro e w9 ⟨rfl, hb9⟩
            have hk9 := hb9)
         | (refine Calls.mono (HST.out A7 c7 A8 c8 (w8.alloc (.cells #[.int .i64 0, .slice none 0 0] 27)) (below_alloc' hs8.below _) ((hP7.below hk8).below (below_alloc' (Below.refl _ _) _)) (hP8.below (below_alloc' (Below.refl _ _) _))) ?_
            rintro e w9 ⟨rfl, hb9⟩
            have hk9 := below_trans (below_alloc' (Below.refl w8.heap.size w8) _) hb9
            have hx9 : w9.heap[w8.heap.size]? = some (.cells #[.int .i64 0, .slice none 0 0] 27 (0, 0)) := (hb9.block w8.heap.size (by rw [World.size_alloc]; exact Nat.lt_succ_self _)).trans (alloc_at w8 _)
            obtain ⟨u0, u2⟩ := cell_of _ _ 0 _ _ (.int .i64 0) hx9 rfl
            obtain ⟨u1, u3⟩ := cell_of _ _ 1 _ _ (.slice none 0 0) hx9 rfl
            have uz := lt_of_block hx9)
         try (have hx9a := (hk9.block _ (lt_of_block hx8)).trans hx8
              obtain ⟨u0, u2⟩ := cell_of _ _ 0 _ _ (.int .i64 0) hx9a rfl
              obtain ⟨u1, u3⟩ := cell_of _ _ 1 _ _ (.slice none 0 0) hx9a rfl
              have uz := lt_of_block hx9a)
         try (have hx9b := (hk9.block _ (Nat.lt_of_lt_of_le (lt_of_block hx7) hk8.size)).trans ((hk8.block _ (lt_of_block hx7)).trans hx7)
              obtain ⟨u0, u2⟩ := cell_of _ _ 0 _ _ (.int .i64 0) hx9b rfl
              obtain ⟨u1, u3⟩ := cell_of _ _ 1 _ _ (.slice none 0 0) hx9b rfl
              have uz := lt_of_block hx9b)
         have hs9 := hs8.later hk9
         have s0 := hs9.a0
         have s1 := hs9.a1
         have s2 := hs9.b0
         have s3 := hs9.b1)))
  · have hN9 := HS6.out.2.later (below_trans (below_trans hk7 hk8) hk9)
    obtain ⟨W, hW⟩ : ∃ W, w9.alloc (.cells #[.int .i64 0, .slice none 0 0] 27) = W := ⟨_, rfl⟩
    have hF : FinS w z 0 none [] 0 w9.heap.size none 0 W := by rw [← hW]; exact FinS.fresh hN9 hs9.below (Pairs.nil _ _)
    rw [hW]
    clear hW
    generalize w9.heap.size = b8 at hF ⊢
    have HF := hide hF
    obtain ⟨x0, x1, y0, y1⟩ := And.intro hF.c0 (And.intro hF.c1 (And.intro hF.wn.y0 hF.wn.y1))
    have zz0 := hF.lt
    have zz1 := hF.wn.lt
    clear hF
    go_wp2_with (fail)
    go_region_held3 (fun w' => w'.cell? ⟨b8, 0, none⟩ = some (.int .i64 0) ∧ w'.cell? ⟨b8, 1, none⟩ = some (.slice none 0 0) ∧ w'.cell? ⟨z, 0, none⟩ = some (.int .i64 0) ∧ w'.cell? ⟨z, 1, none⟩ = some (.slice none 0 0))
      (first | go_keep | exact ⟨‹_›, ‹_›, ‹_›, ‹_›⟩)
      ((first
        | (go_at_call 14
           refine Calls.mono (HCO.out _ (below_drewN' HF.out.bel 1)) ?_
           rintro e w10 ⟨rfl, hb10⟩
           have hF10 := HF.out.later (below_trans (below_drewN' (Below.refl _ _) 1) hb10)
           obtain ⟨xa0, xa1, ya0, ya1⟩ := And.intro hF10.c0 (And.intro hF10.c1 (And.intro hF10.wn.y0 hF10.wn.y1))
           have zz2 := hF10.lt
           have zz3 := hF10.wn.lt)
        | (go_at_call 18
           refine Calls.mono (back_any _ _ _ _ w10) ?_
           rintro e w11 ⟨rfl, hb11⟩
           have hF11 := hF10.later hb11
           obtain ⟨xb0, xb1, yb0, yb1⟩ := And.intro hF11.c0 (And.intro hF11.c1 (And.intro hF11.wn.y0 hF11.wn.y1))
           have zz4 := hF11.lt
           have zz5 := hF11.wn.lt)
        | (go_at_call 17
           refine Calls.mono (sameGraph_yes 0 none none [] 0 0 w11 hF11.pe hF11.wn.pr) ?_
           rintro e w12 ⟨rfl, hb12⟩
           have hF12 := hF11.later hb12
           obtain ⟨xc0, xc1, yc0, yc1⟩ := And.intro hF12.c0 (And.intro hF12.c1 (And.intro hF12.wn.y0 hF12.wn.y1)))))
    go_wp2_with (fail)
    go_ret
    exact ⟨rfl, hF12.bel⟩
  · have hN9 := HS6.out.2.later (below_trans (below_trans hk7 hk8) hk9)
    obtain ⟨W, hW⟩ : ∃ W, (w9.setCell ⟨w8.heap.size, 0, none⟩ (.int .i64 0)).setCell ⟨w8.heap.size, 1, none⟩ (.slice none 0 0) = W := ⟨_, rfl⟩
    have hF : FinS w z 0 none [] 0 w8.heap.size none 0 W := by rw [← hW]; exact FinS.put hx9 hN9 (by have := zN; have := hk7.size; have := hk8.size; omega) hs9.below (by have := hs6s; have := hk7.size; have := hk8.size; omega) (Pairs.nil _ _) (fun x e => by cases e) (fun x e => by cases e)
    rw [hW]
    clear hW
    generalize w8.heap.size = b8 at hF ⊢
    have HF := hide hF
    obtain ⟨x0, x1, y0, y1⟩ := And.intro hF.c0 (And.intro hF.c1 (And.intro hF.wn.y0 hF.wn.y1))
    have zz0 := hF.lt
    have zz1 := hF.wn.lt
    clear hF
    go_wp2_with (fail)
    go_region_held3 (fun w' => w'.cell? ⟨b8, 0, none⟩ = some (.int .i64 0) ∧ w'.cell? ⟨b8, 1, none⟩ = some (.slice none 0 0) ∧ w'.cell? ⟨z, 0, none⟩ = some (.int .i64 0) ∧ w'.cell? ⟨z, 1, none⟩ = some (.slice none 0 0))
      (first | go_keep | exact ⟨‹_›, ‹_›, ‹_›, ‹_›⟩)
      ((first
        | (go_at_call 14
           refine Calls.mono (HCO.out _ (below_drewN' HF.out.bel 1)) ?_
           rintro e w10 ⟨rfl, hb10⟩
           have hF10 := HF.out.later (below_trans (below_drewN' (Below.refl _ _) 1) hb10)
           obtain ⟨xa0, xa1, ya0, ya1⟩ := And.intro hF10.c0 (And.intro hF10.c1 (And.intro hF10.wn.y0 hF10.wn.y1))
           have zz2 := hF10.lt
           have zz3 := hF10.wn.lt)
        | (go_at_call 18
           refine Calls.mono (back_any _ _ _ _ w10) ?_
           rintro e w11 ⟨rfl, hb11⟩
           have hF11 := hF10.later hb11
           obtain ⟨xb0, xb1, yb0, yb1⟩ := And.intro hF11.c0 (And.intro hF11.c1 (And.intro hF11.wn.y0 hF11.wn.y1))
           have zz4 := hF11.lt
           have zz5 := hF11.wn.lt)
        | (go_at_call 17
           refine Calls.mono (sameGraph_yes 0 none none [] 0 0 w11 hF11.pe hF11.wn.pr) ?_
           rintro e w12 ⟨rfl, hb12⟩
           have hF12 := hF11.later hb12
           obtain ⟨xc0, xc1, yc0, yc1⟩ := And.intro hF12.c0 (And.intro hF12.c1 (And.intro hF12.wn.y0 hF12.wn.y1)))))
    go_wp2_with (fail)
    go_ret
    exact ⟨rfl, hF12.bel⟩
  · have hN9 := HS6.out.2.later (below_trans (below_trans hk7 hk8) hk9)
    obtain ⟨W, hW⟩ : ∃ W, (w9.setCell ⟨w7.heap.size, 0, none⟩ (.int .i64 0)).setCell ⟨w7.heap.size, 1, none⟩ (.slice none 0 0) = W := ⟨_, rfl⟩
    have hF : FinS w z 0 none [] 0 w7.heap.size none 0 W := by rw [← hW]; exact FinS.put ((hk9.block _ (lt_of_block hx8)).trans hx8) hN9 (by have := zN; have := hk7.size; have := hk8.size; omega) hs9.below (by have := hs6s; have := hk7.size; have := hk8.size; omega) (Pairs.nil _ _) (fun x e => by cases e) (fun x e => by cases e)
    rw [hW]
    clear hW
    generalize w7.heap.size = b8 at hF ⊢
    have HF := hide hF
    obtain ⟨x0, x1, y0, y1⟩ := And.intro hF.c0 (And.intro hF.c1 (And.intro hF.wn.y0 hF.wn.y1))
    have zz0 := hF.lt
    have zz1 := hF.wn.lt
    clear hF
    go_wp2_with (fail)
    go_region_held3 (fun w' => w'.cell? ⟨b8, 0, none⟩ = some (.int .i64 0) ∧ w'.cell? ⟨b8, 1, none⟩ = some (.slice none 0 0) ∧ w'.cell? ⟨z, 0, none⟩ = some (.int .i64 0) ∧ w'.cell? ⟨z, 1, none⟩ = some (.slice none 0 0))
      (first | go_keep | exact ⟨‹_›, ‹_›, ‹_›, ‹_›⟩)
      ((first
        | (go_at_call 14
           refine Calls.mono (HCO.out _ (below_drewN' HF.out.bel 1)) ?_
           rintro e w10 ⟨rfl, hb10⟩
           have hF10 := HF.out.later (below_trans (below_drewN' (Below.refl _ _) 1) hb10)
           obtain ⟨xa0, xa1, ya0, ya1⟩ := And.intro hF10.c0 (And.intro hF10.c1 (And.intro hF10.wn.y0 hF10.wn.y1))
           have zz2 := hF10.lt
           have zz3 := hF10.wn.lt)
        | (go_at_call 18
           refine Calls.mono (back_any _ _ _ _ w10) ?_
           rintro e w11 ⟨rfl, hb11⟩
           have hF11 := hF10.later hb11
           obtain ⟨xb0, xb1, yb0, yb1⟩ := And.intro hF11.c0 (And.intro hF11.c1 (And.intro hF11.wn.y0 hF11.wn.y1))
           have zz4 := hF11.lt
           have zz5 := hF11.wn.lt)
        | (go_at_call 17
           refine Calls.mono (sameGraph_yes 0 none none [] 0 0 w11 hF11.pe hF11.wn.pr) ?_
           rintro e w12 ⟨rfl, hb12⟩
           have hF12 := hF11.later hb12
           obtain ⟨xc0, xc1, yc0, yc1⟩ := And.intro hF12.c0 (And.intro hF12.c1 (And.intro hF12.wn.y0 hF12.wn.y1)))))
    go_wp2_with (fail)
    go_ret
    exact ⟨rfl, hF12.bel⟩
  · have hN9 := HS6.out.2.later (below_trans (below_trans hk7 hk8) hk9)
    obtain ⟨W, hW⟩ : ∃ W, (w9.setCell ⟨w6.heap.size, 0, none⟩ (.int .i64 0)).setCell ⟨w6.heap.size, 1, none⟩ (.slice none 0 0) = W := ⟨_, rfl⟩
    have hF : FinS w z 0 none [] 0 w6.heap.size none 0 W := by rw [← hW]; exact FinS.put ((hk9.block _ (Nat.lt_of_lt_of_le (lt_of_block hx7) hk8.size)).trans ((hk8.block _ (lt_of_block hx7)).trans hx7)) hN9 (by have := zN; have := hk7.size; have := hk8.size; omega) hs9.below (by have := hs6s; have := hk7.size; have := hk8.size; omega) (Pairs.nil _ _) (fun x e => by cases e) (fun x e => by cases e)
    rw [hW]
    clear hW
    generalize w6.heap.size = b8 at hF ⊢
    have HF := hide hF
    obtain ⟨x0, x1, y0, y1⟩ := And.intro hF.c0 (And.intro hF.c1 (And.intro hF.wn.y0 hF.wn.y1))
    have zz0 := hF.lt
    have zz1 := hF.wn.lt
    clear hF
    go_wp2_with (fail)
    go_region_held3 (fun w' => w'.cell? ⟨b8, 0, none⟩ = some (.int .i64 0) ∧ w'.cell? ⟨b8, 1, none⟩ = some (.slice none 0 0) ∧ w'.cell? ⟨z, 0, none⟩ = some (.int .i64 0) ∧ w'.cell? ⟨z, 1, none⟩ = some (.slice none 0 0))
      (first | go_keep | exact ⟨‹_›, ‹_›, ‹_›, ‹_›⟩)
      ((first
        | (go_at_call 14
           refine Calls.mono (HCO.out _ (below_drewN' HF.out.bel 1)) ?_
           rintro e w10 ⟨rfl, hb10⟩
           have hF10 := HF.out.later (below_trans (below_drewN' (Below.refl _ _) 1) hb10)
           obtain ⟨xa0, xa1, ya0, ya1⟩ := And.intro hF10.c0 (And.intro hF10.c1 (And.intro hF10.wn.y0 hF10.wn.y1))
           have zz2 := hF10.lt
           have zz3 := hF10.wn.lt)
        | (go_at_call 18
           refine Calls.mono (back_any _ _ _ _ w10) ?_
           rintro e w11 ⟨rfl, hb11⟩
           have hF11 := hF10.later hb11
           obtain ⟨xb0, xb1, yb0, yb1⟩ := And.intro hF11.c0 (And.intro hF11.c1 (And.intro hF11.wn.y0 hF11.wn.y1))
           have zz4 := hF11.lt
           have zz5 := hF11.wn.lt)
        | (go_at_call 17
           refine Calls.mono (sameGraph_yes 0 none none [] 0 0 w11 hF11.pe hF11.wn.pr) ?_
           rintro e w12 ⟨rfl, hb12⟩
           have hF12 := hF11.later hb12
           obtain ⟨xc0, xc1, yc0, yc1⟩ := And.intro hF12.c0 (And.intro hF12.c1 (And.intro hF12.wn.y0 hF12.wn.y1)))))
    go_wp2_with (fail)
    go_ret
    exact ⟨rfl, hF12.bel⟩

set_option maxRecDepth 100000 in
set_option maxHeartbeats 8000000 in
theorem law_strong_b3 (n : Int) (A : Option Addr) (l : List (Int × Int)) (c : Nat) (m : Int) (B : Option Addr) (k : List (Int × Int)) (d : Nat) (w : World) (a : Nat → Addr) (hS : Sent codes w a) (hH : Handle w) (hA : Pairs w A l) (hB : Pairs w B k) (hl : l.length ≤ 200) (hk : k.length ≤ 200) (h1 : gErr n l = 0) (h2 : gErr m k = 0) (h16 : 16 < n * m) :
    Calls Tryd.prog 5 #[.agg #[.int .i64 n, .slice A l.length c], .agg #[.int .i64 m, .slice B k.length d]] w fun e w' => e = .returned (.bool true) ∧ Below w.heap.size w w' := by
  have hla := hA.len
  have hlb := hB.len
  have hE : Env [2, 3] w a := hS.toEnv.sub (fun c h => sub23 h)
  have HAB := hide (AB.start w n A l.length c m B k.length d)
  have HPE := hide (fun V (hb : Below w.heap.size w V) => pentagon_ok V a (hE.below hb))
  have HLA := hide (fun V => little_any n A l.length c V hla)
  have HLB := hide (fun V => little_any m B k.length d V hlb)
  rw [decide_eq_true hl] at HLA
  rw [decide_eq_true hk] at HLB
  have HGA := hide (fun V (hb : Below w.heap.size w V) => graphErr_any n A l c V (hA.below hb))
  have HGB := hide (fun V (hb : Below w.heap.size w V) => graphErr_any m B k d V (hB.below hb))
  have HA' := hide (fun V (hb : Below w.heap.size w V) => graph_any n A l c V (hA.below hb) (by omega))
  have HB' := hide (fun V (hb : Below w.heap.size w V) => graph_any m B k d V (hB.below hb) (by omega))
  have HCO0 := hide (fun V (hb : Below w.heap.size w V) (r : Nat) (hr : r ≤ 8) => coded_same V a (hS.below hb) (hH.below hb) r hr)
  obtain ⟨hn0, hn1, _⟩ := gErr_zero h1
  obtain ⟨hm0, hm1, _⟩ := gErr_zero h2
  have hmul : n * m ≤ 16 * 16 := Int.mul_le_mul hn1 hm1 hm0 (by omega)
  have hw : wrap64 (n * m) = n * m := by unfold wrap64; generalize n * m = p at h16 hmul; omega
  have hd : decide (16 < n * m) = true := decide_eq_true h16
  rw [h1] at HGA
  rw [h2] at HGB
  have hse : sErr n l m k = 2 := by unfold sErr; rw [if_neg (fun h => h h1), if_neg (fun h => h h2), if_pos h16]
  have hrp : ¬ ((2 : Nat) : Int) = 0 := by omega
  have hec : errC a ((2 : Nat) : Int) = .iface 108 (.pointer (some (a 2))) := errC_pos a hrp
  have HCO := hide (fun V (hb : Below w.heap.size w V) => HCO0.out V hb 2 (by omega))
  rw [hec] at HCO
  have HST := hide (fun (A' : Option Addr) (c' : Nat) (B' : Option Addr) (d' : Nat) V (hb : Below w.heap.size w V) (gA : Pairs V A' l) (gB : Pairs V B' k) => strong_bad n A' l c' m B' k d' V a (hE.below hb) gA gB (by rw [hse]; omega))
  rw [hse] at HST
  clear h1 h2 hse hec HCO0 hmul hn0 hn1 hm0 hm1
  clear hE hS hH hA hB
  go_enter Tryd.func5, Tryd.ntmps5
  go_wp2_with (first
    | (go_at_call 7; refine Calls.mono (HPE.out _ HAB.out.below) ?_; rintro e w1 ⟨rfl, hb1⟩; have hs1 := HAB.out.later hb1; obtain ⟨a0, a1, b0, b1⟩ := And.intro hs1.a0 (And.intro hs1.a1 (And.intro hs1.b0 hs1.b1)))
    | (go_at_call_of 8 (Value.agg #[.int .i64 n, .slice A l.length c]); refine Calls.mono (HLA.out _) ?_; rintro e w2 ⟨rfl, hb2⟩; have hs2 := hs1.later hb2; clear a0 a1 b0 b1; obtain ⟨a0, a1, b0, b1⟩ := And.intro hs2.a0 (And.intro hs2.a1 (And.intro hs2.b0 hs2.b1)))
    | (go_at_call_of 8 (Value.agg #[.int .i64 m, .slice B k.length d]); refine Calls.mono (HLB.out _) ?_; rintro e w3 ⟨rfl, hb3⟩; have hs3 := hs2.later hb3; clear a0 a1 b0 b1; obtain ⟨a0, a1, b0, b1⟩ := And.intro hs3.a0 (And.intro hs3.a1 (And.intro hs3.b0 hs3.b1)))
    | (go_at_call_of 12 (Value.agg #[.int .i64 n, .slice A l.length c]); refine Calls.mono (HGA.out _ hs3.below) ?_; rintro e w4 ⟨rfl, hb4⟩; have hs4 := hs3.later hb4; clear a0 a1 b0 b1; obtain ⟨a0, a1, b0, b1⟩ := And.intro hs4.a0 (And.intro hs4.a1 (And.intro hs4.b0 hs4.b1)); have z4 := hs4.size)
    | (go_at_call_of 12 (Value.agg #[.int .i64 m, .slice B k.length d]); refine Calls.mono (HGB.out _ hs4.below) ?_; rintro e w5 ⟨rfl, hb5⟩; have hs5 := hs4.later hb5; clear a0 a1 b0 b1; obtain ⟨a0, a1, b0, b1⟩ := And.intro hs5.a0 (And.intro hs5.a1 (And.intro hs5.b0 hs5.b1)); have z5 := hs5.size))
  obtain ⟨w6, hw6⟩ : ∃ W, w5.alloc (.cells #[.int .i64 0, .slice none 0 0] 24) = W := ⟨_, rfl⟩
  have hN6 : WN w5.heap.size 0 none [] 0 w6 := by rw [← hw6]; exact WN.none w5
  have hs6 : AB w n A l.length c m B k.length d w6 := by rw [← hw6]; exact hs5.later (below_alloc' (Below.refl _ _) _)
  rw [hw6]
  clear hw6
  generalize w5.heap.size = z at hN6 ⊢
  have HS6 := hide (And.intro hs6 hN6)
  have zN := hN6.lt
  have hs6s := hs6.size
  clear a0 a1 b0 b1
  obtain ⟨a0, a1, b0, b1⟩ := And.intro hs6.a0 (And.intro hs6.a1 (And.intro hs6.b0 hs6.b1))
  have zs := hs6.size
  have z0 : w.heap.size < w6.heap.size := by omega
  have z1 : w.heap.size + 1 < w6.heap.size := by omega
  clear hs6 hN6
  go_region_held3 (fun w' => w'.cell? ⟨w.heap.size, 0, none⟩ = some (.int .i64 n) ∧ w'.cell? ⟨w.heap.size, 1, none⟩ = some (.slice A l.length c) ∧ w'.cell? ⟨w.heap.size + 1, 0, none⟩ = some (.int .i64 m) ∧ w'.cell? ⟨w.heap.size + 1, 1, none⟩ = some (.slice B k.length d))
    (first | go_keep | exact ⟨‹_›, ‹_›, ‹_›, ‹_›⟩ | (refine ⟨?_, ?_, ?_, ?_⟩ <;> (rw [World.cell?_setCell_other _ _ _ _ (fun e => by injection e with e; omega), World.cell?_setCell_other _ _ _ _ (fun e => by injection e with e; omega)]; assumption)))
    ((first
      | (go_at_call_of 10 (Value.agg #[.int .i64 n, .slice A l.length c])
         first
         | (refine Calls.mono (HA'.out w6.drew (below_drewN' HS6.out.1.below 1)) ?_
            rintro e w7 ⟨A7, c7, rfl, hP7, hc7, hb7⟩
            have hk7 := below_trans (below_drewN' (Below.refl w6.heap.size w6) 1) hb7)
         | (refine Calls.mono (HA'.out (w6.drew.alloc (.cells #[.int .i64 0, .slice none 0 0] 27)) (below_alloc' (below_drewN' HS6.out.1.below 1) _)) ?_
            rintro e w7 ⟨A7, c7, rfl, hP7, hc7, hb7⟩
            have hk7 := below_trans (below_alloc' (below_drewN' (Below.refl w6.heap.size w6) 1) _) hb7
            have hx7 : w7.heap[w6.heap.size]? = some (.cells #[.int .i64 0, .slice none 0 0] 27 (0, 0)) := (hb7.block w6.heap.size (by rw [World.size_alloc]; exact Nat.lt_succ_self _)).trans (alloc_at w6.drew _))
         have hs7 := HS6.out.1.later hk7
         have p0 := hs7.a0
         have p1 := hs7.a1
         have p2 := hs7.b0
         have p3 := hs7.b1
         have z2 : w.heap.size < w7.heap.size := by have := hs7.size; omega
         have z3 : w.heap.size + 1 < w7.heap.size := by have := hs7.size; omega)
      | (go_at_call_of 10 (Value.agg #[.int .i64 m, .slice B k.length d])
         first
         | (refine Calls.mono (HB'.out w7 hs7.below) ?_
            rintro e w8 ⟨A8, c8, rfl, hP8, hc8, hb8⟩
            have hk8 := hb8)
         | (refine Calls.mono (HB'.out (w7.alloc (.cells #[.int .i64 0, .slice none 0 0] 27)) (below_alloc' hs7.below _)) ?_
            rintro e w8 ⟨A8, c8, rfl, hP8, hc8, hb8⟩
            have hk8 := below_trans (below_alloc' (Below.refl w7.heap.size w7) _) hb8
            have hx8 : w8.heap[w7.heap.size]? = some (.cells #[.int .i64 0, .slice none 0 0] 27 (0, 0)) := (hb8.block w7.heap.size (by rw [World.size_alloc]; exact Nat.lt_succ_self _)).trans (alloc_at w7 _))
         have hs8 := hs7.later hk8
         have q0 := hs8.a0
         have q1 := hs8.a1
         have q2 := hs8.b0
         have q3 := hs8.b1
         have z4' : w.heap.size < w8.heap.size := by have := hs8.size; omega
         have z5' : w.heap.size + 1 < w8.heap.size := by have := hs8.size; omega)
      | (go_at_call 9
         first
         | (refine Calls.mono (HST.out A7 c7 A8 c8 w8 hs8.below (hP7.below hk8) hP8) ?_
            rintro e w9 ⟨rfl, hb9⟩
            have hk9 := hb9)
         | (refine Calls.mono (HST.out A7 c7 A8 c8 (w8.alloc (.cells #[.int .i64 0, .slice none 0 0] 27)) (below_alloc' hs8.below _) ((hP7.below hk8).below (below_alloc' (Below.refl _ _) _)) (hP8.below (below_alloc' (Below.refl _ _) _))) ?_
            rintro e w9 ⟨rfl, hb9⟩
            have hk9 := below_trans (below_alloc' (Below.refl w8.heap.size w8) _) hb9
            have hx9 : w9.heap[w8.heap.size]? = some (.cells #[.int .i64 0, .slice none 0 0] 27 (0, 0)) := (hb9.block w8.heap.size (by rw [World.size_alloc]; exact Nat.lt_succ_self _)).trans (alloc_at w8 _)
            obtain ⟨u0, u2⟩ := cell_of _ _ 0 _ _ (.int .i64 0) hx9 rfl
            obtain ⟨u1, u3⟩ := cell_of _ _ 1 _ _ (.slice none 0 0) hx9 rfl
            have uz := lt_of_block hx9)
         try (have hx9a := (hk9.block _ (lt_of_block hx8)).trans hx8
              obtain ⟨u0, u2⟩ := cell_of _ _ 0 _ _ (.int .i64 0) hx9a rfl
              obtain ⟨u1, u3⟩ := cell_of _ _ 1 _ _ (.slice none 0 0) hx9a rfl
              have uz := lt_of_block hx9a)
         try (have hx9b := (hk9.block _ (Nat.lt_of_lt_of_le (lt_of_block hx7) hk8.size)).trans ((hk8.block _ (lt_of_block hx7)).trans hx7)
              obtain ⟨u0, u2⟩ := cell_of _ _ 0 _ _ (.int .i64 0) hx9b rfl
              obtain ⟨u1, u3⟩ := cell_of _ _ 1 _ _ (.slice none 0 0) hx9b rfl
              have uz := lt_of_block hx9b)
         have hs9 := hs8.later hk9
         have s0 := hs9.a0
         have s1 := hs9.a1
         have s2 := hs9.b0
         have s3 := hs9.b1)))
  · have hN9 := HS6.out.2.later (below_trans (below_trans hk7 hk8) hk9)
    obtain ⟨W, hW⟩ : ∃ W, w9.alloc (.cells #[.int .i64 0, .slice none 0 0] 27) = W := ⟨_, rfl⟩
    have hF : FinS w z 0 none [] 0 w9.heap.size none 0 W := by rw [← hW]; exact FinS.fresh hN9 hs9.below (Pairs.nil _ _)
    rw [hW]
    clear hW
    generalize w9.heap.size = b8 at hF ⊢
    have HF := hide hF
    obtain ⟨x0, x1, y0, y1⟩ := And.intro hF.c0 (And.intro hF.c1 (And.intro hF.wn.y0 hF.wn.y1))
    have zz0 := hF.lt
    have zz1 := hF.wn.lt
    clear hF
    go_wp2_with (fail)
    go_region_held3 (fun w' => w'.cell? ⟨b8, 0, none⟩ = some (.int .i64 0) ∧ w'.cell? ⟨b8, 1, none⟩ = some (.slice none 0 0) ∧ w'.cell? ⟨z, 0, none⟩ = some (.int .i64 0) ∧ w'.cell? ⟨z, 1, none⟩ = some (.slice none 0 0))
      (first | go_keep | exact ⟨‹_›, ‹_›, ‹_›, ‹_›⟩)
      ((first
        | (go_at_call 14
           refine Calls.mono (HCO.out _ (below_drewN' HF.out.bel 1)) ?_
           rintro e w10 ⟨rfl, hb10⟩
           have hF10 := HF.out.later (below_trans (below_drewN' (Below.refl _ _) 1) hb10)
           obtain ⟨xa0, xa1, ya0, ya1⟩ := And.intro hF10.c0 (And.intro hF10.c1 (And.intro hF10.wn.y0 hF10.wn.y1))
           have zz2 := hF10.lt
           have zz3 := hF10.wn.lt)
        | (go_at_call 18
           refine Calls.mono (back_any _ _ _ _ w10) ?_
           rintro e w11 ⟨rfl, hb11⟩
           have hF11 := hF10.later hb11
           obtain ⟨xb0, xb1, yb0, yb1⟩ := And.intro hF11.c0 (And.intro hF11.c1 (And.intro hF11.wn.y0 hF11.wn.y1))
           have zz4 := hF11.lt
           have zz5 := hF11.wn.lt)
        | (go_at_call 17
           refine Calls.mono (sameGraph_yes 0 none none [] 0 0 w11 hF11.pe hF11.wn.pr) ?_
           rintro e w12 ⟨rfl, hb12⟩
           have hF12 := hF11.later hb12
           obtain ⟨xc0, xc1, yc0, yc1⟩ := And.intro hF12.c0 (And.intro hF12.c1 (And.intro hF12.wn.y0 hF12.wn.y1)))))
    go_wp2_with (fail)
    go_ret
    exact ⟨rfl, hF12.bel⟩
  · have hN9 := HS6.out.2.later (below_trans (below_trans hk7 hk8) hk9)
    obtain ⟨W, hW⟩ : ∃ W, (w9.setCell ⟨w8.heap.size, 0, none⟩ (.int .i64 0)).setCell ⟨w8.heap.size, 1, none⟩ (.slice none 0 0) = W := ⟨_, rfl⟩
    have hF : FinS w z 0 none [] 0 w8.heap.size none 0 W := by rw [← hW]; exact FinS.put hx9 hN9 (by have := zN; have := hk7.size; have := hk8.size; omega) hs9.below (by have := hs6s; have := hk7.size; have := hk8.size; omega) (Pairs.nil _ _) (fun x e => by cases e) (fun x e => by cases e)
    rw [hW]
    clear hW
    generalize w8.heap.size = b8 at hF ⊢
    have HF := hide hF
    obtain ⟨x0, x1, y0, y1⟩ := And.intro hF.c0 (And.intro hF.c1 (And.intro hF.wn.y0 hF.wn.y1))
    have zz0 := hF.lt
    have zz1 := hF.wn.lt
    clear hF
    go_wp2_with (fail)
    go_region_held3 (fun w' => w'.cell? ⟨b8, 0, none⟩ = some (.int .i64 0) ∧ w'.cell? ⟨b8, 1, none⟩ = some (.slice none 0 0) ∧ w'.cell? ⟨z, 0, none⟩ = some (.int .i64 0) ∧ w'.cell? ⟨z, 1, none⟩ = some (.slice none 0 0))
      (first | go_keep | exact ⟨‹_›, ‹_›, ‹_›, ‹_›⟩)
      ((first
        | (go_at_call 14
           refine Calls.mono (HCO.out _ (below_drewN' HF.out.bel 1)) ?_
           rintro e w10 ⟨rfl, hb10⟩
           have hF10 := HF.out.later (below_trans (below_drewN' (Below.refl _ _) 1) hb10)
           obtain ⟨xa0, xa1, ya0, ya1⟩ := And.intro hF10.c0 (And.intro hF10.c1 (And.intro hF10.wn.y0 hF10.wn.y1))
           have zz2 := hF10.lt
           have zz3 := hF10.wn.lt)
        | (go_at_call 18
           refine Calls.mono (back_any _ _ _ _ w10) ?_
           rintro e w11 ⟨rfl, hb11⟩
           have hF11 := hF10.later hb11
           obtain ⟨xb0, xb1, yb0, yb1⟩ := And.intro hF11.c0 (And.intro hF11.c1 (And.intro hF11.wn.y0 hF11.wn.y1))
           have zz4 := hF11.lt
           have zz5 := hF11.wn.lt)
        | (go_at_call 17
           refine Calls.mono (sameGraph_yes 0 none none [] 0 0 w11 hF11.pe hF11.wn.pr) ?_
           rintro e w12 ⟨rfl, hb12⟩
           have hF12 := hF11.later hb12
           obtain ⟨xc0, xc1, yc0, yc1⟩ := And.intro hF12.c0 (And.intro hF12.c1 (And.intro hF12.wn.y0 hF12.wn.y1)))))
    go_wp2_with (fail)
    go_ret
    exact ⟨rfl, hF12.bel⟩
  · have hN9 := HS6.out.2.later (below_trans (below_trans hk7 hk8) hk9)
    obtain ⟨W, hW⟩ : ∃ W, (w9.setCell ⟨w7.heap.size, 0, none⟩ (.int .i64 0)).setCell ⟨w7.heap.size, 1, none⟩ (.slice none 0 0) = W := ⟨_, rfl⟩
    have hF : FinS w z 0 none [] 0 w7.heap.size none 0 W := by rw [← hW]; exact FinS.put ((hk9.block _ (lt_of_block hx8)).trans hx8) hN9 (by have := zN; have := hk7.size; have := hk8.size; omega) hs9.below (by have := hs6s; have := hk7.size; have := hk8.size; omega) (Pairs.nil _ _) (fun x e => by cases e) (fun x e => by cases e)
    rw [hW]
    clear hW
    generalize w7.heap.size = b8 at hF ⊢
    have HF := hide hF
    obtain ⟨x0, x1, y0, y1⟩ := And.intro hF.c0 (And.intro hF.c1 (And.intro hF.wn.y0 hF.wn.y1))
    have zz0 := hF.lt
    have zz1 := hF.wn.lt
    clear hF
    go_wp2_with (fail)
    go_region_held3 (fun w' => w'.cell? ⟨b8, 0, none⟩ = some (.int .i64 0) ∧ w'.cell? ⟨b8, 1, none⟩ = some (.slice none 0 0) ∧ w'.cell? ⟨z, 0, none⟩ = some (.int .i64 0) ∧ w'.cell? ⟨z, 1, none⟩ = some (.slice none 0 0))
      (first | go_keep | exact ⟨‹_›, ‹_›, ‹_›, ‹_›⟩)
      ((first
        | (go_at_call 14
           refine Calls.mono (HCO.out _ (below_drewN' HF.out.bel 1)) ?_
           rintro e w10 ⟨rfl, hb10⟩
           have hF10 := HF.out.later (below_trans (below_drewN' (Below.refl _ _) 1) hb10)
           obtain ⟨xa0, xa1, ya0, ya1⟩ := And.intro hF10.c0 (And.intro hF10.c1 (And.intro hF10.wn.y0 hF10.wn.y1))
           have zz2 := hF10.lt
           have zz3 := hF10.wn.lt)
        | (go_at_call 18
           refine Calls.mono (back_any _ _ _ _ w10) ?_
           rintro e w11 ⟨rfl, hb11⟩
           have hF11 := hF10.later hb11
           obtain ⟨xb0, xb1, yb0, yb1⟩ := And.intro hF11.c0 (And.intro hF11.c1 (And.intro hF11.wn.y0 hF11.wn.y1))
           have zz4 := hF11.lt
           have zz5 := hF11.wn.lt)
        | (go_at_call 17
           refine Calls.mono (sameGraph_yes 0 none none [] 0 0 w11 hF11.pe hF11.wn.pr) ?_
           rintro e w12 ⟨rfl, hb12⟩
           have hF12 := hF11.later hb12
           obtain ⟨xc0, xc1, yc0, yc1⟩ := And.intro hF12.c0 (And.intro hF12.c1 (And.intro hF12.wn.y0 hF12.wn.y1)))))
    go_wp2_with (fail)
    go_ret
    exact ⟨rfl, hF12.bel⟩
  · have hN9 := HS6.out.2.later (below_trans (below_trans hk7 hk8) hk9)
    obtain ⟨W, hW⟩ : ∃ W, (w9.setCell ⟨w6.heap.size, 0, none⟩ (.int .i64 0)).setCell ⟨w6.heap.size, 1, none⟩ (.slice none 0 0) = W := ⟨_, rfl⟩
    have hF : FinS w z 0 none [] 0 w6.heap.size none 0 W := by rw [← hW]; exact FinS.put ((hk9.block _ (Nat.lt_of_lt_of_le (lt_of_block hx7) hk8.size)).trans ((hk8.block _ (lt_of_block hx7)).trans hx7)) hN9 (by have := zN; have := hk7.size; have := hk8.size; omega) hs9.below (by have := hs6s; have := hk7.size; have := hk8.size; omega) (Pairs.nil _ _) (fun x e => by cases e) (fun x e => by cases e)
    rw [hW]
    clear hW
    generalize w6.heap.size = b8 at hF ⊢
    have HF := hide hF
    obtain ⟨x0, x1, y0, y1⟩ := And.intro hF.c0 (And.intro hF.c1 (And.intro hF.wn.y0 hF.wn.y1))
    have zz0 := hF.lt
    have zz1 := hF.wn.lt
    clear hF
    go_wp2_with (fail)
    go_region_held3 (fun w' => w'.cell? ⟨b8, 0, none⟩ = some (.int .i64 0) ∧ w'.cell? ⟨b8, 1, none⟩ = some (.slice none 0 0) ∧ w'.cell? ⟨z, 0, none⟩ = some (.int .i64 0) ∧ w'.cell? ⟨z, 1, none⟩ = some (.slice none 0 0))
      (first | go_keep | exact ⟨‹_›, ‹_›, ‹_›, ‹_›⟩)
      ((first
        | (go_at_call 14
           refine Calls.mono (HCO.out _ (below_drewN' HF.out.bel 1)) ?_
           rintro e w10 ⟨rfl, hb10⟩
           have hF10 := HF.out.later (below_trans (below_drewN' (Below.refl _ _) 1) hb10)
           obtain ⟨xa0, xa1, ya0, ya1⟩ := And.intro hF10.c0 (And.intro hF10.c1 (And.intro hF10.wn.y0 hF10.wn.y1))
           have zz2 := hF10.lt
           have zz3 := hF10.wn.lt)
        | (go_at_call 18
           refine Calls.mono (back_any _ _ _ _ w10) ?_
           rintro e w11 ⟨rfl, hb11⟩
           have hF11 := hF10.later hb11
           obtain ⟨xb0, xb1, yb0, yb1⟩ := And.intro hF11.c0 (And.intro hF11.c1 (And.intro hF11.wn.y0 hF11.wn.y1))
           have zz4 := hF11.lt
           have zz5 := hF11.wn.lt)
        | (go_at_call 17
           refine Calls.mono (sameGraph_yes 0 none none [] 0 0 w11 hF11.pe hF11.wn.pr) ?_
           rintro e w12 ⟨rfl, hb12⟩
           have hF12 := hF11.later hb12
           obtain ⟨xc0, xc1, yc0, yc1⟩ := And.intro hF12.c0 (And.intro hF12.c1 (And.intro hF12.wn.y0 hF12.wn.y1)))))
    go_wp2_with (fail)
    go_ret
    exact ⟨rfl, hF12.bel⟩

end Go.Proofs.YtehheklbibocjaaDoor

/- The law ZeroStrong at right graphs, and whole. Condition: the variables read as laid. -/
namespace Go.Proofs.YtehheklbibocjaaDoor
open Go.RowKit Go.Deep Go.Proofs.YtehheklbibocjaaDoorW.PrintWords

theorem AB.put {w : World} {n : Int} {A : Option Addr} {la c : Nat} {m : Int} {B : Option Addr} {lb d : Nat} {W : World} (h : AB w n A la c m B lb d W) (b i : Nat) (v : Value) (hb : w.heap.size + 2 ≤ b) : AB w n A la c m B lb d (W.setCell ⟨b, i, none⟩ v) := by
  have key : ∀ q o, q < w.heap.size + 2 → (W.setCell ⟨b, i, none⟩ v).cell? ⟨q, o, none⟩ = W.cell? ⟨q, o, none⟩ := fun q o hq => World.cell?_setCell_other _ _ _ _ (fun e => by injection e with e; omega)
  exact ⟨h.below.setCell (p := ⟨b, i, none⟩) (by show w.heap.size ≤ b; omega) _, by rw [World.size_setCell]; exact h.size, (key _ _ (by omega)).trans h.a0, (key _ _ (by omega)).trans h.a1, (key _ _ (by omega)).trans h.b0, (key _ _ (by omega)).trans h.b1⟩
theorem want_made {W : World} {z : Nat} {gn : Int} {F : Option Addr} {gl : List (Int × Int)} {f0 : Nat} {t : TypeId} {x y : Value} (hx : W.heap[z]? = some (.cells #[x, y] t (0, 0))) (hP : Pairs W F gl) (hF : ∀ x, F = some x → z + 1 ≤ x.block ∧ x.block < W.heap.size) :
    WN z gn F gl f0 ((W.setCell ⟨z, 0, none⟩ (.int .i64 gn)).setCell ⟨z, 1, none⟩ (.slice F gl.length f0)) ∧ (∀ x, F = some x → x.block < ((W.setCell ⟨z, 0, none⟩ (.int .i64 gn)).setCell ⟨z, 1, none⟩ (.slice F gl.length f0)).heap.size) := by
  have h1 := rows_same W z 0 _ t (.int .i64 gn) hx
  have h2 := rows_same _ z 1 _ t (.slice F gl.length f0) h1
  exact ⟨⟨lt_of_block h2, (cell_of _ _ 0 _ _ _ h2 rfl).1, (cell_of _ _ 1 _ _ _ h2 rfl).1, pairs_put (pairs_put hP fun x e => by have := hF x e; omega) fun x e => by have := hF x e; omega⟩, fun x e => by rw [World.size_setCell, World.size_setCell]; exact (hF x e).2⟩

set_option maxRecDepth 100000 in
set_option maxHeartbeats 8000000 in
theorem law_strong_good (n : Nat) (A : Option Addr) (l : List (Int × Int)) (c : Nat) (m : Nat) (B : Option Addr) (k : List (Int × Int)) (d : Nat) (w : World) (a : Nat → Addr) (hS : Sent codes w a) (hH : Handle w) (hA : Pairs w A l) (hB : Pairs w B k) (hl : l.length ≤ 200) (hk : k.length ≤ 200) (h1 : gErr n l = 0) (h2 : gErr m k = 0) (h16 : n * m ≤ 16) :
    Calls Tryd.prog 5 #[.agg #[.int .i64 n, .slice A l.length c], .agg #[.int .i64 m, .slice B k.length d]] w fun e w' => e = .returned (.bool true) ∧ Below w.heap.size w w' := by
  have hla := hA.len
  have hlb := hB.len
  have hE : Env [2, 3] w a := hS.toEnv.sub (fun c h => sub23 h)
  have HAB := hide (AB.start w n A l.length c m B k.length d)
  have HPE := hide (fun V (hb : Below w.heap.size w V) => pentagon_ok V a (hE.below hb))
  have HLA := hide (fun V => little_any n A l.length c V hla)
  have HLB := hide (fun V => little_any m B k.length d V hlb)
  rw [decide_eq_true hl] at HLA
  rw [decide_eq_true hk] at HLB
  have HGA := hide (fun V (hb : Below w.heap.size w V) => graphErr_any n A l c V (hA.below hb))
  have HGB := hide (fun V (hb : Below w.heap.size w V) => graphErr_any m B k d V (hB.below hb))
  have HA' := hide (fun V (hb : Below w.heap.size w V) => graph_any n A l c V (hA.below hb) (by omega))
  have HB' := hide (fun V (hb : Below w.heap.size w V) => graph_any m B k d V (hB.below hb) (by omega))
  have HCO0 := hide (fun V (hb : Below w.heap.size w V) (r : Nat) (hr : r ≤ 8) => coded_same V a (hS.below hb) (hH.below hb) r hr)
  obtain ⟨_, hn1, hg1⟩ := gErr_zero h1
  obtain ⟨_, hm1, hg2⟩ := gErr_zero h2
  have hm16 : m ≤ 16 := by omega
  have HSO := hide (fun V (hb : Below w.heap.size w V) => strongOf_ok n m A l c B k d V (hA.below hb) (hB.below hb) h16 hm16)
  have HST := hide (fun (A' : Option Addr) (c' : Nat) (B' : Option Addr) (d' : Nat) V (hb : Below w.heap.size w V) (gA : Pairs V A' l) (gB : Pairs V B' k) => strong_good n m A' l c' B' k d' V a (hE.below hb) gA gB h1 h2 h16)
  rw [strong_same hg1 hg2] at HST
  obtain ⟨N, hN⟩ : ∃ N, n * m = N := ⟨_, rfl⟩
  rw [hN] at HSO HST h16
  obtain ⟨gl, hgl⟩ : ∃ g, allTo (strongQ l k m) N N = g := ⟨_, rfl⟩
  rw [hgl] at HSO HST
  have hNi : (n : Int) * (m : Int) = (N : Int) := by rw [← hN]; rfl
  have hw : wrap64 ((n : Int) * (m : Int)) = (N : Int) := by rw [hNi]; unfold wrap64; omega
  have hle : decide (16 < (N : Int)) = false := decide_eq_false (by omega)
  have hco : ∀ V, Below w.heap.size w V → Calls Tryd.prog 14 #[.nilIface, .int .i64 0] V fun e w' => e = .returned (.bool true) ∧ Below V.heap.size V w' := fun V hb => HCO0.out V hb 0 (by omega)
  have HCO := hide hco
  rw [h1] at HGA
  rw [h2] at HGB
  clear h1 h2 h16 hN hgl hg1 hg2 hn1 hm1 hm16 HCO0 hNi hco
  clear hE hS hH hA hB
  go_enter Tryd.func5, Tryd.ntmps5
  go_wp2_with (first
    | (go_at_call 7; refine Calls.mono (HPE.out _ HAB.out.below) ?_; rintro e w1 ⟨rfl, hb1⟩; have hs1 := HAB.out.later hb1; obtain ⟨a0, a1, b0, b1⟩ := And.intro hs1.a0 (And.intro hs1.a1 (And.intro hs1.b0 hs1.b1)))
    | (go_at_call_of 8 (Value.agg #[.int .i64 n, .slice A l.length c]); refine Calls.mono (HLA.out _) ?_; rintro e w2 ⟨rfl, hb2⟩; have hs2 := hs1.later hb2; clear a0 a1 b0 b1; obtain ⟨a0, a1, b0, b1⟩ := And.intro hs2.a0 (And.intro hs2.a1 (And.intro hs2.b0 hs2.b1)))
    | (go_at_call_of 8 (Value.agg #[.int .i64 m, .slice B k.length d]); refine Calls.mono (HLB.out _) ?_; rintro e w3 ⟨rfl, hb3⟩; have hs3 := hs2.later hb3; clear a0 a1 b0 b1; obtain ⟨a0, a1, b0, b1⟩ := And.intro hs3.a0 (And.intro hs3.a1 (And.intro hs3.b0 hs3.b1)))
    | (go_at_call_of 12 (Value.agg #[.int .i64 n, .slice A l.length c]); refine Calls.mono (HGA.out _ hs3.below) ?_; rintro e w4 ⟨rfl, hb4⟩; have hs4 := hs3.later hb4; clear a0 a1 b0 b1; obtain ⟨a0, a1, b0, b1⟩ := And.intro hs4.a0 (And.intro hs4.a1 (And.intro hs4.b0 hs4.b1)); have z4 := hs4.size)
    | (go_at_call_of 12 (Value.agg #[.int .i64 m, .slice B k.length d]); refine Calls.mono (HGB.out _ hs4.below) ?_; rintro e w5 ⟨rfl, hb5⟩; have hs5 := hs4.later hb5; clear a0 a1 b0 b1; obtain ⟨a0, a1, b0, b1⟩ := And.intro hs5.a0 (And.intro hs5.a1 (And.intro hs5.b0 hs5.b1)); have z5 := hs5.size; have zy0 : w.heap.size < w5.heap.size := (by omega); have zy1 : w.heap.size + 1 < w5.heap.size := (by omega))
    | (go_at_call 16; refine Calls.mono (HSO.out _ (below_alloc' hs5.below _)) ?_; rintro e w5b ⟨F, f0, rfl, hPF, hf0, hFb, hb5b⟩; have hbx : w5b.heap[w5.heap.size]? = some (.cells #[.int .i64 0, .slice none 0 0] 24 (0, 0)) := (hb5b.block w5.heap.size (by rw [World.size_alloc]; omega)).trans (alloc_at w5 _); obtain ⟨v0, v2⟩ := cell_of _ _ 0 _ _ (.int .i64 0) hbx rfl; obtain ⟨v1, v3⟩ := cell_of _ _ 1 _ _ (.slice none 0 0) hbx rfl; have vz := lt_of_block hbx; have hs5b := (hs5.later (below_alloc' (Below.refl _ _) _)).later hb5b))
  obtain ⟨w6, hw6⟩ : ∃ W, (w5b.setCell ⟨w5.heap.size, 0, none⟩ (.int .i64 (N : Int))).setCell ⟨w5.heap.size, 1, none⟩ (.slice F gl.length f0) = W := ⟨_, rfl⟩
  obtain ⟨hN6, hF6⟩ := want_made (gn := (N : Int)) (f0 := f0) hbx hPF (fun x e => by have := hFb x e; rw [World.size_alloc] at this; exact this)
  have hs6 := (hs5b.put w5.heap.size 0 (.int .i64 (N : Int)) z5).put w5.heap.size 1 (.slice F gl.length f0) z5
  rw [hw6] at hN6 hF6 hs6 ⊢
  clear hw6 v0 v1 v2 v3 vz zy0 zy1
  generalize w5.heap.size = z at hN6 ⊢
  have HS6 := hide (And.intro hs6 hN6)
  have zN := hN6.lt
  have hs6s := hs6.size
  clear a0 a1 b0 b1
  obtain ⟨a0, a1, b0, b1⟩ := And.intro hs6.a0 (And.intro hs6.a1 (And.intro hs6.b0 hs6.b1))
  have zs := hs6.size
  have z0 : w.heap.size < w6.heap.size := by omega
  have z1 : w.heap.size + 1 < w6.heap.size := by omega
  clear hs6 hN6
  go_region_held3 (fun w' => w'.cell? ⟨w.heap.size, 0, none⟩ = some (.int .i64 n) ∧ w'.cell? ⟨w.heap.size, 1, none⟩ = some (.slice A l.length c) ∧ w'.cell? ⟨w.heap.size + 1, 0, none⟩ = some (.int .i64 m) ∧ w'.cell? ⟨w.heap.size + 1, 1, none⟩ = some (.slice B k.length d))
    (first | go_keep | exact ⟨‹_›, ‹_›, ‹_›, ‹_›⟩ | (refine ⟨?_, ?_, ?_, ?_⟩ <;> (rw [World.cell?_setCell_other _ _ _ _ (fun e => by injection e with e; omega), World.cell?_setCell_other _ _ _ _ (fun e => by injection e with e; omega)]; assumption)))
    ((first
      | (go_at_call_of 10 (Value.agg #[.int .i64 n, .slice A l.length c])
         first
         | (refine Calls.mono (HA'.out w6.drew (below_drewN' HS6.out.1.below 1)) ?_
            rintro e w7 ⟨A7, c7, rfl, hP7, hc7, hb7⟩
            have hk7 := below_trans (below_drewN' (Below.refl w6.heap.size w6) 1) hb7)
         | (refine Calls.mono (HA'.out (w6.drew.alloc (.cells #[.int .i64 0, .slice none 0 0] 27)) (below_alloc' (below_drewN' HS6.out.1.below 1) _)) ?_
            rintro e w7 ⟨A7, c7, rfl, hP7, hc7, hb7⟩
            have hk7 := below_trans (below_alloc' (below_drewN' (Below.refl w6.heap.size w6) 1) _) hb7
            have hx7 : w7.heap[w6.heap.size]? = some (.cells #[.int .i64 0, .slice none 0 0] 27 (0, 0)) := (hb7.block w6.heap.size (by rw [World.size_alloc]; exact Nat.lt_succ_self _)).trans (alloc_at w6.drew _))
         have hs7 := HS6.out.1.later hk7
         have p0 := hs7.a0
         have p1 := hs7.a1
         have p2 := hs7.b0
         have p3 := hs7.b1
         have z2 : w.heap.size < w7.heap.size := by have := hs7.size; omega
         have z3 : w.heap.size + 1 < w7.heap.size := by have := hs7.size; omega)
      | (go_at_call_of 10 (Value.agg #[.int .i64 m, .slice B k.length d])
         first
         | (refine Calls.mono (HB'.out w7 hs7.below) ?_
            rintro e w8 ⟨A8, c8, rfl, hP8, hc8, hb8⟩
            have hk8 := hb8)
         | (refine Calls.mono (HB'.out (w7.alloc (.cells #[.int .i64 0, .slice none 0 0] 27)) (below_alloc' hs7.below _)) ?_
            rintro e w8 ⟨A8, c8, rfl, hP8, hc8, hb8⟩
            have hk8 := below_trans (below_alloc' (Below.refl w7.heap.size w7) _) hb8
            have hx8 : w8.heap[w7.heap.size]? = some (.cells #[.int .i64 0, .slice none 0 0] 27 (0, 0)) := (hb8.block w7.heap.size (by rw [World.size_alloc]; exact Nat.lt_succ_self _)).trans (alloc_at w7 _))
         have hs8 := hs7.later hk8
         have q0 := hs8.a0
         have q1 := hs8.a1
         have q2 := hs8.b0
         have q3 := hs8.b1
         have z4' : w.heap.size < w8.heap.size := by have := hs8.size; omega
         have z5' : w.heap.size + 1 < w8.heap.size := by have := hs8.size; omega)
      | (go_at_call 9
         first
         | (refine Calls.mono (HST.out A7 c7 A8 c8 w8 hs8.below (hP7.below hk8) hP8) ?_
            rintro e w9 ⟨E9, f9, rfl, hP9, hf9, hE9, hb9⟩
            have hk9 := hb9)
         | (refine Calls.mono (HST.out A7 c7 A8 c8 (w8.alloc (.cells #[.int .i64 0, .slice none 0 0] 27)) (below_alloc' hs8.below _) ((hP7.below hk8).below (below_alloc' (Below.refl _ _) _)) (hP8.below (below_alloc' (Below.refl _ _) _))) ?_
            rintro e w9 ⟨E9, f9, rfl, hP9, hf9, hE9, hb9⟩
            have hk9 := below_trans (below_alloc' (Below.refl w8.heap.size w8) _) hb9
            have hx9 : w9.heap[w8.heap.size]? = some (.cells #[.int .i64 0, .slice none 0 0] 27 (0, 0)) := (hb9.block w8.heap.size (by rw [World.size_alloc]; exact Nat.lt_succ_self _)).trans (alloc_at w8 _)
            obtain ⟨u0, u2⟩ := cell_of _ _ 0 _ _ (.int .i64 0) hx9 rfl
            obtain ⟨u1, u3⟩ := cell_of _ _ 1 _ _ (.slice none 0 0) hx9 rfl
            have uz := lt_of_block hx9)
         try (have hx9a := (hk9.block _ (lt_of_block hx8)).trans hx8
              obtain ⟨u0, u2⟩ := cell_of _ _ 0 _ _ (.int .i64 0) hx9a rfl
              obtain ⟨u1, u3⟩ := cell_of _ _ 1 _ _ (.slice none 0 0) hx9a rfl
              have uz := lt_of_block hx9a)
         try (have hx9b := (hk9.block _ (Nat.lt_of_lt_of_le (lt_of_block hx7) hk8.size)).trans ((hk8.block _ (lt_of_block hx7)).trans hx7)
              obtain ⟨u0, u2⟩ := cell_of _ _ 0 _ _ (.int .i64 0) hx9b rfl
              obtain ⟨u1, u3⟩ := cell_of _ _ 1 _ _ (.slice none 0 0) hx9b rfl
              have uz := lt_of_block hx9b)
         have hs9 := hs8.later hk9
         have s0 := hs9.a0
         have s1 := hs9.a1
         have s2 := hs9.b0
         have s3 := hs9.b1)))
  · have hN9 := HS6.out.2.later (below_trans (below_trans hk7 hk8) hk9)
    obtain ⟨W, hW⟩ : ∃ W, w9.alloc (.cells #[.int .i64 (N : Int), .slice E9 gl.length f9] 27) = W := ⟨_, rfl⟩
    have hF : FinS w z (N : Int) F gl f0 w9.heap.size E9 f9 W := by rw [← hW]; exact FinS.fresh hN9 hs9.below (hP9)
    rw [hW]
    clear hW
    generalize w9.heap.size = b8 at hF ⊢
    have HF := hide hF
    obtain ⟨x0, x1, y0, y1⟩ := And.intro hF.c0 (And.intro hF.c1 (And.intro hF.wn.y0 hF.wn.y1))
    have zz0 := hF.lt
    have zz1 := hF.wn.lt
    clear hF
    go_wp2_with (fail)
    go_region_held3 (fun w' => w'.cell? ⟨b8, 0, none⟩ = some (.int .i64 (N : Int)) ∧ w'.cell? ⟨b8, 1, none⟩ = some (.slice E9 gl.length f9) ∧ w'.cell? ⟨z, 0, none⟩ = some (.int .i64 (N : Int)) ∧ w'.cell? ⟨z, 1, none⟩ = some (.slice F gl.length f0))
      (first | go_keep | exact ⟨‹_›, ‹_›, ‹_›, ‹_›⟩)
      ((first
        | (go_at_call 14
           refine Calls.mono (HCO.out _ (below_drewN' HF.out.bel 1)) ?_
           rintro e w10 ⟨rfl, hb10⟩
           have hF10 := HF.out.later (below_trans (below_drewN' (Below.refl _ _) 1) hb10)
           obtain ⟨xa0, xa1, ya0, ya1⟩ := And.intro hF10.c0 (And.intro hF10.c1 (And.intro hF10.wn.y0 hF10.wn.y1))
           have zz2 := hF10.lt
           have zz3 := hF10.wn.lt)
        | (go_at_call 18
           refine Calls.mono (back_any _ _ _ _ w10) ?_
           rintro e w11 ⟨rfl, hb11⟩
           have hF11 := hF10.later hb11
           obtain ⟨xb0, xb1, yb0, yb1⟩ := And.intro hF11.c0 (And.intro hF11.c1 (And.intro hF11.wn.y0 hF11.wn.y1))
           have zz4 := hF11.lt
           have zz5 := hF11.wn.lt)
        | (go_at_call 17
           refine Calls.mono (sameGraph_yes (N : Int) E9 F gl f9 f0 w11 hF11.pe hF11.wn.pr) ?_
           rintro e w12 ⟨rfl, hb12⟩
           have hF12 := hF11.later hb12
           obtain ⟨xc0, xc1, yc0, yc1⟩ := And.intro hF12.c0 (And.intro hF12.c1 (And.intro hF12.wn.y0 hF12.wn.y1)))))
    go_wp2_with (fail)
    go_ret
    exact ⟨rfl, hF12.bel⟩
  · have hN9 := HS6.out.2.later (below_trans (below_trans hk7 hk8) hk9)
    obtain ⟨W, hW⟩ : ∃ W, (w9.setCell ⟨w8.heap.size, 0, none⟩ (.int .i64 (N : Int))).setCell ⟨w8.heap.size, 1, none⟩ (.slice E9 gl.length f9) = W := ⟨_, rfl⟩
    have hF : FinS w z (N : Int) F gl f0 w8.heap.size E9 f9 W := by rw [← hW]; exact FinS.put hx9 hN9 (by have := zN; have := hk7.size; have := hk8.size; omega) hs9.below (by have := hs6s; have := hk7.size; have := hk8.size; omega) (hP9) (fun x e => by have := hE9 x e; rw [World.size_alloc] at this; omega) (fun x e => by have := hF6 x e; have := hk7.size; have := hk8.size; omega)
    rw [hW]
    clear hW
    generalize w8.heap.size = b8 at hF ⊢
    have HF := hide hF
    obtain ⟨x0, x1, y0, y1⟩ := And.intro hF.c0 (And.intro hF.c1 (And.intro hF.wn.y0 hF.wn.y1))
    have zz0 := hF.lt
    have zz1 := hF.wn.lt
    clear hF
    go_wp2_with (fail)
    go_region_held3 (fun w' => w'.cell? ⟨b8, 0, none⟩ = some (.int .i64 (N : Int)) ∧ w'.cell? ⟨b8, 1, none⟩ = some (.slice E9 gl.length f9) ∧ w'.cell? ⟨z, 0, none⟩ = some (.int .i64 (N : Int)) ∧ w'.cell? ⟨z, 1, none⟩ = some (.slice F gl.length f0))
      (first | go_keep | exact ⟨‹_›, ‹_›, ‹_›, ‹_›⟩)
      ((first
        | (go_at_call 14
           refine Calls.mono (HCO.out _ (below_drewN' HF.out.bel 1)) ?_
           rintro e w10 ⟨rfl, hb10⟩
           have hF10 := HF.out.later (below_trans (below_drewN' (Below.refl _ _) 1) hb10)
           obtain ⟨xa0, xa1, ya0, ya1⟩ := And.intro hF10.c0 (And.intro hF10.c1 (And.intro hF10.wn.y0 hF10.wn.y1))
           have zz2 := hF10.lt
           have zz3 := hF10.wn.lt)
        | (go_at_call 18
           refine Calls.mono (back_any _ _ _ _ w10) ?_
           rintro e w11 ⟨rfl, hb11⟩
           have hF11 := hF10.later hb11
           obtain ⟨xb0, xb1, yb0, yb1⟩ := And.intro hF11.c0 (And.intro hF11.c1 (And.intro hF11.wn.y0 hF11.wn.y1))
           have zz4 := hF11.lt
           have zz5 := hF11.wn.lt)
        | (go_at_call 17
           refine Calls.mono (sameGraph_yes (N : Int) E9 F gl f9 f0 w11 hF11.pe hF11.wn.pr) ?_
           rintro e w12 ⟨rfl, hb12⟩
           have hF12 := hF11.later hb12
           obtain ⟨xc0, xc1, yc0, yc1⟩ := And.intro hF12.c0 (And.intro hF12.c1 (And.intro hF12.wn.y0 hF12.wn.y1)))))
    go_wp2_with (fail)
    go_ret
    exact ⟨rfl, hF12.bel⟩
  · have hN9 := HS6.out.2.later (below_trans (below_trans hk7 hk8) hk9)
    obtain ⟨W, hW⟩ : ∃ W, (w9.setCell ⟨w7.heap.size, 0, none⟩ (.int .i64 (N : Int))).setCell ⟨w7.heap.size, 1, none⟩ (.slice E9 gl.length f9) = W := ⟨_, rfl⟩
    have hF : FinS w z (N : Int) F gl f0 w7.heap.size E9 f9 W := by rw [← hW]; exact FinS.put ((hk9.block _ (lt_of_block hx8)).trans hx8) hN9 (by have := zN; have := hk7.size; have := hk8.size; omega) hs9.below (by have := hs6s; have := hk7.size; have := hk8.size; omega) (hP9) (fun x e => by have := hE9 x e; have := lt_of_block hx8; omega) (fun x e => by have := hF6 x e; have := hk7.size; have := hk8.size; omega)
    rw [hW]
    clear hW
    generalize w7.heap.size = b8 at hF ⊢
    have HF := hide hF
    obtain ⟨x0, x1, y0, y1⟩ := And.intro hF.c0 (And.intro hF.c1 (And.intro hF.wn.y0 hF.wn.y1))
    have zz0 := hF.lt
    have zz1 := hF.wn.lt
    clear hF
    go_wp2_with (fail)
    go_region_held3 (fun w' => w'.cell? ⟨b8, 0, none⟩ = some (.int .i64 (N : Int)) ∧ w'.cell? ⟨b8, 1, none⟩ = some (.slice E9 gl.length f9) ∧ w'.cell? ⟨z, 0, none⟩ = some (.int .i64 (N : Int)) ∧ w'.cell? ⟨z, 1, none⟩ = some (.slice F gl.length f0))
      (first | go_keep | exact ⟨‹_›, ‹_›, ‹_›, ‹_›⟩)
      ((first
        | (go_at_call 14
           refine Calls.mono (HCO.out _ (below_drewN' HF.out.bel 1)) ?_
           rintro e w10 ⟨rfl, hb10⟩
           have hF10 := HF.out.later (below_trans (below_drewN' (Below.refl _ _) 1) hb10)
           obtain ⟨xa0, xa1, ya0, ya1⟩ := And.intro hF10.c0 (And.intro hF10.c1 (And.intro hF10.wn.y0 hF10.wn.y1))
           have zz2 := hF10.lt
           have zz3 := hF10.wn.lt)
        | (go_at_call 18
           refine Calls.mono (back_any _ _ _ _ w10) ?_
           rintro e w11 ⟨rfl, hb11⟩
           have hF11 := hF10.later hb11
           obtain ⟨xb0, xb1, yb0, yb1⟩ := And.intro hF11.c0 (And.intro hF11.c1 (And.intro hF11.wn.y0 hF11.wn.y1))
           have zz4 := hF11.lt
           have zz5 := hF11.wn.lt)
        | (go_at_call 17
           refine Calls.mono (sameGraph_yes (N : Int) E9 F gl f9 f0 w11 hF11.pe hF11.wn.pr) ?_
           rintro e w12 ⟨rfl, hb12⟩
           have hF12 := hF11.later hb12
           obtain ⟨xc0, xc1, yc0, yc1⟩ := And.intro hF12.c0 (And.intro hF12.c1 (And.intro hF12.wn.y0 hF12.wn.y1)))))
    go_wp2_with (fail)
    go_ret
    exact ⟨rfl, hF12.bel⟩
  · have hN9 := HS6.out.2.later (below_trans (below_trans hk7 hk8) hk9)
    obtain ⟨W, hW⟩ : ∃ W, (w9.setCell ⟨w6.heap.size, 0, none⟩ (.int .i64 (N : Int))).setCell ⟨w6.heap.size, 1, none⟩ (.slice E9 gl.length f9) = W := ⟨_, rfl⟩
    have hF : FinS w z (N : Int) F gl f0 w6.heap.size E9 f9 W := by rw [← hW]; exact FinS.put ((hk9.block _ (Nat.lt_of_lt_of_le (lt_of_block hx7) hk8.size)).trans ((hk8.block _ (lt_of_block hx7)).trans hx7)) hN9 (by have := zN; have := hk7.size; have := hk8.size; omega) hs9.below (by have := hs6s; have := hk7.size; have := hk8.size; omega) (hP9) (fun x e => by have := hE9 x e; have := lt_of_block hx7; have := hk8.size; omega) (fun x e => by have := hF6 x e; have := hk7.size; have := hk8.size; omega)
    rw [hW]
    clear hW
    generalize w6.heap.size = b8 at hF ⊢
    have HF := hide hF
    obtain ⟨x0, x1, y0, y1⟩ := And.intro hF.c0 (And.intro hF.c1 (And.intro hF.wn.y0 hF.wn.y1))
    have zz0 := hF.lt
    have zz1 := hF.wn.lt
    clear hF
    go_wp2_with (fail)
    go_region_held3 (fun w' => w'.cell? ⟨b8, 0, none⟩ = some (.int .i64 (N : Int)) ∧ w'.cell? ⟨b8, 1, none⟩ = some (.slice E9 gl.length f9) ∧ w'.cell? ⟨z, 0, none⟩ = some (.int .i64 (N : Int)) ∧ w'.cell? ⟨z, 1, none⟩ = some (.slice F gl.length f0))
      (first | go_keep | exact ⟨‹_›, ‹_›, ‹_›, ‹_›⟩)
      ((first
        | (go_at_call 14
           refine Calls.mono (HCO.out _ (below_drewN' HF.out.bel 1)) ?_
           rintro e w10 ⟨rfl, hb10⟩
           have hF10 := HF.out.later (below_trans (below_drewN' (Below.refl _ _) 1) hb10)
           obtain ⟨xa0, xa1, ya0, ya1⟩ := And.intro hF10.c0 (And.intro hF10.c1 (And.intro hF10.wn.y0 hF10.wn.y1))
           have zz2 := hF10.lt
           have zz3 := hF10.wn.lt)
        | (go_at_call 18
           refine Calls.mono (back_any _ _ _ _ w10) ?_
           rintro e w11 ⟨rfl, hb11⟩
           have hF11 := hF10.later hb11
           obtain ⟨xb0, xb1, yb0, yb1⟩ := And.intro hF11.c0 (And.intro hF11.c1 (And.intro hF11.wn.y0 hF11.wn.y1))
           have zz4 := hF11.lt
           have zz5 := hF11.wn.lt)
        | (go_at_call 17
           refine Calls.mono (sameGraph_yes (N : Int) E9 F gl f9 f0 w11 hF11.pe hF11.wn.pr) ?_
           rintro e w12 ⟨rfl, hb12⟩
           have hF12 := hF11.later hb12
           obtain ⟨xc0, xc1, yc0, yc1⟩ := And.intro hF12.c0 (And.intro hF12.c1 (And.intro hF12.wn.y0 hF12.wn.y1)))))
    go_wp2_with (fail)
    go_ret
    exact ⟨rfl, hF12.bel⟩

theorem law_strong (n : Int) (A : Option Addr) (l : List (Int × Int)) (c : Nat) (m : Int) (B : Option Addr) (k : List (Int × Int)) (d : Nat) (w : World) (a : Nat → Addr) (hS : Sent codes w a) (hH : Handle w) (hA : Pairs w A l) (hB : Pairs w B k) :
    Calls Tryd.prog 5 #[.agg #[.int .i64 n, .slice A l.length c], .agg #[.int .i64 m, .slice B k.length d]] w fun e w' => e = .returned (.bool true) ∧ Below w.heap.size w w' := by
  by_cases hl : 200 < l.length ∨ 200 < k.length
  · exact law_strong_many n A l c m B k d w a hS hA hB hl
  have hl1 : l.length ≤ 200 := by omega
  have hl2 : k.length ≤ 200 := by omega
  by_cases h1 : gErr n l = 0
  · by_cases h2 : gErr m k = 0
    · by_cases h16 : 16 < n * m
      · exact law_strong_b3 n A l c m B k d w a hS hH hA hB hl1 hl2 h1 h2 h16
      · obtain ⟨hn0, _, _⟩ := gErr_zero h1
        obtain ⟨hm0, _, _⟩ := gErr_zero h2
        obtain ⟨n', rfl⟩ : ∃ x : Nat, n = (x : Int) := ⟨n.toNat, by omega⟩
        obtain ⟨m', rfl⟩ : ∃ x : Nat, m = (x : Int) := ⟨m.toNat, by omega⟩
        have h16' : n' * m' ≤ 16 := by
          have e : (n' : Int) * (m' : Int) = ((n' * m' : Nat) : Int) := rfl
          rw [e] at h16
          omega
        exact law_strong_good n' A l c m' B k d w a hS hH hA hB hl1 hl2 h1 h2 h16'
    · exact law_strong_b2 n A l c m B k d w a hS hH hA hB hl1 hl2 h1 h2
  · exact law_strong_b1 n A l c m B k d w a hS hH hA hB hl1 hl2 h1
end Go.Proofs.YtehheklbibocjaaDoor

/- The law ZeroShannon. Condition: the variables read as laid. -/
namespace Go.Proofs.YtehheklbibocjaaDoor
open Go.RowKit Go.Deep Go.Proofs.YtehheklbibocjaaDoorW.PrintWords

/-- the arguments' boxes and the product's -/
structure FB (w : World) (n : Int) (A : Option Addr) (la c : Nat) (m : Int) (B : Option Addr) (lb d : Nat) (gn : Int) (gl : List (Int × Int)) (b8 : Nat) (E : Option Addr) (f : Nat) (W : World) : Prop where
  ab : AB w n A la c m B lb d W
  c0 : W.cell? ⟨b8, 0, none⟩ = some (.int .i64 gn)
  c1 : W.cell? ⟨b8, 1, none⟩ = some (.slice E gl.length f)
  pe : Pairs W E gl
  lt : b8 < W.heap.size
theorem FB.put {w w9 : World} {n : Int} {A : Option Addr} {la c : Nat} {m : Int} {B : Option Addr} {lb d : Nat} {gn : Int} {gl : List (Int × Int)} {b8 : Nat} {E : Option Addr} {f : Nat} {t : TypeId} {x y : Value} (hx : w9.heap[b8]? = some (.cells #[x, y] t (0, 0))) (hab : AB w n A la c m B lb d w9) (hB : w.heap.size + 2 ≤ b8) (hE : Pairs w9 E gl) (hEb : ∀ x, E = some x → b8 < x.block) :
    FB w n A la c m B lb d gn gl b8 E f ((w9.setCell ⟨b8, 0, none⟩ (.int .i64 gn)).setCell ⟨b8, 1, none⟩ (.slice E gl.length f)) := by
  have h1 := rows_same w9 b8 0 _ t (.int .i64 gn) hx
  have h2 := rows_same _ b8 1 _ t (.slice E gl.length f) h1
  exact ⟨(hab.put b8 0 _ hB).put b8 1 _ hB, (cell_of _ _ 0 _ _ _ h2 rfl).1, (cell_of _ _ 1 _ _ _ h2 rfl).1, pairs_put (pairs_put hE fun x e => by have := hEb x e; omega) fun x e => by have := hEb x e; omega, lt_of_block h2⟩
theorem FB.fresh {w w9 : World} {n : Int} {A : Option Addr} {la c : Nat} {m : Int} {B : Option Addr} {lb d : Nat} {gn : Int} {gl : List (Int × Int)} {E : Option Addr} {f : Nat} {t : TypeId} (hab : AB w n A la c m B lb d w9) (hE : Pairs w9 E gl) :
    FB w n A la c m B lb d gn gl w9.heap.size E f (w9.alloc (.cells #[.int .i64 gn, .slice E gl.length f] t)) :=
  ⟨hab.later (below_alloc' (Below.refl _ _) _), (cell_of _ _ 0 _ _ _ (alloc_at w9 _) rfl).1, (cell_of _ _ 1 _ _ _ (alloc_at w9 _) rfl).1, hE.below (below_alloc' (Below.refl _ _) _), by rw [World.size_alloc]; omega⟩
theorem FB.later {w V W : World} {n : Int} {A : Option Addr} {la c : Nat} {m : Int} {B : Option Addr} {lb d : Nat} {gn : Int} {gl : List (Int × Int)} {b8 : Nat} {E : Option Addr} {f : Nat} (h : FB w n A la c m B lb d gn gl b8 E f V) (b : Below V.heap.size V W) : FB w n A la c m B lb d gn gl b8 E f W :=
  ⟨h.ab.later b, (b.cell (p := ⟨b8, 0, none⟩) h.lt).trans h.c0, (b.cell (p := ⟨b8, 1, none⟩) h.lt).trans h.c1, h.pe.below b, Nat.lt_of_lt_of_le h.lt b.size⟩

theorem mul_wrap {a b : Nat} (ha : a ≤ 16) (hb : b ≤ 16) : wrap64 ((a : Int) * (b : Int)) = ((a * b : Nat) : Int) := by
  have e : (a : Int) * (b : Int) = ((a * b : Nat) : Int) := rfl
  have h : a * b ≤ 16 * 16 := Nat.mul_le_mul ha hb
  rw [e]
  generalize a * b = q at h
  unfold wrap64
  omega
theorem asc_len : ∀ (t : List Nat) (lo n : Nat), (∀ u, u ∈ t → lo ≤ u ∧ u < n) → t.Pairwise (fun u w => u < w) → t.length ≤ n - lo
  | [], _, _, _, _ => Nat.zero_le _
  | u :: t, lo, n, h, hp => by
    obtain ⟨h1, h2⟩ := List.pairwise_cons.1 hp
    have hu := h u (List.mem_cons_self ..)
    have := asc_len t (u + 1) n (fun w hw => ⟨h1 w hw, (h w (List.mem_cons_of_mem _ hw)).2⟩) h2
    rw [List.length_cons]
    omega
theorem alone_len {n : Nat} {l : List (Int × Int)} (hn : n ≤ 16) (hM : Low (nearL n l)) : (aloneL n l).length ≤ 16 := by
  obtain ⟨t, ht, it⟩ := (alone_first hn hM).is_
  rw [ht, toI_length]
  have := asc_len t 0 n (fun u hu => ⟨Nat.zero_le _, it.mem u hu⟩) (it.pair.imp fun h => h.1)
  omega

set_option maxRecDepth 100000 in
set_option maxHeartbeats 8000000 in
theorem shan_many1 (n : Int) (A : Option Addr) (l : List (Int × Int)) (c : Nat) (m : Int) (B : Option Addr) (k : List (Int × Int)) (d : Nat) (w : World) (a : Nat → Addr) (hE : Env [2, 3] w a) (hA : Pairs w A l) (hB : Pairs w B k) (h : ¬ l.length ≤ 200) :
    Calls Tryd.prog 3 #[.agg #[.int .i64 n, .slice A l.length c], .agg #[.int .i64 m, .slice B k.length d]] w fun e w' => e = .returned (.bool true) ∧ Below w.heap.size w w' := by
  have hla := hA.len
  have hlb := hB.len
  have HAB := hide (AB.start w n A l.length c m B k.length d)
  have HPE := hide (fun V (hb : Below w.heap.size w V) => pentagon_ok V a (hE.below hb))
  have HLA := hide (fun V => little_any n A l.length c V hla)
  have HLB := hide (fun V => little_any m B k.length d V hlb)
  rw [decide_eq_false h] at HLA
  clear h hE hA hB
  go_enter Tryd.func3, Tryd.ntmps3
  go_wp2_with (first
    | (go_at_call 7; refine Calls.mono (HPE.out _ HAB.out.below) ?_; rintro e w1 ⟨rfl, hb1⟩; have hs1 := HAB.out.later hb1; obtain ⟨a0, a1, b0, b1⟩ := And.intro hs1.a0 (And.intro hs1.a1 (And.intro hs1.b0 hs1.b1)))
    | (go_at_call_of 8 (Value.agg #[.int .i64 n, .slice A l.length c]); refine Calls.mono (HLA.out _) ?_; rintro e w2 ⟨rfl, hb2⟩; have hs2 := hs1.later hb2; clear a0 a1 b0 b1; obtain ⟨a0, a1, b0, b1⟩ := And.intro hs2.a0 (And.intro hs2.a1 (And.intro hs2.b0 hs2.b1))))
  go_ret
  exact ⟨rfl, hs2.below⟩

set_option maxRecDepth 100000 in
set_option maxHeartbeats 8000000 in
theorem shan_many2 (n : Int) (A : Option Addr) (l : List (Int × Int)) (c : Nat) (m : Int) (B : Option Addr) (k : List (Int × Int)) (d : Nat) (w : World) (a : Nat → Addr) (hE : Env [2, 3] w a) (hA : Pairs w A l) (hB : Pairs w B k) (h : l.length ≤ 200) (h' : ¬ k.length ≤ 200) :
    Calls Tryd.prog 3 #[.agg #[.int .i64 n, .slice A l.length c], .agg #[.int .i64 m, .slice B k.length d]] w fun e w' => e = .returned (.bool true) ∧ Below w.heap.size w w' := by
  have hla := hA.len
  have hlb := hB.len
  have HAB := hide (AB.start w n A l.length c m B k.length d)
  have HPE := hide (fun V (hb : Below w.heap.size w V) => pentagon_ok V a (hE.below hb))
  have HLA := hide (fun V => little_any n A l.length c V hla)
  have HLB := hide (fun V => little_any m B k.length d V hlb)
  rw [decide_eq_true h] at HLA
  rw [decide_eq_false h'] at HLB
  clear h h' hE hA hB
  go_enter Tryd.func3, Tryd.ntmps3
  go_wp2_with (first
    | (go_at_call 7; refine Calls.mono (HPE.out _ HAB.out.below) ?_; rintro e w1 ⟨rfl, hb1⟩; have hs1 := HAB.out.later hb1; obtain ⟨a0, a1, b0, b1⟩ := And.intro hs1.a0 (And.intro hs1.a1 (And.intro hs1.b0 hs1.b1)))
    | (go_at_call_of 8 (Value.agg #[.int .i64 n, .slice A l.length c]); refine Calls.mono (HLA.out _) ?_; rintro e w2 ⟨rfl, hb2⟩; have hs2 := hs1.later hb2; clear a0 a1 b0 b1; obtain ⟨a0, a1, b0, b1⟩ := And.intro hs2.a0 (And.intro hs2.a1 (And.intro hs2.b0 hs2.b1)))
    | (go_at_call_of 8 (Value.agg #[.int .i64 m, .slice B k.length d]); refine Calls.mono (HLB.out _) ?_; rintro e w6 ⟨rfl, hb3⟩; have hs6 := hs2.later hb3; clear a0 a1 b0 b1; obtain ⟨a0, a1, b0, b1⟩ := And.intro hs6.a0 (And.intro hs6.a1 (And.intro hs6.b0 hs6.b1))))
  go_ret
  exact ⟨rfl, hs6.below⟩

set_option maxRecDepth 100000 in
set_option maxHeartbeats 8000000 in
theorem shan_bad (n : Int) (A : Option Addr) (l : List (Int × Int)) (c : Nat) (m : Int) (B : Option Addr) (k : List (Int × Int)) (d : Nat) (w : World) (a : Nat → Addr) (hE : Env [2, 3] w a) (hA : Pairs w A l) (hB : Pairs w B k) (hl : l.length ≤ 200) (hk : k.length ≤ 200) (h0 : sErr n l m k ≠ 0) :
    Calls Tryd.prog 3 #[.agg #[.int .i64 n, .slice A l.length c], .agg #[.int .i64 m, .slice B k.length d]] w fun e w' => e = .returned (.bool true) ∧ Below w.heap.size w w' := by
  have hla := hA.len
  have hlb := hB.len
  have HAB := hide (AB.start w n A l.length c m B k.length d)
  have HPE := hide (fun V (hb : Below w.heap.size w V) => pentagon_ok V a (hE.below hb))
  have HLA := hide (fun V => little_any n A l.length c V hla)
  have HLB := hide (fun V => little_any m B k.length d V hlb)
  rw [decide_eq_true hl] at HLA
  rw [decide_eq_true hk] at HLB
  have HA' := hide (fun V (hb : Below w.heap.size w V) => graph_any n A l c V (hA.below hb) (by omega))
  have HB' := hide (fun V (hb : Below w.heap.size w V) => graph_any m B k d V (hB.below hb) (by omega))
  have HST := hide (fun (A' : Option Addr) (c' : Nat) (B' : Option Addr) (d' : Nat) V (hb : Below w.heap.size w V) (gA : Pairs V A' l) (gB : Pairs V B' k) => strong_bad n A' l c' m B' k d' V a (hE.below hb) gA gB h0)
  generalize a (sErr n l m k).toNat = xx at HST
  clear h0 hE hA hB
  go_enter Tryd.func3, Tryd.ntmps3
  go_wp2_with (first
    | (go_at_call 7; refine Calls.mono (HPE.out _ HAB.out.below) ?_; rintro e w1 ⟨rfl, hb1⟩; have hs1 := HAB.out.later hb1; obtain ⟨a0, a1, b0, b1⟩ := And.intro hs1.a0 (And.intro hs1.a1 (And.intro hs1.b0 hs1.b1)))
    | (go_at_call_of 8 (Value.agg #[.int .i64 n, .slice A l.length c]); refine Calls.mono (HLA.out _) ?_; rintro e w2 ⟨rfl, hb2⟩; have hs2 := hs1.later hb2; clear a0 a1 b0 b1; obtain ⟨a0, a1, b0, b1⟩ := And.intro hs2.a0 (And.intro hs2.a1 (And.intro hs2.b0 hs2.b1)))
    | (go_at_call_of 8 (Value.agg #[.int .i64 m, .slice B k.length d]); refine Calls.mono (HLB.out _) ?_; rintro e w6 ⟨rfl, hb3⟩; have hs6 := hs2.later hb3; clear a0 a1 b0 b1; obtain ⟨a0, a1, b0, b1⟩ := And.intro hs6.a0 (And.intro hs6.a1 (And.intro hs6.b0 hs6.b1))))
  have HS6 := hide hs6
  have zs := hs6.size
  have z0 : w.heap.size < w6.heap.size := by omega
  have z1 : w.heap.size + 1 < w6.heap.size := by omega
  clear hs6
  go_region_held3 (fun w' => w'.cell? ⟨w.heap.size, 0, none⟩ = some (.int .i64 n) ∧ w'.cell? ⟨w.heap.size, 1, none⟩ = some (.slice A l.length c) ∧ w'.cell? ⟨w.heap.size + 1, 0, none⟩ = some (.int .i64 m) ∧ w'.cell? ⟨w.heap.size + 1, 1, none⟩ = some (.slice B k.length d))
    (first | go_keep | exact ⟨‹_›, ‹_›, ‹_›, ‹_›⟩ | (refine ⟨?_, ?_, ?_, ?_⟩ <;> (rw [World.cell?_setCell_other _ _ _ _ (fun e => by injection e with e; omega), World.cell?_setCell_other _ _ _ _ (fun e => by injection e with e; omega)]; assumption)))
    ((first
      | (go_at_call_of 10 (Value.agg #[.int .i64 n, .slice A l.length c])
         first
         | (refine Calls.mono (HA'.out w6.drew (below_drewN' HS6.out.below 1)) ?_
            rintro e w7 ⟨A7, c7, rfl, hP7, hc7, hb7⟩
            have hk7 := below_trans (below_drewN' (Below.refl w6.heap.size w6) 1) hb7)
         | (refine Calls.mono (HA'.out (w6.drew.alloc (.cells #[.int .i64 0, .slice none 0 0] 27)) (below_alloc' (below_drewN' HS6.out.below 1) _)) ?_
            rintro e w7 ⟨A7, c7, rfl, hP7, hc7, hb7⟩
            have hk7 := below_trans (below_alloc' (below_drewN' (Below.refl w6.heap.size w6) 1) _) hb7
            have hx7 : w7.heap[w6.heap.size]? = some (.cells #[.int .i64 0, .slice none 0 0] 27 (0, 0)) := (hb7.block w6.heap.size (by rw [World.size_alloc]; exact Nat.lt_succ_self _)).trans (alloc_at w6.drew _))
         have hs7 := HS6.out.later hk7
         have p0 := hs7.a0
         have p1 := hs7.a1
         have p2 := hs7.b0
         have p3 := hs7.b1
         have z2 : w.heap.size < w7.heap.size := by have := hs7.size; omega
         have z3 : w.heap.size + 1 < w7.heap.size := by have := hs7.size; omega)
      | (go_at_call_of 10 (Value.agg #[.int .i64 m, .slice B k.length d])
         first
         | (refine Calls.mono (HB'.out w7 hs7.below) ?_
            rintro e w8 ⟨A8, c8, rfl, hP8, hc8, hb8⟩
            have hk8 := hb8)
         | (refine Calls.mono (HB'.out (w7.alloc (.cells #[.int .i64 0, .slice none 0 0] 27)) (below_alloc' hs7.below _)) ?_
            rintro e w8 ⟨A8, c8, rfl, hP8, hc8, hb8⟩
            have hk8 := below_trans (below_alloc' (Below.refl w7.heap.size w7) _) hb8
            have hx8 : w8.heap[w7.heap.size]? = some (.cells #[.int .i64 0, .slice none 0 0] 27 (0, 0)) := (hb8.block w7.heap.size (by rw [World.size_alloc]; exact Nat.lt_succ_self _)).trans (alloc_at w7 _))
         have hs8 := hs7.later hk8
         have q0 := hs8.a0
         have q1 := hs8.a1
         have q2 := hs8.b0
         have q3 := hs8.b1
         have z4' : w.heap.size < w8.heap.size := by have := hs8.size; omega
         have z5' : w.heap.size + 1 < w8.heap.size := by have := hs8.size; omega)
      | (go_at_call 9
         first
         | (refine Calls.mono (HST.out A7 c7 A8 c8 w8 hs8.below (hP7.below hk8) hP8) ?_
            rintro e w9 ⟨rfl, hb9⟩
            have hk9 := hb9)
         | (refine Calls.mono (HST.out A7 c7 A8 c8 (w8.alloc (.cells #[.int .i64 0, .slice none 0 0] 27)) (below_alloc' hs8.below _) ((hP7.below hk8).below (below_alloc' (Below.refl _ _) _)) (hP8.below (below_alloc' (Below.refl _ _) _))) ?_
            rintro e w9 ⟨rfl, hb9⟩
            have hk9 := below_trans (below_alloc' (Below.refl w8.heap.size w8) _) hb9
            have hx9 : w9.heap[w8.heap.size]? = some (.cells #[.int .i64 0, .slice none 0 0] 27 (0, 0)) := (hb9.block w8.heap.size (by rw [World.size_alloc]; exact Nat.lt_succ_self _)).trans (alloc_at w8 _)
            obtain ⟨u0, u2⟩ := cell_of _ _ 0 _ _ (.int .i64 0) hx9 rfl
            obtain ⟨u1, u3⟩ := cell_of _ _ 1 _ _ (.slice none 0 0) hx9 rfl
            have uz := lt_of_block hx9)
         try (have hx9a := (hk9.block _ (lt_of_block hx8)).trans hx8
              obtain ⟨u0, u2⟩ := cell_of _ _ 0 _ _ (.int .i64 0) hx9a rfl
              obtain ⟨u1, u3⟩ := cell_of _ _ 1 _ _ (.slice none 0 0) hx9a rfl
              have uz := lt_of_block hx9a)
         try (have hx9b := (hk9.block _ (Nat.lt_of_lt_of_le (lt_of_block hx7) hk8.size)).trans ((hk8.block _ (lt_of_block hx7)).trans hx7)
              obtain ⟨u0, u2⟩ := cell_of _ _ 0 _ _ (.int .i64 0) hx9b rfl
              obtain ⟨u1, u3⟩ := cell_of _ _ 1 _ _ (.slice none 0 0) hx9b rfl
              have uz := lt_of_block hx9b)
         have hs9 := hs8.later hk9
         have s0 := hs9.a0
         have s1 := hs9.a1
         have s2 := hs9.b0
         have s3 := hs9.b1)))
  · obtain ⟨W, hW⟩ : ∃ W, w9.alloc (.cells #[.int .i64 0, .slice none 0 0] 27) = W := ⟨_, rfl⟩
    have hF : FB w n A l.length c m B k.length d 0 [] w9.heap.size none 0 W := by rw [← hW]; exact FB.fresh hs9 (Pairs.nil _ _)
    rw [hW]
    clear hW
    generalize w9.heap.size = b8 at hF ⊢
    have hb := hF.ab.below
    go_wp2_with (fail)
    go_ret
    exact ⟨rfl, hb⟩
  · obtain ⟨W, hW⟩ : ∃ W, (w9.setCell ⟨w8.heap.size, 0, none⟩ (.int .i64 0)).setCell ⟨w8.heap.size, 1, none⟩ (.slice none 0 0) = W := ⟨_, rfl⟩
    have hF : FB w n A l.length c m B k.length d 0 [] w8.heap.size none 0 W := by rw [← hW]; exact FB.put hx9 hs9 (by have := zs; have := hk7.size; have := hk8.size; omega) (Pairs.nil _ _) (fun x e => by cases e)
    rw [hW]
    clear hW
    generalize w8.heap.size = b8 at hF ⊢
    have hb := hF.ab.below
    go_wp2_with (fail)
    go_ret
    exact ⟨rfl, hb⟩
  · obtain ⟨W, hW⟩ : ∃ W, (w9.setCell ⟨w7.heap.size, 0, none⟩ (.int .i64 0)).setCell ⟨w7.heap.size, 1, none⟩ (.slice none 0 0) = W := ⟨_, rfl⟩
    have hF : FB w n A l.length c m B k.length d 0 [] w7.heap.size none 0 W := by rw [← hW]; exact FB.put ((hk9.block _ (lt_of_block hx8)).trans hx8) hs9 (by have := zs; have := hk7.size; have := hk8.size; omega) (Pairs.nil _ _) (fun x e => by cases e)
    rw [hW]
    clear hW
    generalize w7.heap.size = b8 at hF ⊢
    have hb := hF.ab.below
    go_wp2_with (fail)
    go_ret
    exact ⟨rfl, hb⟩
  · obtain ⟨W, hW⟩ : ∃ W, (w9.setCell ⟨w6.heap.size, 0, none⟩ (.int .i64 0)).setCell ⟨w6.heap.size, 1, none⟩ (.slice none 0 0) = W := ⟨_, rfl⟩
    have hF : FB w n A l.length c m B k.length d 0 [] w6.heap.size none 0 W := by rw [← hW]; exact FB.put ((hk9.block _ (Nat.lt_of_lt_of_le (lt_of_block hx7) hk8.size)).trans ((hk8.block _ (lt_of_block hx7)).trans hx7)) hs9 (by have := zs; have := hk7.size; have := hk8.size; omega) (Pairs.nil _ _) (fun x e => by cases e)
    rw [hW]
    clear hW
    generalize w6.heap.size = b8 at hF ⊢
    have hb := hF.ab.below
    go_wp2_with (fail)
    go_ret
    exact ⟨rfl, hb⟩

set_option maxRecDepth 100000 in
set_option maxHeartbeats 8000000 in
theorem shan_good (n : Nat) (A : Option Addr) (l : List (Int × Int)) (c : Nat) (m : Nat) (B : Option Addr) (k : List (Int × Int)) (d : Nat) (w : World) (a : Nat → Addr) (hE : Env [2, 3] w a) (hA : Pairs w A l) (hB : Pairs w B k) (hl : l.length ≤ 200) (hk : k.length ≤ 200) (h1 : gErr n l = 0) (h2 : gErr m k = 0) (h16 : n * m ≤ 16) :
    Calls Tryd.prog 3 #[.agg #[.int .i64 n, .slice A l.length c], .agg #[.int .i64 m, .slice B k.length d]] w fun e w' => e = .returned (.bool true) ∧ Below w.heap.size w w' := by
  have hla := hA.len
  have hlb := hB.len
  have HAB := hide (AB.start w n A l.length c m B k.length d)
  have HPE := hide (fun V (hb : Below w.heap.size w V) => pentagon_ok V a (hE.below hb))
  have HLA := hide (fun V => little_any n A l.length c V hla)
  have HLB := hide (fun V => little_any m B k.length d V hlb)
  rw [decide_eq_true hl] at HLA
  rw [decide_eq_true hk] at HLB
  have HA' := hide (fun V (hb : Below w.heap.size w V) => graph_any n A l c V (hA.below hb) (by omega))
  have HB' := hide (fun V (hb : Below w.heap.size w V) => graph_any m B k d V (hB.below hb) (by omega))
  obtain ⟨_, hn1, hg1⟩ := gErr_zero h1
  obtain ⟨_, hm1, hg2⟩ := gErr_zero h2
  have hn16 : n ≤ 16 := by omega
  have hm16 : m ≤ 16 := by omega
  have lowOf : ∀ (q : Nat) (e : List (Int × Int)), q ≤ 16 → GoodE q e e.length → Low (nearL q e) := fun q e hq hg => by
    have e' : nearTo q e e.length = nearL q e := by unfold nearTo nearL; rw [List.take_length]
    rw [← e']; exact nearTo_low hq hg _ (Nat.le_refl _)
  have hr := allTo_right (P := strongQ l k m) h16
  have hsh := shannon h16 hg1 hg2 (alone_first hn16 (lowOf n l hn16 hg1)) (alone_first hm16 (lowOf m k hm16 hg2)) (alone_first h16 (lowOf (n * m) _ h16 (gErr_zero hr).2.2))
  have HST := hide (fun (A' : Option Addr) (c' : Nat) (B' : Option Addr) (d' : Nat) V (hb : Below w.heap.size w V) (gA : Pairs V A' l) (gB : Pairs V B' k) => strong_good n m A' l c' B' k d' V a (hE.below hb) gA gB h1 h2 h16)
  rw [strong_same hg1 hg2] at HST
  have HAX := hide (fun (A' : Option Addr) (c' : Nat) V (hb : Below w.heap.size w V) (gA : Pairs V A' l) => alone_good n A' l c' V a (hE.below hb) gA h1)
  have HAY := hide (fun (A' : Option Addr) (c' : Nat) V (hb : Below w.heap.size w V) (gA : Pairs V A' k) => alone_good m A' k c' V a (hE.below hb) gA h2)
  have HAZ := hide (fun (A' : Option Addr) (c' : Nat) V (hb : Below w.heap.size w V) (gA : Pairs V A' (allTo (strongQ l k m) (n * m) (n * m))) => alone_good (n * m) A' _ c' V a (hE.below hb) gA hr)
  obtain ⟨N, hN⟩ : ∃ N, n * m = N := ⟨_, rfl⟩
  rw [hN] at HST HAZ hsh h16
  obtain ⟨gl, hgl⟩ : ∃ g, allTo (strongQ l k m) N N = g := ⟨_, rfl⟩
  rw [hgl] at HST HAZ hsh
  obtain ⟨s1, s2, s3⟩ := hsh
  obtain ⟨x, hx⟩ : ∃ x, aloneL n l = x := ⟨_, rfl⟩
  obtain ⟨y, hy⟩ : ∃ y, aloneL m k = y := ⟨_, rfl⟩
  obtain ⟨z, hz⟩ : ∃ z, aloneL N gl = z := ⟨_, rfl⟩
  rw [hx] at HAX s1 s3
  rw [hy] at HAY s1 s2
  rw [hz] at HAZ s1 s2 s3
  have lx : x.length ≤ 16 := by rw [← hx]; exact alone_len hn16 (lowOf n l hn16 hg1)
  have ly : y.length ≤ 16 := by rw [← hy]; exact alone_len hm16 (lowOf m k hm16 hg2)
  have lz : z.length ≤ 16 := by rw [← hz]; exact alone_len h16 (lowOf N gl h16 (by rw [← hgl, ← hN]; exact (gErr_zero hr).2.2))
  have w1 : wrap64 ((x.length : Int) * (y.length : Int)) = ((x.length * y.length : Nat) : Int) := mul_wrap lx ly
  have w2' : wrap64 ((n : Int) * (y.length : Int)) = ((n * y.length : Nat) : Int) := mul_wrap hn16 ly
  have w3' : wrap64 ((x.length : Int) * (m : Int)) = ((x.length * m : Nat) : Int) := mul_wrap lx hm16
  generalize x.length * y.length = p1 at s1 w1
  generalize n * y.length = p2 at s2 w2'
  generalize x.length * m = p3 at s3 w3'
  have s1' : (p1 : Int) ≤ (z.length : Int) := Int.ofNat_le.2 s1
  have s2' : (z.length : Int) ≤ (p2 : Int) := Int.ofNat_le.2 s2
  have s3' : (z.length : Int) ≤ (p3 : Int) := Int.ofNat_le.2 s3
  have HW := hide (And.intro w1 (And.intro w2' w3'))
  clear h1 h2 h16 hN hgl hg1 hg2 hn1 hm1 hm16 hn16 hx hy hz hr lowOf s1 s2 s3 lx ly lz w1 w2' w3' hE hA hB
  go_enter Tryd.func3, Tryd.ntmps3
  go_wp2_with (first
    | (go_at_call 7; refine Calls.mono (HPE.out _ HAB.out.below) ?_; rintro e w1 ⟨rfl, hb1⟩; have hs1 := HAB.out.later hb1; obtain ⟨a0, a1, b0, b1⟩ := And.intro hs1.a0 (And.intro hs1.a1 (And.intro hs1.b0 hs1.b1)))
    | (go_at_call_of 8 (Value.agg #[.int .i64 n, .slice A l.length c]); refine Calls.mono (HLA.out _) ?_; rintro e w2 ⟨rfl, hb2⟩; have hs2 := hs1.later hb2; clear a0 a1 b0 b1; obtain ⟨a0, a1, b0, b1⟩ := And.intro hs2.a0 (And.intro hs2.a1 (And.intro hs2.b0 hs2.b1)))
    | (go_at_call_of 8 (Value.agg #[.int .i64 m, .slice B k.length d]); refine Calls.mono (HLB.out _) ?_; rintro e w6 ⟨rfl, hb3⟩; have hs6 := hs2.later hb3; clear a0 a1 b0 b1; obtain ⟨a0, a1, b0, b1⟩ := And.intro hs6.a0 (And.intro hs6.a1 (And.intro hs6.b0 hs6.b1))))
  have HS6 := hide hs6
  have zs := hs6.size
  have z0 : w.heap.size < w6.heap.size := by omega
  have z1 : w.heap.size + 1 < w6.heap.size := by omega
  clear hs6
  go_region_held3 (fun w' => w'.cell? ⟨w.heap.size, 0, none⟩ = some (.int .i64 n) ∧ w'.cell? ⟨w.heap.size, 1, none⟩ = some (.slice A l.length c) ∧ w'.cell? ⟨w.heap.size + 1, 0, none⟩ = some (.int .i64 m) ∧ w'.cell? ⟨w.heap.size + 1, 1, none⟩ = some (.slice B k.length d))
    (first | go_keep | exact ⟨‹_›, ‹_›, ‹_›, ‹_›⟩ | (refine ⟨?_, ?_, ?_, ?_⟩ <;> (rw [World.cell?_setCell_other _ _ _ _ (fun e => by injection e with e; omega), World.cell?_setCell_other _ _ _ _ (fun e => by injection e with e; omega)]; assumption)))
    ((first
      | (go_at_call_of 10 (Value.agg #[.int .i64 n, .slice A l.length c])
         first
         | (refine Calls.mono (HA'.out w6.drew (below_drewN' HS6.out.below 1)) ?_
            rintro e w7 ⟨A7, c7, rfl, hP7, hc7, hb7⟩
            have hk7 := below_trans (below_drewN' (Below.refl w6.heap.size w6) 1) hb7)
         | (refine Calls.mono (HA'.out (w6.drew.alloc (.cells #[.int .i64 0, .slice none 0 0] 27)) (below_alloc' (below_drewN' HS6.out.below 1) _)) ?_
            rintro e w7 ⟨A7, c7, rfl, hP7, hc7, hb7⟩
            have hk7 := below_trans (below_alloc' (below_drewN' (Below.refl w6.heap.size w6) 1) _) hb7
            have hx7 : w7.heap[w6.heap.size]? = some (.cells #[.int .i64 0, .slice none 0 0] 27 (0, 0)) := (hb7.block w6.heap.size (by rw [World.size_alloc]; exact Nat.lt_succ_self _)).trans (alloc_at w6.drew _))
         have hs7 := HS6.out.later hk7
         have p0 := hs7.a0
         have p1 := hs7.a1
         have p2 := hs7.b0
         have p3 := hs7.b1
         have z2 : w.heap.size < w7.heap.size := by have := hs7.size; omega
         have z3 : w.heap.size + 1 < w7.heap.size := by have := hs7.size; omega)
      | (go_at_call_of 10 (Value.agg #[.int .i64 m, .slice B k.length d])
         first
         | (refine Calls.mono (HB'.out w7 hs7.below) ?_
            rintro e w8 ⟨A8, c8, rfl, hP8, hc8, hb8⟩
            have hk8 := hb8)
         | (refine Calls.mono (HB'.out (w7.alloc (.cells #[.int .i64 0, .slice none 0 0] 27)) (below_alloc' hs7.below _)) ?_
            rintro e w8 ⟨A8, c8, rfl, hP8, hc8, hb8⟩
            have hk8 := below_trans (below_alloc' (Below.refl w7.heap.size w7) _) hb8
            have hx8 : w8.heap[w7.heap.size]? = some (.cells #[.int .i64 0, .slice none 0 0] 27 (0, 0)) := (hb8.block w7.heap.size (by rw [World.size_alloc]; exact Nat.lt_succ_self _)).trans (alloc_at w7 _))
         have hs8 := hs7.later hk8
         have q0 := hs8.a0
         have q1 := hs8.a1
         have q2 := hs8.b0
         have q3 := hs8.b1
         have z4' : w.heap.size < w8.heap.size := by have := hs8.size; omega
         have z5' : w.heap.size + 1 < w8.heap.size := by have := hs8.size; omega)
      | (go_at_call 9
         first
         | (refine Calls.mono (HST.out A7 c7 A8 c8 w8 hs8.below (hP7.below hk8) hP8) ?_
            rintro e w9 ⟨E9, f9, rfl, hP9, hf9, hE9, hb9⟩
            have hk9 := hb9)
         | (refine Calls.mono (HST.out A7 c7 A8 c8 (w8.alloc (.cells #[.int .i64 0, .slice none 0 0] 27)) (below_alloc' hs8.below _) ((hP7.below hk8).below (below_alloc' (Below.refl _ _) _)) (hP8.below (below_alloc' (Below.refl _ _) _))) ?_
            rintro e w9 ⟨E9, f9, rfl, hP9, hf9, hE9, hb9⟩
            have hk9 := below_trans (below_alloc' (Below.refl w8.heap.size w8) _) hb9
            have hx9 : w9.heap[w8.heap.size]? = some (.cells #[.int .i64 0, .slice none 0 0] 27 (0, 0)) := (hb9.block w8.heap.size (by rw [World.size_alloc]; exact Nat.lt_succ_self _)).trans (alloc_at w8 _)
            obtain ⟨u0, u2⟩ := cell_of _ _ 0 _ _ (.int .i64 0) hx9 rfl
            obtain ⟨u1, u3⟩ := cell_of _ _ 1 _ _ (.slice none 0 0) hx9 rfl
            have uz := lt_of_block hx9)
         try (have hx9a := (hk9.block _ (lt_of_block hx8)).trans hx8
              obtain ⟨u0, u2⟩ := cell_of _ _ 0 _ _ (.int .i64 0) hx9a rfl
              obtain ⟨u1, u3⟩ := cell_of _ _ 1 _ _ (.slice none 0 0) hx9a rfl
              have uz := lt_of_block hx9a)
         try (have hx9b := (hk9.block _ (Nat.lt_of_lt_of_le (lt_of_block hx7) hk8.size)).trans ((hk8.block _ (lt_of_block hx7)).trans hx7)
              obtain ⟨u0, u2⟩ := cell_of _ _ 0 _ _ (.int .i64 0) hx9b rfl
              obtain ⟨u1, u3⟩ := cell_of _ _ 1 _ _ (.slice none 0 0) hx9b rfl
              have uz := lt_of_block hx9b)
         have hs9 := hs8.later hk9
         have s0 := hs9.a0
         have s1 := hs9.a1
         have s2 := hs9.b0
         have s3 := hs9.b1)))
  · obtain ⟨W, hW⟩ : ∃ W, w9.alloc (.cells #[.int .i64 (N : Int), .slice E9 gl.length f9] 27) = W := ⟨_, rfl⟩
    have hF : FB w n A l.length c m B k.length d (N : Int) gl w9.heap.size E9 f9 W := by rw [← hW]; exact FB.fresh hs9 (hP9)
    rw [hW]
    clear hW
    generalize w9.heap.size = b8 at hF ⊢
    obtain ⟨x0, x1, x2, x3⟩ := And.intro hF.ab.a0 (And.intro hF.ab.a1 (And.intro hF.ab.b0 hF.ab.b1))
    go_wp2_with (first
      | (go_at_call_of 10 (Value.agg #[.int .i64 (n : Int), .slice A l.length c]); refine Calls.mono (HA'.out _ hF.ab.below) ?_; rintro e v1 ⟨A11, c11, rfl, hP11, hc11, hd1⟩; have hF1 := hF.later hd1)
      | (go_at_call_of 11 (Value.agg #[.int .i64 (n : Int), .slice A11 l.length c11]); refine Calls.mono (HAX.out A11 c11 v1 hF1.ab.below hP11) ?_; rintro e v2 ⟨B12, d12, rfl, _, _, hd2⟩; have hF2 := hF1.later hd2; clear x0 x1 x2 x3; obtain ⟨x0, x1, x2, x3⟩ := And.intro hF2.ab.a0 (And.intro hF2.ab.a1 (And.intro hF2.ab.b0 hF2.ab.b1)))
      | (go_at_call_of 10 (Value.agg #[.int .i64 (m : Int), .slice B k.length d]); refine Calls.mono (HB'.out _ hF2.ab.below) ?_; rintro e v3 ⟨A13, c13, rfl, hP13, hc13, hd3⟩; have hF3 := hF2.later hd3)
      | (go_at_call_of 11 (Value.agg #[.int .i64 (m : Int), .slice A13 k.length c13]); refine Calls.mono (HAY.out A13 c13 v3 hF3.ab.below hP13) ?_; rintro e v4 ⟨B14, d14, rfl, _, _, hd4⟩; have hF4 := hF3.later hd4; obtain ⟨y0, y1⟩ := And.intro hF4.c0 hF4.c1)
      | (go_at_call_of 11 (Value.agg #[.int .i64 (N : Int), .slice E9 gl.length f9]); refine Calls.mono (HAZ.out E9 f9 v4 hF4.ab.below hF4.pe) ?_; rintro e v5 ⟨B15, d15, rfl, _, _, hd5⟩; have hF5 := hF4.later hd5; clear x0 x1 x2 x3; obtain ⟨x0, x1, x2, x3⟩ := And.intro hF5.ab.a0 (And.intro hF5.ab.a1 (And.intro hF5.ab.b0 hF5.ab.b1)); obtain ⟨w1, w2', w3'⟩ := HW.out))
    go_ret
    exact ⟨rfl, hF5.ab.below⟩
  · obtain ⟨W, hW⟩ : ∃ W, (w9.setCell ⟨w8.heap.size, 0, none⟩ (.int .i64 (N : Int))).setCell ⟨w8.heap.size, 1, none⟩ (.slice E9 gl.length f9) = W := ⟨_, rfl⟩
    have hF : FB w n A l.length c m B k.length d (N : Int) gl w8.heap.size E9 f9 W := by rw [← hW]; exact FB.put hx9 hs9 (by have := zs; have := hk7.size; have := hk8.size; omega) (hP9) (fun x e => by have := hE9 x e; rw [World.size_alloc] at this; omega)
    rw [hW]
    clear hW
    generalize w8.heap.size = b8 at hF ⊢
    obtain ⟨x0, x1, x2, x3⟩ := And.intro hF.ab.a0 (And.intro hF.ab.a1 (And.intro hF.ab.b0 hF.ab.b1))
    go_wp2_with (first
      | (go_at_call_of 10 (Value.agg #[.int .i64 (n : Int), .slice A l.length c]); refine Calls.mono (HA'.out _ hF.ab.below) ?_; rintro e v1 ⟨A11, c11, rfl, hP11, hc11, hd1⟩; have hF1 := hF.later hd1)
      | (go_at_call_of 11 (Value.agg #[.int .i64 (n : Int), .slice A11 l.length c11]); refine Calls.mono (HAX.out A11 c11 v1 hF1.ab.below hP11) ?_; rintro e v2 ⟨B12, d12, rfl, _, _, hd2⟩; have hF2 := hF1.later hd2; clear x0 x1 x2 x3; obtain ⟨x0, x1, x2, x3⟩ := And.intro hF2.ab.a0 (And.intro hF2.ab.a1 (And.intro hF2.ab.b0 hF2.ab.b1)))
      | (go_at_call_of 10 (Value.agg #[.int .i64 (m : Int), .slice B k.length d]); refine Calls.mono (HB'.out _ hF2.ab.below) ?_; rintro e v3 ⟨A13, c13, rfl, hP13, hc13, hd3⟩; have hF3 := hF2.later hd3)
      | (go_at_call_of 11 (Value.agg #[.int .i64 (m : Int), .slice A13 k.length c13]); refine Calls.mono (HAY.out A13 c13 v3 hF3.ab.below hP13) ?_; rintro e v4 ⟨B14, d14, rfl, _, _, hd4⟩; have hF4 := hF3.later hd4; obtain ⟨y0, y1⟩ := And.intro hF4.c0 hF4.c1)
      | (go_at_call_of 11 (Value.agg #[.int .i64 (N : Int), .slice E9 gl.length f9]); refine Calls.mono (HAZ.out E9 f9 v4 hF4.ab.below hF4.pe) ?_; rintro e v5 ⟨B15, d15, rfl, _, _, hd5⟩; have hF5 := hF4.later hd5; clear x0 x1 x2 x3; obtain ⟨x0, x1, x2, x3⟩ := And.intro hF5.ab.a0 (And.intro hF5.ab.a1 (And.intro hF5.ab.b0 hF5.ab.b1)); obtain ⟨w1, w2', w3'⟩ := HW.out))
    go_ret
    exact ⟨rfl, hF5.ab.below⟩
  · obtain ⟨W, hW⟩ : ∃ W, (w9.setCell ⟨w7.heap.size, 0, none⟩ (.int .i64 (N : Int))).setCell ⟨w7.heap.size, 1, none⟩ (.slice E9 gl.length f9) = W := ⟨_, rfl⟩
    have hF : FB w n A l.length c m B k.length d (N : Int) gl w7.heap.size E9 f9 W := by rw [← hW]; exact FB.put ((hk9.block _ (lt_of_block hx8)).trans hx8) hs9 (by have := zs; have := hk7.size; have := hk8.size; omega) (hP9) (fun x e => by have := hE9 x e; have := lt_of_block hx8; omega)
    rw [hW]
    clear hW
    generalize w7.heap.size = b8 at hF ⊢
    obtain ⟨x0, x1, x2, x3⟩ := And.intro hF.ab.a0 (And.intro hF.ab.a1 (And.intro hF.ab.b0 hF.ab.b1))
    go_wp2_with (first
      | (go_at_call_of 10 (Value.agg #[.int .i64 (n : Int), .slice A l.length c]); refine Calls.mono (HA'.out _ hF.ab.below) ?_; rintro e v1 ⟨A11, c11, rfl, hP11, hc11, hd1⟩; have hF1 := hF.later hd1)
      | (go_at_call_of 11 (Value.agg #[.int .i64 (n : Int), .slice A11 l.length c11]); refine Calls.mono (HAX.out A11 c11 v1 hF1.ab.below hP11) ?_; rintro e v2 ⟨B12, d12, rfl, _, _, hd2⟩; have hF2 := hF1.later hd2; clear x0 x1 x2 x3; obtain ⟨x0, x1, x2, x3⟩ := And.intro hF2.ab.a0 (And.intro hF2.ab.a1 (And.intro hF2.ab.b0 hF2.ab.b1)))
      | (go_at_call_of 10 (Value.agg #[.int .i64 (m : Int), .slice B k.length d]); refine Calls.mono (HB'.out _ hF2.ab.below) ?_; rintro e v3 ⟨A13, c13, rfl, hP13, hc13, hd3⟩; have hF3 := hF2.later hd3)
      | (go_at_call_of 11 (Value.agg #[.int .i64 (m : Int), .slice A13 k.length c13]); refine Calls.mono (HAY.out A13 c13 v3 hF3.ab.below hP13) ?_; rintro e v4 ⟨B14, d14, rfl, _, _, hd4⟩; have hF4 := hF3.later hd4; obtain ⟨y0, y1⟩ := And.intro hF4.c0 hF4.c1)
      | (go_at_call_of 11 (Value.agg #[.int .i64 (N : Int), .slice E9 gl.length f9]); refine Calls.mono (HAZ.out E9 f9 v4 hF4.ab.below hF4.pe) ?_; rintro e v5 ⟨B15, d15, rfl, _, _, hd5⟩; have hF5 := hF4.later hd5; clear x0 x1 x2 x3; obtain ⟨x0, x1, x2, x3⟩ := And.intro hF5.ab.a0 (And.intro hF5.ab.a1 (And.intro hF5.ab.b0 hF5.ab.b1)); obtain ⟨w1, w2', w3'⟩ := HW.out))
    go_ret
    exact ⟨rfl, hF5.ab.below⟩
  · obtain ⟨W, hW⟩ : ∃ W, (w9.setCell ⟨w6.heap.size, 0, none⟩ (.int .i64 (N : Int))).setCell ⟨w6.heap.size, 1, none⟩ (.slice E9 gl.length f9) = W := ⟨_, rfl⟩
    have hF : FB w n A l.length c m B k.length d (N : Int) gl w6.heap.size E9 f9 W := by rw [← hW]; exact FB.put ((hk9.block _ (Nat.lt_of_lt_of_le (lt_of_block hx7) hk8.size)).trans ((hk8.block _ (lt_of_block hx7)).trans hx7)) hs9 (by have := zs; have := hk7.size; have := hk8.size; omega) (hP9) (fun x e => by have := hE9 x e; have := lt_of_block hx7; have := hk8.size; omega)
    rw [hW]
    clear hW
    generalize w6.heap.size = b8 at hF ⊢
    obtain ⟨x0, x1, x2, x3⟩ := And.intro hF.ab.a0 (And.intro hF.ab.a1 (And.intro hF.ab.b0 hF.ab.b1))
    go_wp2_with (first
      | (go_at_call_of 10 (Value.agg #[.int .i64 (n : Int), .slice A l.length c]); refine Calls.mono (HA'.out _ hF.ab.below) ?_; rintro e v1 ⟨A11, c11, rfl, hP11, hc11, hd1⟩; have hF1 := hF.later hd1)
      | (go_at_call_of 11 (Value.agg #[.int .i64 (n : Int), .slice A11 l.length c11]); refine Calls.mono (HAX.out A11 c11 v1 hF1.ab.below hP11) ?_; rintro e v2 ⟨B12, d12, rfl, _, _, hd2⟩; have hF2 := hF1.later hd2; clear x0 x1 x2 x3; obtain ⟨x0, x1, x2, x3⟩ := And.intro hF2.ab.a0 (And.intro hF2.ab.a1 (And.intro hF2.ab.b0 hF2.ab.b1)))
      | (go_at_call_of 10 (Value.agg #[.int .i64 (m : Int), .slice B k.length d]); refine Calls.mono (HB'.out _ hF2.ab.below) ?_; rintro e v3 ⟨A13, c13, rfl, hP13, hc13, hd3⟩; have hF3 := hF2.later hd3)
      | (go_at_call_of 11 (Value.agg #[.int .i64 (m : Int), .slice A13 k.length c13]); refine Calls.mono (HAY.out A13 c13 v3 hF3.ab.below hP13) ?_; rintro e v4 ⟨B14, d14, rfl, _, _, hd4⟩; have hF4 := hF3.later hd4; obtain ⟨y0, y1⟩ := And.intro hF4.c0 hF4.c1)
      | (go_at_call_of 11 (Value.agg #[.int .i64 (N : Int), .slice E9 gl.length f9]); refine Calls.mono (HAZ.out E9 f9 v4 hF4.ab.below hF4.pe) ?_; rintro e v5 ⟨B15, d15, rfl, _, _, hd5⟩; have hF5 := hF4.later hd5; clear x0 x1 x2 x3; obtain ⟨x0, x1, x2, x3⟩ := And.intro hF5.ab.a0 (And.intro hF5.ab.a1 (And.intro hF5.ab.b0 hF5.ab.b1)); obtain ⟨w1, w2', w3'⟩ := HW.out))
    go_ret
    exact ⟨rfl, hF5.ab.below⟩

theorem law_shannon (n : Int) (A : Option Addr) (l : List (Int × Int)) (c : Nat) (m : Int) (B : Option Addr) (k : List (Int × Int)) (d : Nat) (w : World) (a : Nat → Addr) (hE : Env [2, 3] w a) (hA : Pairs w A l) (hB : Pairs w B k) :
    Calls Tryd.prog 3 #[.agg #[.int .i64 n, .slice A l.length c], .agg #[.int .i64 m, .slice B k.length d]] w fun e w' => e = .returned (.bool true) ∧ Below w.heap.size w w' := by
  by_cases hl : l.length ≤ 200
  · by_cases hk : k.length ≤ 200
    · by_cases h0 : sErr n l m k = 0
      · unfold sErr at h0
        by_cases h1 : gErr n l = 0
        · rw [if_neg (fun h => h h1)] at h0
          by_cases h2 : gErr m k = 0
          · rw [if_neg (fun h => h h2)] at h0
            by_cases h16 : 16 < n * m
            · rw [if_pos h16] at h0
              cases h0
            · obtain ⟨hn0, _, _⟩ := gErr_zero h1
              obtain ⟨hm0, _, _⟩ := gErr_zero h2
              obtain ⟨n', rfl⟩ : ∃ x : Nat, n = (x : Int) := ⟨n.toNat, by omega⟩
              obtain ⟨m', rfl⟩ : ∃ x : Nat, m = (x : Int) := ⟨m.toNat, by omega⟩
              have h16' : n' * m' ≤ 16 := by
                have e : (n' : Int) * (m' : Int) = ((n' * m' : Nat) : Int) := rfl
                rw [e] at h16
                omega
              exact shan_good n' A l c m' B k d w a hE hA hB hl hk h1 h2 h16'
          · rw [if_pos h2] at h0
            exact absurd h0 h2
        · rw [if_pos h1] at h0
          exact absurd h0 h1
      · exact shan_bad n A l c m B k d w a hE hA hB hl hk h0
    · exact shan_many2 n A l c m B k d w a hE hA hB hl hk
  · exact shan_many1 n A l c m B k d w a hE hA hB hl
end Go.Proofs.YtehheklbibocjaaDoor

/- A law's arguments opened into our readings: whole numbers, slices of them, of pairs, of lists. No condition. -/
namespace Go.Proofs.YtehheklbibocjaaDoor
open Go.ChangeShapes Go.WideShapes Go.RowKit Go.Deep Go.Joins

section
variable {H : Type} {enc : TypeId × Value → H} {P : Program} {W : World} {base : Nat} {held : Bool}

theorem wf_range {n : Int} (h : (Lit.int .i64 n).wf = true) : -9223372036854775808 ≤ n ∧ n ≤ 9223372036854775807 := by
  have := bounds_i64 h
  omega

theorem spot_none {a : Addr} {v : Value} (h : W.cell? (a.add 0) = some v) : a = ⟨a.block, a.off, none⟩ := by
  obtain ⟨b, off, spot⟩ := a
  have hs : spot = none := World.cell?_spot h
  subst hs
  rfl

/-- a slice of whole numbers that came in -/
theorem open_ints_arg {fuel : Nat} {v : Value} {y : DataW H × List MemPlace} (h : DataW.trod enc Tryd.prog W base (fun _ => true) held fuel 33 [v] = some y) :
    ∃ A l cap, v = .slice A l.length cap ∧ Ints W A l ∧ l.length ≤ cap ∧ ∀ x, x ∈ l → -9223372036854775808 ≤ x ∧ x ≤ 9223372036854775807 := by
  have c3 : Tryd.prog.cellsOf 3 = 1 := by kernel_rfl
  rcases open_ints Tryd.underlying33 Tryd.underlying3 c3 h with ⟨hcs, _⟩ | ⟨a, len, cap, zs, hcs, hb, hl, hm, hz, _, hcell, hwz⟩
  · exact ⟨none, [], 0, by simpa using hcs, Ints.nil _ _, Nat.le_refl _, by simp⟩
  · simp only [if_true] at hz
    have hlen : (zs.take len).length = len := by rw [List.length_take]; omega
    refine ⟨some a, zs.take len, cap, by rw [hlen]; simpa using hcs, ⟨by rw [hlen]; simp only [maxLen] at hm; omega, fun i hi => ?_⟩, by rw [hlen]; exact hl, fun x hx => wf_range (hwz x (List.mem_of_mem_take hx))⟩
    rw [hlen] at hi
    have hc := hcell i (by rw [hz]; omega)
    have hs := spot_none (hcell 0 (by rw [hz]; omega))
    rw [hs, addr_add] at hc
    refine ⟨a.block, a.off, by rw [← hs], World.block_lt_of_cell? W ⟨a.block, a.off + i, none⟩ hc, ?_⟩
    rw [hc]
    have e : (zs.take len).getD i 0 = zs.getD i 0 := by
      simp [List.getD_eq_getElem?_getD, hi]
    rw [e]

/-- a slice of pairs that came in -/
theorem open_pairs_gen {t e q : TypeId} (ht : P.underlying t = some (.slice e)) (he : P.underlying e = some (.array 2 q)) (hq : P.underlying q = some (.int .i64)) (c2 : P.cellsOf e = 2) (c1 : P.cellsOf q = 1) {fuel : Nat} {v : Value} {y : DataW H × List MemPlace} (h : DataW.trod enc P W base (fun _ => true) held fuel t [v] = some y) :
    ∃ A l cap, v = .slice A l.length cap ∧ Pairs W A l ∧ l.length ≤ cap ∧ ∀ p, p ∈ l → (-9223372036854775808 ≤ p.1 ∧ p.1 ≤ 9223372036854775807) ∧ (-9223372036854775808 ≤ p.2 ∧ p.2 ≤ 9223372036854775807) := by
  rcases open_slice ht h with ⟨hcs, _⟩ | ⟨a, len, cap, m, n, D, Pl, hcs, hb, hl, hm, hmm, _, hx⟩
  · exact ⟨none, [], 0, by simpa using hcs, Pairs.nil _ _, Nat.le_refl _, by simp⟩
  · simp only [if_true] at hmm
    subst hmm
    have each : ∀ i, i < len → ∃ p : Int × Int, W.cell? (a.add (i * 2)) = some (.int .i64 p.1) ∧ W.cell? ((a.add (i * 2)).add 1) = some (.int .i64 p.2) ∧ (-9223372036854775808 ≤ p.1 ∧ p.1 ≤ 9223372036854775807) ∧ (-9223372036854775808 ≤ p.2 ∧ p.2 ≤ 9223372036854775807) := by
      intro i hi
      obtain ⟨cs', hc, htr⟩ := hx i (by omega)
      rw [c2] at hc
      obtain ⟨_, hcl, hat⟩ := World.cells?_some hc
      obtain ⟨xs, m', _, _, hlen', hxl, hel⟩ := DataW.trod_array he htr
      obtain ⟨u0, u1, rfl⟩ := list2 hcl
      have e0 := hel 0 (by decide)
      have e1 := hel 1 (by decide)
      rw [c1] at e0 e1
      have f0 : xs[0]? = some (xs[0]'(by omega)) := List.getElem?_eq_getElem (by omega)
      have f1 : xs[1]? = some (xs[1]'(by omega)) := List.getElem?_eq_getElem (by omega)
      rw [f0] at e0
      rw [f1] at e1
      obtain ⟨p0, g0, _, w0⟩ := DataW.trod_int hq e0
      obtain ⟨p1, g1, _, w1⟩ := DataW.trod_int hq e1
      have h0 := hat 0 (by decide)
      have h1 := hat 1 (by decide)
      have q0 : u0 = .int .i64 p0 := by
        change [u0] = _ at g0
        injection g0
      have q1 : u1 = .int .i64 p1 := by
        change [u1] = _ at g1
        injection g1
      subst q0 q1
      exact ⟨(p0, p1), h0, h1, wf_range w0, wf_range w1⟩
    obtain ⟨f, hf⟩ := choose_lt each
    have hlen : ((List.range len).map f).length = len := by simp
    refine ⟨some a, (List.range len).map f, m, by rw [hlen]; simpa using hcs, ⟨by rw [hlen]; simp only [maxLen] at hm; omega, fun i hi => ?_⟩, by rw [hlen]; exact hl, fun p hp => ?_⟩
    · rw [hlen] at hi
      obtain ⟨g0, g1, _, _⟩ := hf i hi
      have hs := spot_none (hf 0 (by omega)).1
      rw [hs, addr_add] at g0
      rw [hs, addr_add, addr_add] at g1
      have e : ((List.range len).map f).getD i (0, 0) = f i := by simp [List.getD_eq_getElem?_getD, hi]
      rw [e]
      exact ⟨a.block, a.off, by rw [← hs], World.block_lt_of_cell? W ⟨a.block, a.off + i * 2, none⟩ g0, g0, g1⟩
    · obtain ⟨i, hi, rfl⟩ := List.mem_map.1 hp
      obtain ⟨_, _, r0, r1⟩ := hf i (List.mem_range.1 hi)
      exact ⟨r0, r1⟩
theorem open_pairs_arg {fuel : Nat} {v : Value} {y : DataW H × List MemPlace} (h : DataW.trod enc Tryd.prog W base (fun _ => true) held fuel 22 [v] = some y) :
    ∃ A l cap, v = .slice A l.length cap ∧ Pairs W A l ∧ l.length ≤ cap ∧ ∀ p, p ∈ l → (-9223372036854775808 ≤ p.1 ∧ p.1 ≤ 9223372036854775807) ∧ (-9223372036854775808 ≤ p.2 ∧ p.2 ≤ 9223372036854775807) :=
  open_pairs_gen Tryd.underlying22 Tryd.underlying51 Tryd.underlying3 (by kernel_rfl) (by kernel_rfl) h

/-- a slice of lists that came in -/
theorem open_lists_arg {fuel : Nat} {v : Value} {y : DataW H × List MemPlace} (h : DataW.trod enc Tryd.prog W base (fun _ => true) held fuel 43 [v] = some y) :
    ∃ A l cap, v = .slice A l.length cap ∧ Lists W A l ∧ l.length ≤ cap ∧ ∀ r, r ∈ l → ∀ x, x ∈ r → -9223372036854775808 ≤ x ∧ x ≤ 9223372036854775807 := by
  have c1 : Tryd.prog.cellsOf 33 = 1 := by kernel_rfl
  rcases open_slice1 Tryd.underlying43 c1 h with ⟨hcs, _⟩ | ⟨a, len, cap, m, n, V, D, Pl, hcs, hb, hl, hm, hmm, _, hx⟩
  · exact ⟨none, [], 0, by simpa using hcs, Lists.nil _ _, Nat.le_refl _, by simp⟩
  · simp only [if_true] at hmm
    subst hmm
    have each : ∀ i, i < len → ∃ q : Option Addr × List Int × Nat, W.cell? (a.add i) = some (.slice q.1 q.2.1.length q.2.2) ∧ q.2.1.length ≤ q.2.2 ∧ Ints W q.1 q.2.1 ∧ ∀ x, x ∈ q.2.1 → -9223372036854775808 ≤ x ∧ x ≤ 9223372036854775807 := by
      intro i hi
      obtain ⟨hc, ht⟩ := hx i (by omega)
      obtain ⟨A, l, c, e, h1, h2, h3⟩ := open_ints_arg ht
      exact ⟨(A, l, c), by rw [hc, e], h2, h1, h3⟩
    obtain ⟨f, hf⟩ := choose_lt each
    have hlen : ((List.range len).map fun i => (f i).2.1).length = len := by simp
    refine ⟨some a, (List.range len).map fun i => (f i).2.1, m, by rw [hlen]; simpa using hcs, ⟨by rw [hlen]; simp only [maxLen] at hm; omega, fun i hi => ?_⟩, by rw [hlen]; exact hl, fun r hr => ?_⟩
    · rw [hlen] at hi
      obtain ⟨g0, g1, g2, _⟩ := hf i hi
      have hs := spot_none (hf 0 (by omega)).1
      rw [hs, addr_add] at g0
      have e : ((List.range len).map fun i => (f i).2.1).getD i [] = (f i).2.1 := by simp [List.getD_eq_getElem?_getD, hi]
      rw [e]
      exact ⟨a.block, a.off, (f i).1, (f i).2.2, by rw [← hs], World.block_lt_of_cell? W ⟨a.block, a.off + i, none⟩ g0, g0, g1, g2⟩
    · obtain ⟨i, hi, rfl⟩ := List.mem_map.1 hr
      exact (hf i (List.mem_range.1 hi)).2.2.2
end
end Go.Proofs.YtehheklbibocjaaDoor

/- What a shorter list of laid sentinels gives: each reads as an error of its own. Condition: the listed variables read as laid. -/
namespace Go.Proofs.YtehheklbibocjaaDoor
open Go.ChangeShapes Go.WideShapes Go.ChangeAt Go.RowKit

/-- the name and the text of a code's variable -/
def nm : Nat → String × List UInt8
  | 1 => ("demon/api.ErrText", [100, 101, 109, 111, 110, 58, 32, 116, 101, 120, 116]) | 2 => ("demon/api.ErrBound", [100, 101, 109, 111, 110, 58, 32, 98, 111, 117, 110, 100])
  | 3 => ("demon/api.ErrShape", [100, 101, 109, 111, 110, 58, 32, 115, 104, 97, 112, 101]) | 4 => ("demon/api.ErrZero", [100, 101, 109, 111, 110, 58, 32, 122, 101, 114, 111])
  | 5 => ("demon/api.ErrName", [100, 101, 109, 111, 110, 58, 32, 110, 97, 109, 101]) | 6 => ("demon/api.ErrNone", [100, 101, 109, 111, 110, 58, 32, 110, 111, 110, 101])
  | 7 => ("demon/api.ErrOrder", [100, 101, 109, 111, 110, 58, 32, 111, 114, 100, 101, 114]) | _ => ("demon/api.ErrKind", [100, 101, 109, 111, 110, 58, 32, 107, 105, 110, 100])
theorem nm_glob : ∀ c, Tryd.prog.globalNamed (nm c).1 = some (glob c)
  | 0 => glob8 | 1 => glob1 | 2 => glob2 | 3 => glob3 | 4 => glob4 | 5 => glob5 | 6 => glob6 | 7 => glob7 | 8 => glob8 | _ + 9 => glob8
theorem nm_type (c : Nat) : (Tryd.prog.globals[glob c]?).map (·.type) = some 29 := by
  refine globT _ ?_
  unfold glob
  split <;> decide
theorem sent_of (cs : List Nat) {W : World} (h : laidMet Tryd.prog ((cs.map nm).map sdat) W) : ∃ a, Sent cs W a := by
  obtain ⟨ps, hv, hpn, hrows⟩ := h
  obtain ⟨bs, hlen, hbnd, _, hall⟩ := sents_of_vars (cs.map nm) ps hv hpn hrows (fun x hx => by
    obtain ⟨c, _, rfl⟩ := List.mem_map.1 hx
    exact ⟨_, nm_glob c, nm_type c⟩)
  have hlen' : bs.length = cs.length := by simpa using hlen
  have key : ∀ c, c ∈ cs → ∃ i, ∃ (hi : i < cs.length) (hj : i < bs.length), cs[i] = c ∧ cs.idxOf c = i ∧ bs[cs.idxOf c]?.getD ⟨0, 0, none⟩ = bs[i] := fun c hc => by
    have h1 := List.idxOf_lt_length_of_mem hc
    refine ⟨cs.idxOf c, h1, by omega, List.getElem_idxOf h1, rfl, ?_⟩
    rw [List.getElem?_eq_getElem (by omega)]
    rfl
  refine ⟨fun c => bs[cs.idxOf c]?.getD ⟨0, 0, none⟩, ⟨⟨?_⟩, ?_, ?_⟩⟩
  · intro c hc
    obtain ⟨i, hi, hj, e1, _, e3⟩ := key c hc
    have := (hall i (by simpa using hi) hj).1
    rw [List.getElem_map, e1] at this
    show W.cell? ⟨glob c, 0, none⟩ = some (.iface 108 (.pointer (some (bs[cs.idxOf c]?.getD ⟨0, 0, none⟩))))
    rw [e3]
    simpa using World.var?_cell (nm_glob c) this 0
  · intro c hc
    obtain ⟨i, hi, hj, e1, _, e3⟩ := key c hc
    have := (hall i (by simpa using hi) hj).2
    show ∃ ca ta, W.heap[(bs[cs.idxOf c]?.getD ⟨0, 0, none⟩).block]? = some (.cells ca ta (0, 0))
    rw [e3]
    exact this
  · intro c hc d hd e
    obtain ⟨i, hi, hj, e1, e2, e3⟩ := key c hc
    obtain ⟨i', hi', hj', e1', e2', e3'⟩ := key d hd
    have e4 : bs[i] = bs[i'] := by rw [← e3, ← e3']; exact e
    have e5 : i = i' := by
      rcases Nat.lt_trichotomy i i' with h1 | h1 | h1
      · exact absurd e4 (List.pairwise_iff_getElem.1 hbnd i i' hj hj' h1)
      · exact h1
      · exact absurd e4.symm (List.pairwise_iff_getElem.1 hbnd i' i hj' hj h1)
    subst e5
    rw [← e1, ← e1']
end Go.Proofs.YtehheklbibocjaaDoor
