/- Words, plain laws and walks behind the law SamplePast, part 5. No condition. -/
import Derived.Test.YtioekjkfhbopkaaDoorFlatSamplePastc
import Derived.OrdersHeld
import Derived.OrdersIn
import Derived.Test.YtioekjkfhbopkaaDoorFlatSamplePastd
import Derived.Test.YtioekjkfhbopkaaDoorRows
import Derived.Test.YtioekjkfhbopkaaDoorCards
import Derived.Test.YtioekjkfhbopkaaDoorTie
import Derived.ProofKit
import Derived.LaidMore
import Derived.LaidLaws
import Derived.LaidHandle
import Derived.Stop.LaidErr
import Derived.Deep.DeepHandedRow
import Derived.Deep.DeepWitnessRowRef
import Derived.Test.YtioekjkfhbopkaaDoorFlatSamplePasta
import Derived.OpenShut
import Derived.Deep.Slices
import Derived.Deep.Matrix
import Derived.Lib.SmallJoins
import Derived.LaidSub
import Derived.Lay
import Derived.Deep.DeepLaidRun
import Derived.ChangeMaps5

/- A region that draws its order, within a round of a range over a function, whose operations move, load, store and index alone: by the plain walk's moves. No condition. -/
namespace Go.Proofs.YtioekjkfhbopkaaDoor
open Go.RowKit Go.Deep

/-- it moves, loads, stores or reckons an address: no call -/
def neB (o : Oper) : Bool := match o.op with | .move _ | .assign _ | .load _ _ | .store _ _ _ | .indexAddr _ _ _ => true | _ => false
def NE (o : Oper) : Prop := neB o = true
theorem ne_about {o : Oper} (h : NE o) (P : Program) (w : World) (ρ : Operand → Value) : o.about P w ρ = none := by
  unfold NE neB at h
  unfold Oper.about
  split at h <;> simp_all
theorem ne_semAt {o : Oper} (h : NE o) (r : Option Nat) (ρ : Operand → Value) : o.semAt r ρ = execOp ρ o := by
  unfold NE neB at h
  unfold Oper.semAt
  split at h <;> cases r <;> simp_all
/-- what it gives: a value, nothing, or an end -/
theorem ne_run {o : Oper} (h : NE o) (P : Program) (w : World) (ρ : Operand → Value) : (∃ v w', (execOp ρ o).run P w = .ok (.value v) w') ∨ (∃ w', (execOp ρ o).run P w = .ok .skip w') ∨ ∃ x w', (execOp ρ o).run P w = .halt x w' := by
  unfold NE neB at h
  unfold execOp
  split at h
  · rename_i e
    simp only [e]
    exact .inl ⟨_, _, rfl⟩
  · rename_i e
    simp only [e]
    exact .inl ⟨_, _, rfl⟩
  · rename_i t x e
    simp only [e, Sem.run_bind]
    cases (Instr.loadAt t (ρ x)).run P w with
    | ok v w' => exact .inl ⟨v, w', rfl⟩
    | halt x w' => exact .inr (.inr ⟨x, w', rfl⟩)
  · rename_i t x y e
    simp only [e, Sem.run_bind]
    cases (Instr.storeAt t (ρ x) (ρ y)).run P w with
    | ok v w' => exact .inr (.inl ⟨w', rfl⟩)
    | halt x w' => exact .inr (.inr ⟨x, w', rfl⟩)
  · rename_i t x y e
    simp only [e, Sem.run_bind]
    cases (Instr.indexAt t (ρ x) (ρ y)).run P w with
    | ok v w' => exact .inl ⟨v, w', rfl⟩
    | halt x w' => exact .inr (.inr ⟨x, w', rfl⟩)
  · cases h
/-- the normal end alone -/
def NormalOnly (Q : Exit → Act → World → Prop) : Exit → Act → World → Prop := fun e a w => e = .normal ∧ Q .normal a w
theorem opsIn_of_ops {F : Fence} {n : Nat} {P : Program} {ops : Array Oper} {Q : Exit → Act → World → Prop} (hne : ∀ (i : Nat) o, ops[i]? = some o → NE o) :
    ∀ (l : List Nat) (a : Act) (w : World), wpOps P ops (NormalOnly Q) l a w → wpOpsIn F n P ops Q l a w
  | [], a, w, h => h.2
  | i :: l, a, w, h => by
    unfold wpOps at h
    unfold wpOpsIn
    cases ho : ops[i]? with
    | none =>
      rw [ho] at h
      exact opsIn_of_ops hne l a w h
    | some o =>
      rw [ho] at h
      have hn := hne i o ho
      dsimp only at h ⊢
      by_cases hw : Region.wanted o (yielded ops a.tmps) = true
      · rw [if_pos hw] at h ⊢
        rcases h with h | ⟨_, a', w', h⟩
        · refine ⟨fun f hf => (by rw [ne_about hn] at hf; cases hf), ?_⟩
          rw [ne_semAt hn]
          unfold Oper.wp at h
          rcases ne_run hn P w a.eval with ⟨v, w', e⟩ | ⟨w', e⟩ | ⟨x, w', e⟩
          · rw [e] at h ⊢
            exact opsIn_of_ops hne l _ _ h
          · rw [e] at h ⊢
            exact opsIn_of_ops hne l _ _ h
          · rw [e] at h ⊢
            cases x <;> first | exact (h : False).elim | (exact absurd (h : NormalOnly Q (.panic _) _ _).1 (by simp))
        · exact absurd h.1 (by simp)
      · rw [if_neg hw] at h ⊢
        exact ⟨fun f hf => (by rw [ne_about hn] at hf; cases hf), opsIn_of_ops hne l _ _ h⟩
/-- THE LAW: within a round, too, by the moves of the plain walk -/
theorem wpIn_region_heldNE {F : Fence} {n : Nat} {P : Program} {ops : Array Oper} {Q : Exit → Act → World → Prop} {S : World → Prop} {id : Nat} {a : Act} {w : World} (hm : P.follows .mixedOrders = true) (hne : ∀ (i : Nat) o, ops[i]? = some o → NE o)
    (h : wpAnyH P .any ops (NormalOnly Q) S ops.size (Array.replicate ops.size false) a w.drew) : (Code.region id ops true).wpIn F n P Q a w :=
  wpIn_region_draw fun t => by
    simp only [Region.schedule, hm, Bool.true_or, if_true]
    exact opsIn_of_ops hne _ _ _ (wpAny_sound ops.size t _ a _ (wpAny_of_held _ _ _ _ h))
theorem ne_all {ops : Array Oper} (h : ops.toList.all neB = true) : ∀ (i : Nat) o, ops[i]? = some o → NE o := fun i o ho => List.all_eq_true.1 h o (Array.mem_toList_iff.2 (Array.mem_of_getElem? ho))
theorem wpOp_run {P : Program} {ops : Array Oper} {Q : Exit → Act → World → Prop} {i : Nat} {o : Oper} {K : Act → World → Prop} {a : Act} {w : World} (hi : ops[i]? = some o) (hg : o.guard = none) (h : o.wp P a w K Q) : wpOp P ops Q i K a w := by
  unfold wpOp
  rw [hi]
  dsimp only
  rw [if_pos (by simp [Region.wanted, hg])]
  exact .inl h
theorem oper_value {P : Program} {Q : Exit → Act → World → Prop} {o : Oper} {K : Act → World → Prop} {a : Act} {w w' : World} {v : Value} (h : (execOp a.eval o).run P w = .ok (.value v) w') (hK : K (a.put o.dst v) w') : o.wp P a w K Q := by
  unfold Oper.wp
  rw [h]
  exact hK
theorem oper_skip {P : Program} {Q : Exit → Act → World → Prop} {o : Oper} {K : Act → World → Prop} {a : Act} {w w' : World} (h : (execOp a.eval o).run P w = .ok .skip w') (hK : K (a.put o.dst undef) w') : o.wp P a w K Q := by
  unfold Oper.wp
  rw [h]
  exact hK
theorem panic_no {Q : Exit → Act → World → Prop} {c : List PanicEntry} {a a' : Act} {w : World} (h : NormalOnly Q (.panic c) a w) : NormalOnly Q (.panic c) a' w := absurd h.1 (by simp)
end Go.Proofs.YtioekjkfhbopkaaDoor

/- The walk of sample.ends at right rules and a right tape that is not empty. No condition. -/
namespace Go.Proofs.YtioekjkfhbopkaaDoor
open Go.RowKit Go.Deep Go.Shelf Go.Proofs.YtioekjkfhbopkaaDoorW.PrintWords

attribute [local go_sem] Oper.semAt_some

theorem Ints.take {w : World} {A : Option Addr} {l : List Int} (h : Ints w A l) (k : Nat) : Ints w A (l.take k) :=
  ⟨by have := h.len; rw [List.length_take]; omega, fun i hi => by
    rw [List.length_take] at hi
    obtain ⟨b, off, e, hb, hc⟩ := h.at_ i (by omega)
    refine ⟨b, off, e, hb, ?_⟩
    rw [hc, List.getD_eq_getElem?_getD, List.getD_eq_getElem?_getD, List.getElem?_take_of_lt (by omega)]⟩

/-- four new blocks of one value each -/
theorem four_new (w : World) (x1 x2 x3 x4 : Value) (t1 t2 t3 t4 : TypeId) {W : World} (hW : W = (((w.alloc (.cells #[x1] t1)).alloc (.cells #[x2] t2)).alloc (.cells #[x3] t3)).alloc (.cells #[x4] t4)) :
    (W.cell? ⟨w.heap.size, 0, none⟩ = some x1 ∧ W.frozen? ⟨w.heap.size, 0, none⟩ = false) ∧ (W.cell? ⟨w.heap.size + 1, 0, none⟩ = some x2 ∧ W.frozen? ⟨w.heap.size + 1, 0, none⟩ = false) ∧ (W.cell? ⟨w.heap.size + 1 + 1, 0, none⟩ = some x3 ∧ W.frozen? ⟨w.heap.size + 1 + 1, 0, none⟩ = false) ∧ (W.cell? ⟨w.heap.size + 1 + 1 + 1, 0, none⟩ = some x4 ∧ W.frozen? ⟨w.heap.size + 1 + 1 + 1, 0, none⟩ = false) ∧ W.heap.size = w.heap.size + 1 + 1 + 1 + 1 := by
  have s1 := World.size_alloc w (.cells #[x1] t1)
  have s2 := World.size_alloc (w.alloc (.cells #[x1] t1)) (.cells #[x2] t2)
  have s3 := World.size_alloc ((w.alloc (.cells #[x1] t1)).alloc (.cells #[x2] t2)) (.cells #[x3] t3)
  have s4 := World.size_alloc (((w.alloc (.cells #[x1] t1)).alloc (.cells #[x2] t2)).alloc (.cells #[x3] t3)) (.cells #[x4] t4)
  have h1 : W.heap[w.heap.size]? = some (.cells #[x1] t1 (0, 0)) := by
    rw [hW, alloc_old _ _ _ (by omega), alloc_old _ _ _ (by omega), alloc_old _ _ _ (by omega), alloc_at]
  have h2 : W.heap[w.heap.size + 1]? = some (.cells #[x2] t2 (0, 0)) := by
    rw [hW, alloc_old _ _ _ (by omega), alloc_old _ _ _ (by omega), ← s1, alloc_at]
  have h3 : W.heap[w.heap.size + 1 + 1]? = some (.cells #[x3] t3 (0, 0)) := by
    rw [hW, alloc_old _ _ _ (by omega), show w.heap.size + 1 + 1 = ((w.alloc (.cells #[x1] t1)).alloc (.cells #[x2] t2)).heap.size by omega, alloc_at]
  have h4 : W.heap[w.heap.size + 1 + 1 + 1]? = some (.cells #[x4] t4 (0, 0)) := by
    rw [hW, show w.heap.size + 1 + 1 + 1 = (((w.alloc (.cells #[x1] t1)).alloc (.cells #[x2] t2)).alloc (.cells #[x3] t3)).heap.size by omega, alloc_at]
  exact ⟨cell_of _ _ 0 _ _ x1 h1 rfl, cell_of _ _ 0 _ _ x2 h2 rfl, cell_of _ _ 0 _ _ x3 h3 rfl, cell_of _ _ 0 _ _ x4 h4 rfl, by rw [hW]; omega⟩
set_option maxRecDepth 100000 in
set_option maxHeartbeats 1000000 in
theorem ends_ok (A B : Option Addr) (r : List (List Int)) (n : Nat) (tape : List Int) (c d : Nat) (w : World) (hA : Lists w A r) (hB : Ints w B tape) (hg : GoodRs r n) (ht : goodT r tape) (h0 : 0 < tape.length) (hl : tape.length ≤ 2000000) :
    Calls Tryd.prog 33 #[.slice A r.length c, .slice B tape.length d] w fun e w' => e = .returned (.tuple #[.int .i64 (comeTo r tape 0), .int .i64 (comeTo r tape ((n : Int) - 1))]) ∧ Below w.heap.size w w' := by
  have hlen := hB.len
  obtain ⟨bA, oA, A0, c0, rfl, hbA, hcell0, _, _⟩ := hA.at_ 0 hg.pos
  obtain ⟨bT, oT, rfl, hbT, _⟩ := hB.at_ 0 h0
  rw [hg.first, Nat.add_zero] at hcell0
  have hcT : ∀ j, j < tape.length → w.cell? ⟨bT, oT + j, none⟩ = some (.int .i64 (tape.getD j 0)) := fun j hj => by
    obtain ⟨b1, off1, e, _, h⟩ := hB.at_ j hj
    injection e with e
    injection e with e1 e2 _
    subst e1 e2
    exact h
  have HCT := hide hcT
  have HRO := hide hA
  have n0 : (0 : Int) < (n : Int) := by have := hg.n0; omega
  have n16 : (n : Int) ≤ 16 := by have := hg.n16; omega
  have r0 : (0 : Int) < (r.length : Int) := by have := hg.pos; omega
  obtain ⟨W3, hW3⟩ : ∃ W3, W3 = ((w.alloc (.cells #[.slice (some ⟨bA, oA, none⟩) r.length c] 66)).alloc (.cells #[.int .i64 0] 3)).alloc (.cells #[.int .i64 0] 3) := ⟨_, rfl⟩
  have hb3 : Below w.heap.size w W3 := by rw [hW3]; exact below_alloc' (below_alloc' (below_alloc' (Below.refl _ _) _) _) _
  have y0 := (hb3.cell (p := ⟨bA, oA, none⟩) hbA).trans hcell0
  have HB3 := hide hb3
  have HG := hide hg
  have HT := hide ht
  rw [hW3] at y0
  clear hcT hg ht hb3 hW3
  refine callsIn_wide (n := 3) |>.1 ?_
  refine callsIn_of_wp_marks Tryd.func33 rfl trivial ?_ rfl
  refine wpIn_wide.2 ?_
  simp only [Tryd.ntmps33, List.size_toArray, List.length_cons, List.length_nil, Nat.reduceAdd, Nat.reduceSub, Array.replicate_succ, Array.replicate_zero, List.push_toArray, List.append_toArray, List.nil_append, List.cons_append]
  go_wp2_with (go_at_call 53; refine Calls.mono (callsIn_wide (n := 3) |>.1 (back_in Fence.wide 3 trivial rfl (some ⟨bT, oT, none⟩) tape.length d _)) ?_; rintro e w4 ⟨rfl, rfl⟩)
  obtain ⟨⟨f1, f1'⟩, ⟨f2, f2'⟩, ⟨f3, f3'⟩, ⟨f4, f4'⟩, f5⟩ := four_new w (.slice (some ⟨bA, oA, none⟩) r.length c) (.int .i64 0) (.int .i64 ((n : Int) - 1)) (.slice (some ⟨bT, oT, none⟩) tape.length d) 66 3 3 23 rfl
  have hb4 : Below w.heap.size w ((((w.alloc (.cells #[.slice (some ⟨bA, oA, none⟩) r.length c] 66)).alloc (.cells #[.int .i64 0] 3)).alloc (.cells #[.int .i64 ((n : Int) - 1)] 3)).alloc (.cells #[.slice (some ⟨bT, oT, none⟩) tape.length d] 23)) := below_alloc' (below_alloc' (below_alloc' (below_alloc' (Below.refl _ _) _) _) _) _
  generalize (((w.alloc (.cells #[.slice (some ⟨bA, oA, none⟩) r.length c] 66)).alloc (.cells #[.int .i64 0] 3)).alloc (.cells #[.int .i64 ((n : Int) - 1)] 3)).alloc (.cells #[.slice (some ⟨bT, oT, none⟩) tape.length d] 23) = W4 at f1 f1' f2 f2' f3 f3' f4 f4' f5 hb4 ⊢
  refine wpIn_wide (n := 3) |>.1 ?_
  refine wpIn_rangeFunc_ownF (F := Fence.wide) (n := 3) rfl (by decide) (gf := 76) (lb := #[.pointer (some ⟨w.heap.size + 1 + 1 + 1, 0, none⟩)]) (by rfl) trivial (enters_of Tryd.func76 (by kernel_rfl) rfl)
    (backN_stops Fence.wide 2 trivial rfl (by decide) (w.heap.size + 1 + 1 + 1) w.heap.size bT d oT tape hlen W4 (by omega) (by omega) f4 hbT (fun j hj => (hb4.cell (p := ⟨bT, oT + j, none⟩) hbT).trans (HCT.out j hj)))
    (fun h k => KpB.trans h k) ?hKb (Below.refl _ _) (fun _ => rfl)
    (fun pre V => (V.cell? ⟨w.heap.size + 1, 0, none⟩ = some (.int .i64 (accN r 0 tape pre)) ∧ V.frozen? ⟨w.heap.size + 1, 0, none⟩ = false) ∧ (V.cell? ⟨w.heap.size + 1 + 1, 0, none⟩ = some (.int .i64 (accN r ((n : Int) - 1) tape pre)) ∧ V.frozen? ⟨w.heap.size + 1 + 1, 0, none⟩ = false) ∧ V.cell? ⟨w.heap.size, 0, none⟩ = some (.slice (some ⟨bA, oA, none⟩) r.length c) ∧ Below w.heap.size w V) (fun _ _ _ => False) ?hI ?hIx ?h0
    (fun q => { tmps := (#[.slice (some ⟨bA, oA, none⟩) r.length c, .slice (some ⟨bT, oT, none⟩) tape.length d, .pointer (some ⟨w.heap.size, 0, none⟩), undef, .pointer (some ⟨w.heap.size + 1, 0, none⟩), .pointer (some ⟨w.heap.size + 1 + 1, 0, none⟩), undef, .int .i64 (backAt tape q).2, .slice (some ⟨bA, oA, none⟩) r.length c, .pointer (some ⟨bA, oA, none⟩), .slice A0 n c0, .int .i64 n, .int .i64 ((n : Int) - 1), .slice (some ⟨bT, oT, none⟩) tape.length d, .func (.func 76) #[] #[.pointer (some ⟨w.heap.size + 1 + 1 + 1, 0, none⟩)], .int .i64 (backAt tape q).1, .int .i64 (backAt tape q).2, undef, undef, undef, undef, undef, undef, undef, undef, undef, undef, undef, undef, undef, undef, undef, undef]), defers := [] }) ?assign ?body ?done ?stop
  case hKb =>
    intro V r o o' hr h1 h2 h3
    exact ⟨belowK_b (w := w) (Nat.le_refl _) V r o o' (by omega) h1 h2 h3, fun v hv => cell_kept hv (grownBy_putObj' V r o') (fun r' e => by cases e; exact ⟨_, h1, h2⟩)⟩
  case hI =>
    exact OwnFrom.and (Own.from (fun s A B row hs hg hr => ⟨cell_kept hs.1 hg hr, (frozen_kept hs.1 hg hr).trans hs.2⟩) _) (OwnFrom.and (Own.from (fun s A B row hs hg hr => ⟨cell_kept hs.1 hg hr, (frozen_kept hs.1 hg hr).trans hs.2⟩) _) (OwnFrom.and (Own.from (fun s A B row hs hg hr => cell_kept hs hg hr) _) (ownFrom_below (Nat.le_refl _) (by omega))))
  case hIx => exact fun _ _ _ _ _ hs _ _ => hs.elim
  case h0 => exact ⟨⟨f2, f2'⟩, ⟨f3, f3'⟩, f1, hb4⟩
  case assign =>
    intro rr q V K hK
    gi_wp2
    exact hK
  case stop =>
    rintro D c pre V _ _ h _
    exact h.elim
  case body =>
    rintro rr pre q V ⟨⟨hlo, hflo⟩, ⟨hhi, hfhi⟩, hbox, hWV⟩ _
    have hk := back_good HT.out h0 q
    have hlr := accN_range HG.out HT.out h0 (s := 0) ⟨by omega, n0⟩ pre
    have hhr := accN_range HG.out HT.out h0 (s := (n : Int) - 1) ⟨by omega, by omega⟩ pre
    have a1 := accN_snoc r 0 tape pre q
    have a2 := accN_snoc r ((n : Int) - 1) tape pre q
    generalize (backAt tape q).2 = k at hk a1 a2 ⊢
    generalize (backAt tape q).1 = k1
    generalize accN r 0 tape pre = lo at hlo hlr a1
    generalize accN r ((n : Int) - 1) tape pre = hi at hhi hhr a2
    obtain ⟨kN, rfl⟩ : ∃ kN : Nat, k = (kN : Int) := ⟨k.toNat, by omega⟩
    obtain ⟨lN, rfl⟩ : ∃ lN : Nat, lo = (lN : Int) := ⟨lo.toNat, by omega⟩
    obtain ⟨hN, rfl⟩ : ∃ hN : Nat, hi = (hN : Int) := ⟨hi.toNat, by omega⟩
    obtain ⟨b1, o1, Ak, ck, e1, _, hcellk, hck, hrowk⟩ := HRO.out.at_ kN (by omega)
    injection e1 with e1
    injection e1 with e1 e2 _
    subst e1 e2
    have hrl := (HG.out.rows kN (by omega)).1
    obtain ⟨bk, ok, rfl, hbk, hclo⟩ := hrowk.at_ lN (by rw [hrl]; omega)
    obtain ⟨b2, o2, e3, _, hchi⟩ := hrowk.at_ hN (by rw [hrl]; omega)
    injection e3 with e3
    injection e3 with e3 e4 _
    subst e3 e4
    rw [hrl] at hcellk
    have hcellk := (hWV.cell (p := ⟨bA, oA + kN, none⟩) hbA).trans hcellk
    have hclo := (hWV.cell (p := ⟨bk, ok + lN, none⟩) hbk).trans hclo
    have hchi := (hWV.cell (p := ⟨bk, ok + hN, none⟩) hbk).trans hchi
    have s1 : stepR r (kN : Int) (lN : Int) = (r.getD kN []).getD lN 0 := rfl
    have s2 : stepR r (kN : Int) (hN : Int) = (r.getD kN []).getD hN 0 := rfl
    rw [s1] at a1
    rw [s2] at a2
    generalize (r.getD kN []).getD lN 0 = y1 at hclo a1
    generalize (r.getD kN []).getD hN 0 = y2 at hchi a2
    have HA1 := hide a1
    have HA2 := hide a2
    have HWV := hide hWV
    have k0 : (0 : Int) ≤ (kN : Int) := Int.natCast_nonneg _
    have kl : (kN : Int) < (r.length : Int) := hk.2
    have l0 : (0 : Int) ≤ (lN : Int) := Int.natCast_nonneg _
    have ll : (lN : Int) < (n : Int) := hlr.2
    have g0 : (0 : Int) ≤ (hN : Int) := Int.natCast_nonneg _
    have gl : (hN : Int) < (n : Int) := hhr.2
    clear a1 a2 s1 s2 hrowk hck hrl hk hlr hhr hWV HCT
    obtain ⟨U, hU⟩ : ∃ U, U = V.drew := ⟨_, rfl⟩
    obtain ⟨W1, hW1⟩ : ∃ W1, W1 = U.setCell ⟨w.heap.size + 1, 0, none⟩ (.int .i64 y1) := ⟨_, rfl⟩
    obtain ⟨W2, hW2⟩ : ∃ W2, W2 = W1.setCell ⟨w.heap.size + 1 + 1, 0, none⟩ (.int .i64 y2) := ⟨_, rfl⟩
    have keep1 : ∀ p : Addr, p.block ≠ w.heap.size + 1 → W1.cell? p = U.cell? p := fun p hp => by
      rw [hW1, World.cell?_setCell_other]
      intro e; apply hp; rw [← e]
    have keep2 : ∀ p : Addr, p.block ≠ w.heap.size + 1 + 1 → W2.cell? p = W1.cell? p := fun p hp => by
      rw [hW2, World.cell?_setCell_other]
      intro e; apply hp; rw [← e]
    have hSU : (fun W : World => W.cell? ⟨w.heap.size, 0, none⟩ = some (.slice (some ⟨bA, oA, none⟩) r.length c) ∧ W.cell? ⟨bA, oA + kN, none⟩ = some (.slice (some ⟨bk, ok, none⟩) n ck) ∧ W.cell? ⟨bk, ok + lN, none⟩ = some (.int .i64 y1) ∧ W.cell? ⟨bk, ok + hN, none⟩ = some (.int .i64 y2)) U := by rw [hU]; exact ⟨hbox, hcellk, hclo, hchi⟩
    have hS1 : (fun W : World => W.cell? ⟨w.heap.size, 0, none⟩ = some (.slice (some ⟨bA, oA, none⟩) r.length c) ∧ W.cell? ⟨bA, oA + kN, none⟩ = some (.slice (some ⟨bk, ok, none⟩) n ck) ∧ W.cell? ⟨bk, ok + lN, none⟩ = some (.int .i64 y1) ∧ W.cell? ⟨bk, ok + hN, none⟩ = some (.int .i64 y2)) W1 := by
      refine ⟨?_, ?_, ?_, ?_⟩
      · rw [keep1 _ (by simp)]; exact hSU.1
      · rw [keep1 _ (by simp; omega)]; exact hSU.2.1
      · rw [keep1 _ (by simp; omega)]; exact hSU.2.2.1
      · rw [keep1 _ (by simp; omega)]; exact hSU.2.2.2
    have hS2 : (fun W : World => W.cell? ⟨w.heap.size, 0, none⟩ = some (.slice (some ⟨bA, oA, none⟩) r.length c) ∧ W.cell? ⟨bA, oA + kN, none⟩ = some (.slice (some ⟨bk, ok, none⟩) n ck) ∧ W.cell? ⟨bk, ok + lN, none⟩ = some (.int .i64 y1) ∧ W.cell? ⟨bk, ok + hN, none⟩ = some (.int .i64 y2)) W2 := by
      refine ⟨?_, ?_, ?_, ?_⟩
      · rw [keep2 _ (by simp; omega)]; exact hS1.1
      · rw [keep2 _ (by simp; omega)]; exact hS1.2.1
      · rw [keep2 _ (by simp; omega)]; exact hS1.2.2.1
      · rw [keep2 _ (by simp; omega)]; exact hS1.2.2.2
    have u1 : U.cell? ⟨w.heap.size + 1, 0, none⟩ = some (.int .i64 lN) := by rw [hU]; exact hlo
    have u2 : U.frozen? ⟨w.heap.size + 1, 0, none⟩ = false := by rw [hU]; exact hflo
    have u3 : U.cell? ⟨w.heap.size + 1 + 1, 0, none⟩ = some (.int .i64 hN) := by rw [hU]; exact hhi
    have u4 : U.frozen? ⟨w.heap.size + 1 + 1, 0, none⟩ = false := by rw [hU]; exact hfhi
    have w3 : W1.cell? ⟨w.heap.size + 1 + 1, 0, none⟩ = some (.int .i64 hN) := by rw [keep1 _ (by simp)]; exact u3
    have w4 : W1.frozen? ⟨w.heap.size + 1 + 1, 0, none⟩ = false := by rw [hW1, World.frozen?_setCell]; exact u4
    have hfin : ∀ a' : Act, True := fun _ => trivial
    gi_wp2
    refine wpIn_region_heldNE (S := fun W : World => W.cell? ⟨w.heap.size, 0, none⟩ = some (.slice (some ⟨bA, oA, none⟩) r.length c) ∧ W.cell? ⟨bA, oA + kN, none⟩ = some (.slice (some ⟨bk, ok, none⟩) n ck) ∧ W.cell? ⟨bk, ok + lN, none⟩ = some (.int .i64 y1) ∧ W.cell? ⟨bk, ok + hN, none⟩ = some (.int .i64 y2)) (by kernel_rfl) (ne_all (by kernel_rfl)) ?_
    rw [← hU]
    have x1 : U.setCell ⟨w.heap.size + 1, 0, none⟩ (.int .i64 y1) = W1 := hW1.symm
    have x2 : W1.setCell ⟨w.heap.size + 1 + 1, 0, none⟩ (.int .i64 y2) = W2 := hW2.symm
    obtain ⟨hbx1, hbx2, hbx3, hbx4⟩ := hSU
    obtain ⟨hbx5, hbx6, hbx7, hbx8⟩ := hS1
    have hkO : KeepsOthers V W2 := by
      rw [hW2, hW1, hU]
      exact (KeepsOthers.trans (show KeepsOthers V V.drew from ⟨Nat.le_refl _, fun _ _ h _ => h⟩) (KeepsOthers.setCell _ _ _)).trans (KeepsOthers.setCell _ _ _)
    have hbVU : Below w.heap.size V U := by rw [hU]; exact (Below.refl _ _).drew
    have hbV2 : Below w.heap.size V W2 := by
      rw [hW2, hW1]
      exact (hbVU.setCell (p := ⟨w.heap.size + 1, 0, none⟩) (by simp) _).setCell (p := ⟨w.heap.size + 1 + 1, 0, none⟩) (by simp; omega) _
    have hkB : KpB w.heap.size (w.heap.size + 1 + 1 + 1) V W2 := ⟨hbV2, fun v hv => by rw [keep2 _ (by simp), keep1 _ (by simp; omega), hU]; exact hv⟩
    have hI2 : (W2.cell? ⟨w.heap.size + 1, 0, none⟩ = some (.int .i64 (accN r 0 tape (pre ++ [q]))) ∧ W2.frozen? ⟨w.heap.size + 1, 0, none⟩ = false) ∧ (W2.cell? ⟨w.heap.size + 1 + 1, 0, none⟩ = some (.int .i64 (accN r ((n : Int) - 1) tape (pre ++ [q]))) ∧ W2.frozen? ⟨w.heap.size + 1 + 1, 0, none⟩ = false) ∧ W2.cell? ⟨w.heap.size, 0, none⟩ = some (.slice (some ⟨bA, oA, none⟩) r.length c) ∧ Below w.heap.size w W2 := by
      refine ⟨⟨?_, ?_⟩, ⟨?_, ?_⟩, hS2.1, HWV.out.trans hbV2⟩
      · rw [keep2 _ (by simp), hW1, HA1.out]; exact World.cell?_setCell_same' _ _ _ (by rw [u1]; rfl)
      · rw [hW2, World.frozen?_setCell, hW1, World.frozen?_setCell]; exact u2
      · rw [hW2, HA2.out]; exact World.cell?_setCell_same' _ _ _ (by rw [w3]; rfl)
      · rw [hW2, World.frozen?_setCell]; exact w4
    have HK1 := hide hkO
    have HK2 := hide hkB
    have HK3 := hide hI2
    clear hkO hkB hI2 hbVU hbV2
    clear keep1 keep2 hbox hcellk hclo hchi hlo hflo hhi hfhi
    have HU := hide hU
    have HW1 := hide hW1
    have HW2 := hide hW2
    clear hU hW1 hW2 hfin
    refine wpAnyH_take (i := 0) (v := .slice (some ⟨bA, oA, none⟩) r.length c) rfl (by kernel_rfl) (by kernel_rfl) (by kernel_rfl) (fun _ _ _ h => panic_no h) (Or.inl ⟨by rfl, ?_⟩) ⟨hbx1, hbx2, hbx3, hbx4⟩ ?_
    · rintro w' ⟨q1, q2, q3, q4⟩
      go_simp
    try simp only [Act.put, List.setIfInBounds_toArray, List.set_cons_zero, List.set_cons_succ]
    refine wpAnyH_take (i := 1) (v := .int .i64 kN) rfl (by kernel_rfl) (by kernel_rfl) (by kernel_rfl) (fun _ _ _ h => panic_no h) (Or.inl ⟨by rfl, ?_⟩) ⟨hbx1, hbx2, hbx3, hbx4⟩ ?_
    · rintro w' ⟨q1, q2, q3, q4⟩
      go_simp
    try simp only [Act.put, List.setIfInBounds_toArray, List.set_cons_zero, List.set_cons_succ]
    refine wpAnyH_take (i := 2) (v := .pointer (some ⟨bA, oA + kN, none⟩)) rfl (by kernel_rfl) (by kernel_rfl) (by kernel_rfl) (fun _ _ _ h => panic_no h) (Or.inl ⟨by rfl, ?_⟩) ⟨hbx1, hbx2, hbx3, hbx4⟩ ?_
    · rintro w' ⟨q1, q2, q3, q4⟩
      go_simp
    try simp only [Act.put, List.setIfInBounds_toArray, List.set_cons_zero, List.set_cons_succ]
    refine wpAnyH_take (i := 3) (v := .slice (some ⟨bk, ok, none⟩) n ck) rfl (by kernel_rfl) (by kernel_rfl) (by kernel_rfl) (fun _ _ _ h => panic_no h) (Or.inl ⟨by rfl, ?_⟩) ⟨hbx1, hbx2, hbx3, hbx4⟩ ?_
    · rintro w' ⟨q1, q2, q3, q4⟩
      go_simp
    try simp only [Act.put, List.setIfInBounds_toArray, List.set_cons_zero, List.set_cons_succ]
    refine wpAnyH_take (i := 7) (v := .slice (some ⟨bA, oA, none⟩) r.length c) rfl (by kernel_rfl) (by kernel_rfl) (by kernel_rfl) (fun _ _ _ h => panic_no h) (Or.inl ⟨by rfl, ?_⟩) ⟨hbx1, hbx2, hbx3, hbx4⟩ ?_
    · rintro w' ⟨q1, q2, q3, q4⟩
      go_simp
    try simp only [Act.put, List.setIfInBounds_toArray, List.set_cons_zero, List.set_cons_succ]
    refine wpAnyH_take (i := 8) (v := .int .i64 kN) rfl (by kernel_rfl) (by kernel_rfl) (by kernel_rfl) (fun _ _ _ h => panic_no h) (Or.inl ⟨by rfl, ?_⟩) ⟨hbx1, hbx2, hbx3, hbx4⟩ ?_
    · rintro w' ⟨q1, q2, q3, q4⟩
      go_simp
    try simp only [Act.put, List.setIfInBounds_toArray, List.set_cons_zero, List.set_cons_succ]
    refine wpAnyH_take (i := 9) (v := .pointer (some ⟨bA, oA + kN, none⟩)) rfl (by kernel_rfl) (by kernel_rfl) (by kernel_rfl) (fun _ _ _ h => panic_no h) (Or.inl ⟨by rfl, ?_⟩) ⟨hbx1, hbx2, hbx3, hbx4⟩ ?_
    · rintro w' ⟨q1, q2, q3, q4⟩
      go_simp
    try simp only [Act.put, List.setIfInBounds_toArray, List.set_cons_zero, List.set_cons_succ]
    refine wpAnyH_take (i := 10) (v := .slice (some ⟨bk, ok, none⟩) n ck) rfl (by kernel_rfl) (by kernel_rfl) (by kernel_rfl) (fun _ _ _ h => panic_no h) (Or.inl ⟨by rfl, ?_⟩) ⟨hbx1, hbx2, hbx3, hbx4⟩ ?_
    · rintro w' ⟨q1, q2, q3, q4⟩
      go_simp
    try simp only [Act.put, List.setIfInBounds_toArray, List.set_cons_zero, List.set_cons_succ]
    refine wpAnyH_ready (rs := [4, 11]) (by kernel_rfl) (by simp) ?_
    refine AllReadyH.cons rfl (fun K hK => ?_) ?_
    · go_simp
      refine hK.out _ _ ?_ (fun hHeld => ?_)
      · exact ⟨hbx1, hbx2, hbx3, hbx4⟩
      clear hK K hHeld
      try simp only [Act.put, List.setIfInBounds_toArray, List.set_cons_zero, List.set_cons_succ]
      refine wpAnyH_take (i := 5) (v := .pointer (some ⟨bk, ok + lN, none⟩)) rfl (by kernel_rfl) (by kernel_rfl) (by kernel_rfl) (fun _ _ _ h => panic_no h) (Or.inl ⟨by rfl, ?_⟩) ⟨hbx1, hbx2, hbx3, hbx4⟩ ?_
      · rintro w' ⟨q1, q2, q3, q4⟩
        go_simp
      try simp only [Act.put, List.setIfInBounds_toArray, List.set_cons_zero, List.set_cons_succ]
      refine wpAnyH_take (i := 6) (v := .int .i64 y1) rfl (by kernel_rfl) (by kernel_rfl) (by kernel_rfl) (fun _ _ _ h => panic_no h) (Or.inl ⟨by rfl, ?_⟩) ⟨hbx1, hbx2, hbx3, hbx4⟩ ?_
      · rintro w' ⟨q1, q2, q3, q4⟩
        go_simp
      try simp only [Act.put, List.setIfInBounds_toArray, List.set_cons_zero, List.set_cons_succ]
      refine wpAnyH_ready (rs := [11, 14]) (by kernel_rfl) (by simp) ?_
      refine AllReadyH.cons rfl (fun K hK => ?_) ?_
      · go_simp
        refine hK.out _ _ ?_ (fun hHeld => ?_)
        · exact ⟨hbx1, hbx2, hbx3, hbx4⟩
        clear hK K hHeld
        try simp only [Act.put, List.setIfInBounds_toArray, List.set_cons_zero, List.set_cons_succ]
        refine wpAnyH_take (i := 12) (v := .pointer (some ⟨bk, ok + hN, none⟩)) rfl (by kernel_rfl) (by kernel_rfl) (by kernel_rfl) (fun _ _ _ h => panic_no h) (Or.inl ⟨by rfl, ?_⟩) ⟨hbx1, hbx2, hbx3, hbx4⟩ ?_
        · rintro w' ⟨q1, q2, q3, q4⟩
          go_simp
        try simp only [Act.put, List.setIfInBounds_toArray, List.set_cons_zero, List.set_cons_succ]
        refine wpAnyH_take (i := 13) (v := .int .i64 y2) rfl (by kernel_rfl) (by kernel_rfl) (by kernel_rfl) (fun _ _ _ h => panic_no h) (Or.inl ⟨by rfl, ?_⟩) ⟨hbx1, hbx2, hbx3, hbx4⟩ ?_
        · rintro w' ⟨q1, q2, q3, q4⟩
          go_simp
        try simp only [Act.put, List.setIfInBounds_toArray, List.set_cons_zero, List.set_cons_succ]
        refine wpAnyH_ready (rs := [14]) (by kernel_rfl) (by simp) ?_
        refine AllReadyH.cons rfl (fun K hK => ?_) ?_
        · go_simp
          refine hK.out _ _ ?_ (fun hHeld => ?_)
          · exact ⟨hbx5, hbx6, hbx7, hbx8⟩
          clear hK K hHeld
          try simp only [Act.put, List.setIfInBounds_toArray, List.set_cons_zero, List.set_cons_succ]
          refine wpAnyH_ready (rs := [15]) (by kernel_rfl) (by simp) ?_
          refine AllReadyH.cons rfl (fun K hK => ?_) ?_
          · go_simp
            refine hK.out _ _ ?_ (fun hHeld => ?_)
            · exact hS2
            clear hK K hHeld
            try simp only [Act.put, List.setIfInBounds_toArray, List.set_cons_zero, List.set_cons_succ]
            refine wpAnyH_done (by kernel_rfl) ⟨rfl, ?_⟩ _
            exact ⟨HK1.out, HK2.out, HK3.out⟩
          exact AllReadyH.nil
        exact AllReadyH.nil
      refine AllReadyH.cons rfl (fun K hK => ?_) ?_
      · go_simp
        refine hK.out _ _ ?_ (fun hHeld => ?_)
        · exact ⟨hbx5, hbx6, hbx7, hbx8⟩
        clear hK K hHeld
        try simp only [Act.put, List.setIfInBounds_toArray, List.set_cons_zero, List.set_cons_succ]
        refine wpAnyH_ready (rs := [11]) (by kernel_rfl) (by simp) ?_
        refine AllReadyH.cons rfl (fun K hK => ?_) ?_
        · go_simp
          refine hK.out _ _ ?_ (fun hHeld => ?_)
          · exact ⟨hbx5, hbx6, hbx7, hbx8⟩
          clear hK K hHeld
          try simp only [Act.put, List.setIfInBounds_toArray, List.set_cons_zero, List.set_cons_succ]
          refine wpAnyH_take (i := 12) (v := .pointer (some ⟨bk, ok + hN, none⟩)) rfl (by kernel_rfl) (by kernel_rfl) (by kernel_rfl) (fun _ _ _ h => panic_no h) (Or.inl ⟨by rfl, ?_⟩) ⟨hbx5, hbx6, hbx7, hbx8⟩ ?_
          · rintro w' ⟨q1, q2, q3, q4⟩
            go_simp
          try simp only [Act.put, List.setIfInBounds_toArray, List.set_cons_zero, List.set_cons_succ]
          refine wpAnyH_take (i := 13) (v := .int .i64 y2) rfl (by kernel_rfl) (by kernel_rfl) (by kernel_rfl) (fun _ _ _ h => panic_no h) (Or.inl ⟨by rfl, ?_⟩) ⟨hbx5, hbx6, hbx7, hbx8⟩ ?_
          · rintro w' ⟨q1, q2, q3, q4⟩
            go_simp
          try simp only [Act.put, List.setIfInBounds_toArray, List.set_cons_zero, List.set_cons_succ]
          refine wpAnyH_ready (rs := [15]) (by kernel_rfl) (by simp) ?_
          refine AllReadyH.cons rfl (fun K hK => ?_) ?_
          · go_simp
            refine hK.out _ _ ?_ (fun hHeld => ?_)
            · exact hS2
            clear hK K hHeld
            try simp only [Act.put, List.setIfInBounds_toArray, List.set_cons_zero, List.set_cons_succ]
            refine wpAnyH_done (by kernel_rfl) ⟨rfl, ?_⟩ _
            exact ⟨HK1.out, HK2.out, HK3.out⟩
          exact AllReadyH.nil
        exact AllReadyH.nil
      exact AllReadyH.nil
    refine AllReadyH.cons rfl (fun K hK => ?_) ?_
    · go_simp
      refine hK.out _ _ ?_ (fun hHeld => ?_)
      · exact ⟨hbx1, hbx2, hbx3, hbx4⟩
      clear hK K hHeld
      try simp only [Act.put, List.setIfInBounds_toArray, List.set_cons_zero, List.set_cons_succ]
      refine wpAnyH_take (i := 12) (v := .pointer (some ⟨bk, ok + hN, none⟩)) rfl (by kernel_rfl) (by kernel_rfl) (by kernel_rfl) (fun _ _ _ h => panic_no h) (Or.inl ⟨by rfl, ?_⟩) ⟨hbx1, hbx2, hbx3, hbx4⟩ ?_
      · rintro w' ⟨q1, q2, q3, q4⟩
        go_simp
      try simp only [Act.put, List.setIfInBounds_toArray, List.set_cons_zero, List.set_cons_succ]
      refine wpAnyH_take (i := 13) (v := .int .i64 y2) rfl (by kernel_rfl) (by kernel_rfl) (by kernel_rfl) (fun _ _ _ h => panic_no h) (Or.inl ⟨by rfl, ?_⟩) ⟨hbx1, hbx2, hbx3, hbx4⟩ ?_
      · rintro w' ⟨q1, q2, q3, q4⟩
        go_simp
      try simp only [Act.put, List.setIfInBounds_toArray, List.set_cons_zero, List.set_cons_succ]
      refine wpAnyH_ready (rs := [4]) (by kernel_rfl) (by simp) ?_
      refine AllReadyH.cons rfl (fun K hK => ?_) ?_
      · go_simp
        refine hK.out _ _ ?_ (fun hHeld => ?_)
        · exact ⟨hbx1, hbx2, hbx3, hbx4⟩
        clear hK K hHeld
        try simp only [Act.put, List.setIfInBounds_toArray, List.set_cons_zero, List.set_cons_succ]
        refine wpAnyH_take (i := 5) (v := .pointer (some ⟨bk, ok + lN, none⟩)) rfl (by kernel_rfl) (by kernel_rfl) (by kernel_rfl) (fun _ _ _ h => panic_no h) (Or.inl ⟨by rfl, ?_⟩) ⟨hbx1, hbx2, hbx3, hbx4⟩ ?_
        · rintro w' ⟨q1, q2, q3, q4⟩
          go_simp
        try simp only [Act.put, List.setIfInBounds_toArray, List.set_cons_zero, List.set_cons_succ]
        refine wpAnyH_take (i := 6) (v := .int .i64 y1) rfl (by kernel_rfl) (by kernel_rfl) (by kernel_rfl) (fun _ _ _ h => panic_no h) (Or.inl ⟨by rfl, ?_⟩) ⟨hbx1, hbx2, hbx3, hbx4⟩ ?_
        · rintro w' ⟨q1, q2, q3, q4⟩
          go_simp
        try simp only [Act.put, List.setIfInBounds_toArray, List.set_cons_zero, List.set_cons_succ]
        refine wpAnyH_ready (rs := [14]) (by kernel_rfl) (by simp) ?_
        refine AllReadyH.cons rfl (fun K hK => ?_) ?_
        · go_simp
          refine hK.out _ _ ?_ (fun hHeld => ?_)
          · exact ⟨hbx5, hbx6, hbx7, hbx8⟩
          clear hK K hHeld
          try simp only [Act.put, List.setIfInBounds_toArray, List.set_cons_zero, List.set_cons_succ]
          refine wpAnyH_ready (rs := [15]) (by kernel_rfl) (by simp) ?_
          refine AllReadyH.cons rfl (fun K hK => ?_) ?_
          · go_simp
            refine hK.out _ _ ?_ (fun hHeld => ?_)
            · exact hS2
            clear hK K hHeld
            try simp only [Act.put, List.setIfInBounds_toArray, List.set_cons_zero, List.set_cons_succ]
            refine wpAnyH_done (by kernel_rfl) ⟨rfl, ?_⟩ _
            exact ⟨HK1.out, HK2.out, HK3.out⟩
          exact AllReadyH.nil
        exact AllReadyH.nil
      exact AllReadyH.nil
    exact AllReadyH.nil
  case done =>
    rintro D ys V hD rfl ⟨⟨hlo, hflo⟩, ⟨hhi, hfhi⟩, hbox, hWV⟩ hK
    rw [accN_all] at hlo hhi
    obtain ⟨lo, hlo'⟩ : ∃ lo, comeTo r tape 0 = lo := ⟨_, rfl⟩
    obtain ⟨hi, hhi'⟩ : ∃ hi, comeTo r tape ((n : Int) - 1) = hi := ⟨_, rfl⟩
    rw [hlo'] at hlo
    rw [hhi'] at hhi
    have HLO := hide hlo'
    have HHI := hide hhi'
    obtain ⟨V2, hV2⟩ : ∃ V2, V2 = ((V.setCell ⟨w.heap.size + 1, 0, none⟩ (.int .i64 lo)).setCell ⟨w.heap.size + 1 + 1, 0, none⟩ (.int .i64 hi)).drew := ⟨_, rfl⟩
    have c4 : V2.cell? ⟨w.heap.size + 1, 0, none⟩ = some (.int .i64 lo) := by
      rw [hV2]
      show ((V.setCell _ _).setCell _ _).cell? _ = _
      rw [World.cell?_setCell_other _ _ _ _ (by simp)]
      exact World.cell?_setCell_same' _ _ _ (by rw [hlo]; rfl)
    have c5 : V2.cell? ⟨w.heap.size + 1 + 1, 0, none⟩ = some (.int .i64 hi) := by
      rw [hV2]
      show ((V.setCell _ _).setCell _ _).cell? _ = _
      exact World.cell?_setCell_same' _ _ _ (by rw [World.cell?_setCell_other _ _ _ _ (by simp), hhi]; rfl)
    have hDV : V2.heap[D]? = some (.deferred (some [])) := by
      rw [hV2]
      show ((V.setCell _ _).setCell _ _).heap[D]? = _
      rw [heap_set_other _ _ _ _ D (by omega), heap_set_other _ _ _ _ D (by omega)]
      exact hK
    have hbV : Below w.heap.size w V2 := by
      rw [hV2]
      exact ((hWV.setCell (p := ⟨w.heap.size + 1, 0, none⟩) (by simp) _).setCell (p := ⟨w.heap.size + 1 + 1, 0, none⟩) (by simp; omega) _).drew
    have HC4 := hide c4
    have HC5 := hide c5
    have HDV := hide hDV
    have HBV := hide hbV
    have HV2 := hide hV2
    clear hK hWV hbox HCT HRO hlo' hhi' c4 c5 hDV hbV hV2
    go_wp2_with (fail)
    go_region
    rw [← HV2.out]
    go_wp2_with (fail)
    refine leaves_marks w [D] V2 (by simp) (fun D' hD' => ?_) (fun w' hm => ⟨.tuple #[.int .i64 lo, .int .i64 hi], ?_, ?_⟩)
    · obtain rfl := List.mem_singleton.1 hD'
      exact ⟨by omega, HDV.out⟩
    · have g4 := hm.2 _ _ HC4.out
      have g5 := hm.2 _ _ HC5.out
      simp [results, Tryd.results33, go_sem, g4, g5]
    · exact ⟨by rw [HLO.out, HHI.out], Below.trans HBV.out hm.1⟩
end Go.Proofs.YtioekjkfhbopkaaDoor

/- The walk of the law SampleValid. Condition: the variables read as laid; the argument is of modest bulk. -/
namespace Go.Proofs.YtioekjkfhbopkaaDoor
open Go.RowKit Go.Deep Go.Proofs.YtioekjkfhbopkaaDoorW.PrintWords

theorem sub23' {c : Nat} (h : c ∈ [2, 3]) : c ∈ codes := by
  simp at h
  rcases h with rfl | rfl <;> simp [codes]
theorem sub7' {c : Nat} (h : c ∈ [7]) : c ∈ codes := by
  simp at h
  subst h
  simp [codes]
set_option maxRecDepth 100000 in
set_option maxHeartbeats 4000000 in
theorem law_valid (A : Option Addr) (r : List (List Int)) (c : Nat) (w : World) (a : Nat → Addr) (hS : Sent codes w a) (hH : Handle w) (hA : Lists w A r) (hc : r.length ≤ c) (hm : r.length ≤ 2000000) (hf : r.flatten.length ≤ 2000000) :
    Calls Tryd.prog 6 #[.slice A r.length c] w fun e w' => e = .returned (.bool true) ∧ Below w.heap.size w w' := by
  have hlen := hA.len
  have HTH := hide (third_any w a (hS.toEnv))
  have hfw := fun w' (hb : Below w.heap.size w w') => fewS_ok A r c w' (hA.below hb) hc hm hf
  have HRE := hide (fun w' (hb : Below w.heap.size w w') => rulesError_ok A r c w' (hA.below hb) hc)
  have HLI := hide (fun w' (hb : Below w.heap.size w w') => listsS_ok A r c w' (hA.below hb) hc hm hf)
  obtain ⟨cc, hcc, hc8⟩ := rErr_nat r
  have hva := fun (A' : Option Addr) (x : Nat) w' (hb : Below w.heap.size w w') (h1 : Lists w' A' r) (hx : r.length ≤ x) => valid_any A' r x w' a ((hS.toEnv.sub (fun c h => sub23' h)).below hb) ((hS.toEnv.sub (fun c h => sub7' h)).below hb) h1 hx
  have hcd := fun w' (hb : Below w.heap.size w w') => coded_any w' a (hS.below hb) (hH.below hb) cc hc8 cc
  rw [decide_eq_true rfl] at hcd
  rw [hcc] at hva HRE
  have HVA := hide hva
  have HCD := hide hcd
  clear hva hcd hcc
  generalize errC a (cc : Int) = ev at HVA HCD
  cases hfe : fewS r with
  | true =>
    rw [hfe] at hfw
    have HFW := hide hfw
    clear hfw hfe
    go_enter Tryd.func6, Tryd.ntmps6
    go_wp2_with (first
      | (go_at_call 9; refine Calls.mono HTH.out ?_; rintro e w1 ⟨rfl, hB1⟩)
      | (go_at_call 10; refine Calls.mono (HFW.out _ (by assumption)) ?_; rintro e w2 ⟨rfl, b2⟩; have hB2 : Below w.heap.size w w2 := below_trans (by assumption) b2)
      | (go_at_call 12; refine Calls.mono (HLI.out _ (by assumption)) ?_; rintro e w3 ⟨A3, c3, rfl, hI3, hc3, b3⟩; have hB3 : Below w.heap.size w w3 := below_trans (by assumption) b3)
      | (go_at_call 24; refine Calls.mono (HVA.out A3 c3 _ (by assumption) hI3 hc3) ?_; rintro e w4 ⟨rfl, b4⟩; have hB4 : Below w.heap.size w w4 := below_trans (by assumption) b4)
      | (go_at_call 25; refine Calls.mono (HRE.out _ (by assumption)) ?_; rintro e w5 ⟨rfl, b5⟩; have hB5 : Below w.heap.size w w5 := below_trans (by assumption) b5)
      | (go_at_call 18; refine Calls.mono (HCD.out _ (by assumption)) ?_; rintro e w6 ⟨rfl, b6⟩; have hB6 : Below w.heap.size w w6 := below_trans (by assumption) b6))
    go_ret
    exact ⟨rfl, hB6⟩
  | false =>
    rw [hfe] at hfw
    have HFW := hide hfw
    clear hfw hfe
    go_enter Tryd.func6, Tryd.ntmps6
    go_wp2_with (first
      | (go_at_call 9; refine Calls.mono HTH.out ?_; rintro e w1 ⟨rfl, hB1⟩)
      | (go_at_call 10; refine Calls.mono (HFW.out _ (by assumption)) ?_; rintro e w2 ⟨rfl, b2⟩; have hB2 : Below w.heap.size w w2 := below_trans (by assumption) b2))
    go_ret
    exact ⟨rfl, hB2⟩
end Go.Proofs.YtioekjkfhbopkaaDoor

/- The walk of sample.Past. Condition: the variables read as laid. -/
namespace Go.Proofs.YtioekjkfhbopkaaDoor
open Go.RowKit Go.Deep Go.Proofs.YtioekjkfhbopkaaDoorW.PrintWords

theorem subD23 {c : Nat} (h : c ∈ [2, 3]) : c ∈ codesD := by
  simp at h
  rcases h with rfl | rfl <;> simp [codesD]
theorem subD7 {c : Nat} (h : c ∈ [7]) : c ∈ codesD := by
  simp at h
  subst h
  simp [codesD]
theorem results_tmp4 {fn : Func} {t u v x : Tmp} (h : fn.results = #[.tmp t, .tmp u, .tmp v, .tmp x]) (tmps : Array Value) (P : Program) (w : World) :
    (results fn tmps).run P w = .ok (.tuple #[tmps.getD t undef, tmps.getD u undef, tmps.getD v undef, tmps.getD x undef]) w := by
  simp [results, h]

set_option maxRecDepth 100000 in
set_option maxHeartbeats 4000000 in
theorem past_good (A B : Option Addr) (r : List (List Int)) (tape : List Int) (c d : Nat) (w : World) (a : Nat → Addr) (hE : Env codesD w a) (hA : Lists w A r) (hB : Ints w B tape) (hc : r.length ≤ c) (hd : tape.length ≤ d) (h0 : rErr r = 0) (ht : goodT r tape) (hl : tape.length ≤ 4000) :
    Calls Tryd.prog 11 #[.slice A r.length c, .slice B tape.length d] w fun e w' => e = .returned (.tuple #[.int .i64 (pastR r (r.getD 0 []).length tape).1, .int .i64 (pastR r (r.getD 0 []).length tape).2.1, .bool (pastR r (r.getD 0 []).length tape).2.2, .nilIface]) ∧ Below w.heap.size w w' := by
  have hg := good_rules h0
  have hlen := hB.len
  have hv := valid_any A r c w a (hE.sub (fun c h => subD23 h)) (hE.sub (fun c h => subD7 h)) hA hc
  rw [h0, errC_zero] at hv
  have HV := hide hv
  have hend := fun (k : Nat) (hk : 0 < k) (hkl : k ≤ tape.length) w' (hb : Below w.heap.size w w') => ends_ok A B r _ (tape.take k) c d w' (hA.below hb) (Ints.take (hB.below hb) k) hg (ht.take k) (by rw [List.length_take]; omega) (by rw [List.length_take]; omega)
  have hend2 : ∀ (k : Nat) (hk : 0 < k) (hkl : k ≤ tape.length) w' (hb : Below w.heap.size w w'), Calls Tryd.prog 33 #[.slice A r.length c, .slice B k d] w' fun e w'' => e = .returned (.tuple #[.int .i64 (comeTo r (tape.take k) 0), .int .i64 (comeTo r (tape.take k) (((r.getD 0 []).length : Int) - 1))]) ∧ Below w'.heap.size w' w'' := fun k hk hkl w' hb => by
    have := hend k hk hkl w' hb
    rw [show (tape.take k).length = k by rw [List.length_take]; omega] at this
    exact this
  have HEND := hide hend2
  have HST := hide (fun n hn hl => pastF_step r (r.getD 0 []).length tape n hn hl)
  have HPE := hide (fun f n h => pastF_end r (r.getD 0 []).length tape f n h)
  have hpr : pastF r (r.getD 0 []).length tape (tape.length + 1 - 1) 1 = pastR r (r.getD 0 []).length tape := pastF_fuel _ _ _ _ _ _ (by omega) (by omega) (by omega)
  generalize pastR r (r.getD 0 []).length tape = res at hpr ⊢
  generalize (r.getD 0 []).length = m at hend hend2 HEND HST HPE hpr
  have HPR := hide hpr
  have HTG := hide ht
  have HBL := hide (fun w' (hb : Below w.heap.size w w') => hB.below hb)
  have hl' : (tape.length : Int) ≤ 4000 := by omega
  clear hv hend hend2 hpr ht hg h0 hE
  go_enter Tryd.func11, Tryd.ntmps11
  go_wp2_with (go_at_call 24; refine Calls.mono HV.out ?_; rintro e w1 ⟨rfl, hB1⟩)
  go_loopw [25] (fun iv wr => ∃ i : Nat, i ≤ tape.length ∧ iv = .int .i64 i ∧ Below w.heap.size w wr) (fun iv _ => tape.length - (intOf iv).toNat)
  case atStart => exact ⟨0, Nat.zero_le _, rfl, hB1⟩
  case round =>
    obtain ⟨i, hi, rfl, hBi⟩ := hrel
    obtain ⟨wi, rfl⟩ : ∃ wi : World, wi = wr := ⟨_, rfl⟩
    have i0 : (0 : Int) ≤ (i : Int) := Int.natCast_nonneg _
    by_cases hil : i < tape.length
    · have i1 : (i : Int) < (tape.length : Int) := by omega
      obtain ⟨b, off, rfl, _, hcell⟩ := (HBL.out wi hBi).at_ i hil
      have hx := HTG.out i hil
      generalize tape.getD i 0 = x at hcell hx
      obtain ⟨x0, x1⟩ := hx
      go_wp2_with (fail)
      go_roundw
      case rel => exact ⟨i + 1, by omega, by go_num, hBi⟩
      case measure => simp [intOf]; omega
    · obtain rfl : i = tape.length := by omega
      clear i0 hil hi
      go_wp2_with (fail)
      go_loopw [11] (fun kv wr => ∃ k : Nat, 0 < k ∧ k ≤ 2 * tape.length + 1 ∧ kv = .int .i64 k ∧ Hid (pastF r m tape (tape.length + 1 - k) k = res) ∧ Below w.heap.size w wr) (fun kv _ => 2 * tape.length + 2 - (intOf kv).toNat)
      case atStart => exact ⟨1, by omega, by omega, rfl, HPR, hBi⟩
      case round =>
        obtain ⟨k, hk0, hk2, rfl, HR, hBk⟩ := hrel
        obtain ⟨wk, rfl⟩ : ∃ wk : World, wk = wr := ⟨_, rfl⟩
        have k0 : (0 : Int) < (k : Int) := by omega
        by_cases hkl : k ≤ tape.length
        · have k1 : (k : Int) ≤ (tape.length : Int) := by omega
          have k2 : (k : Int) ≤ (d : Int) := by omega
          have HE1 := hide (HEND.out k hk0 hkl wk hBk)
          have hst := HST.out k hk0 hkl
          rw [HR.out] at hst
          generalize comeTo r (tape.take k) 0 = lo at HE1 hst
          generalize comeTo r (tape.take k) ((m : Int) - 1) = hi' at HE1 hst
          by_cases he : lo = hi'
          · rw [if_pos he] at hst
            have HS := hide hst
            clear hst
            subst he
            go_wp2_with (go_at_call 33; refine Calls.mono HE1.out ?_; rintro e w5 ⟨rfl, b5⟩)
            (try simp only [Exit.inBlock, Exit.then]); refine bodyPost_ret (results_tmp4 rfl _ _ _) rfl ?_
            exact ⟨by rw [HS.out]; rfl, below_trans hBk b5⟩
          · rw [if_neg he] at hst
            have HS := hide hst.symm
            have he' : (lo == hi') = false := beq_eq_false_iff_ne.2 he
            clear hst
            go_wp2_with (go_at_call 33; refine Calls.mono HE1.out ?_; rintro e w5 ⟨rfl, b5⟩)
            go_roundw
            case rel => exact ⟨k * 2, by omega, by omega, by go_num, HS, below_trans hBk b5⟩
            case measure => simp [intOf]; omega
        · have k1 : (tape.length : Int) < (k : Int) := by omega
          have hre : res = (0, 0, false) := by rw [← HR.out]; exact HPE.out _ k (by omega)
          have HRE := hide hre
          clear hre
          go_wp2_with (fail)
          (try simp only [Exit.inBlock, Exit.then]); refine bodyPost_ret (results_tmp4 rfl _ _ _) rfl ?_
          exact ⟨by rw [HRE.out]; rfl, hBk⟩

set_option maxHeartbeats 2000000 in
theorem past_rules (A B : Option Addr) (r : List (List Int)) (tape : List Int) (c d : Nat) (w : World) (a : Nat → Addr) (hE : Env codesD w a) (hA : Lists w A r) (hc : r.length ≤ c) (h0 : rErr r ≠ 0) :
    Calls Tryd.prog 11 #[.slice A r.length c, .slice B tape.length d] w fun e w' => e = .returned (.tuple #[.int .i64 0, .int .i64 0, .bool false, .iface 160 (.pointer (some (a (rErr r).toNat)))]) ∧ Below w.heap.size w w' := by
  have hv := valid_any A r c w a (hE.sub (fun c h => subD23 h)) (hE.sub (fun c h => subD7 h)) hA hc
  rw [errC_pos' a h0] at hv
  generalize a (rErr r).toNat = x at hv ⊢
  have HV := hide hv
  clear hv h0 hE
  go_enter Tryd.func11, Tryd.ntmps11
  go_wp2_with (go_at_call 24; refine Calls.mono HV.out ?_; rintro e w1 ⟨rfl, hB1⟩)
  (try simp only [Exit.inBlock, Exit.then]); refine bodyPost_ret (results_tmp4 rfl _ _ _) rfl ?_
  exact ⟨rfl, hB1⟩
/-- the first place of a tape that names no rule -/
def FirstBadT (r : List (List Int)) (tape : List Int) (i : Nat) : Prop := i < tape.length ∧ ¬ (0 ≤ tape.getD i 0 ∧ tape.getD i 0 < r.length) ∧ ∀ j, j < i → 0 ≤ tape.getD j 0 ∧ tape.getD j 0 < r.length
set_option maxRecDepth 100000 in
set_option maxHeartbeats 4000000 in
theorem past_tape (A B : Option Addr) (r : List (List Int)) (tape : List Int) (c d : Nat) (w : World) (a : Nat → Addr) (hE : Env codesD w a) (hA : Lists w A r) (hB : Ints w B tape) (hc : r.length ≤ c) (h0 : rErr r = 0) (hl : tape.length ≤ 4000) {bad : Nat} (hbad : FirstBadT r tape bad) :
    Calls Tryd.prog 11 #[.slice A r.length c, .slice B tape.length d] w fun e w' => ∃ g, e = .returned (.tuple #[.int .i64 0, .int .i64 0, .bool false, .iface 67 (.pointer (some ⟨g, 0, none⟩))]) ∧ g < w'.heap.size ∧ w'.cell? ⟨g, 0, none⟩ = some (.int .i64 bad) ∧ w'.cell? ⟨g, 1, none⟩ = some (.iface 160 (.pointer (some (a 3)))) ∧ Below w.heap.size w w' := by
  have hlen := hB.len
  have hv := valid_any A r c w a (hE.sub (fun c h => subD23 h)) (hE.sub (fun c h => subD7 h)) hA hc
  rw [h0, errC_zero] at hv
  have HV := hide hv
  have HBL := hide (fun w' (hb : Below w.heap.size w w') => hB.below hb)
  have HEN := hide (fun w' (h : Below w.heap.size w w') => (show w'.cell? ⟨1, 0, none⟩ = some (.iface 160 (.pointer (some (a 3)))) from (hE.below h).cell 3 (by decide)))
  have hl' : (tape.length : Int) ≤ 4000 := by omega
  obtain ⟨hbl, hb1, hb2⟩ := hbad
  have HB2 := hide hb2
  have HB1 := hide hb1
  clear hv h0 hE hb1 hb2
  go_enter Tryd.func11, Tryd.ntmps11
  go_wp2_with (go_at_call 24; refine Calls.mono HV.out ?_; rintro e w1 ⟨rfl, hB1⟩)
  go_loopw [25] (fun iv wr => ∃ i : Nat, i ≤ bad ∧ iv = .int .i64 i ∧ Below w.heap.size w wr) (fun iv _ => tape.length - (intOf iv).toNat)
  case atStart => exact ⟨0, Nat.zero_le _, rfl, hB1⟩
  case round =>
    obtain ⟨i, hi, rfl, hBi⟩ := hrel
    obtain ⟨wi, rfl⟩ : ∃ wi : World, wi = wr := ⟨_, rfl⟩
    have i0 : (0 : Int) ≤ (i : Int) := Int.natCast_nonneg _
    have hil : i < tape.length := by omega
    have i1 : (i : Int) < (tape.length : Int) := by omega
    obtain ⟨b, off, rfl, _, hcell⟩ := (HBL.out wi hBi).at_ i hil
    have k3 := HEN.out wi hBi
    by_cases e : i = bad
    · subst e
      have hx := HB1.out
      generalize tape.getD i 0 = x at hcell hx
      by_cases x0 : x < 0
      · clear hx
        go_wp2_with (fail)
        go_region
        all_goals go_wp2_with (fail)
        all_goals ((try simp only [Exit.inBlock, Exit.then]); refine bodyPost_ret (results_tmp4 rfl _ _ _) rfl ?_)
        all_goals exact ⟨wi.heap.size, rfl, by simp, by simp, by simp, by first | exact (hBi.alloc hBi.size _).drew | exact hBi.drew.alloc hBi.size _ | exact below_drewN' (hBi.alloc hBi.size _) _⟩
      · have x1 : (r.length : Int) ≤ x := by omega
        clear hx
        go_wp2_with (fail)
        go_region
        all_goals go_wp2_with (fail)
        all_goals ((try simp only [Exit.inBlock, Exit.then]); refine bodyPost_ret (results_tmp4 rfl _ _ _) rfl ?_)
        all_goals exact ⟨wi.heap.size, rfl, by simp, by simp, by simp, by first | exact (hBi.alloc hBi.size _).drew | exact hBi.drew.alloc hBi.size _ | exact below_drewN' (hBi.alloc hBi.size _) _⟩
    · have hx := HB2.out i (by omega)
      generalize tape.getD i 0 = x at hcell hx
      obtain ⟨x0, x1⟩ := hx
      go_wp2_with (fail)
      go_roundw
      case rel => exact ⟨i + 1, by omega, by go_num, hBi⟩
      case measure => simp [intOf]; omega
end Go.Proofs.YtioekjkfhbopkaaDoor

/- What the reference says of the past: plain. No condition. -/
namespace Go.Proofs.YtioekjkfhbopkaaDoor
open Go Go.RowKit Go.Proofs.YtioekjkfhbopkaaDoorW.PrintWords

theorem asc_mono {f : List Int} (h : asc f f.length = true) : ∀ j i, i ≤ j → j < f.length → f.getD i 0 ≤ f.getD j 0 := by
  unfold asc at h
  rw [List.all_eq_true] at h
  intro j
  induction j with
  | zero => intro i hi _; obtain rfl : i = 0 := by omega
            exact Int.le_refl _
  | succ j ih =>
    intro i hi hj
    by_cases e : i = j + 1
    · subst e; exact Int.le_refl _
    · have h1 := ih i (by omega) (by omega)
      have h2 := h (j + 1) (List.mem_range.2 hj)
      rw [decide_eq_true_eq] at h2
      rcases h2 with h2 | h2
      · omega
      · rw [Nat.add_sub_cancel] at h2; omega
theorem rules_asc {r : List (List Int)} (h : rErr r = 0) (j : Nat) (hj : j < r.length) : asc (r.getD j []) (r.getD j []).length = true := by
  unfold rErr at h
  by_cases h1 : 16 < r.length
  · rw [if_pos h1] at h; cases h
  rw [if_neg h1] at h
  cases h2 : r.any (fun f => decide (16 < f.length)) with
  | true => rw [h2, if_pos rfl] at h; cases h
  | false =>
    rw [h2, if_neg (by decide)] at h
    by_cases h3 : r.length = 0
    · omega
    rw [if_neg h3] at h
    cases h4 : r.all (goodR (r.getD 0 []).length) with
    | false => rw [h4, if_neg (by decide)] at h; cases h
    | true =>
      rw [h4, if_pos rfl] at h
      cases h5 : r.all (fun f => asc f f.length) with
      | false => rw [h5, if_neg (by decide)] at h; cases h
      | true =>
        rw [List.all_eq_true] at h5
        rw [getDL_eq r j hj]
        exact h5 _ (List.getElem_mem hj)
theorem stepR_mono {r : List (List Int)} {n : Nat} (h : GoodRs r n) (ha : ∀ j, j < r.length → asc (r.getD j []) (r.getD j []).length = true) {k x y : Int} (hk : 0 ≤ k ∧ k < r.length) (hx : 0 ≤ x) (hxy : x ≤ y) (hy : y < n) : stepR r k x ≤ stepR r k y :=
  asc_mono (ha k.toNat (by omega)) y.toNat x.toNat (by omega) (by rw [(h.rows k.toNat (by omega)).1]; omega)
theorem goodT_cons {r : List (List Int)} {k : Int} {l : List Int} (ht : goodT r (k :: l)) : (0 ≤ k ∧ k < r.length) ∧ goodT r l :=
  ⟨by have := ht 0 (by simp); simpa using this, fun i hi => by have := ht (i + 1) (by simpa using hi); simpa using this⟩
theorem comeTo_mono {r : List (List Int)} {n : Nat} (h : GoodRs r n) (ha : ∀ j, j < r.length → asc (r.getD j []) (r.getD j []).length = true) {tape : List Int} (ht : goodT r tape) {x y : Int} (hx : 0 ≤ x) (hxy : x ≤ y) (hy : y < n) : comeTo r tape x ≤ comeTo r tape y := by
  induction tape with
  | nil => exact hxy
  | cons k l ih =>
    obtain ⟨hk, hl⟩ := goodT_cons ht
    rw [comeTo_cons, comeTo_cons]
    exact stepR_mono h ha hk (comeTo_range h hl ⟨hx, by omega⟩).1 (ih hl) (comeTo_range h hl ⟨by omega, hy⟩).2
def comesRes (r : List (List Int)) (m : Nat) (tape : List Int) : Int := if comeTo r tape 0 = comeTo r tape ((m : Int) - 1) then comeTo r tape 0 else -1
theorem comesTo_l1 {r : List (List Int)} {n : Nat} (h : GoodRs r n) {tape : List Int} (ht : goodT r tape) (hl : tape.length ≤ 2000000) (out : Int) (s : Nat) (hs : s < n) (res : Int)
    (fin : Ev (fun k => if (s : Int) > 0 then (if comeTo r tape s = out then (PSamplePast.demonref4_ComesTo.l0 k r tape (comeTo r tape s) (wrap64 ((s : Int) + 1))) else (some (-1))) else (PSamplePast.demonref4_ComesTo.l0 k r tape (comeTo r tape s) (wrap64 ((s : Int) + 1)))) res) :
    ∀ i, i ≤ tape.length → Ev (fun k => PSamplePast.demonref4_ComesTo.l1 k r tape out (s : Int) (comeTo r (tape.drop i) s) ((i : Int) - 1)) res := by
  have h16 := h.n16
  intro i
  induction i with
  | zero =>
    intro _
    refine Ev.step (fun k => ?_) fin
    simp only [PSamplePast.demonref4_ComesTo.l1]
    rw [if_neg (by omega), List.drop_zero]
  | succ i ih =>
    intro hi
    have hil : i < tape.length := by omega
    obtain ⟨t0, t1⟩ := ht i hil
    have hgd : goodT r (tape.drop (i + 1)) := fun j hj => by
      rw [List.length_drop] at hj
      have := ht (i + 1 + j) (by omega)
      rw [List.getD_eq_getElem?_getD, List.getElem?_drop, ← List.getD_eq_getElem?_getD]
      exact this
    obtain ⟨x0, x1⟩ := comeTo_range h hgd (s := (s : Int)) ⟨by omega, by omega⟩
    have ed : tape.drop i = tape.getD i 0 :: tape.drop (i + 1) := by rw [List.drop_eq_getElem_cons hil, getD_eq tape i 0 hil]
    have hrow := (h.rows (tape.getD i 0).toNat (by omega)).1
    have hih := ih (by omega)
    rw [ed, comeTo_cons] at hih
    refine Ev.step (fun k => ?_) hih
    have e1 : ((i + 1 : Nat) : Int) - 1 = (i : Int) := by omega
    have e2 : wrap64 ((i : Int) - 1) = (i : Int) - 1 := by unfold wrap64; omega
    have e3 : PSamplePast.rd_L1 r (tape.getD i 0) = r.getD (tape.getD i 0).toNat [] := rfl
    rw [e1]
    simp only [PSamplePast.demonref4_ComesTo.l1]
    rw [if_pos (by omega), if_pos (by omega), if_pos (by omega), rd_nat, if_pos (by omega), if_pos (by omega), if_pos (by omega), e3, if_pos (by rw [hrow]; omega), e2]
    rfl
theorem comesTo_l0 {r : List (List Int)} {n : Nat} (h : GoodRs r n) (ha : ∀ j, j < r.length → asc (r.getD j []) (r.getD j []).length = true) {tape : List Int} (ht : goodT r tape) (hl : tape.length ≤ 2000000) : ∀ (e s : Nat) (out : Int), s + e = n → (0 < s → out = comeTo r tape ((s : Int) - 1)) → (∀ j : Nat, j < s → comeTo r tape j = comeTo r tape 0) →
    Ev (fun k => PSamplePast.demonref4_ComesTo.l0 k r tape out (s : Int)) (comesRes r n tape) := by
  have h16 := h.n16
  have hn0 := h.n0
  have hp := h.pos
  have hf : (PSamplePast.rd_L1 r 0).length = n := h.first
  intro e
  induction e with
  | zero =>
    intro s out hs ho hall
    obtain rfl : s = n := by omega
    have e1 := ho hn0
    have e2 := hall (s - 1) (by omega)
    rw [show ((s - 1 : Nat) : Int) = (s : Int) - 1 by omega] at e2
    refine Ev.step (f := fun _ => some (comesRes r s tape)) (fun k => ?_) (Ev.now _)
    simp only [PSamplePast.demonref4_ComesTo.l0]
    rw [if_pos (by omega), hf, if_neg (by omega), e1]
    unfold comesRes
    rw [if_pos e2.symm, e2]
  | succ e ih =>
    intro s out hs ho hall
    have hsn : s < n := by omega
    have hw : wrap64 ((s : Int) + 1) = ((s + 1 : Nat) : Int) := wrap_up s (by omega)
    have hl1 : wrap64 ((tape.length : Int) - 1) = (tape.length : Int) - 1 := by unfold wrap64; omega
    have hnext : comeTo r tape s = comeTo r tape 0 → Ev (fun k => PSamplePast.demonref4_ComesTo.l0 k r tape (comeTo r tape s) (wrap64 ((s : Int) + 1))) (comesRes r n tape) := fun heq => by
      rw [hw]
      refine ih (s + 1) _ (by omega) (fun _ => by rw [show ((s + 1 : Nat) : Int) - 1 = (s : Int) by omega]) (fun j hj => ?_)
      by_cases q : j = s
      · subst q; exact heq
      · exact hall j (by omega)
    have hl1' := comesTo_l1 h ht hl out s hsn (comesRes r n tape) (by
      rcases Nat.eq_zero_or_pos s with q | q
      · subst q
        exact Ev.congr (fun k => by rw [if_neg (by omega)]) (hnext rfl)
      · have e1 := ho q
        have e2 := hall (s - 1) (by omega)
        rw [show ((s - 1 : Nat) : Int) = (s : Int) - 1 by omega] at e2
        by_cases heq : comeTo r tape s = out
        · exact Ev.congr (fun k => by rw [if_pos (by omega), if_pos heq]) (hnext (by rw [heq, e1, e2]))
        · refine Ev.congr (f := fun _ => some (comesRes r n tape)) (fun k => ?_) (Ev.now _)
          rw [if_pos (by omega), if_neg heq]
          have m1 := comeTo_mono h ha ht (x := (s : Int) - 1) (y := (s : Int)) (by omega) (by omega) (by omega)
          have m2 := comeTo_mono h ha ht (x := (s : Int)) (y := (n : Int) - 1) (by omega) (by omega) (by omega)
          unfold comesRes
          rw [if_neg (by rw [e1] at heq; omega)]) tape.length (Nat.le_refl _)
    rw [List.drop_length] at hl1'
    refine Ev.step (fun k => ?_) hl1'
    simp only [PSamplePast.demonref4_ComesTo.l0]
    rw [if_pos (by omega), hf, if_pos (by omega), hl1]
    rfl
theorem comesTo_f {r : List (List Int)} {n : Nat} (h : GoodRs r n) (ha : ∀ j, j < r.length → asc (r.getD j []) (r.getD j []).length = true) {tape : List Int} (ht : goodT r tape) (hl : tape.length ≤ 2000000) : Ev (fun k => PSamplePast.demonref4_ComesTo.f k r tape) (comesRes r n tape) :=
  comesTo_l0 h ha ht hl n 0 (-1) (by omega) (fun q => absurd q (Nat.lt_irrefl _)) (fun j hj => absurd hj (Nat.not_lt_zero _))
theorem pastOf_l0 {r : List (List Int)} {m : Nat} (h : GoodRs r m) (ha : ∀ j, j < r.length → asc (r.getD j []) (r.getD j []).length = true) {tape : List Int} (ht : goodT r tape) (hl : tape.length ≤ 2000000) : ∀ (f n : Nat), 0 < n → n ≤ 2 * tape.length + 1 → tape.length + 1 - n ≤ f → Ev (fun k => PSamplePast.demonref4_PastOf.l0 k r tape (n : Int)) (pastF r m tape (tape.length + 1 - n) n) := by
  have hm0 := h.n0
  intro f
  induction f with
  | zero =>
    intro n hn _ hf
    rw [pastF_end r m tape _ n (by omega)]
    refine Ev.step (f := fun _ => some (0, 0, false)) (fun k => ?_) (Ev.now _)
    simp only [PSamplePast.demonref4_PastOf.l0]
    rw [if_neg (by omega)]
  | succ f ih =>
    intro n hn hn2 hf
    by_cases hnl : n ≤ tape.length
    · have hc := comesTo_f h ha (ht.take n) (by rw [List.length_take]; omega)
      have hw : wrap64 ((n : Int) * 2) = ((n * 2 : Nat) : Int) := by unfold wrap64; omega
      have hrg := comeTo_range h (ht.take n) (s := 0) ⟨by omega, by omega⟩
      rw [pastF_step r m tape n hn hnl]
      refine Ev.step (f := fun k => (PSamplePast.demonref4_ComesTo.f k r (tape.take n)).bind fun t => if t ≥ 0 then some (t, (n : Int), true) else PSamplePast.demonref4_PastOf.l0 k r tape (wrap64 ((n : Int) * 2))) (fun k => ?_) (Ev.bind (f := fun k t => if t ≥ 0 then some (t, (n : Int), true) else PSamplePast.demonref4_PastOf.l0 k r tape (wrap64 ((n : Int) * 2))) hc ?_)
      · simp only [PSamplePast.demonref4_PastOf.l0]
        rw [if_pos (by omega), if_pos (by omega), Int.toNat_natCast]
      · unfold comesRes
        by_cases he : comeTo r (tape.take n) 0 = comeTo r (tape.take n) ((m : Int) - 1)
        · rw [if_pos he, if_pos he]
          exact Ev.congr (fun k => by rw [if_pos (by omega)]) (Ev.now _)
        · rw [if_neg he, if_neg he]
          exact Ev.congr (fun k => by rw [if_neg (by omega), hw]) (ih (n * 2) (by omega) (by omega) (by omega))
    · rw [pastF_end r m tape _ n (by omega)]
      refine Ev.step (f := fun _ => some (0, 0, false)) (fun k => ?_) (Ev.now _)
      simp only [PSamplePast.demonref4_PastOf.l0]
      rw [if_neg (by omega)]
theorem pastOf_f {r : List (List Int)} {m : Nat} (h : GoodRs r m) (ha : ∀ j, j < r.length → asc (r.getD j []) (r.getD j []).length = true) {tape : List Int} (ht : goodT r tape) (hl : tape.length ≤ 2000000) : Ev (fun k => PSamplePast.demonref4_PastOf.f k r tape) (pastR r m tape) := by
  have := pastOf_l0 h ha ht hl (tape.length + 1) 1 (by omega) (by omega) (by omega)
  rw [pastF_fuel r m tape (tape.length + 1 - 1) 1 (tape.length + 1) (by omega) (by omega) (by omega)] at this
  exact this
theorem pastOf_ok (A B : Option Addr) (r : List (List Int)) (tape : List Int) (c d : Nat) (w : World) (hA : Lists w A r) (hB : Ints w B tape) (hc : r.length ≤ c) (hd : tape.length ≤ d) (h0 : rErr r = 0) (ht : goodT r tape) (hl : tape.length ≤ 2000000) :
    Calls Tryd.prog 26 #[.slice A r.length c, .slice B tape.length d] w fun e w' => e = .returned (.tuple #[.int .i64 (pastR r (r.getD 0 []).length tape).1, .int .i64 (pastR r (r.getD 0 []).length tape).2.1, .bool (pastR r (r.getD 0 []).length tape).2.2]) ∧ Below w.heap.size w w' := by
  obtain ⟨k, hk⟩ := (pastOf_f (good_rules h0) (rules_asc h0) ht hl).rounds
  refine (PSamplePast.demonref4_PastOf.calls k A c r B d tape _ _ _ w hA.toC hc hB.toC hd hk).mono ?_
  rintro e w' ⟨rfl, h⟩
  exact ⟨rfl, drawn_below h⟩
end Go.Proofs.YtioekjkfhbopkaaDoor

/- The walk of the law SampleStays. Condition: the variables read as laid; the arguments are of modest bulk. -/
namespace Go.Proofs.YtioekjkfhbopkaaDoor
open Go.RowKit Go.Deep Go.Proofs.YtioekjkfhbopkaaDoorW.PrintWords

/-- a copy that the call owns -/
theorem ints_own (A : Option Addr) (l : List Int) (c : Nat) (w : World) (hA : Ints w A l) (hc : l.length ≤ c) (hl : l.length ≤ 2000000) :
    Calls Tryd.prog 13 #[.slice A l.length c] w fun e w' => ∃ B d, e = .returned (.slice B l.length d) ∧ w'.ownsRow w.heap.size 3 1 (.slice B l.length d) l.length (intCells l) ∧ Ints w' B l ∧ l.length ≤ d ∧ Below w.heap.size w w' := by
  refine (PSampleDraw.demonlaw4_ints.calls A c l l w hA.toC hc (by unfold PSampleDraw.demonlaw4_ints.f; simp; omega)).mono ?_
  rintro e w' ⟨v, rfl, hR, hb⟩
  obtain ⟨inner, ho⟩ := Kd.R_own hR
  obtain ⟨B, d, rfl, hI, hd⟩ := Ints.ofR hR
  have ho' : w'.ownsRow w.heap.size 3 1 (.slice B l.length d) l.length inner := ho
  have e : inner = intCells l := by
    have h1 : inner.length = l.length := by have := ho'.1; omega
    apply List.ext_getElem?
    intro j
    by_cases hj : j < l.length
    · obtain ⟨g, cap, e, _, _⟩ := ho'.form (by omega)
      injection e with e1 _ e2
      subst e1 e2
      have h2 := ho'.cellAt j (by omega)
      obtain ⟨b, off, e3, _, h3⟩ := hI.at_ j hj
      injection e3 with e3
      injection e3 with e3 e4 _
      subst e3 e4
      rw [Nat.zero_add] at h3
      rw [← h2, h3, intCells_at l j hj]
    · rw [List.getElem?_eq_none (by omega), List.getElem?_eq_none (by rw [intCells_length]; omega)]
  rw [e] at ho'
  exact ⟨B, d, rfl, ho', hI, hd, hb⟩
theorem not_goodT {r : List (List Int)} {tape : List Int} (h : ¬ goodT r tape) : ∃ i, FirstBadT r tape i := by
  have ex : ∃ i, i < tape.length ∧ ¬ (0 ≤ tape.getD i 0 ∧ tape.getD i 0 < r.length) := by
    rcases Classical.em (∃ i, i < tape.length ∧ ¬ (0 ≤ tape.getD i 0 ∧ tape.getD i 0 < r.length)) with q | q
    · exact q
    · exact absurd (fun i hi => Classical.byContradiction fun g => q ⟨i, hi, g⟩) h
  obtain ⟨i, hi⟩ := ex
  have key : ∀ n i, i ≤ n → (i < tape.length ∧ ¬ (0 ≤ tape.getD i 0 ∧ tape.getD i 0 < r.length)) → ∃ i, FirstBadT r tape i := by
    intro n
    induction n with
    | zero => intro i h0 hi; obtain rfl : i = 0 := by omega
              exact ⟨0, hi.1, hi.2, fun j hj => absurd hj (Nat.not_lt_zero _)⟩
    | succ n ih =>
      intro i hn hi
      by_cases q : ∃ j, j < i ∧ ¬ (0 ≤ tape.getD j 0 ∧ tape.getD j 0 < r.length)
      · obtain ⟨j, hj, hb⟩ := q
        exact ih j (by omega) ⟨by omega, hb⟩
      · exact ⟨i, hi.1, hi.2, fun j hj => Classical.byContradiction fun g => q ⟨j, hj, g⟩⟩
  exact key i i (Nat.le_refl _) hi
end Go.Proofs.YtioekjkfhbopkaaDoor

/- The walks of faulted and of the law SamplePast. Condition: the variables read as laid; the arguments are of modest bulk. -/
namespace Go.Proofs.YtioekjkfhbopkaaDoor
open Go.RowKit Go.Deep Go.Proofs.YtioekjkfhbopkaaDoorW.PrintWords

/-- an error value that stands for the fault (code, place) -/
def FaultErr (w : World) (a : Nat → Addr) (err : Value) (c p : Int) : Prop :=
  (c = 0 ∧ err = .nilIface) ∨ (∃ k : Nat, 1 ≤ k ∧ k ≤ 8 ∧ c = (k : Int) ∧ p = -1 ∧ err = .iface 160 (.pointer (some (a k)))) ∨
  (∃ (k g : Nat), 1 ≤ k ∧ k ≤ 8 ∧ c = (k : Int) ∧ err = .iface 67 (.pointer (some ⟨g, 0, none⟩)) ∧ g < w.heap.size ∧ w.cell? ⟨g, 0, none⟩ = some (.int .i64 p) ∧ w.cell? ⟨g, 1, none⟩ = some (.iface 160 (.pointer (some (a k)))))
set_option maxHeartbeats 2000000 in
theorem faulted_ok (w : World) (a : Nat → Addr) (hS : Sent codes w a) (hH : Handle w) (err : Value) (c p : Int) (h : FaultErr w a err c p) :
    Calls Tryd.prog 27 #[err, .agg #[.int .i64 c, .int .i64 p]] w fun e w' => e = .returned (.bool true) ∧ Below w.heap.size w w' := by
  have hb0 : Below w.heap.size w (w.alloc (.cells #[.int .i64 c, .int .i64 p] 54)) := below_alloc' (Below.refl _ _) _
  have HB0 := hide hb0
  have hcell := fun w' (h : Below (w.alloc (.cells #[.int .i64 c, .int .i64 p] 54)).heap.size (w.alloc (.cells #[.int .i64 c, .int .i64 p] 54)) w') => (⟨(h.cell (p := ⟨w.heap.size, 0, none⟩) (by simp)).trans (by simp), (h.cell (p := ⟨w.heap.size, 1, none⟩) (by simp)).trans (by simp)⟩ :
    w'.cell? ⟨w.heap.size, 0, none⟩ = some (.int .i64 c) ∧ w'.cell? ⟨w.heap.size, 1, none⟩ = some (.int .i64 p))
  have HCE := hide hcell
  clear hcell
  rcases h with ⟨rfl, rfl⟩ | ⟨k, h1, h8, hc, rfl, rfl⟩ | ⟨k, g, h1, h8, hc, rfl, hg, hp, he⟩
  · have e0 : ((0 : Int) == 0) = true := by decide
    go_enter Tryd.func27, Tryd.ntmps27
    go_wp2_with (go_at_call 39; refine Calls.mono (code_nil _) ?_; rintro e w1 ⟨rfl, hw1⟩; have hB1 := Below.refl (w.alloc (.cells #[.int .i64 0, .int .i64 p] 54)).heap.size (w.alloc (.cells #[.int .i64 0, .int .i64 p] 54)); rw [hw1] at hB1; obtain ⟨z0, z1⟩ := HCE.out w1 (by rw [hw1]; exact Below.refl _ _))
    go_ret
    exact ⟨rfl, by rw [← hw1]; exact HB0.out⟩
  · have hcd := code_sent (w.alloc (.cells #[.int .i64 c, .int .i64 (-1)] 54)) a (hS.below hb0) (hH.below hb0) k h1 h8
    rw [← hc] at hcd
    have HCD := hide hcd
    have b1 : (c == 0) = false := by rw [beq_eq_false_iff_ne]; omega
    have b2 : ((-1 : Int) == -1) = true := by decide
    have b3 : (c == c) = true := by simp
    clear hcd hc
    generalize a k = ak at HCD
    go_enter Tryd.func27, Tryd.ntmps27
    go_wp2_with (go_at_call 39; refine Calls.mono HCD.out ?_; rintro e w1 ⟨rfl, hb1⟩; obtain ⟨z0, z1⟩ := HCE.out w1 hb1)
    go_ret
    exact ⟨rfl, below_trans HB0.out hb1⟩
  · have hcd := code_fault (w.alloc (.cells #[.int .i64 c, .int .i64 p] 54)) a (hS.below hb0) (hH.below hb0) k h1 h8 g 0 p (Nat.lt_of_lt_of_le hg hb0.size) ((hb0.cell (p := ⟨g, 0, none⟩) hg).trans hp) ((hb0.cell (p := ⟨g, 1, none⟩) hg).trans he)
    rw [← hc] at hcd
    have HCD := hide hcd
    have b1 : (c == 0) = false := by rw [beq_eq_false_iff_ne]; omega
    have b2 : (p == p) = true := by simp
    have b3 : (c == c) = true := by simp
    clear hcd hc
    go_enter Tryd.func27, Tryd.ntmps27
    go_wp2_with (go_at_call 39; refine Calls.mono HCD.out ?_; rintro e w1 ⟨rfl, hb1⟩; obtain ⟨z0, z1⟩ := HCE.out w1 hb1)
    go_ret
    exact ⟨rfl, below_trans HB0.out hb1⟩

/-- later than the world W -/
theorem later {W w w' : World} (h : Below W.heap.size W w) (b : Below w.heap.size w w') : Below W.heap.size W w' := below_trans h b
set_option maxHeartbeats 2000000 in
theorem past_long (A B : Option Addr) (r : List (List Int)) (tape : List Int) (c d : Nat) (w : World) (a : Nat → Addr) (hE : Env codesD w a) (hA : Lists w A r) (hB : Ints w B tape) (hc : r.length ≤ c) (h0 : rErr r = 0) (hl : 4000 < tape.length) :
    Calls Tryd.prog 11 #[.slice A r.length c, .slice B tape.length d] w fun e w' => e = .returned (.tuple #[.int .i64 0, .int .i64 0, .bool false, .iface 160 (.pointer (some (a 2)))]) ∧ Below w.heap.size w w' := by
  have hlb := hB.len
  have hv := valid_any A r c w a (hE.sub (fun c h => subD23 h)) (hE.sub (fun c h => subD7 h)) hA hc
  rw [h0, errC_zero] at hv
  have HV := hide hv
  have HEN := hide (fun w' (h : Below w.heap.size w w') => (show w'.cell? ⟨0, 0, none⟩ = some (.iface 160 (.pointer (some (a 2)))) from (hE.below h).cell 2 (by decide)))
  have hl' : (4000 : Int) < (tape.length : Int) := by omega
  clear hv h0 hE
  go_enter Tryd.func11, Tryd.ntmps11
  go_wp2_with (go_at_call 24; refine Calls.mono HV.out ?_; rintro e w1 ⟨rfl, hB1⟩; have k2 := HEN.out w1 hB1)
  go_region
  go_wp2_with (fail)
  (try simp only [Exit.inBlock, Exit.then]); refine bodyPost_ret (results_tmp4 rfl _ _ _) rfl ?_
  exact ⟨rfl, hB1.drew⟩
set_option maxRecDepth 100000 in
set_option maxHeartbeats 4000000 in
theorem law_past_rules (A B : Option Addr) (r : List (List Int)) (tape : List Int) (c d : Nat) (w : World) (a : Nat → Addr) (hS : Sent codes w a) (hH : Handle w) (hA : Lists w A r) (hB : Ints w B tape) (hc : r.length ≤ c) (hd : tape.length ≤ d) (hm : r.length ≤ 2000000) (hfl : r.flatten.length ≤ 2000000) (h1 : fewS r = true) (h5 : ¬ 5000 < (tape.length : Int)) (h4 : ¬ (400 < (tape.length : Int) ∧ (tape.length : Int) ≤ 4000)) (h0 : rErr r ≠ 0) :
    Calls Tryd.prog 7 #[.slice A r.length c, .slice B tape.length d] w fun e w' => e = .returned (.bool true) ∧ Below w.heap.size w w' := by
  have hlb := hB.len
  have hED := fun w' (hb : Below w.heap.size w w') => ((hS.toEnv.sub (fun c h => codesD_sub h)).below hb : Env codesD w' a)
  have HTH := hide (third_any w a (hS.toEnv))
  have hfw := fun w' (hb : Below w.heap.size w w') => fewS_ok A r c w' (hA.below hb) hc hm hfl
  rw [h1] at hfw
  have HFW := hide hfw
  have HLI := hide (fun w' (hb : Below w.heap.size w w') => listsS_ok A r c w' (hA.below hb) hc hm hfl)
  have HIN := hide (fun w' (hb : Below w.heap.size w w') => ints_ok B tape d w' (hB.below hb) hd (by omega))
  have hre := fun w' (hb : Below w.heap.size w w') => rulesError_ok A r c w' (hA.below hb) hc
  have HFA := hide (fun w' (hb : Below w.heap.size w w') err c p h => faulted_ok w' a (hS.below hb) (hH.below hb) err c p h)
  have HBL := hide (fun w' (hb : Below w.heap.size w w') => hB.below hb)
  have hp := fun (A' B' : Option Addr) (x y : Nat) w' (hb : Below w.heap.size w w') (hL : Lists w' A' r) (hx : r.length ≤ x) => past_rules A' B' r tape x y w' a (hED w' hb) hL hx h0
  obtain ⟨cc, hcc, hc8⟩ := rErr_nat r
  rw [hcc] at hp hre h0
  simp only [Int.toNat_natCast] at hp
  have hc0 : 1 ≤ cc := by omega
  have hcn : ((cc : Int) == 0) = false := beq_eq_false_iff_ne.2 h0
  have HP := hide hp
  have HRE := hide hre
  have HFE : Hid (∀ w', FaultErr w' a (.iface 160 (.pointer (some (a cc)))) (cc : Int) (-1)) := hide (fun w' => .inr (.inl ⟨cc, hc0, hc8, rfl, rfl, rfl⟩))
  have hsz : decide (400 < (tape.length : Int)) = false ∨ (400 < (tape.length : Int) ∧ decide ((tape.length : Int) ≤ 4000) = false) := by
    by_cases h : 400 < (tape.length : Int)
    · exact .inr ⟨h, decide_eq_false (fun h' => h4 ⟨h, h'⟩)⟩
    · exact .inl (decide_eq_false h)
  clear hp hre hcc h0 h1 hfw h4 hED
  rcases hsz with s1 | ⟨s1, s2⟩
  all_goals
    go_enter Tryd.func7, Tryd.ntmps7
    go_wp2_with (first
        | (go_at_call 9; refine Calls.mono HTH.out ?_; rintro e w1 ⟨rfl, hB1⟩)
        | (go_at_call 10; refine Calls.mono (HFW.out _ (by assumption)) ?_; rintro e w2 ⟨rfl, b2⟩; have hB2 : Below w.heap.size w w2 := below_trans (by assumption) b2)
        | (go_at_call 25; refine Calls.mono (HRE.out _ (by assumption)) ?_; rintro e w3 ⟨rfl, b3⟩; have hB3 : Below w.heap.size w w3 := below_trans (by assumption) b3
           have z0 := alloc_at w3 (.cells #[.int .i64 cc, .int .i64 (-1)] 54)
           have hBa : Below w.heap.size w (w3.alloc (.cells #[.int .i64 cc, .int .i64 (-1)] 54)) := below_alloc' hB3 _
           obtain ⟨y0, q0⟩ := cell_of _ _ 0 _ _ (.int .i64 cc) z0 rfl
           obtain ⟨y1, q1'⟩ := cell_of _ _ 1 _ _ (.int .i64 (-1)) z0 rfl))
    go_loopw [7] (fun iv wr => iv = .int .i64 0 ∧ wr = w3.alloc (.cells #[.int .i64 cc, .int .i64 (-1)] 54)) (fun _ _ => 0)
    case atStart => exact ⟨rfl, rfl⟩
    case round =>
      obtain ⟨rfl, rfl⟩ := hrel
      have HCE := hide (fun w' (h : Below (w3.alloc (.cells #[.int .i64 cc, .int .i64 (-1)] 54)).heap.size (w3.alloc (.cells #[.int .i64 cc, .int .i64 (-1)] 54)) w') => (⟨(h.cell (p := ⟨w3.heap.size, 0, none⟩) (by simp)).trans y0, (h.cell (p := ⟨w3.heap.size, 1, none⟩) (by simp)).trans y1⟩ : w'.cell? ⟨w3.heap.size, 0, none⟩ = some (.int .i64 cc) ∧ w'.cell? ⟨w3.heap.size, 1, none⟩ = some (.int .i64 (-1))))
      have hL0 : Below (w3.alloc (.cells #[.int .i64 cc, .int .i64 (-1)] 54)).heap.size (w3.alloc (.cells #[.int .i64 cc, .int .i64 (-1)] 54)) (w3.alloc (.cells #[.int .i64 cc, .int .i64 (-1)] 54)) := Below.refl _ _
      go_wp2_with (first
          | (go_at_call 26; refine Calls.mono (HPO.out _ (by assumption)) ?_; rintro e w41 ⟨rfl, b41⟩; have hB41 : Below w.heap.size w w41 := below_trans (by assumption) b41; have hL41 := later (by assumption) b41)
          | (go_at_call 12; refine Calls.mono (HLI.out _ (by assumption)) ?_; rintro e w5 ⟨A5, c5, rfl, hI5, hc5, b5⟩; have hB5 : Below w.heap.size w w5 := below_trans (by assumption) b5; have hL5 := later (by assumption) b5)
          | (go_at_call 13; refine Calls.mono (HIN.out _ (by assumption)) ?_; rintro e w6 ⟨B6, d6, rfl, hI6, hd6, b6⟩; have hB6 : Below w.heap.size w w6 := below_trans (by assumption) b6; have hL6 := later (by assumption) b6; have hA6 := hI5.below b6)
          | (go_at_call 11; refine Calls.mono (HP.out A5 B6 c5 d6 _ (by assumption) hA6 hc5) ?_; rintro e w7 ⟨rfl, b7⟩; have hB7 : Below w.heap.size w w7 := below_trans (by assumption) b7; have hL7 := later (by assumption) b7; obtain ⟨x0, x1⟩ := HCE.out w7 hL7)
          | (go_at_call 27; refine Calls.mono (HFA.out _ (by assumption) _ _ _ (HFE.out w7)) ?_; rintro e w8 ⟨rfl, b8⟩; have hB8 : Below w.heap.size w w8 := below_trans (by assumption) b8))
      all_goals go_ret
      all_goals exact ⟨by simp, hB8⟩
set_option maxRecDepth 100000 in
set_option maxHeartbeats 4000000 in
theorem law_past_long (A B : Option Addr) (r : List (List Int)) (tape : List Int) (c d : Nat) (w : World) (a : Nat → Addr) (hS : Sent codes w a) (hH : Handle w) (hA : Lists w A r) (hB : Ints w B tape) (hc : r.length ≤ c) (hd : tape.length ≤ d) (hm : r.length ≤ 2000000) (hfl : r.flatten.length ≤ 2000000) (h1 : fewS r = true) (h5 : ¬ 5000 < (tape.length : Int)) (h4 : (4000 : Int) < tape.length) (h0 : rErr r = 0) :
    Calls Tryd.prog 7 #[.slice A r.length c, .slice B tape.length d] w fun e w' => e = .returned (.bool true) ∧ Below w.heap.size w w' := by
  have hlb := hB.len
  have hED := fun w' (hb : Below w.heap.size w w') => ((hS.toEnv.sub (fun c h => codesD_sub h)).below hb : Env codesD w' a)
  have HTH := hide (third_any w a (hS.toEnv))
  have hfw := fun w' (hb : Below w.heap.size w w') => fewS_ok A r c w' (hA.below hb) hc hm hfl
  rw [h1] at hfw
  have HFW := hide hfw
  have HLI := hide (fun w' (hb : Below w.heap.size w w') => listsS_ok A r c w' (hA.below hb) hc hm hfl)
  have HIN := hide (fun w' (hb : Below w.heap.size w w') => ints_ok B tape d w' (hB.below hb) hd (by omega))
  have hre := fun w' (hb : Below w.heap.size w w') => rulesError_ok A r c w' (hA.below hb) hc
  have HFA := hide (fun w' (hb : Below w.heap.size w w') err c p h => faulted_ok w' a (hS.below hb) (hH.below hb) err c p h)
  have HBL := hide (fun w' (hb : Below w.heap.size w w') => hB.below hb)
  have hp := fun (A' B' : Option Addr) (x y : Nat) w' (hb : Below w.heap.size w w') (hL : Lists w' A' r) (hI : Ints w' B' tape) (hx : r.length ≤ x) => past_long A' B' r tape x y w' a (hED w' hb) hL hI hx h0 (by omega)
  rw [h0] at hre
  have HP := hide hp
  have HRE := hide hre
  have HFE : Hid (∀ w', FaultErr w' a (.iface 160 (.pointer (some (a 2)))) 2 (-1)) := hide (fun w' => .inr (.inl ⟨2, by decide, by decide, rfl, rfl, rfl⟩))
  have s1 : (400 : Int) < (tape.length : Int) := by omega
  have s2 : decide ((tape.length : Int) ≤ 4000) = false := decide_eq_false (by omega)
  clear hp hre h0 h1 hfw hED
  go_enter Tryd.func7, Tryd.ntmps7
  go_wp2_with (first
      | (go_at_call 9; refine Calls.mono HTH.out ?_; rintro e w1 ⟨rfl, hB1⟩)
      | (go_at_call 10; refine Calls.mono (HFW.out _ (by assumption)) ?_; rintro e w2 ⟨rfl, b2⟩; have hB2 : Below w.heap.size w w2 := below_trans (by assumption) b2)
      | (go_at_call 25; refine Calls.mono (HRE.out _ (by assumption)) ?_; rintro e w3 ⟨rfl, b3⟩; have hB3 : Below w.heap.size w w3 := below_trans (by assumption) b3
         have z0 := alloc_at w3 (.cells #[.int .i64 0, .int .i64 (-1)] 54)
         have hBa : Below w.heap.size w (w3.alloc (.cells #[.int .i64 0, .int .i64 (-1)] 54)) := below_alloc' hB3 _
         obtain ⟨y0, q0⟩ := cell_of _ _ 0 _ _ (.int .i64 0) z0 rfl
         obtain ⟨y1, q1'⟩ := cell_of _ _ 1 _ _ (.int .i64 (-1)) z0 rfl))
  go_loopw [7] (fun iv wr => iv = .int .i64 0 ∧ wr = w3.alloc (.cells #[.int .i64 2, .int .i64 (-1)] 54)) (fun _ _ => 0)
  case atStart => exact ⟨rfl, rfl⟩
  case round =>
    obtain ⟨rfl, rfl⟩ := hrel
    have z0 := alloc_at w3 (.cells #[.int .i64 2, .int .i64 (-1)] 54)
    obtain ⟨y0, q0⟩ := cell_of _ _ 0 _ _ (.int .i64 2) z0 rfl
    obtain ⟨y1, q1'⟩ := cell_of _ _ 1 _ _ (.int .i64 (-1)) z0 rfl
    have hBa : Below w.heap.size w (w3.alloc (.cells #[.int .i64 2, .int .i64 (-1)] 54)) := below_alloc' hB3 _
    have HCE := hide (fun w' (h : Below (w3.alloc (.cells #[.int .i64 2, .int .i64 (-1)] 54)).heap.size (w3.alloc (.cells #[.int .i64 2, .int .i64 (-1)] 54)) w') => (⟨(h.cell (p := ⟨w3.heap.size, 0, none⟩) (by simp)).trans y0, (h.cell (p := ⟨w3.heap.size, 1, none⟩) (by simp)).trans y1⟩ : w'.cell? ⟨w3.heap.size, 0, none⟩ = some (.int .i64 2) ∧ w'.cell? ⟨w3.heap.size, 1, none⟩ = some (.int .i64 (-1))))
    have hL0 : Below (w3.alloc (.cells #[.int .i64 2, .int .i64 (-1)] 54)).heap.size (w3.alloc (.cells #[.int .i64 2, .int .i64 (-1)] 54)) (w3.alloc (.cells #[.int .i64 2, .int .i64 (-1)] 54)) := Below.refl _ _
    go_wp2_with (first
        | (go_at_call 26; refine Calls.mono (HPO.out _ (by assumption)) ?_; rintro e w41 ⟨rfl, b41⟩; have hB41 : Below w.heap.size w w41 := below_trans (by assumption) b41; have hL41 := later (by assumption) b41)
        | (go_at_call 12; refine Calls.mono (HLI.out _ (by assumption)) ?_; rintro e w5 ⟨A5, c5, rfl, hI5, hc5, b5⟩; have hB5 : Below w.heap.size w w5 := below_trans (by assumption) b5; have hL5 := later (by assumption) b5)
        | (go_at_call 13; refine Calls.mono (HIN.out _ (by assumption)) ?_; rintro e w6 ⟨B6, d6, rfl, hI6, hd6, b6⟩; have hB6 : Below w.heap.size w w6 := below_trans (by assumption) b6; have hL6 := later (by assumption) b6; have hA6 := hI5.below b6)
        | (go_at_call 11; refine Calls.mono (HP.out A5 B6 c5 d6 _ (by assumption) hA6 hI6 hc5) ?_; rintro e w7 ⟨rfl, b7⟩; have hB7 : Below w.heap.size w w7 := below_trans (by assumption) b7; have hL7 := later (by assumption) b7; obtain ⟨x0, x1⟩ := HCE.out w7 hL7)
        | (go_at_call 27; refine Calls.mono (HFA.out _ (by assumption) _ _ _ (HFE.out w7)) ?_; rintro e w8 ⟨rfl, b8⟩; have hB8 : Below w.heap.size w w8 := below_trans (by assumption) b8))
    all_goals go_ret
    all_goals exact ⟨by simp, hB8⟩
set_option maxRecDepth 100000 in
set_option maxHeartbeats 4000000 in
theorem law_past_good (A B : Option Addr) (r : List (List Int)) (tape : List Int) (c d : Nat) (w : World) (a : Nat → Addr) (hS : Sent codes w a) (hH : Handle w) (hA : Lists w A r) (hB : Ints w B tape) (hc : r.length ≤ c) (hd : tape.length ≤ d) (hm : r.length ≤ 2000000) (hfl : r.flatten.length ≤ 2000000) (h1 : fewS r = true) (h5 : ¬ 5000 < (tape.length : Int)) (h4 : ¬ 400 < (tape.length : Int)) (h0 : rErr r = 0) (ht : goodT r tape) :
    Calls Tryd.prog 7 #[.slice A r.length c, .slice B tape.length d] w fun e w' => e = .returned (.bool true) ∧ Below w.heap.size w w' := by
  have hlb := hB.len
  have hED := fun w' (hb : Below w.heap.size w w') => ((hS.toEnv.sub (fun c h => codesD_sub h)).below hb : Env codesD w' a)
  have HTH := hide (third_any w a (hS.toEnv))
  have hfw := fun w' (hb : Below w.heap.size w w') => fewS_ok A r c w' (hA.below hb) hc hm hfl
  rw [h1] at hfw
  have HFW := hide hfw
  have HLI := hide (fun w' (hb : Below w.heap.size w w') => listsS_ok A r c w' (hA.below hb) hc hm hfl)
  have HIN := hide (fun w' (hb : Below w.heap.size w w') => ints_ok B tape d w' (hB.below hb) hd (by omega))
  have hre := fun w' (hb : Below w.heap.size w w') => rulesError_ok A r c w' (hA.below hb) hc
  have HFA := hide (fun w' (hb : Below w.heap.size w w') err c p h => faulted_ok w' a (hS.below hb) (hH.below hb) err c p h)
  have HBL := hide (fun w' (hb : Below w.heap.size w w') => hB.below hb)
  have hp := fun (A' B' : Option Addr) (x y : Nat) w' (hb : Below w.heap.size w w') (hL : Lists w' A' r) (hI : Ints w' B' tape) (hx : r.length ≤ x) (hy : tape.length ≤ y) => past_good A' B' r tape x y w' a (hED w' hb) hL hI hx hy h0 ht (by omega)
  have hpo := fun w' (hb : Below w.heap.size w w') => pastOf_ok A B r tape c d w' (hA.below hb) (hB.below hb) hc hd h0 ht (by omega)
  rw [h0] at hre
  generalize pastR r (r.getD 0 []).length tape = res at hp hpo
  obtain ⟨s, k, ok⟩ := res
  dsimp only at hp hpo
  have HP := hide hp
  have HPO := hide hpo
  have HRE := hide hre
  have HFE : Hid (∀ w', FaultErr w' a .nilIface 0 (-1)) := hide (fun w' => .inl ⟨rfl, rfl⟩)
  have HTG := hide ht
  clear hp hpo hre h0 h1 hfw hED ht
  go_enter Tryd.func7, Tryd.ntmps7
  go_wp2_with (first
      | (go_at_call 9; refine Calls.mono HTH.out ?_; rintro e w1 ⟨rfl, hB1⟩)
      | (go_at_call 10; refine Calls.mono (HFW.out _ (by assumption)) ?_; rintro e w2 ⟨rfl, b2⟩; have hB2 : Below w.heap.size w w2 := below_trans (by assumption) b2)
      | (go_at_call 25; refine Calls.mono (HRE.out _ (by assumption)) ?_; rintro e w3 ⟨rfl, b3⟩; have hB3 : Below w.heap.size w w3 := below_trans (by assumption) b3
         have z0 := alloc_at w3 (.cells #[.int .i64 0, .int .i64 (-1)] 54)
         have hBa : Below w.heap.size w (w3.alloc (.cells #[.int .i64 0, .int .i64 (-1)] 54)) := below_alloc' hB3 _
         obtain ⟨y0, q0⟩ := cell_of _ _ 0 _ _ (.int .i64 0) z0 rfl
         obtain ⟨y1, q1'⟩ := cell_of _ _ 1 _ _ (.int .i64 (-1)) z0 rfl))
  go_loopw [7] (fun iv wr => ∃ i : Nat, i ≤ tape.length ∧ iv = .int .i64 i ∧ wr = w3.alloc (.cells #[.int .i64 0, .int .i64 (-1)] 54)) (fun iv _ => tape.length - (intOf iv).toNat)
  case atStart => exact ⟨0, Nat.zero_le _, rfl, rfl⟩
  case round =>
    obtain ⟨i, hi, rfl, rfl⟩ := hrel
    have i0 : (0 : Int) ≤ (i : Int) := Int.natCast_nonneg _
    by_cases hil : i < tape.length
    · have i1 : (i : Int) < (tape.length : Int) := by omega
      obtain ⟨b, off, rfl, _, hcell⟩ := (HBL.out _ hBa).at_ i hil
      have hx := HTG.out i hil
      generalize tape.getD i 0 = x at hcell hx
      obtain ⟨g0, g1⟩ := hx
      go_wp2_with (fail)
      go_roundw
      case rel => exact ⟨i + 1, by omega, by go_num, by first | trivial | rfl | simp⟩
      case measure => simp [intOf]; omega
    · obtain rfl : i = tape.length := by omega
      clear i0 hil hi
      have HCE := hide (fun w' (h : Below (w3.alloc (.cells #[.int .i64 0, .int .i64 (-1)] 54)).heap.size (w3.alloc (.cells #[.int .i64 0, .int .i64 (-1)] 54)) w') => (⟨(h.cell (p := ⟨w3.heap.size, 0, none⟩) (by simp)).trans y0, (h.cell (p := ⟨w3.heap.size, 1, none⟩) (by simp)).trans y1⟩ : w'.cell? ⟨w3.heap.size, 0, none⟩ = some (.int .i64 0) ∧ w'.cell? ⟨w3.heap.size, 1, none⟩ = some (.int .i64 (-1))))
      have hL0 : Below (w3.alloc (.cells #[.int .i64 0, .int .i64 (-1)] 54)).heap.size (w3.alloc (.cells #[.int .i64 0, .int .i64 (-1)] 54)) (w3.alloc (.cells #[.int .i64 0, .int .i64 (-1)] 54)) := Below.refl _ _
      go_wp2_with (first
          | (go_at_call 26; refine Calls.mono (HPO.out _ (by assumption)) ?_; rintro e w41 ⟨rfl, b41⟩; have hB41 : Below w.heap.size w w41 := below_trans (by assumption) b41; have hL41 := later (by assumption) b41)
          | (go_at_call 12; refine Calls.mono (HLI.out _ (by assumption)) ?_; rintro e w5 ⟨A5, c5, rfl, hI5, hc5, b5⟩; have hB5 : Below w.heap.size w w5 := below_trans (by assumption) b5; have hL5 := later (by assumption) b5)
          | (go_at_call 13; refine Calls.mono (HIN.out _ (by assumption)) ?_; rintro e w6 ⟨B6, d6, rfl, hI6, hd6, b6⟩; have hB6 : Below w.heap.size w w6 := below_trans (by assumption) b6; have hL6 := later (by assumption) b6; have hA6 := hI5.below b6)
          | (go_at_call 11; refine Calls.mono (HP.out A5 B6 c5 d6 _ (by assumption) hA6 hI6 hc5 hd6) ?_; rintro e w7 ⟨rfl, b7⟩; have hB7 : Below w.heap.size w w7 := below_trans (by assumption) b7; have hL7 := later (by assumption) b7; obtain ⟨x0, x1⟩ := HCE.out w7 hL7)
          | (go_at_call 27; refine Calls.mono (HFA.out _ (by assumption) _ _ _ (HFE.out w7)) ?_; rintro e w8 ⟨rfl, b8⟩; have hB8 : Below w.heap.size w w8 := below_trans (by assumption) b8))
      all_goals go_ret
      all_goals exact ⟨by simp, hB8⟩
set_option maxRecDepth 100000 in
set_option maxHeartbeats 4000000 in
theorem law_past_tape (A B : Option Addr) (r : List (List Int)) (tape : List Int) (c d : Nat) (w : World) (a : Nat → Addr) (hS : Sent codes w a) (hH : Handle w) (hA : Lists w A r) (hB : Ints w B tape) (hc : r.length ≤ c) (hd : tape.length ≤ d) (hm : r.length ≤ 2000000) (hfl : r.flatten.length ≤ 2000000) (h1 : fewS r = true) (h5 : ¬ 5000 < (tape.length : Int)) (h4 : ¬ 400 < (tape.length : Int)) (h0 : rErr r = 0) {bad : Nat} (hbad : FirstBadT r tape bad) :
    Calls Tryd.prog 7 #[.slice A r.length c, .slice B tape.length d] w fun e w' => e = .returned (.bool true) ∧ Below w.heap.size w w' := by
  have hlb := hB.len
  have hED := fun w' (hb : Below w.heap.size w w') => ((hS.toEnv.sub (fun c h => codesD_sub h)).below hb : Env codesD w' a)
  have HTH := hide (third_any w a (hS.toEnv))
  have hfw := fun w' (hb : Below w.heap.size w w') => fewS_ok A r c w' (hA.below hb) hc hm hfl
  rw [h1] at hfw
  have HFW := hide hfw
  have HLI := hide (fun w' (hb : Below w.heap.size w w') => listsS_ok A r c w' (hA.below hb) hc hm hfl)
  have HIN := hide (fun w' (hb : Below w.heap.size w w') => ints_ok B tape d w' (hB.below hb) hd (by omega))
  have hre := fun w' (hb : Below w.heap.size w w') => rulesError_ok A r c w' (hA.below hb) hc
  have HFA := hide (fun w' (hb : Below w.heap.size w w') err c p h => faulted_ok w' a (hS.below hb) (hH.below hb) err c p h)
  have HBL := hide (fun w' (hb : Below w.heap.size w w') => hB.below hb)
  have hp := fun (A' B' : Option Addr) (x y : Nat) w' (hb : Below w.heap.size w w') (hL : Lists w' A' r) (hI : Ints w' B' tape) (hx : r.length ≤ x) => past_tape A' B' r tape x y w' a (hED w' hb) hL hI hx h0 (by omega) hbad
  rw [h0] at hre
  have HP := hide hp
  have HRE := hide hre
  have HFE := hide (fun w' g (hg : g < w'.heap.size) (h1 : w'.cell? ⟨g, 0, none⟩ = some (.int .i64 bad)) (h2 : w'.cell? ⟨g, 1, none⟩ = some (.iface 160 (.pointer (some (a 3))))) => (.inr (.inr ⟨3, g, by decide, by decide, rfl, rfl, hg, h1, h2⟩) : FaultErr w' a (.iface 67 (.pointer (some ⟨g, 0, none⟩))) 3 bad))
  obtain ⟨hbl, hb1, hb2⟩ := hbad
  have HB2 := hide hb2
  have HB1 := hide hb1
  clear hp hre h0 h1 hfw hED hb1 hb2
  go_enter Tryd.func7, Tryd.ntmps7
  go_wp2_with (first
      | (go_at_call 9; refine Calls.mono HTH.out ?_; rintro e w1 ⟨rfl, hB1⟩)
      | (go_at_call 10; refine Calls.mono (HFW.out _ (by assumption)) ?_; rintro e w2 ⟨rfl, b2⟩; have hB2 : Below w.heap.size w w2 := below_trans (by assumption) b2)
      | (go_at_call 25; refine Calls.mono (HRE.out _ (by assumption)) ?_; rintro e w3 ⟨rfl, b3⟩; have hB3 : Below w.heap.size w w3 := below_trans (by assumption) b3
         have z0 := alloc_at w3 (.cells #[.int .i64 0, .int .i64 (-1)] 54)
         have hBa : Below w.heap.size w (w3.alloc (.cells #[.int .i64 0, .int .i64 (-1)] 54)) := below_alloc' hB3 _
         obtain ⟨y0, q0⟩ := cell_of _ _ 0 _ _ (.int .i64 0) z0 rfl
         obtain ⟨y1, q1'⟩ := cell_of _ _ 1 _ _ (.int .i64 (-1)) z0 rfl
         have z3 := alloc_at w3 (.cells #[.int .i64 3, .int .i64 bad] 54)
         obtain ⟨v0, p0⟩ := cell_of _ _ 0 _ _ (.int .i64 3) z3 rfl
         obtain ⟨v1, p1⟩ := cell_of _ _ 1 _ _ (.int .i64 bad) z3 rfl
         have hB3a : Below w.heap.size w (w3.alloc (.cells #[.int .i64 3, .int .i64 bad] 54)) := below_alloc' hB3 _))
  go_loopw [7] (fun iv wr => (∃ i : Nat, i ≤ bad ∧ iv = .int .i64 i ∧ wr = w3.alloc (.cells #[.int .i64 0, .int .i64 (-1)] 54)) ∨ (iv = .int .i64 ((bad + 1 : Nat) : Int) ∧ wr = w3.alloc (.cells #[.int .i64 3, .int .i64 bad] 54))) (fun iv _ => tape.length - (intOf iv).toNat)
  case atStart => exact .inl ⟨0, Nat.zero_le _, rfl, rfl⟩
  case round =>
    rcases hrel with ⟨i, hi, rfl, rfl⟩ | ⟨rfl, rfl⟩
    · clear v0 v1 p0 p1 z3
      have i0 : (0 : Int) ≤ (i : Int) := Int.natCast_nonneg _
      have hil : i < tape.length := by omega
      have i1 : (i : Int) < (tape.length : Int) := by omega
      obtain ⟨b, off, rfl, _, hcell⟩ := (HBL.out _ hBa).at_ i hil
      by_cases e : i = bad
      · subst e
        have hx := HB1.out
        generalize tape.getD i 0 = x at hcell hx
        by_cases x0 : x < 0
        · clear hx
          go_wp2_with (fail)
          go_roundw
          case rel => exact .inr ⟨by go_num, by first | trivial | rfl | simp⟩
          case measure => simp [intOf]; omega
        · have x1 : (r.length : Int) ≤ x := by omega
          clear hx
          go_wp2_with (fail)
          go_roundw
          case rel => exact .inr ⟨by go_num, by first | trivial | rfl | simp⟩
          case measure => simp [intOf]; omega
      · have hx := HB2.out i (by omega)
        generalize tape.getD i 0 = x at hcell hx
        obtain ⟨x0, x1⟩ := hx
        go_wp2_with (fail)
        go_roundw
        case rel => exact .inl ⟨i + 1, by omega, by go_num, by first | trivial | rfl | simp⟩
        case measure => simp [intOf]; omega
    · clear y0 y1 q0 q1' z0
      have hq : decide (((bad + 1 : Nat) : Int) < (tape.length : Int)) = false ∨ ((bad + 1 : Nat) : Int) < (tape.length : Int) := by
        by_cases q : ((bad + 1 : Nat) : Int) < (tape.length : Int)
        · exact .inr q
        · exact .inl (decide_eq_false q)
      have HCE := hide (fun w' (h : Below (w3.alloc (.cells #[.int .i64 3, .int .i64 bad] 54)).heap.size (w3.alloc (.cells #[.int .i64 3, .int .i64 bad] 54)) w') => (⟨(h.cell (p := ⟨w3.heap.size, 0, none⟩) (by simp)).trans v0, (h.cell (p := ⟨w3.heap.size, 1, none⟩) (by simp)).trans v1⟩ : w'.cell? ⟨w3.heap.size, 0, none⟩ = some (.int .i64 3) ∧ w'.cell? ⟨w3.heap.size, 1, none⟩ = some (.int .i64 bad)))
      have hL0 : Below (w3.alloc (.cells #[.int .i64 3, .int .i64 bad] 54)).heap.size (w3.alloc (.cells #[.int .i64 3, .int .i64 bad] 54)) (w3.alloc (.cells #[.int .i64 3, .int .i64 bad] 54)) := Below.refl _ _
      rcases hq with hq | hq
      all_goals
        go_wp2_with (first
            | (go_at_call 26; refine Calls.mono (HPO.out _ (by assumption)) ?_; rintro e w41 ⟨rfl, b41⟩; have hB41 : Below w.heap.size w w41 := below_trans (by assumption) b41; have hL41 := later (by assumption) b41)
            | (go_at_call 12; refine Calls.mono (HLI.out _ (by assumption)) ?_; rintro e w5 ⟨A5, c5, rfl, hI5, hc5, b5⟩; have hB5 : Below w.heap.size w w5 := below_trans (by assumption) b5; have hL5 := later (by assumption) b5)
            | (go_at_call 13; refine Calls.mono (HIN.out _ (by assumption)) ?_; rintro e w6 ⟨B6, d6, rfl, hI6, hd6, b6⟩; have hB6 : Below w.heap.size w w6 := below_trans (by assumption) b6; have hL6 := later (by assumption) b6; have hA6 := hI5.below b6)
            | (go_at_call 11; refine Calls.mono (HP.out A5 B6 c5 d6 _ (by assumption) hA6 hI6 hc5) ?_; rintro e w7 ⟨g7, rfl, hg7, u0, u1, b7⟩; have hB7 : Below w.heap.size w w7 := below_trans (by assumption) b7; have hL7 := later (by assumption) b7; obtain ⟨x0, x1⟩ := HCE.out w7 hL7)
            | (go_at_call 27; refine Calls.mono (HFA.out _ (by assumption) _ _ _ (HFE.out w7 g7 hg7 u0 u1)) ?_; rintro e w8 ⟨rfl, b8⟩; have hB8 : Below w.heap.size w w8 := below_trans (by assumption) b8))
      all_goals go_ret
      all_goals exact ⟨by simp, hB8⟩
set_option maxRecDepth 100000 in
set_option maxHeartbeats 4000000 in
theorem law_past (A B : Option Addr) (r : List (List Int)) (tape : List Int) (c d : Nat) (w : World) (a : Nat → Addr) (hS : Sent codes w a) (hH : Handle w) (hA : Lists w A r) (hB : Ints w B tape) (hc : r.length ≤ c) (hd : tape.length ≤ d) (hm : r.length ≤ 2000000) (hfl : r.flatten.length ≤ 2000000) :
    Calls Tryd.prog 7 #[.slice A r.length c, .slice B tape.length d] w fun e w' => e = .returned (.bool true) ∧ Below w.heap.size w w' := by
  have hlb := hB.len
  have hED := fun w' (hb : Below w.heap.size w w') => ((hS.toEnv.sub (fun c h => codesD_sub h)).below hb : Env codesD w' a)
  have HTH := hide (third_any w a (hS.toEnv))
  have hfw := fun w' (hb : Below w.heap.size w w') => fewS_ok A r c w' (hA.below hb) hc hm hfl
  cases h1 : fewS r with
  | false =>
    rw [h1] at hfw
    have HFW := hide hfw
    clear hfw h1 hED
    go_enter Tryd.func7, Tryd.ntmps7
    go_wp2_with (first
      | (go_at_call 9; refine Calls.mono HTH.out ?_; rintro e w1 ⟨rfl, hB1⟩)
      | (go_at_call 10; refine Calls.mono (HFW.out _ (by assumption)) ?_; rintro e w2 ⟨rfl, b2⟩; have hB2 : Below w.heap.size w w2 := below_trans (by assumption) b2))
    go_ret
    exact ⟨rfl, hB2⟩
  | true =>
    rw [h1] at hfw
    by_cases h4 : 400 < (tape.length : Int) ∧ (tape.length : Int) ≤ 4000
    · have HFW := hide hfw
      obtain ⟨q1, q2⟩ := h4
      clear hfw h1 hED
      go_enter Tryd.func7, Tryd.ntmps7
      go_wp2_with (first
        | (go_at_call 9; refine Calls.mono HTH.out ?_; rintro e w1 ⟨rfl, hB1⟩)
        | (go_at_call 10; refine Calls.mono (HFW.out _ (by assumption)) ?_; rintro e w2 ⟨rfl, b2⟩; have hB2 : Below w.heap.size w w2 := below_trans (by assumption) b2))
      go_ret
      exact ⟨rfl, hB2⟩
    by_cases h5 : 5000 < (tape.length : Int)
    · have HFW := hide hfw
      have q1 : 400 < (tape.length : Int) := by omega
      have q2 : decide ((tape.length : Int) ≤ 4000) = false := decide_eq_false (by omega)
      clear hfw h1 hED h4
      go_enter Tryd.func7, Tryd.ntmps7
      go_wp2_with (first
        | (go_at_call 9; refine Calls.mono HTH.out ?_; rintro e w1 ⟨rfl, hB1⟩)
        | (go_at_call 10; refine Calls.mono (HFW.out _ (by assumption)) ?_; rintro e w2 ⟨rfl, b2⟩; have hB2 : Below w.heap.size w w2 := below_trans (by assumption) b2))
      go_ret
      exact ⟨rfl, hB2⟩
    clear HTH hfw hED
    by_cases h0 : rErr r = 0
    · by_cases h6 : (4000 : Int) < tape.length
      · exact law_past_long A B r tape c d w a hS hH hA hB hc hd hm hfl h1 h5 h6 h0
      · have h7 : ¬ 400 < (tape.length : Int) := by omega
        by_cases ht : goodT r tape
        · exact law_past_good A B r tape c d w a hS hH hA hB hc hd hm hfl h1 h5 h7 h0 ht
        · obtain ⟨bad, hb⟩ := not_goodT ht
          exact law_past_tape A B r tape c d w a hS hH hA hB hc hd hm hfl h1 h5 h7 h0 hb
    · exact law_past_rules A B r tape c d w a hS hH hA hB hc hd hm hfl h1 h5 h4 h0
end Go.Proofs.YtioekjkfhbopkaaDoor

/- What a row's list of laid variables gives a walk: the sentinels' cells, their blocks, none twice, and the handle of the type error; the closing of a law's row. No condition. -/
namespace Go.Proofs.YtioekjkfhbopkaaDoor
open Go.ChangeShapes Go.WideShapes Go.RowKit

theorem tr_own : ownKnob Tryd.prog.godebug = none := by kernel_rfl
theorem tr_laidOut : laidOutB Tryd.prog = true := by kernel_rfl
theorem tr_star : "*" ++ "errors.errorString" = "*errors.errorString" := by decide
theorem tr_row (u : TypeId) (h : Tryd.prog.typeName? 3 u = some "*errors.errorString") : u = 160 :=
  typeName_ptr_named (nm := "errors.errorString") (by rw [tr_star]; kernel_rfl) (by kernel_rfl) (by decide) u (by rw [tr_star]; exact h)
theorem tr_cells1 : Tryd.prog.cellsOf 183 = 1 := by kernel_rfl
theorem tr_cells2 : Tryd.prog.cellsOf 9 = 1 := by kernel_rfl

/-- a sentinel's datum -/
def sdat (x : String × List UInt8) : String × DataW Unit := (x.1, .iface "*errors.errorString" (.ptr (.agg [.lit (.string x.2)])))

theorem sents_gen {P : Program} {nm : String} {ti tp te ts : TypeId} {ms : Array (String × TypeId)} {f : Field} (hi : P.underlying ti = some (.interface ms)) (hrow : ∀ u, P.typeName? 3 u = some nm → u = tp)
    (hp : P.underlying tp = some (.pointer te)) (he : P.underlying te = some (.struct #[f])) (hft : f.type = ts) (hfo : f.offset = 0) (hs : P.underlying ts = some .string) (hc : P.cellsOf te = 1) (hcs : P.cellsOf ts = 1) {W : World} :
    ∀ (L : List (String × List UInt8)) (ps : List MemPlace), DataW.LaidVars P W (L.map fun x => (x.1, .iface nm (.ptr (.agg [.lit (.string x.2)])))) ps → ps.Nodup →
    (∀ b off, MemPlace.cell b off ∈ ps → (∃ c t, W.heap[b]? = some (.cells c t (0, 0))) ∧ ∀ u v, W.cell? ⟨b, off, none⟩ = some (.iface u v) → Value.okWide P W .any 0 u v) →
    (∀ x, x ∈ L → ∃ g, P.globalNamed x.1 = some g ∧ (P.globals[g]?).map (·.type) = some ti) →
    ∃ bs : List Addr, bs.length = L.length ∧ bs.Nodup ∧ (∀ b, b ∈ bs → MemPlace.cell b.block b.off ∈ ps) ∧ ∀ i (hi : i < L.length) (hj : i < bs.length), W.var? P (L[i]).1 = some #[.iface tp (.pointer (some bs[i]))] ∧ ∃ c t, W.heap[(bs[i]).block]? = some (.cells c t (0, 0))
  | [], _, _, _, _, _ => ⟨[], rfl, List.nodup_nil, fun b h => absurd h (by simp), fun i hi _ => absurd hi (by simp)⟩
  | x :: L, ps, hv, hnd, hrows, hg => by
    obtain ⟨g0, t0, cs0, f0, p0, q0, hg0, ht0, hv0, hd0, hrest, e0⟩ := hv
    subst e0
    obtain ⟨g, hg1, ht1⟩ := hg x (List.mem_cons_self ..)
    obtain rfl := Option.some.inj (hg1.symm.trans hg0)
    obtain rfl := Option.some.inj (ht1.symm.trans ht0)
    have hqnd : q0.Nodup := List.Nodup.sublist (List.sublist_append_right _ _) hnd
    obtain ⟨bs, hlen, hbnd, hmem, hall⟩ := sents_gen hi hrow hp he hft hfo hs hc hcs L q0 hrest hqnd (fun b off hm => hrows b off (List.mem_append_right _ hm)) (fun y hy => hg y (List.mem_cons_of_mem _ hy))
    obtain ⟨l0⟩ := cs0
    have ok0 : ∀ u v, l0 = [.iface u v] → Value.okWide P W .any 0 u v := fun u v e => by
      subst e
      exact (hrows g 0 (by simp [MemPlace.row])).2 u v (by simpa using World.var?_cell hg0 hv0 0)
    obtain ⟨a0, s0, rfl, hc0, hs0, hz0, rfl⟩ := errorString_of_trod hi hrow hp he hft hfo hs hc hcs hd0 ok0
    have ha0 : MemPlace.cell a0.block a0.off ∈ MemPlace.row a0 1 := by simp [MemPlace.row]
    refine ⟨a0 :: bs, by simp [hlen], ?_, ?_, ?_⟩
    · refine List.nodup_cons.2 ⟨fun hin => ?_, hbnd⟩
      have h1 := hmem a0 hin
      exact (List.nodup_append.1 hnd).2.2 _ (List.mem_append_right _ ha0) _ h1 rfl
    · intro b hb
      rcases List.mem_cons.1 hb with rfl | hb
      · exact List.mem_append_left _ (List.mem_append_right _ ha0)
      · exact List.mem_append_right _ (hmem b hb)
    · intro i hi hj
      cases i with
      | zero => exact ⟨hv0, (hrows a0.block a0.off (List.mem_append_left _ (List.mem_append_right _ ha0))).1⟩
      | succ i => exact hall i (by simpa using hi) (by simpa using hj)

theorem sents_of_vars {W : World} (L : List (String × List UInt8)) (ps : List MemPlace) (h : DataW.LaidVars Tryd.prog W (L.map sdat) ps) (hnd : ps.Nodup)
    (hrows : ∀ b off, MemPlace.cell b off ∈ ps → (∃ c t, W.heap[b]? = some (.cells c t (0, 0))) ∧ ∀ u v, W.cell? ⟨b, off, none⟩ = some (.iface u v) → Value.okWide Tryd.prog W .any 0 u v)
    (hg : ∀ x, x ∈ L → ∃ g, Tryd.prog.globalNamed x.1 = some g ∧ (Tryd.prog.globals[g]?).map (·.type) = some 27) :
    ∃ bs : List Addr, bs.length = L.length ∧ bs.Nodup ∧ (∀ b, b ∈ bs → MemPlace.cell b.block b.off ∈ ps) ∧ ∀ i (hi : i < L.length) (hj : i < bs.length), W.var? Tryd.prog (L[i]).1 = some #[.iface 160 (.pointer (some bs[i]))] ∧ ∃ c t, W.heap[(bs[i]).block]? = some (.cells c t (0, 0)) :=
  sents_gen Tryd.underlying27 tr_row Tryd.underlying160 Tryd.underlying183 rfl rfl Tryd.underlying9 tr_cells1 tr_cells2 L ps h hnd hrows hg

def names8 : List (String × List UInt8) := [("demon/api.ErrText", [100, 101, 109, 111, 110, 58, 32, 116, 101, 120, 116]), ("demon/api.ErrBound", [100, 101, 109, 111, 110, 58, 32, 98, 111, 117, 110, 100]),
  ("demon/api.ErrShape", [100, 101, 109, 111, 110, 58, 32, 115, 104, 97, 112, 101]), ("demon/api.ErrZero", [100, 101, 109, 111, 110, 58, 32, 122, 101, 114, 111]), ("demon/api.ErrName", [100, 101, 109, 111, 110, 58, 32, 110, 97, 109, 101]),
  ("demon/api.ErrNone", [100, 101, 109, 111, 110, 58, 32, 110, 111, 110, 101]), ("demon/api.ErrOrder", [100, 101, 109, 111, 110, 58, 32, 111, 114, 100, 101, 114]), ("demon/api.ErrKind", [100, 101, 109, 111, 110, 58, 32, 107, 105, 110, 100])]
theorem glob1 : Tryd.prog.globalNamed "demon/api.ErrText" = some 2 := by kernel_rfl
theorem glob2 : Tryd.prog.globalNamed "demon/api.ErrBound" = some 0 := by kernel_rfl
theorem glob3 : Tryd.prog.globalNamed "demon/api.ErrShape" = some 1 := by kernel_rfl
theorem glob4 : Tryd.prog.globalNamed "demon/api.ErrZero" = some 5 := by kernel_rfl
theorem glob5 : Tryd.prog.globalNamed "demon/api.ErrName" = some 6 := by kernel_rfl
theorem glob6 : Tryd.prog.globalNamed "demon/api.ErrNone" = some 3 := by kernel_rfl
theorem glob7 : Tryd.prog.globalNamed "demon/api.ErrOrder" = some 4 := by kernel_rfl
theorem glob8 : Tryd.prog.globalNamed "demon/api.ErrKind" = some 7 := by kernel_rfl
theorem globT (g : Nat) (h : g ∈ [2, 0, 1, 5, 6, 3, 4, 7]) : (Tryd.prog.globals[g]?).map (·.type) = some 27 := by
  have e : ([2, 0, 1, 5, 6, 3, 4, 7].map fun g => (Tryd.prog.globals[g]?).map (·.type)) = List.replicate 8 (some 27) := by kernel_rfl
  have h1 : (Tryd.prog.globals[g]?).map (·.type) ∈ List.replicate 8 (some 27) := by rw [← e]; exact List.mem_map.2 ⟨g, h, rfl⟩
  exact (List.mem_replicate.1 h1).2

theorem names8_glob : ∀ x, x ∈ names8 → ∃ g, Tryd.prog.globalNamed x.1 = some g ∧ (Tryd.prog.globals[g]?).map (·.type) = some 27 := by
  intro x hx
  simp only [names8, List.mem_cons, List.not_mem_nil, or_false] at hx
  rcases hx with rfl | rfl | rfl | rfl | rfl | rfl | rfl | rfl
  · exact ⟨_, glob1, globT _ (by decide)⟩
  · exact ⟨_, glob2, globT _ (by decide)⟩
  · exact ⟨_, glob3, globT _ (by decide)⟩
  · exact ⟨_, glob4, globT _ (by decide)⟩
  · exact ⟨_, glob5, globT _ (by decide)⟩
  · exact ⟨_, glob6, globT _ (by decide)⟩
  · exact ⟨_, glob7, globT _ (by decide)⟩
  · exact ⟨_, glob8, globT _ (by decide)⟩

theorem list8 {α : Type} {l : List α} (h : l.length = 8) : ∃ a b c d e f g i, l = [a, b, c, d, e, f, g, i] := by
  match l, h with
  | [a, b, c, d, e, f, g, i], _ => exact ⟨a, b, c, d, e, f, g, i, rfl⟩
theorem list2 {α : Type} {l : List α} (h : l.length = 2) : ∃ a b, l = [a, b] := by
  match l, h with
  | [a, b], _ => exact ⟨a, b, rfl⟩

/-- the codes' places, out of eight -/
def at8 (a1 a2 a3 a4 a5 a6 a7 a8 : Addr) : Nat → Addr
  | 1 => a1 | 2 => a2 | 3 => a3 | 4 => a4 | 5 => a5 | 6 => a6 | 7 => a7 | _ => a8

theorem sent8 {W : World} (h : laidMet Tryd.prog (names8.map sdat) W) : ∃ a, Sent [1, 2, 3, 4, 5, 6, 7, 8] W a := by
  obtain ⟨ps, hv, hnd, hrows⟩ := h
  obtain ⟨bs, hlen, hbnd, _, hall⟩ := sents_of_vars names8 ps hv hnd hrows names8_glob
  obtain ⟨a1, a2, a3, a4, a5, a6, a7, a8, rfl⟩ := list8 hlen
  have x1 := hall 0 (by decide) (by simp)
  have x2 := hall 1 (by decide) (by simp)
  have x3 := hall 2 (by decide) (by simp)
  have x4 := hall 3 (by decide) (by simp)
  have x5 := hall 4 (by decide) (by simp)
  have x6 := hall 5 (by decide) (by simp)
  have x7 := hall 6 (by decide) (by simp)
  have x8 := hall 7 (by decide) (by simp)
  refine ⟨at8 a1 a2 a3 a4 a5 a6 a7 a8, ⟨⟨?_⟩, ?_, ?_⟩⟩
  · intro c hc
    simp only [List.mem_cons, List.not_mem_nil, or_false] at hc
    rcases hc with rfl | rfl | rfl | rfl | rfl | rfl | rfl | rfl
    · show W.cell? ⟨2, 0, none⟩ = some (.iface 160 (.pointer (some a1)))
      simpa using World.var?_cell glob1 x1.1 0
    · show W.cell? ⟨0, 0, none⟩ = some (.iface 160 (.pointer (some a2)))
      simpa using World.var?_cell glob2 x2.1 0
    · show W.cell? ⟨1, 0, none⟩ = some (.iface 160 (.pointer (some a3)))
      simpa using World.var?_cell glob3 x3.1 0
    · show W.cell? ⟨5, 0, none⟩ = some (.iface 160 (.pointer (some a4)))
      simpa using World.var?_cell glob4 x4.1 0
    · show W.cell? ⟨6, 0, none⟩ = some (.iface 160 (.pointer (some a5)))
      simpa using World.var?_cell glob5 x5.1 0
    · show W.cell? ⟨3, 0, none⟩ = some (.iface 160 (.pointer (some a6)))
      simpa using World.var?_cell glob6 x6.1 0
    · show W.cell? ⟨4, 0, none⟩ = some (.iface 160 (.pointer (some a7)))
      simpa using World.var?_cell glob7 x7.1 0
    · show W.cell? ⟨7, 0, none⟩ = some (.iface 160 (.pointer (some a8)))
      simpa using World.var?_cell glob8 x8.1 0
  · intro c hc
    simp only [List.mem_cons, List.not_mem_nil, or_false] at hc
    rcases hc with rfl | rfl | rfl | rfl | rfl | rfl | rfl | rfl
    · exact x1.2
    · exact x2.2
    · exact x3.2
    · exact x4.2
    · exact x5.2
    · exact x6.2
    · exact x7.2
    · exact x8.2
  · intro c hc d hd e
    clear hall x1 x2 x3 x4 x5 x6 x7 x8
    simp only [List.nodup_cons, List.mem_cons, List.not_mem_nil, or_false, not_or] at hbnd
    simp only [List.mem_cons, List.not_mem_nil, or_false] at hc hd
    rcases hc with rfl | rfl | rfl | rfl | rfl | rfl | rfl | rfl <;> rcases hd with rfl | rfl | rfl | rfl | rfl | rfl | rfl | rfl <;> first
      | rfl
      | (exfalso; simp only [at8] at e; simp_all)

theorem tr_et : Tryd.prog.globalNamed "errors.errorType" = some 8 := by kernel_rfl
theorem tr_rt : (Tryd.prog.cutTypes.find? (·.1 == "internal/reflectlite.rtype")).map (·.2) = some 138 := by kernel_rfl
theorem tr_size : Tryd.prog.types.size = 199 := by kernel_rfl
theorem tr_oneRow : ((List.range 199).filter fun t => Tryd.prog.rowNamed t [101, 114, 114, 111, 114]) = [27] := by kernel_rfl
theorem tr_handle : typeHandle Tryd.prog 27 = .pointer (some ⟨12, 27, none⟩) := by kernel_rfl

theorem handle_of_laid {W : World} (h : handlesMet Tryd.prog [("errors.errorType", Rows.laid_errors_errorType)] W) : Handle W := by
  obtain ⟨name, u, ty, e1, e2, e3, e4, e5⟩ := h _ (List.mem_singleton.2 rfl)
  have en : name = [101, 114, 114, 111, 114] := (Option.some.inj e1).symm
  subst en
  obtain rfl := Option.some.inj (tr_rt.symm.trans e2)
  have hm : ty ∈ (List.range 199).filter fun t => Tryd.prog.rowNamed t [101, 114, 114, 111, 114] := List.mem_filter.2 ⟨List.mem_range.2 (by rw [← tr_size]; exact e3), e4⟩
  rw [tr_oneRow] at hm
  obtain rfl := List.mem_singleton.1 hm
  rw [tr_handle] at e5
  have := World.var?_cell tr_et e5 0
  simpa [Handle] using this

/-- ALL NINE: what the list of a law with coded gives -/
theorem full_of_laid {W : World} (h : laidMetH Tryd.prog [("errors.errorType", Rows.laid_errors_errorType), ("demon/api.ErrText", Rows.laid_demon_api_ErrText), ("demon/api.ErrBound", Rows.laid_demon_api_ErrBound), ("demon/api.ErrShape", Rows.laid_demon_api_ErrShape), ("demon/api.ErrZero", Rows.laid_demon_api_ErrZero), ("demon/api.ErrName", Rows.laid_demon_api_ErrName), ("demon/api.ErrNone", Rows.laid_demon_api_ErrNone), ("demon/api.ErrOrder", Rows.laid_demon_api_ErrOrder), ("demon/api.ErrKind", Rows.laid_demon_api_ErrKind)] W) :
    ∃ a, Sent [1, 2, 3, 4, 5, 6, 7, 8] W a ∧ Handle W := by
  have h' : laidMet Tryd.prog (names8.map sdat) W ∧ handlesMet Tryd.prog [("errors.errorType", Rows.laid_errors_errorType)] W := h
  obtain ⟨a, ha⟩ := sent8 h'.1
  exact ⟨a, ha, handle_of_laid h'.2⟩

/-! ### the closing of a law's row -/
theorem trodAll_below {H : Type} {enc : TypeId × Value → H} {W W' : World} (hb : Below W.heap.size W W') :
    ∀ (ts : List TypeId) (vs : List Value) (ds : List (DataW H)) (ps : List MemPlace), (∀ t, t ∈ ts → Tryd.prog.readableRec t = true ∧ t < Tryd.prog.types.size) →
      DataW.TrodAll enc Tryd.prog W 0 (fun _ => true) true ts vs ds ps → (∀ x ∈ ps, x.block < W.heap.size) → DataW.TrodAll enc Tryd.prog W' 0 (fun b => decide (b < W.heap.size)) true ts vs ds ps
  | [], [], [], _, _, h, _ => h
  | t :: ts, v :: vs, d :: ds, ps, hr, h, hlt => by
    obtain ⟨p, q, h1, h2, rfl⟩ := h
    exact ⟨p, q, Below.trod tr_laidOut (hr t (List.mem_cons_self ..)).1 (hr t (List.mem_cons_self ..)).2 h1 hb (fun x hx => hlt x (List.mem_append_left _ hx)),
      trodAll_below hb ts vs ds q (fun u hu => hr u (List.mem_cons_of_mem _ hu)) h2 (fun x hx => hlt x (List.mem_append_right _ hx)), rfl⟩
  | [], [], _ :: _, _, _, h, _ => h.elim
  | [], _ :: _, [], _, _, h, _ => h.elim
  | [], _ :: _, _ :: _, _, _, h, _ => h.elim
  | _ :: _, [], [], _, _, h, _ => h.elim
  | _ :: _, [], _ :: _, _, _, h, _ => h.elim
  | _ :: _, _ :: _, [], _, _, h, _ => h.elim

/-- a law's call that gives true and leaves what was there: what its row asks behind it -/
theorem post_true {H : Type} {enc : TypeId × Value → H} {f : Func} {s : ChangeSpec} {W W' : World} {args : Array Value} {ds gs : List (DataW H)} {before : List MemPlace}
    (hf : f.resultTypes = #[4]) (hvars : s.vars = []) (hfn : (s.fn H (ds ++ gs)) = { results := [.lit (.bool true)], args := ds }) (hr : ∀ t, t ∈ f.params.toList → Tryd.prog.readableRec t = true ∧ t < Tryd.prog.types.size)
    (hW : DataW.Whole enc Tryd.prog f.params.toList s.vars false W args.toList ds gs before) (hb : Below W.heap.size W W') : s.post enc Tryd.prog f false true false false W args (.bool true) W' := by
  have hlt := hW.lt
  have hW' := hW
  obtain ⟨p, q, hA, hV, rfl, _, _⟩ := hW
  refine ⟨ds, gs, p ++ q, [], p, [], hW', ?_, ?_, ?_, hb.frame _, fun h => by cases h⟩
  · rw [hfn, hf]; exact trodAll_mk1 (shut_bool Tryd.underlying4 true)
  · rw [hfn]; exact trodAll_below hb _ _ _ _ hr hA (fun x hx => hlt x (List.mem_append_left _ hx))
  · rw [hfn, hvars]; rfl
end Go.Proofs.YtioekjkfhbopkaaDoor

/- A law's arguments opened into our readings: whole numbers, slices of them, of pairs, of lists. No condition. -/
namespace Go.Proofs.YtioekjkfhbopkaaDoor
open Go.ChangeShapes Go.WideShapes Go.RowKit Go.Deep Go.Joins

section
variable {H : Type} {enc : TypeId × Value → H} {P : Program} {W : World} {base : Nat} {held : Bool}

theorem wf_range {n : Int} (h : (Lit.int .i64 n).wf = true) : -9223372036854775808 ≤ n ∧ n ≤ 9223372036854775807 := by
  have := bounds_i64 h
  omega

theorem spot_none {a : Addr} {v : Value} (h : W.cell? (a.add 0) = some v) : a = ⟨a.block, a.off, none⟩ := by
  obtain ⟨b, off, spot⟩ := a
  have hs : spot = none := World.cell?_spot h
  subst hs
  rfl

/-- a slice of whole numbers that came in -/
theorem open_ints_arg {fuel : Nat} {v : Value} {y : DataW H × List MemPlace} (h : DataW.trod enc Tryd.prog W base (fun _ => true) held fuel 23 [v] = some y) :
    ∃ A l cap, v = .slice A l.length cap ∧ Ints W A l ∧ l.length ≤ cap ∧ ∀ x, x ∈ l → -9223372036854775808 ≤ x ∧ x ≤ 9223372036854775807 := by
  have c3 : Tryd.prog.cellsOf 3 = 1 := by kernel_rfl
  rcases open_ints Tryd.underlying23 Tryd.underlying3 c3 h with ⟨hcs, _⟩ | ⟨a, len, cap, zs, hcs, hb, hl, hm, hz, _, hcell, hwz⟩
  · exact ⟨none, [], 0, by simpa using hcs, Ints.nil _ _, Nat.le_refl _, by simp⟩
  · simp only [if_true] at hz
    have hlen : (zs.take len).length = len := by rw [List.length_take]; omega
    refine ⟨some a, zs.take len, cap, by rw [hlen]; simpa using hcs, ⟨by rw [hlen]; simp only [maxLen] at hm; omega, fun i hi => ?_⟩, by rw [hlen]; exact hl, fun x hx => wf_range (hwz x (List.mem_of_mem_take hx))⟩
    rw [hlen] at hi
    have hc := hcell i (by rw [hz]; omega)
    have hs := spot_none (hcell 0 (by rw [hz]; omega))
    rw [hs, addr_add] at hc
    refine ⟨a.block, a.off, by rw [← hs], World.block_lt_of_cell? W ⟨a.block, a.off + i, none⟩ hc, ?_⟩
    rw [hc]
    have e : (zs.take len).getD i 0 = zs.getD i 0 := by
      simp [List.getD_eq_getElem?_getD, hi]
    rw [e]


/-- a slice of lists that came in -/
theorem open_lists_arg {fuel : Nat} {v : Value} {y : DataW H × List MemPlace} (h : DataW.trod enc Tryd.prog W base (fun _ => true) held fuel 22 [v] = some y) :
    ∃ A l cap, v = .slice A l.length cap ∧ Lists W A l ∧ l.length ≤ cap ∧ ∀ r, r ∈ l → ∀ x, x ∈ r → -9223372036854775808 ≤ x ∧ x ≤ 9223372036854775807 := by
  have c1 : Tryd.prog.cellsOf 23 = 1 := by kernel_rfl
  rcases open_slice1 Tryd.underlying22 c1 h with ⟨hcs, _⟩ | ⟨a, len, cap, m, n, V, D, Pl, hcs, hb, hl, hm, hmm, _, hx⟩
  · exact ⟨none, [], 0, by simpa using hcs, Lists.nil _ _, Nat.le_refl _, by simp⟩
  · simp only [if_true] at hmm
    subst hmm
    have each : ∀ i, i < len → ∃ q : Option Addr × List Int × Nat, W.cell? (a.add i) = some (.slice q.1 q.2.1.length q.2.2) ∧ q.2.1.length ≤ q.2.2 ∧ Ints W q.1 q.2.1 ∧ ∀ x, x ∈ q.2.1 → -9223372036854775808 ≤ x ∧ x ≤ 9223372036854775807 := by
      intro i hi
      obtain ⟨hc, ht⟩ := hx i (by omega)
      obtain ⟨A, l, c, e, h1, h2, h3⟩ := open_ints_arg ht
      exact ⟨(A, l, c), by rw [hc, e], h2, h1, h3⟩
    obtain ⟨f, hf⟩ := choose_lt each
    have hlen : ((List.range len).map fun i => (f i).2.1).length = len := by simp
    refine ⟨some a, (List.range len).map fun i => (f i).2.1, m, by rw [hlen]; simpa using hcs, ⟨by rw [hlen]; simp only [maxLen] at hm; omega, fun i hi => ?_⟩, by rw [hlen]; exact hl, fun r hr => ?_⟩
    · rw [hlen] at hi
      obtain ⟨g0, g1, g2, _⟩ := hf i hi
      have hs := spot_none (hf 0 (by omega)).1
      rw [hs, addr_add] at g0
      have e : ((List.range len).map fun i => (f i).2.1).getD i [] = (f i).2.1 := by simp [List.getD_eq_getElem?_getD, hi]
      rw [e]
      exact ⟨a.block, a.off, (f i).1, (f i).2.2, by rw [← hs], World.block_lt_of_cell? W ⟨a.block, a.off + i, none⟩ g0, g0, g1, g2⟩
    · obtain ⟨i, hi, rfl⟩ := List.mem_map.1 hr
      exact (hf i (List.mem_range.1 hi)).2.2.2
end
end Go.Proofs.YtioekjkfhbopkaaDoor

/- A law's arguments opened where they are of modest bulk: how long the lists can be. Condition: the bulk's bound. -/
namespace Go.Proofs.YtioekjkfhbopkaaDoor
open Go.ChangeShapes Go.WideShapes Go.RowKit Go.Deep Go.Joins

theorem bulk_pos {H : Type} (d : DataW H) : 1 ≤ Rows.uptoBulk d := by
  cases d with
  | lit l => cases l <;> simp [Rows.uptoBulk]
  | nil => simp [Rows.uptoBulk]
  | ptr d => simp [Rows.uptoBulk]
  | slice elems spare => simp [Rows.uptoBulk]
  | agg parts => simp [Rows.uptoBulk]
  | iface t d => simp [Rows.uptoBulk]
  | map entries => simp [Rows.uptoBulk]
  | held h => simp [Rows.uptoBulk]
theorem bulk_len {H : Type} (l : List (DataW H)) : l.length ≤ Rows.uptoBulkAll l := by
  induction l with
  | nil => simp [Rows.uptoBulkAll]
  | cons x r ih => have := bulk_pos x; simp only [Rows.uptoBulkAll, List.length_cons]; omega
theorem bulk_append {H : Type} (l r : List (DataW H)) : Rows.uptoBulkAll (l ++ r) = Rows.uptoBulkAll l + Rows.uptoBulkAll r := by
  induction l with
  | nil => simp [Rows.uptoBulkAll]
  | cons x l ih => simp only [List.cons_append, Rows.uptoBulkAll, ih]; omega
theorem bulk_bound {H : Type} {l : List (DataW H)} (hk : Rows.uptoSmall H l = true) : Rows.uptoBulkAll l ≤ 1048576 := of_decide_eq_true hk
section
variable {H : Type} {enc : TypeId × Value → H} {W : World} {base : Nat} {held : Bool}
theorem open_ints_bulk {fuel : Nat} {v : Value} {y : DataW H × List MemPlace} (h : DataW.trod enc Tryd.prog W base (fun _ => true) held fuel 23 [v] = some y) :
    ∃ A l cap, v = .slice A l.length cap ∧ Ints W A l ∧ l.length ≤ cap ∧ (∀ x, x ∈ l → -9223372036854775808 ≤ x ∧ x ≤ 9223372036854775807) ∧ l.length + 1 ≤ Rows.uptoBulk y.1 := by
  have c3 : Tryd.prog.cellsOf 3 = 1 := by kernel_rfl
  obtain ⟨A, l, cap, e, hI, hc, hr⟩ := open_ints_arg h
  refine ⟨A, l, cap, e, hI, hc, hr, ?_⟩
  rcases open_ints Tryd.underlying23 Tryd.underlying3 c3 h with ⟨hcs, hx⟩ | ⟨a, len, cap', zs, hcs, hb, hl, hm, hz, hx, hcell, hwz⟩
  · rw [e] at hcs
    injection hcs with hcs
    injection hcs with _ h1 _
    rw [h1, hx]
    simp [Rows.uptoBulk]
  · rw [e] at hcs
    injection hcs with hcs
    injection hcs with _ h1 _
    simp only [if_true] at hz
    rw [h1, hx]
    have h2 := bulk_len (H := H) (lits .i64 (zs.take len))
    have h3 : (lits (H := H) .i64 (zs.take len)).length = len := by simp [lits, List.length_take]; omega
    simp only [Rows.uptoBulk]
    omega
theorem bulk_rows (D : Nat → DataW H) (f : Nat → List Int) : ∀ n, (∀ i, i < n → (f i).length + 1 ≤ Rows.uptoBulk (D i)) → ((List.range n).map f).flatten.length + n ≤ Rows.uptoBulkAll ((List.range n).map D) := by
  intro n
  induction n with
  | zero => intro _; simp
  | succ n ih =>
    intro hn
    have h1 := ih fun i hi => hn i (by omega)
    have h2 := hn n (by omega)
    rw [List.range_succ, List.map_append, List.map_append, bulk_append, List.flatten_append, List.length_append]
    simp only [List.map_cons, List.map_nil, List.flatten_cons, List.flatten_nil, List.append_nil, Rows.uptoBulkAll]
    omega
theorem open_lists_bulk {fuel : Nat} {v : Value} {y : DataW H × List MemPlace} (h : DataW.trod enc Tryd.prog W base (fun _ => true) held fuel 22 [v] = some y) :
    ∃ A l cap, v = .slice A l.length cap ∧ Lists W A l ∧ l.length ≤ cap ∧ (∀ r, r ∈ l → ∀ x, x ∈ r → -9223372036854775808 ≤ x ∧ x ≤ 9223372036854775807) ∧ l.flatten.length + l.length + 1 ≤ Rows.uptoBulk y.1 := by
  have c1 : Tryd.prog.cellsOf 23 = 1 := by kernel_rfl
  rcases open_slice1 Tryd.underlying22 c1 h with ⟨hcs, hxx⟩ | ⟨a, len, cap, m, n, V, D, Pl, hcs, hb, hl, hm, hmm, hxx, hx⟩
  · exact ⟨none, [], 0, by simpa using hcs, Lists.nil _ _, Nat.le_refl _, by simp, by rw [hxx]; simp [Rows.uptoBulk]⟩
  · simp only [if_true] at hmm
    subst hmm
    have each : ∀ i, i < len → ∃ q : Option Addr × List Int × Nat, W.cell? (a.add i) = some (.slice q.1 q.2.1.length q.2.2) ∧ q.2.1.length ≤ q.2.2 ∧ Ints W q.1 q.2.1 ∧ (∀ x, x ∈ q.2.1 → -9223372036854775808 ≤ x ∧ x ≤ 9223372036854775807) ∧ q.2.1.length + 1 ≤ Rows.uptoBulk (D i) := by
      intro i hi
      obtain ⟨hc, ht⟩ := hx i (by omega)
      obtain ⟨A, l, c, e, h1, h2, h3, h4⟩ := open_ints_bulk ht
      exact ⟨(A, l, c), by rw [hc, e], h2, h1, h3, h4⟩
    obtain ⟨f, hf⟩ := choose_lt each
    have hlen : ((List.range len).map fun i => (f i).2.1).length = len := by simp
    refine ⟨some a, (List.range len).map fun i => (f i).2.1, m, by rw [hlen]; simpa using hcs, ⟨by rw [hlen]; simp only [maxLen] at hm; omega, fun i hi => ?_⟩, by rw [hlen]; exact hl, fun r hr => ?_, ?_⟩
    · rw [hlen] at hi
      obtain ⟨g0, g1, g2, _⟩ := hf i hi
      have hs := spot_none (hf 0 (by omega)).1
      rw [hs, addr_add] at g0
      have e : ((List.range len).map fun i => (f i).2.1).getD i [] = (f i).2.1 := by simp [List.getD_eq_getElem?_getD, hi]
      rw [e]
      exact ⟨a.block, a.off, (f i).1, (f i).2.2, by rw [← hs], World.block_lt_of_cell? W ⟨a.block, a.off + i, none⟩ g0, g0, g1, g2⟩
    · obtain ⟨i, hi, rfl⟩ := List.mem_map.1 hr
      exact (hf i (List.mem_range.1 hi)).2.2.2.1
    · rw [hxx, hlen]
      have hb := bulk_rows D (fun i => (f i).2.1) len fun i hi => (hf i hi).2.2.2.2
      simp only [Rows.uptoBulk]
      omega
end
end Go.Proofs.YtioekjkfhbopkaaDoor

/- What a shorter list of laid sentinels gives: each reads as an error of its own. Condition: the listed variables read as laid. -/
namespace Go.Proofs.YtioekjkfhbopkaaDoor
open Go.ChangeShapes Go.WideShapes Go.ChangeAt Go.RowKit

/-- the name and the text of a code's variable -/
def nm : Nat → String × List UInt8
  | 1 => ("demon/api.ErrText", [100, 101, 109, 111, 110, 58, 32, 116, 101, 120, 116]) | 2 => ("demon/api.ErrBound", [100, 101, 109, 111, 110, 58, 32, 98, 111, 117, 110, 100])
  | 3 => ("demon/api.ErrShape", [100, 101, 109, 111, 110, 58, 32, 115, 104, 97, 112, 101]) | 4 => ("demon/api.ErrZero", [100, 101, 109, 111, 110, 58, 32, 122, 101, 114, 111])
  | 5 => ("demon/api.ErrName", [100, 101, 109, 111, 110, 58, 32, 110, 97, 109, 101]) | 6 => ("demon/api.ErrNone", [100, 101, 109, 111, 110, 58, 32, 110, 111, 110, 101])
  | 7 => ("demon/api.ErrOrder", [100, 101, 109, 111, 110, 58, 32, 111, 114, 100, 101, 114]) | _ => ("demon/api.ErrKind", [100, 101, 109, 111, 110, 58, 32, 107, 105, 110, 100])
theorem nm_glob : ∀ c, Tryd.prog.globalNamed (nm c).1 = some (glob c)
  | 0 => glob8 | 1 => glob1 | 2 => glob2 | 3 => glob3 | 4 => glob4 | 5 => glob5 | 6 => glob6 | 7 => glob7 | 8 => glob8 | _ + 9 => glob8
theorem nm_type (c : Nat) : (Tryd.prog.globals[glob c]?).map (·.type) = some 27 := by
  refine globT _ ?_
  unfold glob
  split <;> decide
theorem sent_of (cs : List Nat) {W : World} (h : laidMet Tryd.prog ((cs.map nm).map sdat) W) : ∃ a, Sent cs W a := by
  obtain ⟨ps, hv, hpn, hrows⟩ := h
  obtain ⟨bs, hlen, hbnd, _, hall⟩ := sents_of_vars (cs.map nm) ps hv hpn hrows (fun x hx => by
    obtain ⟨c, _, rfl⟩ := List.mem_map.1 hx
    exact ⟨_, nm_glob c, nm_type c⟩)
  have hlen' : bs.length = cs.length := by simpa using hlen
  have key : ∀ c, c ∈ cs → ∃ i, ∃ (hi : i < cs.length) (hj : i < bs.length), cs[i] = c ∧ cs.idxOf c = i ∧ bs[cs.idxOf c]?.getD ⟨0, 0, none⟩ = bs[i] := fun c hc => by
    have h1 := List.idxOf_lt_length_of_mem hc
    refine ⟨cs.idxOf c, h1, by omega, List.getElem_idxOf h1, rfl, ?_⟩
    rw [List.getElem?_eq_getElem (by omega)]
    rfl
  refine ⟨fun c => bs[cs.idxOf c]?.getD ⟨0, 0, none⟩, ⟨⟨?_⟩, ?_, ?_⟩⟩
  · intro c hc
    obtain ⟨i, hi, hj, e1, _, e3⟩ := key c hc
    have := (hall i (by simpa using hi) hj).1
    rw [List.getElem_map, e1] at this
    show W.cell? ⟨glob c, 0, none⟩ = some (.iface 160 (.pointer (some (bs[cs.idxOf c]?.getD ⟨0, 0, none⟩))))
    rw [e3]
    simpa using World.var?_cell (nm_glob c) this 0
  · intro c hc
    obtain ⟨i, hi, hj, e1, _, e3⟩ := key c hc
    have := (hall i (by simpa using hi) hj).2
    show ∃ ca ta, W.heap[(bs[cs.idxOf c]?.getD ⟨0, 0, none⟩).block]? = some (.cells ca ta (0, 0))
    rw [e3]
    exact this
  · intro c hc d hd e
    obtain ⟨i, hi, hj, e1, e2, e3⟩ := key c hc
    obtain ⟨i', hi', hj', e1', e2', e3'⟩ := key d hd
    have e4 : bs[i] = bs[i'] := by rw [← e3, ← e3']; exact e
    have e5 : i = i' := by
      rcases Nat.lt_trichotomy i i' with h1 | h1 | h1
      · exact absurd e4 (List.pairwise_iff_getElem.1 hbnd i i' hj hj' h1)
      · exact h1
      · exact absurd e4.symm (List.pairwise_iff_getElem.1 hbnd i' i hj' hj h1)
    subst e5
    rw [← e1, ← e1']
end Go.Proofs.YtioekjkfhbopkaaDoor

/- The variables that a sample law's row lists, two tables of Go's utf8 among them: what they give; a world in which they are laid. Condition: the listed variables read as laid. -/
namespace Go.Proofs.YtioekjkfhbopkaaDoor
open Go.ChangeShapes Go.WideShapes Go.ChangeAt Go.RowKit

/-- the list of a sample law's row -/
def laidU : List (String × DataW Unit) := [("unicode/utf8.acceptRanges", Rows.laid_unicode_utf8_acceptRanges), ("errors.errorType", Rows.laid_errors_errorType), ("demon/api.ErrText", Rows.laid_demon_api_ErrText), ("demon/api.ErrBound", Rows.laid_demon_api_ErrBound), ("demon/api.ErrShape", Rows.laid_demon_api_ErrShape), ("demon/api.ErrZero", Rows.laid_demon_api_ErrZero), ("demon/api.ErrName", Rows.laid_demon_api_ErrName), ("demon/api.ErrNone", Rows.laid_demon_api_ErrNone), ("demon/api.ErrOrder", Rows.laid_demon_api_ErrOrder), ("demon/api.ErrKind", Rows.laid_demon_api_ErrKind), ("unicode/utf8.first", Rows.laid_unicode_utf8_first)]
def notU (x : String × DataW Unit) : Bool := match x.2 with | .iface _ _ => true | _ => false
theorem laidU_filter : laidU.filter notU = [("errors.errorType", Rows.laid_errors_errorType), ("demon/api.ErrText", Rows.laid_demon_api_ErrText), ("demon/api.ErrBound", Rows.laid_demon_api_ErrBound), ("demon/api.ErrShape", Rows.laid_demon_api_ErrShape), ("demon/api.ErrZero", Rows.laid_demon_api_ErrZero), ("demon/api.ErrName", Rows.laid_demon_api_ErrName), ("demon/api.ErrNone", Rows.laid_demon_api_ErrNone), ("demon/api.ErrOrder", Rows.laid_demon_api_ErrOrder), ("demon/api.ErrKind", Rows.laid_demon_api_ErrKind)] := by kernel_rfl
theorem full_of_laidU {W : World} (h : laidMetH Tryd.prog laidU W) : ∃ a, Sent [1, 2, 3, 4, 5, 6, 7, 8] W a ∧ Handle W := by
  have h2 := laidMetH.filter notU h
  rw [laidU_filter] at h2
  exact full_of_laid h2
/-- a world in which all of them are laid -/
noncomputable def doorU (os : Os) : World := (World.doorLaid Tryd.prog 400 os).layVars Tryd.prog [("unicode/utf8.first", Rows.laid_unicode_utf8_first)]
theorem doorU_os (os : Os) : (doorU os).os = os := (World.layVars_os _ _ _).trans rfl
theorem doorU_laid (os : Os) (args : Array Value) : laidMetH Tryd.prog laidU ((doorU os).forCall (fun _ _ => 0) ⟨#[], args, []⟩).memory :=
  laidMetH_of_parts3 (fuel := 8) (laidMet_of_run3 8 (by kernel_rfl) (by kernel_rfl) (by kernel_rfl)) (by kernel_rfl) (by kernel_rfl)
/-- the list of SampleStays' row -/
def laidUS : List (String × DataW Unit) := [("unicode/utf8.acceptRanges", Rows.laid_unicode_utf8_acceptRanges), ("demon/api.ErrText", Rows.laid_demon_api_ErrText), ("demon/api.ErrBound", Rows.laid_demon_api_ErrBound), ("demon/api.ErrShape", Rows.laid_demon_api_ErrShape), ("demon/api.ErrNone", Rows.laid_demon_api_ErrNone), ("demon/api.ErrOrder", Rows.laid_demon_api_ErrOrder), ("unicode/utf8.first", Rows.laid_unicode_utf8_first)]
theorem laidUS_filter : laidUS.filter notU = [("demon/api.ErrText", Rows.laid_demon_api_ErrText), ("demon/api.ErrBound", Rows.laid_demon_api_ErrBound), ("demon/api.ErrShape", Rows.laid_demon_api_ErrShape), ("demon/api.ErrNone", Rows.laid_demon_api_ErrNone), ("demon/api.ErrOrder", Rows.laid_demon_api_ErrOrder)] := by kernel_rfl
theorem full_of_laidUS {W : World} (h : laidMetH Tryd.prog laidUS W) : ∃ a, Sent [1, 2, 3, 6, 7] W a ∧ True := by
  have h2 := laidMetH.filter notU h
  rw [laidUS_filter] at h2
  obtain ⟨a, hS⟩ := sent_of [1, 2, 3, 6, 7] (show laidMet Tryd.prog (([1, 2, 3, 6, 7].map nm).map sdat) W from h2)
  exact ⟨a, hS, trivial⟩
theorem doorUS_laid (os : Os) (args : Array Value) : laidMetH Tryd.prog laidUS ((doorU os).forCall (fun _ _ => 0) ⟨#[], args, []⟩).memory :=
  laidMetH_of_parts3 (fuel := 8) (laidMet_of_run3 8 (by kernel_rfl) (by kernel_rfl) (by kernel_rfl)) (by kernel_rfl) (by kernel_rfl)
end Go.Proofs.YtioekjkfhbopkaaDoor
