/- The walk of secret.Valid. No condition. -/
import Derived.Test.YtieeefgkdfijdaaDoorSe2
namespace Go.Proofs.YtieeefgkdfijdaaDoor
open Go.RowKit Go.Deep

theorem errC_pos (a : Nat → Addr) (c : Int) (h : c ≠ 0) : errC a c = .iface 161 (.pointer (some (a c.toNat))) := by unfold errC; rw [if_neg h]; rfl

theorem alloc_block (w : World) (o : Obj) : (w.alloc o).heap[w.heap.size]? = some o := by
  show (w.heap.push o)[w.heap.size]? = some o
  rw [Array.getElem?_push_size]
theorem seen_new (w : World) : (w.alloc (.cells #[.bool false, .bool false, .bool false, .bool false, .bool false, .bool false, .bool false, .bool false, .bool false, .bool false, .bool false, .bool false, .bool false, .bool false, .bool false, .bool false] 87)).rowIs w.heap.size 87 16 (fun _ => .bool false) := by
  refine ⟨_, alloc_block _ _, rfl, fun i hi => ?_⟩
  have h : ∀ i : Fin 16, (#[.bool false, .bool false, .bool false, .bool false, .bool false, .bool false, .bool false, .bool false, .bool false, .bool false, .bool false, .bool false, .bool false, .bool false, .bool false, .bool false] : Array Value)[i.1]? = some (.bool false) := by
    intro i
    match i with
    | ⟨0, _⟩ | ⟨1, _⟩ | ⟨2, _⟩ | ⟨3, _⟩ | ⟨4, _⟩ | ⟨5, _⟩ | ⟨6, _⟩ | ⟨7, _⟩ | ⟨8, _⟩ | ⟨9, _⟩ | ⟨10, _⟩ | ⟨11, _⟩ | ⟨12, _⟩ | ⟨13, _⟩ | ⟨14, _⟩ | ⟨15, _⟩ => rfl
    | ⟨n + 16, h⟩ => exact absurd h (by omega)
  exact h ⟨i, hi⟩
theorem seen_step (r : List Int) (j : Nat) (hj : j < r.length) (s : Int) : (r.take (j + 1)).contains s = ((r.take j).contains s || decide (s = r.getD j 0)) := by
  rw [take_at r j hj]
  simp [List.contains_eq_mem, List.mem_append]

set_option maxRecDepth 100000 in
set_option maxHeartbeats 4000000 in
theorem secValid_any (Ka La : Option Addr) (K : List Int) (L : List (List Int)) (kc lc : Nat) (w : World) (a : Nat → Addr) (hE : Env [2, 3] w a) (hK : Ints w Ka K) (hL : Lists w La L) :
    Calls Tryd.prog 25 #[.agg #[.slice Ka K.length kc, .slice La L.length lc]] w fun e w' => e = .returned (errC a (ccode K L)) ∧ Below w.heap.size w w' := by
  have hKl := hK.len
  have hLl := hL.len
  have x3 : w.cell? ⟨1, 0, none⟩ = some (.iface 161 (.pointer (some (a 3)))) := hE.cell 3 (by simp)
  have hg3 : 1 < w.heap.size := hE.lt (c := 3) (by simp)
  have HWE := hide (distValid_any Ka K kc (w.alloc (.cells #[.slice Ka K.length kc, .slice La L.length lc] 46)) a (hE.below (below_alloc' (Below.refl _ _) _)) (hK.below (below_alloc' (Below.refl _ _) _)))
  by_cases hk0 : wErr K = 0
  · rw [hk0, errC_zero] at HWE
    by_cases hll : L.length = K.length
    · have hll' : K.length = L.length := hll.symm
      rw [hll'] at HWE ⊢
      have HLL := hide hll
      clear hll hll'
      go_enter Tryd.func25, Tryd.ntmps25
      go_wp2_with (go_at_call 56; refine Calls.mono HWE.out ?_; rintro e w1 ⟨rfl, hb1⟩; obtain ⟨k1, k2⟩ := below_cells hb1; have hz1 : w.heap.size < w1.heap.size := by (have := hb1.size; simp at this; omega)
                   have y0 : w1.cell? ⟨w.heap.size, 0, none⟩ = some (.slice Ka L.length kc) := by rw [k1 _ _ (by simp)]; simp
                   have y1 : w1.cell? ⟨w.heap.size, 1, none⟩ = some (.slice La L.length lc) := by rw [k1 _ _ (by simp)]; simp
                   have y3 : w1.cell? ⟨1, 0, none⟩ = some (.iface 161 (.pointer (some (a 3)))) := by rw [k1 _ _ (by simp; omega)]; exact (World.cell?_alloc_lt _ _ ⟨1, 0, none⟩ hg3).trans x3
                   clear k1 k2)
      have hB1 : Below w.heap.size w w1 := below_trans (below_alloc' (Below.refl _ _) _) hb1
      go_loopw [26] (fun i wr => ∃ k : Nat, k ≤ L.length ∧ i = .int .i64 k ∧ Hid (RowsOk L k) ∧ Below w1.heap.size w1 wr) (fun i _ => L.length - (intOf i).toNat)
      case atStart => exact ⟨0, Nat.zero_le _, rfl, hide (RowsOk.zero L), Below.refl _ _⟩
      case round =>
        obtain ⟨i, hi, rfl, HR, hBi⟩ := hrel
        obtain ⟨wi, rfl⟩ : ∃ wi : World, wi = wr := ⟨_, rfl⟩
        have z1 : wi.cell? ⟨w.heap.size, 1, none⟩ = some (.slice La L.length lc) := (hBi.cell (p := ⟨w.heap.size, 1, none⟩) hz1).trans y1
        have z3 : wi.cell? ⟨1, 0, none⟩ = some (.iface 161 (.pointer (some (a 3)))) := (hBi.cell (p := ⟨1, 0, none⟩) (by show 1 < _; omega)).trans y3
        have hz2 : w.heap.size < wi.heap.size := Nat.lt_of_lt_of_le hz1 hBi.size
        have hz3 : 1 < wi.heap.size := by omega
        by_cases hil : i < L.length
        · have hLi := hL.below (below_trans hB1 hBi)
          obtain ⟨b, off, A', c', rfl, hb, d1, hle, hI⟩ := hLi.at_ i hil
          obtain ⟨b0, off0, A0, c0, e0, _, d0, _, _⟩ := hLi.at_ 0 (by omega)
          injection e0 with e0
          injection e0 with e1 e2 _
          subst e1 e2
          have d0' : wi.cell? ⟨b, off, none⟩ = some (.slice A0 (L.getD 0 []).length c0) := d0
          have hbad := fun h => ccode_bad hk0 HLL.out hil h
          have hnext := fun h => HR.out.succ (i := i) h
          clear d0 hLi
          generalize L.getD i [] = r at d1 hle hI hbad hnext
          generalize (L.getD 0 []).length = n at d0' hbad hnext
          have HBAD := hide hbad
          have HNEXT := hide hnext
          clear hbad hnext
          have i0 : (0 : Int) ≤ (i : Int) := Int.natCast_nonneg _
          have i1 : (i : Int) < (L.length : Int) := by omega
          have i2 : (0 : Int) < (L.length : Int) := by omega
          have hBw := below_trans hB1 hBi
          by_cases h0 : r.length = 0
          · have hb0 := badRow_of (n := n) (.inl h0)
            have q0 : ((r.length : Int) == 0) = true := by rw [h0]; rfl
            go_wp2_with (fail)
            go_ret
            exact ⟨by rw [HBAD.out hb0]; rfl, below_alloc' hBw _⟩
          · have q0 : ((r.length : Int) == 0) = false := by rw [beq_eq_false_iff_ne]; omega
            by_cases h1 : 16 < r.length
            · have q1 : decide (16 < (r.length : Int)) = true := decide_eq_true (by omega)
              have hb0 := badRow_of (n := n) (.inr (.inl h1))
              go_wp2_with (fail)
              go_ret
              exact ⟨by rw [HBAD.out hb0]; rfl, below_alloc' hBw _⟩
            · have q1 : decide (16 < (r.length : Int)) = false := decide_eq_false (by omega)
              by_cases h2 : r.length ≠ n
              · have hb0 := badRow_of (n := n) (.inr (.inr h2))
                have h2' : ((r.length : Int) == (n : Int)) = false := by simpa using fun h => h2 (by omega)
                have h2'' : ((r.length : Int) != (n : Int)) = true := by simpa using fun h => h2 (by omega)
                go_wp2_with (fail)
                go_ret
                exact ⟨by rw [HBAD.out hb0]; rfl, below_alloc' hBw _⟩
              · have h2' : n = r.length := by omega
                subst h2'
                have h2'' : ((r.length : Int) != (r.length : Int)) = false := by simp
                go_wp2_with (fail)
                have hlen16 : r.length ≤ 16 := by omega
                have hrow0 := seen_new wi
                have hBs : Below wi.heap.size wi (wi.alloc (.cells #[.bool false, .bool false, .bool false, .bool false, .bool false, .bool false, .bool false, .bool false, .bool false, .bool false, .bool false, .bool false, .bool false, .bool false, .bool false, .bool false] 87)) := below_alloc' (Below.refl _ _) _
                generalize wi.alloc (.cells #[.bool false, .bool false, .bool false, .bool false, .bool false, .bool false, .bool false, .bool false, .bool false, .bool false, .bool false, .bool false, .bool false, .bool false, .bool false, .bool false] 87) = ws at hrow0 hBs ⊢
                have HI := hide hI
                clear hI
                go_loopw [51] (fun v wr => ∃ j : Nat, j ≤ r.length ∧ v = .int .i64 j ∧ Hid (SignsOk r j) ∧ Below wi.heap.size wi wr ∧ wr.rowIs wi.heap.size 87 16 (fun s => .bool ((r.take j).contains (s : Int)))) (fun v _ => r.length - (intOf v).toNat)
                case atStart => exact ⟨0, Nat.zero_le _, rfl, hide (SignsOk.zero r), hBs, hrow0.congr fun s _ => by simp⟩
                case round =>
                  obtain ⟨j, hj, rfl, HSG, hBj, hrow⟩ := hrel
                  obtain ⟨wj, rfl⟩ : ∃ wj : World, wj = wr := ⟨_, rfl⟩
                  have g3 : wj.cell? ⟨1, 0, none⟩ = some (.iface 161 (.pointer (some (a 3)))) := (hBj.cell (p := ⟨1, 0, none⟩) hz3).trans z3
                  have hlt := hrow.lt
                  have j0 : (0 : Int) ≤ (j : Int) := Int.natCast_nonneg _
                  by_cases hjl : j < r.length
                  · obtain ⟨b', off', rfl, _, dj⟩ := (HI.out.below hBj).at_ j hjl
                    have j1 : (j : Int) < (r.length : Int) := by omega
                    have hsg : ∀ x, x = badSign r j → x = ((r.take j).contains (r.getD j 0) || decide (r.getD j 0 < 0) || decide (15 < r.getD j 0)) := fun x h => h
                    have hbs := fun h => badRow_sign (n := r.length) hjl h
                    have hns := fun h => HSG.out.succ (k := j) h
                    have hst := seen_step r j hjl
                    generalize r.getD j 0 = x at dj hsg hst
                    have HSB := hide hsg
                    have HBS := hide hbs
                    have HNS := hide hns
                    have HST := hide hst
                    clear hsg hbs hns hst
                    by_cases x0 : x < 0
                    · go_wp2_with (fail)
                      go_ret
                      exact ⟨by rw [HBAD.out (HBS.out (by rw [HSB.out _ rfl, decide_eq_true x0]; simp))]; rfl, hBw.trans (hBj.mono (by omega))⟩
                    · by_cases x15 : 15 < x
                      · have x16 : 16 ≤ x := by omega
                        go_wp2_with (fail)
                        go_ret
                        exact ⟨by rw [HBAD.out (HBS.out (by rw [HSB.out _ rfl, decide_eq_true x15]; simp))]; rfl, hBw.trans (hBj.mono (by omega))⟩
                      · obtain ⟨x, rfl⟩ := Int.eq_ofNat_of_zero_le (show 0 ≤ x by omega)
                        have x16 : x < 16 := by omega
                        have s1 : wj.cell? ⟨wi.heap.size, x, none⟩ = some (.bool ((r.take j).contains (x : Int))) := hrow.cell x16
                        have s2 : wj.frozen? ⟨wi.heap.size, x, none⟩ = false := hrow.frozen x
                        have s3 : (x : Int) < 16 := by omega
                        have s4 : ¬ (16 ≤ (x : Int)) := by omega
                        have hset := hrow.set x (.bool true)
                        have HSET := hide hset
                        clear hset
                        by_cases hc : (r.take j).contains (x : Int) = true
                        · rw [hc] at s1
                          go_wp2_with (fail)
                          go_ret
                          exact ⟨by rw [HBAD.out (HBS.out (by rw [HSB.out _ rfl, hc]; simp))]; rfl, hBw.trans (hBj.mono (by omega))⟩
                        · have hc' : (r.take j).contains (x : Int) = false := by simpa using hc
                          rw [hc'] at s1
                          have HC := hide hc'
                          clear hc hc'
                          go_wp2_with (fail)
                          go_roundw
                          case rel => exact ⟨j + 1, by omega, by go_num, hide (HNS.out (by rw [HSB.out _ rfl, HC.out, decide_eq_false x0, decide_eq_false x15]; rfl)), hBj.setCell (p := ⟨wi.heap.size, x, none⟩) (Nat.le_refl _) _, HSET.out.congr fun s _ => by
                            rw [HST.out]
                            by_cases e : s = x
                            · subst e; simp
                            · rw [if_neg e, decide_eq_false (by omega), Bool.or_false]⟩
                          case measure => simp [intOf]; omega
                  · obtain rfl : j = r.length := by omega
                    have hgood := badRow_good (n := r.length) h0 hlen16 rfl HSG.out
                    have HG := hide hgood
                    clear hgood
                    go_wp2_with (fail)
                    go_roundw
                    case rel => exact ⟨i + 1, by omega, by go_num, hide (HNEXT.out HG.out), hBi.trans (hBj.mono hBi.size)⟩
                    case measure => simp [intOf]; omega
        · obtain rfl : i = L.length := by omega
          go_wp2_with (fail)
          go_ret
          exact ⟨by rw [ccode_good hk0 HLL.out HR.out]; rfl, below_trans hB1 hBi⟩
    · rw [ccode_len hk0 hll]
      go_enter Tryd.func25, Tryd.ntmps25
      go_wp2_with (go_at_call 56; refine Calls.mono HWE.out ?_; rintro e w1 ⟨rfl, hb1⟩; obtain ⟨k1, k2⟩ := below_cells hb1; have hz1 : w.heap.size < w1.heap.size := by (have := hb1.size; simp at this; omega)
                   have y0 : w1.cell? ⟨w.heap.size, 0, none⟩ = some (.slice Ka K.length kc) := by rw [k1 _ _ (by simp)]; simp
                   have y1 : w1.cell? ⟨w.heap.size, 1, none⟩ = some (.slice La L.length lc) := by rw [k1 _ _ (by simp)]; simp
                   have y3 : w1.cell? ⟨1, 0, none⟩ = some (.iface 161 (.pointer (some (a 3)))) := by rw [k1 _ _ (by simp; omega)]; exact (World.cell?_alloc_lt _ _ ⟨1, 0, none⟩ hg3).trans x3
                   clear k1 k2)
      go_ret
      exact ⟨rfl, below_trans (below_alloc' (Below.refl _ _) _) hb1⟩
  · rw [ccode_keys hk0]
    rw [errC_pos a _ hk0] at HWE ⊢
    generalize a (wErr K).toNat = a0 at HWE ⊢
    clear hk0
    go_enter Tryd.func25, Tryd.ntmps25
    go_wp2_with (go_at_call 56; refine Calls.mono HWE.out ?_; rintro e w1 ⟨rfl, hb1⟩)
    go_ret
    exact ⟨rfl, below_trans (below_alloc' (Below.refl _ _) _) hb1⟩
end Go.Proofs.YtieeefgkdfijdaaDoor
