/- The walk of secret.Table. No condition. -/
import Derived.Test.YtieeefgkdfijdaaDoorSe8
import Derived.StillTailTactics
namespace Go.Proofs.YtieeefgkdfijdaaDoor
open Go.RowKit Go.Deep Go.Proofs.YtieeefgkdfijdaaDoorW.PrintWords

/-- messages and signs -/
def tabOf (K : List Int) (L : List (List Int)) (W : List Int) (M n : Nat) : List (List Int) := (List.range M).map fun m => (List.range n).map fun s => sgn K L m (s : Nat) L.length * W.getD m 0
theorem tabOf_len (K : List Int) (L : List (List Int)) (W : List Int) (M n : Nat) : (tabOf K L W M n).length = M := by simp [tabOf]
theorem tabOf_flat (K : List Int) (L : List (List Int)) (W : List Int) (n : Nat) : ∀ M, (tabOf K L W M n).flatten.length = M * n := by
  intro M
  induction M with
  | zero => simp [tabOf]
  | succ M ih =>
    have e : tabOf K L W (M + 1) n = tabOf K L W M n ++ [(List.range n).map fun s => sgn K L M (s : Nat) L.length * W.getD M 0] := by simp [tabOf, List.range_succ]
    rw [e, List.flatten_append, List.length_append, ih, Nat.succ_mul]
    simp
theorem le_sum (l : List Int) (h : anyNeg l = false) (i : Nat) : l.getD i 0 ≤ l.sum := by
  rcases Nat.lt_or_ge i l.length with hi | hi
  · have h1 := sum_take l i hi
    have h2 := take_sum_le l h (i + 1)
    have h3 : anyNeg (l.take i) = false := by
      unfold anyNeg at h ⊢
      have e : l = l.take i ++ l.drop i := (List.take_append_drop i l).symm
      rw [e, List.any_append, Bool.or_eq_false_iff] at h
      exact h.1
    have h4 := sum_nonneg _ h3
    omega
  · rw [List.getD_eq_getElem?_getD, List.getElem?_eq_none hi]
    exact sum_nonneg l h
theorem weight_range {W : List Int} (h : wErr W = 0) (m : Nat) : 0 ≤ W.getD m 0 ∧ W.getD m 0 ≤ 4096 := by
  obtain ⟨_, h1, h2, _⟩ := keys_good h
  exact ⟨key_nonneg h1 m, by have := le_sum W h1 m; omega⟩
theorem mul_small {x y : Int} (hx : 0 ≤ x ∧ x ≤ 4096) (hy : 0 ≤ y ∧ y ≤ 4096) : 0 ≤ x * y ∧ x * y ≤ 16777216 := by
  obtain ⟨q, hq, hq2⟩ : ∃ q : Nat, x * y = q ∧ q ≤ 4096 * 4096 := by
    obtain ⟨a, rfl⟩ := Int.eq_ofNat_of_zero_le hx.1
    obtain ⟨b, rfl⟩ := Int.eq_ofNat_of_zero_le hy.1
    exact ⟨a * b, by push_cast; rfl, Nat.mul_le_mul (by omega) (by omega)⟩
  omega

section
variable (Ka La Wa : Option Addr) (K : List Int) (L : List (List Int)) (W : List Int) (kc lc wc : Nat) (w : World) (a : Nat → Addr) (hE : Env [2, 3] w a) (hK : Ints w Ka K) (hL : Lists w La L) (hW : Ints w Wa W)
include hE hK hL

set_option maxRecDepth 100000 in
set_option maxHeartbeats 4000000 in
theorem table_err1 (h : ccode K L ≠ 0) :
    Calls Tryd.prog 30 #[.agg #[.slice Ka K.length kc, .slice La L.length lc], .slice Wa W.length wc] w fun e w' => e = .returned (.tuple #[.slice none 0 0, errC a (ccode K L)]) ∧ Below w.heap.size w w' := by
  have hv := fun w' (hb : Below w.heap.size w w') => secValid_any Ka La K L kc lc w' a (hE.below hb) (hK.below hb) (hL.below hb)
  rw [errC_pos a _ h] at hv ⊢
  have HV := hide hv
  clear hv h
  generalize a (ccode K L).toNat = a0 at HV ⊢
  go_enter Tryd.func30, Tryd.ntmps30
  go_wp2_with (go_at_call 25; refine Calls.mono (HV.out _ (below_alloc' (Below.refl _ _) _)) ?_; rintro e w1 ⟨rfl, hb1⟩)
  go_ret2
  exact ⟨rfl, below_trans (below_alloc' (Below.refl _ _) _) hb1⟩
include hW
set_option maxRecDepth 100000 in
set_option maxHeartbeats 4000000 in
theorem table_err2 (h0 : ccode K L = 0) (h : wErr W ≠ 0) :
    Calls Tryd.prog 30 #[.agg #[.slice Ka K.length kc, .slice La L.length lc], .slice Wa W.length wc] w fun e w' => e = .returned (.tuple #[.slice none 0 0, errC a (wErr W)]) ∧ Below w.heap.size w w' := by
  have hv := fun w' (hb : Below w.heap.size w w') => secValid_any Ka La K L kc lc w' a (hE.below hb) (hK.below hb) (hL.below hb)
  have hw := fun w' (hb : Below w.heap.size w w') => distValid_any Wa W wc w' a (hE.below hb) (hW.below hb)
  rw [h0, errC_zero] at hv
  rw [errC_pos a _ h] at hw ⊢
  have HV := hide hv
  have HW := hide hw
  clear hv hw h h0
  generalize a (wErr W).toNat = a0 at HW ⊢
  go_enter Tryd.func30, Tryd.ntmps30
  go_wp2_with (first
    | (go_at_call 25; refine Calls.mono (HV.out _ (below_alloc' (Below.refl _ _) _)) ?_; rintro e w1 ⟨rfl, hb1⟩; have hB1 := below_trans (below_alloc' (Below.refl _ _) _) hb1)
    | (go_at_call 56; refine Calls.mono (HW.out w1 hB1) ?_; rintro e w2 ⟨rfl, hb2⟩))
  go_ret2
  exact ⟨rfl, below_trans hB1 hb2⟩
set_option maxRecDepth 100000 in
set_option maxHeartbeats 4000000 in
theorem table_err3 (h0 : ccode K L = 0) (h1 : wErr W = 0) (h : W.length ≠ (L.getD 0 []).length) :
    Calls Tryd.prog 30 #[.agg #[.slice Ka K.length kc, .slice La L.length lc], .slice Wa W.length wc] w fun e w' => e = .returned (.tuple #[.slice none 0 0, errC a 3]) ∧ Below w.heap.size w w' := by
  have hv := fun w' (hb : Below w.heap.size w w') => secValid_any Ka La K L kc lc w' a (hE.below hb) (hK.below hb) (hL.below hb)
  have hw := fun w' (hb : Below w.heap.size w w') => distValid_any Wa W wc w' a (hE.below hb) (hW.below hb)
  rw [h0, errC_zero] at hv
  rw [h1, errC_zero] at hw
  have hg := ccode_zero h0
  have hL0 : 0 < L.length := by have := (keys_good hg.keys).2.2.2; have := hg.len; omega
  have hll := hL.len
  have HV := hide hv
  have HW := hide hw
  clear hv hw h1 h0 hg
  have x3 : w.cell? ⟨1, 0, none⟩ = some (.iface 161 (.pointer (some (a 3)))) := hE.cell 3 (by simp)
  have hg3 : 1 < w.heap.size := hE.lt (c := 3) (by simp)
  obtain ⟨b, off, A0, c0, rfl, hb, d0, hle, hI⟩ := hL.at_ 0 hL0
  have d0' : w.cell? ⟨b, off, none⟩ = some (.slice A0 (L.getD 0 []).length c0) := d0
  clear d0 hI
  generalize (L.getD 0 []).length = n at d0' hle h
  have hne : ((W.length : Int) != (n : Int)) = true := by rw [bne_iff_ne]; omega
  have HH := hide h
  clear h
  have i0 : (0 : Int) < (L.length : Int) := by omega
  go_enter Tryd.func30, Tryd.ntmps30
  go_wp2_with (first
    | (go_at_call 25; refine Calls.mono (HV.out _ (below_alloc' (Below.refl _ _) _)) ?_; rintro e w1 ⟨rfl, hb1⟩; have hB1 := below_trans (below_alloc' (Below.refl _ _) _) hb1
       obtain ⟨k1, k2⟩ := below_cells hb1
       have hz1 : w.heap.size < w1.heap.size := by (have := hb1.size; simp at this; omega)
       have y1 : w1.cell? ⟨w.heap.size, 1, none⟩ = some (.slice (some ⟨b, off, none⟩) L.length lc) := by rw [k1 _ _ (by simp)]; simp
       clear k1 k2)
    | (go_at_call 56; refine Calls.mono (HW.out w1 hB1) ?_; rintro e w2 ⟨rfl, hb2⟩
       have hB2 := below_trans hB1 hb2
       have z1 : w2.cell? ⟨w.heap.size, 1, none⟩ = some (.slice (some ⟨b, off, none⟩) L.length lc) := (hb2.cell (p := ⟨w.heap.size, 1, none⟩) hz1).trans y1
       have z2 : w2.cell? ⟨b, off, none⟩ = some (.slice A0 n c0) := (hB2.cell (p := ⟨b, off, none⟩) hb).trans d0'
       have z3 : w2.cell? ⟨1, 0, none⟩ = some (.iface 161 (.pointer (some (a 3)))) := (hB2.cell (p := ⟨1, 0, none⟩) hg3).trans x3))
  go_region
  all_goals go_wp2_with (fail)
  all_goals go_ret2
  all_goals exact ⟨rfl, below_drewN' hB2 1⟩
end

/-- what Table gives for a table T -/
def RetTable (a : Nat → Addr) (T : List (List Int)) (w : World) (e : Ending) (w' : World) : Prop :=
  Below w.heap.size w w' ∧ ((tErr T = 0 ∧ ∃ A c, e = .returned (.tuple #[.slice A T.length c, .nilIface]) ∧ Lists w' A T ∧ T.length ≤ c) ∨ (tErr T ≠ 0 ∧ e = .returned (.tuple #[.slice none 0 0, errC a (tErr T)])))

set_option maxRecDepth 100000 in
set_option maxHeartbeats 8000000 in
theorem table_ok (Ka La Wa : Option Addr) (K : List Int) (L : List (List Int)) (W : List Int) (kc lc wc : Nat) (w : World) (a : Nat → Addr) (hE : Env [2, 3] w a) (hK : Ints w Ka K) (hL : Lists w La L) (hW : Ints w Wa W)
    (h0 : ccode K L = 0) (h1 : wErr W = 0) (h : W.length = (L.getD 0 []).length) (N : Nat) (hN : (N : Int) = topOf L.flatten 0) :
    Calls Tryd.prog 30 #[.agg #[.slice Ka K.length kc, .slice La L.length lc], .slice Wa W.length wc] w (RetTable a (tabOf K L W W.length (N + 1)) w) := by
  have hv := fun w' (hb : Below w.heap.size w w') => secValid_any Ka La K L kc lc w' a (hE.below hb) (hK.below hb) (hL.below hb)
  have hw := fun w' (hb : Below w.heap.size w w') => distValid_any Wa W wc w' a (hE.below hb) (hW.below hb)
  have hg := ccode_zero h0
  have hsi := fun w' (hb : Below w.heap.size w w') => signs_ok Ka La K L kc lc w' (hK.below hb) (hL.below hb) hg N hN
  rw [h0, errC_zero] at hv
  rw [h1, errC_zero] at hw
  rw [← h] at hsi
  have hL0 : 0 < L.length := by have := (keys_good hg.keys).2.2.2; have := hg.len; omega
  have hM16 := (keys_good h1).1
  have hM0 := (keys_good h1).2.2.2
  have hN15 : N ≤ 15 := by have := hg.top; omega
  have hwr := fun m => weight_range h1 m
  have hsg := fun m s => sgn_le hg m s L.length (by rw [hg.len]; exact Nat.le_refl _)
  have hll := hL.len
  have HV := hide hv
  have HW := hide hw
  have HSI := hide hsi
  have HWR := hide hwr
  have HSG := hide hsg
  clear hv hw hsi hwr hsg h1 h0 hg hN
  obtain ⟨b, off, A0, c0, rfl, hb, d0, hle, hI⟩ := hL.at_ 0 hL0
  have d0' : w.cell? ⟨b, off, none⟩ = some (.slice A0 (L.getD 0 []).length c0) := d0
  rw [← h] at d0' hle
  clear d0 hI h
  generalize hMM : W.length = M at *
  have HMM := hide hMM
  clear hMM
  have hne : ((M : Int) != (M : Int)) = false := by simp
  have i0 : (0 : Int) < (L.length : Int) := by omega
  go_enter Tryd.func30, Tryd.ntmps30
  go_wp2_with (first
    | (go_at_call 25; refine Calls.mono (HV.out _ (below_alloc' (Below.refl _ _) _)) ?_; rintro e w1 ⟨rfl, hb1⟩; have hB1 := below_trans (below_alloc' (Below.refl _ _) _) hb1
       obtain ⟨k1, k2⟩ := below_cells hb1
       have hz1 : w.heap.size < w1.heap.size := by (have := hb1.size; simp at this; omega)
       have y0 : w1.cell? ⟨w.heap.size, 0, none⟩ = some (.slice Ka K.length kc) := by rw [k1 _ _ (by simp)]; simp
       have y1 : w1.cell? ⟨w.heap.size, 1, none⟩ = some (.slice (some ⟨b, off, none⟩) L.length lc) := by rw [k1 _ _ (by simp)]; simp
       clear k1 k2)
    | (go_at_call 56; refine Calls.mono (HW.out w1 hB1) ?_; rintro e w2 ⟨rfl, hb2⟩
       have hB2 := below_trans hB1 hb2
       have z0 : w2.cell? ⟨w.heap.size, 0, none⟩ = some (.slice Ka K.length kc) := (hb2.cell (p := ⟨w.heap.size, 0, none⟩) hz1).trans y0
       have z1 : w2.cell? ⟨w.heap.size, 1, none⟩ = some (.slice (some ⟨b, off, none⟩) L.length lc) := (hb2.cell (p := ⟨w.heap.size, 1, none⟩) hz1).trans y1
       have z2 : w2.cell? ⟨b, off, none⟩ = some (.slice A0 M c0) := (hB2.cell (p := ⟨b, off, none⟩) hb).trans d0')
    | (go_at_call 53; refine Calls.mono (HSI.out w2 hB2) ?_; intro e w3 hpost; obtain ⟨B, rfl, hBB, hT, hb3⟩ := hpost))
  have hwi := fun (m : Nat) (hm : m < M) (w' : World) (hb' : Below w.heap.size w w') => (hW.below hb').at_ m (by rw [HMM.out]; exact hm)
  have HWI := hide hwi
  clear hwi
  go_loopw [35] (fun v wr => ∃ m : Nat, m ≤ M ∧ v = .int .i64 m ∧ Below w2.heap.size w2 wr ∧ Tab wr B M (N + 1) (fun x s => if x < m then sgn K L x (s : Nat) L.length * W.getD x 0 else sgn K L x (s : Nat) L.length)) (fun v _ => M - (intOf v).toNat)
  case atStart => exact ⟨0, Nat.zero_le _, rfl, hb3, hT.congr fun x _ s _ => by rw [if_neg (by omega)]⟩
  case round =>
    obtain ⟨m, hm, rfl, hBm, hTm⟩ := hrel
    obtain ⟨wm, rfl⟩ : ∃ wm : World, wm = wr := ⟨_, rfl⟩
    have m0 : (0 : Int) ≤ (m : Int) := Int.natCast_nonneg _
    by_cases hmM : m < M
    · have m1 : (m : Int) < (M : Int) := by omega
      have c1 : wm.cell? ⟨B, m, none⟩ = some (.slice (some ⟨B + 1 + m, 0, none⟩) (N + 1) (N + 1)) := hTm.outer.cell hmM
      go_wp2_with (fail)
      go_loopw [43] (fun v wr => ∃ j : Nat, j ≤ N + 1 ∧ v = .int .i64 j ∧ Below w2.heap.size w2 wr ∧ Tab wr B M (N + 1) (fun x s => if x < m ∨ (x = m ∧ s < j) then sgn K L x (s : Nat) L.length * W.getD x 0 else sgn K L x (s : Nat) L.length)) (fun v _ => N + 1 - (intOf v).toNat)
      case atStart => exact ⟨0, Nat.zero_le _, rfl, hBm, hTm.congr fun x _ s _ => by
        by_cases e : x < m
        · rw [if_pos e, if_pos (.inl e)]
        · rw [if_neg e, if_neg (by omega)]⟩
      case round =>
        obtain ⟨j, hj, rfl, hBj, hTj⟩ := hrel
        obtain ⟨wj, rfl⟩ : ∃ wj : World, wj = wr := ⟨_, rfl⟩
        clear c1
        have j0 : (0 : Int) ≤ (j : Int) := Int.natCast_nonneg _
        by_cases hjN : j < N + 1
        · have j1 : (j : Int) < (N : Int) + 1 := by omega
          obtain ⟨b3, off3, rfl, _, d3⟩ := HWI.out m hmM wj (below_trans hB2 hBj)
          have t1 : wj.cell? ⟨B, m, none⟩ = some (.slice (some ⟨B + 1 + m, 0, none⟩) (N + 1) (N + 1)) := hTj.outer.cell hmM
          have t2 : wj.cell? ⟨B + 1 + m, j, none⟩ = some (.int .i64 (sgn K L m (j : Nat) L.length)) := by
            have := (hTj.inner m hmM).cell (i := j) hjN
            rw [if_neg (by omega)] at this
            exact this
          have t3 : wj.frozen? ⟨B + 1 + m, j, none⟩ = false := (hTj.inner m hmM).frozen _
          have hpr := mul_small (HSG.out m (j : Nat)) (HWR.out m)
          have hset := hTj.set m j hmM (sgn K L m (j : Nat) L.length * W.getD m 0)
          have hT' := hset.congr (g := fun x s => if x < m ∨ (x = m ∧ s < j + 1) then sgn K L x (s : Nat) L.length * W.getD x 0 else sgn K L x (s : Nat) L.length) (fun x _ s _ => by
            by_cases e : x = m ∧ s = j
            · rw [if_pos e, if_pos (by omega), e.1, e.2]
            · rw [if_neg e]
              by_cases e2 : x < m ∨ (x = m ∧ s < j)
              · rw [if_pos e2, if_pos (by omega)]
              · rw [if_neg e2, if_neg (by omega)])
          have hbb := hBj.setCell (p := ⟨B + 1 + m, j, none⟩) (by show w2.heap.size ≤ B + 1 + m; omega) (.int .i64 (sgn K L m (j : Nat) L.length * W.getD m 0))
          clear hset
          generalize sgn K L m (j : Nat) L.length = s0 at *
          generalize W.getD m 0 = x0 at *
          have hw : IntKind.i64.wrap (s0 * x0) = s0 * x0 := by rw [IntKind.wrap_i64]; omega
          have HT := hide hT'
          have HBB := hide hbb
          clear hT' hTj hbb hpr
          go_wp2_with (fail)
          go_still_tail 13, (by kernel_rfl)
          go_wp2_with (fail)
          go_roundw
          case rel =>
            refine ⟨j + 1, by omega, by go_num, ?_, ⟨HT.out.outer, HT.out.inner⟩⟩
            exact ⟨HBB.out.os, HBB.out.tape, HBB.out.output, HBB.out.size, HBB.out.block⟩
          case measure => simp [intOf]; omega
        · obtain rfl : j = N + 1 := by omega
          go_wp2_with (fail)
          go_roundw
          case rel => exact ⟨m + 1, by omega, by go_num, hBj, hTj.congr fun x _ s hs => by
            by_cases e : x < m + 1
            · rw [if_pos e, if_pos (by omega)]
            · rw [if_neg e, if_neg (by omega)]⟩
          case measure => simp [intOf]; omega
    · obtain rfl : m = M := by omega
      have hTe : Tab wm B m (N + 1) (fun x s => sgn K L x (s : Nat) L.length * W.getD x 0) := hTm.congr fun x hx s _ => by rw [if_pos hx]
      have hLs : Lists wm (some ⟨B, 0, none⟩) (tabOf K L W m (N + 1)) := Lists.ofTab hTe (by omega) (by omega)
      have htl := tabOf_len K L W m (N + 1)
      have hfl := tabOf_flat K L W (N + 1) m
      have hBw := below_trans hB2 hBm
      have hdt := distTable_any (some ⟨B, 0, none⟩) (tabOf K L W m (N + 1)) m wm a (hE.below hBw) hLs (by omega) (by rw [hfl]; exact Nat.le_trans (Nat.mul_le_mul hM16 (show N + 1 ≤ 16 by omega)) (by decide))
      clear hTm hTe hfl
      have HLS := hide hLs
      clear hLs
      generalize hTT : tabOf K L W m (N + 1) = T at hdt HLS htl
      have HTT := hide hTT
      clear hTT
      rw [htl] at hdt
      by_cases hte : tErr T = 0
      · rw [hte, errC_zero] at hdt
        have HDT := hide hdt
        have HTE := hide hte
        have HTL := hide htl
        clear hdt hte htl
        go_wp2_with (go_at_call 60; refine Calls.mono HDT.out ?_; rintro e w5 ⟨rfl, hb5⟩)
        go_ret2
        unfold RetTable
        rw [HTT.out]
        exact ⟨below_trans hBw hb5, .inl ⟨HTE.out, some ⟨B, 0, none⟩, m, by rw [HTL.out]; rfl, HLS.out.below hb5, by rw [HTL.out]; exact Nat.le_refl _⟩⟩
      · rw [errC_pos a _ hte] at hdt
        have HDT := hide hdt
        have HTE := hide hte
        have HEP := hide (errC_pos a _ hte)
        clear hdt hte htl
        go_wp2_with (go_at_call 60; refine Calls.mono HDT.out ?_; rintro e w5 ⟨rfl, hb5⟩)
        go_ret2
        unfold RetTable
        rw [HTT.out]
        exact ⟨below_trans hBw hb5, .inr ⟨HTE.out, by rw [HEP.out]; rfl⟩⟩
end Go.Proofs.YtieeefgkdfijdaaDoor
