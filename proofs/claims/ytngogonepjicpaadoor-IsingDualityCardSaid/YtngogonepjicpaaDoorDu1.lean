/- The walk of the law IsingDuality. Condition: the variables read as laid. -/
import Derived.Test.YtngogonepjicpaaDoorDuP
import Derived.Test.YtngogonepjicpaaDoorGr6
import Derived.Test.YtngogonepjicpaaDoorEv2
import Derived.Test.YtngogonepjicpaaDoorIs8
namespace Go.Proofs.YtngogonepjicpaaDoor
open Go.RowKit Go.Deep

theorem evenOf_at (l : List (Int × Int)) (k : Nat) (hk : k < l.length + 1) : (evenOf l).getD k 0 = ((ev (l.map mask) 0 k : Nat) : Int) := by
  rw [getD_eq _ _ _ (by rw [evenOf_length]; exact hk)]
  simp [evenOf]
theorem statesOf_at (n : Nat) (l : List (Int × Int)) (k : Nat) (hk : k < l.length + 1) : (statesOf n l).getD k 0 = ((cntTo l (2 ^ n) k : Nat) : Int) := by
  rw [getD_eq _ _ _ (by rw [statesOf_length]; exact hk)]
  simp [statesOf]

set_option maxRecDepth 100000 in
set_option maxHeartbeats 4000000 in
theorem law_duality (h L : Int) (w : World) (a : Nat → Addr) (hS : Sent [2, 3] w a) :
    Calls Tryd.prog 4 #[.int .i64 h, .int .i64 L] w fun e w' => e = .returned (.bool true) ∧ Below w.heap.size w w' := by
  have HBO := hide (bond_any w a hS.toEnv)
  have HEB : Hid (∀ w', Below w.heap.size w w' → Env [2, 3] w' a) := hide fun w' hb => hS.toEnv.below hb
  by_cases hbad : badSides h L
  · have HBAD := hide hbad
    clear hbad
    go_enter Tryd.func4, Tryd.ntmps4
    go_wp2_with (first
      | (go_at_call 11; refine HBO.out.mono ?_; rintro e w1 ⟨rfl, hb1⟩)
      | (go_at_call 25
         refine Calls.mono (grid_bad h L w1 a (HEB.out w1 hb1) HBAD.out) ?_
         rintro e w2 ⟨rfl, hb2⟩
         unfold errAt))
    go_ret
    exact ⟨rfl, below_alloc' (below_trans hb1 hb2) _⟩
  · have hb := hbad
    unfold badSides at hb
    obtain ⟨h, rfl⟩ := Int.eq_ofNat_of_zero_le (show 0 ≤ h by omega)
    obtain ⟨L, rfl⟩ := Int.eq_ofNat_of_zero_le (show 0 ≤ L by omega)
    have g0 : 2 ≤ h := by omega
    have g1 : h ≤ 4 := by omega
    have g2 : 2 ≤ L := by omega
    have g3 : L ≤ 12 := by omega
    have hgr := fun w' hE => grid_ok h L w' a hE hbad
    by_cases hv : vcode ((h : Int) * L) (upto (gridAt h L) h L 0) = 0
    · have hfa := fun w' hE => faces_ok h L w' a hE hbad
      obtain ⟨hL8, hdu⟩ := dual_at h L g0 g1 g2 hv
      unfold dualBoth at hdu
      simp only [Bool.and_eq_true, decide_eq_true_eq] at hdu
      obtain ⟨⟨⟨⟨hvf, hlen⟩, hl22⟩, hd1⟩, hd2⟩ := hdu
      obtain ⟨ng, hng⟩ : ∃ ng : Nat, ng = h * L := ⟨_, rfl⟩
      obtain ⟨nf, hnf⟩ : ∃ nf : Nat, nf = (h - 1) * (L - 1) + 1 := ⟨_, rfl⟩
      have hngi : (h : Int) * (L : Int) = (ng : Int) := by rw [hng]; push_cast; rfl
      have hnfi : ((h : Int) - 1) * ((L : Int) - 1) + 1 = (nf : Int) := by
        have e1 : (h : Int) - 1 = ((h - 1 : Nat) : Int) := by omega
        have e2 : (L : Int) - 1 = ((L - 1 : Nat) : Int) := by omega
        rw [hnf, e1, e2]
        push_cast
        rfl
      rw [hngi] at hv hgr
      rw [hnfi] at hvf hfa
      rw [← hnf] at hd1
      rw [← hng] at hd2
      clear hng hnf hngi hnfi
      generalize upto (gridAt h L) h L 0 = lg at *
      generalize upto (faceAt h L) h L 0 = lf at *
      obtain ⟨_, hng14, hlg30, hgg⟩ := vcode_zero hv
      obtain ⟨_, hnf14, hlf30, hgf⟩ := vcode_zero hvf
      have hcnt1 := dual_of nf lg lf (Rights.of_good hgf) hlen hl22 (by omega) hd1
      have hcnt2 := dual_of ng lf lg (Rights.of_good hgg) hlen.symm (by omega) (by omega) hd2
      rw [← hlen] at hcnt1
      clear hd1 hd2
      have HV := hide hv
      have HVF := hide hvf
      have HGR := hide hgr
      have HFA := hide hfa
      have HC1 := hide hcnt1
      have HC2 := hide hcnt2
      have HGG := hide hgg
      have HGF := hide hgf
      clear hv hvf hgr hfa hcnt1 hcnt2 hgg hgf hbad hb
      have hlf : lf.length = lg.length := hlen.symm
      clear hlen
      have e1 := evenOf_length lg
      have e2 := evenOf_length lf
      have e3 := statesOf_length ng lg
      have e4 := statesOf_length nf lf
      rw [hlf] at e2 e4
      have v1 := fun k hk => evenOf_at lg k hk
      have v2 := fun k hk => evenOf_at lf k hk
      have v3 := fun k hk => statesOf_at ng lg k hk
      have v4 := fun k hk => statesOf_at nf lf k hk
      rw [hlf] at v2 v4
      have HV1 := hide v1
      have HV2 := hide v2
      have HV3 := hide v3
      have HV4 := hide v4
      clear v1 v2 v3 v4
      have HE1 := hide e1
      have HE2 := hide e2
      have HE3 := hide e3
      have HE4 := hide e4
      clear e1 e2 e3 e4 hlf
      go_enter Tryd.func4, Tryd.ntmps4
      go_wp2_with (first
        | (go_at_call 11; refine HBO.out.mono ?_; rintro e w1 ⟨rfl, hb1⟩)
        | (go_at_call 25
           refine Calls.mono (HGR.out w1 (HEB.out w1 hb1)) ?_
           intro e w2 hpost
           obtain ⟨hb2, hpost⟩ := hpost
           have hpost' := hpost.resolve_right (fun hx => hx.1 HV.out)
           obtain ⟨_, A2, c2, rfl, hP2, hc2⟩ := hpost'
           have hB2 := below_trans hb1 hb2
           clear hpost)
        | (go_at_call 26
           have hB2' := below_alloc' hB2 (.cells #[.int .i64 ng, .slice A2 lg.length c2] 35)
           refine Calls.mono (HFA.out _ (HEB.out _ hB2')) ?_
           intro e w3 hpost
           obtain ⟨hb3, hpost⟩ := hpost
           have hpost' := hpost.resolve_right (fun hx => hx.1 HVF.out)
           obtain ⟨_, A3, c3, rfl, hP3, hc3⟩ := hpost'
           have hB3 := below_trans hB2' hb3
           have hP23 := (hP2.below (below_alloc' (Below.refl _ _) _)).below hb3
           obtain ⟨k1, k2⟩ := below_cells hb3
           have gz3 : w2.heap.size < w3.heap.size := by have := hb3.size; simp at this; omega
           have gc0 : w3.cell? ⟨w2.heap.size, 0, none⟩ = some (.int .i64 ng) := by rw [k1 _ _ (by simp)]; simp
           have gc1 : w3.cell? ⟨w2.heap.size, 1, none⟩ = some (.slice A2 lg.length c2) := by rw [k1 _ _ (by simp)]; simp
           clear hpost k1 k2)
        | (go_at_call 14
           refine Calls.mono (states_ok ng A2 lg c2 w5 a (HEB.out w5 hB5) hP25 (by omega) hlg30 HGG.out) ?_
           rintro e w6 ⟨A6, c6, rfl, hI6, hc6, hb6⟩
           rw [HE3.out]
           have hB6 := below_trans hB5 hb6
           have hP36 := hP35.below hb6
           have hI46 := hI45.below hb6
           have hI56 := hI5.below hb6
           obtain ⟨k1, k2⟩ := below_cells hb6
           have fz6 := Nat.lt_of_lt_of_le fz5 hb6.size
           have fe0 := (k1 _ 0 fz5).trans fd0
           have fe1 := (k1 _ 1 fz5).trans fd1
           clear k1 k2)
        | (go_at_call 14
           refine Calls.mono (states_ok nf A3 lf c3 w4 a (HEB.out w4 hB4) hP34 (by omega) hlf30 HGF.out) ?_
           rintro e w5 ⟨A5, c5, rfl, hI5, hc5, hb5⟩
           rw [HE4.out]
           have hB5 := below_trans hB4 hb5
           have hP25 := hP24.below hb5
           have hP35 := hP34.below hb5
           have hI45 := hI4.below hb5
           obtain ⟨k1, k2⟩ := below_cells hb5
           have gz5 := Nat.lt_of_lt_of_le gz4 hb5.size
           have fz5 := Nat.lt_of_lt_of_le fz4 hb5.size
           have ge0 := (k1 _ 0 gz4).trans gd0
           have ge1 := (k1 _ 1 gz4).trans gd1
           have fd0 := (k1 _ 0 fz4).trans fc0
           have fd1 := (k1 _ 1 fz4).trans fc1
           clear k1 k2)
        | (go_at_call 16
           refine Calls.mono (even_ok nf A3 lf c3 w6 a (HEB.out w6 hB6) hP36 (by omega) hlf30 HGF.out) ?_
           rintro e w7 ⟨A7, c7, rfl, hI7, hc7, hb7⟩
           rw [HE2.out]
           have hB7 := below_trans hB6 hb7
           have hI47 := hI46.below hb7
           have hI57 := hI56.below hb7
           have hI67 := hI6.below hb7)
        | (go_at_call 16
           have hB3' := below_alloc' hB3 (.cells #[.int .i64 nf, .slice A3 lf.length c3] 35)
           refine Calls.mono (even_ok ng A2 lg c2 _ a (HEB.out _ hB3') (hP23.below (below_alloc' (Below.refl _ _) _)) (by omega) hlg30 HGG.out) ?_
           rintro e w4 ⟨A4, c4, rfl, hI4, hc4, hb4⟩
           rw [HE1.out]
           have hB4 := below_trans hB3' hb4
           have hP24 := (hP23.below (below_alloc' (Below.refl _ _) _)).below hb4
           have hP34 := (hP3.below (below_alloc' (Below.refl _ _) _)).below hb4
           obtain ⟨k1, k2⟩ := below_cells hb4
           have gz4 : w2.heap.size < w4.heap.size := by have := hb4.size; simp at this; omega
           have fz4 : w3.heap.size < w4.heap.size := by have := hb4.size; simp at this; omega
           have gd0 : w4.cell? ⟨w2.heap.size, 0, none⟩ = some (.int .i64 ng) := by rw [k1 _ _ (by simp; omega)]; exact (World.cell?_alloc_lt _ _ ⟨w2.heap.size, 0, none⟩ gz3).trans gc0
           have gd1 : w4.cell? ⟨w2.heap.size, 1, none⟩ = some (.slice A2 lg.length c2) := by rw [k1 _ _ (by simp; omega)]; exact (World.cell?_alloc_lt _ _ ⟨w2.heap.size, 1, none⟩ gz3).trans gc1
           have fc0 : w4.cell? ⟨w3.heap.size, 0, none⟩ = some (.int .i64 nf) := by rw [k1 _ _ (by simp)]; simp
           have fc1 : w4.cell? ⟨w3.heap.size, 1, none⟩ = some (.slice A3 lf.length c3) := by rw [k1 _ _ (by simp)]; simp
           clear k1 k2))
      have hB7' := hB7
      clear gc0 gc1 gd0 gd1 fc0 fc1 fd0 fd1 fe0 fe1 ge0 ge1
      go_loopw [17] (fun i wr => ∃ k : Nat, k ≤ lg.length + 1 ∧ i = .int .i64 k ∧ Below w7.heap.size w7 wr) (fun i _ => lg.length + 1 - (intOf i).toNat)
      case atStart => exact ⟨0, Nat.zero_le _, rfl, Below.refl _ _⟩
      case round =>
        obtain ⟨k, hk, rfl, hbk⟩ := hrel
        obtain ⟨wq, rfl⟩ : ∃ wq : World, wq = wr := ⟨_, rfl⟩
        by_cases hkl : k < lg.length + 1
        · obtain ⟨b4, o4, rfl, _, d4⟩ := (hI47.below hbk).at_ k (by rw [HE1.out]; exact hkl)
          obtain ⟨b5, o5, rfl, _, d5⟩ := (hI57.below hbk).at_ k (by rw [HE4.out]; exact hkl)
          obtain ⟨b6, o6, rfl, _, d6⟩ := (hI67.below hbk).at_ k (by rw [HE3.out]; exact hkl)
          obtain ⟨b7, o7, rfl, _, d7⟩ := (hI7.below hbk).at_ k (by rw [HE2.out]; exact hkl)
          rw [HV1.out k hkl] at d4
          rw [HV2.out k hkl] at d7
          rw [HV3.out k hkl, HC2.out k hkl] at d6
          rw [HV4.out k hkl, HC1.out k hkl] at d5
          have s4 := ev_small (lg.map mask) 0 k (by simp; omega)
          have s7 := ev_small (lf.map mask) 0 k (by simp; omega)
          generalize ev (lg.map mask) 0 k = x4 at d4 d5 s4
          generalize ev (lf.map mask) 0 k = x7 at d6 d7 s7
          have k0 : (0 : Int) ≤ (k : Int) := Int.natCast_nonneg _
          have k1 : (k : Int) < (lg.length : Int) + 1 := by omega
          have n1 : IntKind.i64.wrap (2 * (x4 : Int)) = 2 * (x4 : Int) := by rw [IntKind.wrap_i64]; omega
          have n2 : IntKind.i64.wrap (2 * (x7 : Int)) = 2 * (x7 : Int) := by rw [IntKind.wrap_i64]; omega
          have d5' : wq.cell? ⟨b5, o5 + k, none⟩ = some (.int .i64 (2 * (x4 : Int))) := by rw [d5]; push_cast; rfl
          have d6' : wq.cell? ⟨b6, o6 + k, none⟩ = some (.int .i64 (2 * (x7 : Int))) := by rw [d6]; push_cast; rfl
          clear d5 d6
          go_wp2_with (fail)
          go_quiet (fail)
          go_wp2_with (fail)
          go_roundw
          case rel => exact ⟨k + 1, by omega, by go_num, below_drewN' hbk _⟩
          case measure => simp [intOf]; omega
        · obtain rfl : k = lg.length + 1 := by omega
          go_wp2_with (fail)
          go_ret
          exact ⟨rfl, below_trans hB7 hbk⟩
    · have HV := hide hv
      have HGR := hide hgr
      clear hv hgr hbad hb
      go_enter Tryd.func4, Tryd.ntmps4
      go_wp2_with (first
        | (go_at_call 11; refine HBO.out.mono ?_; rintro e w1 ⟨rfl, hb1⟩)
        | (go_at_call 25
           refine Calls.mono (HGR.out w1 (HEB.out w1 hb1)) ?_
           intro e w2 hpost
           obtain ⟨hb2, hpost⟩ := hpost
           have hpost' := hpost.resolve_left (fun hx => HV.out hx.1)
           obtain ⟨_, rfl⟩ := hpost'
           unfold errAt
           clear hpost))
      go_ret
      exact ⟨rfl, below_alloc' (below_trans hb1 hb2) _⟩
end Go.Proofs.YtngogonepjicpaaDoor
