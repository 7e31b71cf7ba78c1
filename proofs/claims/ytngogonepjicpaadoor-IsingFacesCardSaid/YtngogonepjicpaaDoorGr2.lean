/- The walk of demonref4.FaceBonds. No condition. -/
import Derived.Test.YtngogonepjicpaaDoorGr1
namespace Go.Proofs.YtngogonepjicpaaDoor
open Go.RowKit Go.Deep

set_option maxRecDepth 100000 in
set_option maxHeartbeats 4000000 in
theorem faceBonds_ok (h L : Nat) (w : World) (hh : h ≤ 100) (hL : L ≤ 100) (hh1 : 1 ≤ h) (hL1 : 1 ≤ L) :
    Calls Tryd.prog 35 #[.int .i64 h, .int .i64 L] w (RetPairs (faceList h L) w) := by
  obtain ⟨q0, hq0, hq0'⟩ := prod_small (a := (h : Int) - 1) (b := (L : Int) - 1) (m := 100) (n := 100) (by omega) (by omega) (by omega) (by omega)
  go_enter Tryd.func35, Tryd.ntmps35
  go_wp2_with (fail)
  go_loopw [6, 7] (fun v i wr => ∃ c : Nat, c ≤ L ∧ i = .int .i64 c ∧ OwnP w wr v (upto (faceAt h L) h c 0)) (fun _ i _ => L - (intOf i).toNat)
  case atStart => exact ⟨0, Nat.zero_le _, rfl, OwnP.nil (Below.refl _ _)⟩
  case round =>
    obtain ⟨c, hc, rfl, hO⟩ := hrel
    by_cases hcl : c < L
    · go_wp2_with (fail)
      go_loopw [6, 8] (fun v i wr => ∃ r : Nat, r ≤ h ∧ i = .int .i64 r ∧ OwnP w wr v (upto (faceAt h L) h c r)) (fun _ i _ => h - (intOf i).toNat)
      case atStart => exact ⟨0, Nat.zero_le _, rfl, hO⟩
      case round =>
        obtain ⟨r, hr, rfl, hO⟩ := hrel
        by_cases hrh : r < h
        · obtain ⟨q2, hq2, hq2'⟩ := prod_small (a := (c : Int)) (b := (h : Int) - 1) (m := 100) (n := 100) (by omega) (by omega) (by omega) (by omega)
          have hstep := upto_row (faceAt h L) h c r
          rw [faceAt_eq h L c r hcl hrh, hq0, hq2] at hstep
          have hlen : (upto (faceAt h L) h c r).length ≤ 999998 := by
            have h1 := upto_len (faceAt h L) (faceAt_len h L) h c r
            have h2 : c * (h * 2) ≤ 100 * (100 * 2) := Nat.mul_le_mul (by omega) (by omega)
            omega
          have HST := hide hstep
          clear hstep
          generalize upto (faceAt h L) h c r = l0 at hO hlen HST
          obtain ⟨A0, c0, rfl, _, _⟩ := hO.shape
          by_cases hc0 : 0 < c
          · obtain ⟨q1, hq1, hq1'⟩ := prod_small (a := (c : Int) - 1) (b := (h : Int) - 1) (m := 100) (n := 100) (by omega) (by omega) (by omega) (by omega)
            have hst := HST.out
            rw [hq1] at hst
            have HST2 := hide hst
            clear hst HST
            by_cases h1 : r + 1 < h <;> by_cases h2 : c + 1 < L <;> by_cases hr0 : 0 < r
            all_goals
              go_wp2_with (first
                | (at_builtin
                   refine wp_app_pair w _ rfl (.tmp 53) (.tmp 57) rfl _ l0 rfl (hO.alloc _) wr.heap.size _ _ rfl (by simp) (cell_new0 _ _ _ _) (cell_new1 _ _ _ _) (by omega) ?_
                   intro A1 n1 c1 w1 hO1 hg1)
                | (at_builtin
                   refine wp_app_pair w _ rfl (.tmp 84) (.tmp 88) rfl _ _ rfl (OwnP.alloc (by first | exact hO1 | exact hO) _) _ _ _ rfl (by simp) (cell_new0 _ _ _ _) (cell_new1 _ _ _ _) (by first | omega | (simp; omega)) ?_
                   intro A2 n2 c2 w2 hO2 hg2))
              go_roundw
              case rel =>
                refine ⟨r + 1, by omega, by go_num, ?_⟩
                rw [HST2.out]
                first
                  | simpa [h1, h2, hc0, hr0] using hO2
                  | simpa [h1, h2, hc0, hr0] using hO1
                  | simpa [h1, h2, hc0, hr0] using hO
              case measure => simp [intOf]; omega
          · have HST2 := HST
            clear HST
            by_cases h1 : r + 1 < h <;> by_cases h2 : c + 1 < L <;> by_cases hr0 : 0 < r
            all_goals
              go_wp2_with (first
                | (at_builtin
                   refine wp_app_pair w _ rfl (.tmp 53) (.tmp 57) rfl _ l0 rfl (hO.alloc _) wr.heap.size _ _ rfl (by simp) (cell_new0 _ _ _ _) (cell_new1 _ _ _ _) (by omega) ?_
                   intro A1 n1 c1 w1 hO1 hg1)
                | (at_builtin
                   refine wp_app_pair w _ rfl (.tmp 84) (.tmp 88) rfl _ _ rfl (OwnP.alloc (by first | exact hO1 | exact hO) _) _ _ _ rfl (by simp) (cell_new0 _ _ _ _) (cell_new1 _ _ _ _) (by first | omega | (simp; omega)) ?_
                   intro A2 n2 c2 w2 hO2 hg2))
              go_roundw
              case rel =>
                refine ⟨r + 1, by omega, by go_num, ?_⟩
                rw [HST2.out]
                first
                  | simpa [h1, h2, hc0, hr0] using hO2
                  | simpa [h1, h2, hc0, hr0] using hO1
                  | simpa [h1, h2, hc0, hr0] using hO
              case measure => simp [intOf]; omega
        · obtain rfl : r = h := by omega
          go_wp2_with (fail)
          go_roundw
          case rel => exact ⟨c + 1, by omega, by go_num, by rw [← upto_col]; exact hO⟩
          case measure => simp [intOf]; omega
    · obtain rfl : c = L := by omega
      obtain ⟨A0, c0, rfl, hc0, hP0⟩ := hO.shape
      go_wp2_with (fail)
      go_ret
      exact ⟨A0, c0, rfl, hP0, hc0, hO.below, fun k hk => (hO.row.lt k hk).1⟩
end Go.Proofs.YtngogonepjicpaaDoor
