/- The walk of demonref4.UnlikeOf, at a right system. No condition. -/
import Derived.Test.YtngogonepjicpaaDoorIs6
namespace Go.Proofs.YtngogonepjicpaaDoor
open Go.RowKit Go.Deep

theorem bit_go (k p : Nat) : ((k : Int) / 2 ^ p).tmod 2 = ((bitAt k (p : Int) : Nat) : Int) := by
  have e1 : ((k : Int) / 2 ^ p) = ((k / 2 ^ p : Nat) : Int) := by push_cast; rfl
  rw [e1]
  unfold bitAt
  rw [Int.toNat_natCast, Int.tmod_eq_emod_of_nonneg (Int.natCast_nonneg _)]
  omega
theorem unl_eq (k p1 p2 : Nat) (h : bitAt k (p1 : Int) = bitAt k (p2 : Int)) : unl k ((p1 : Int), (p2 : Int)) = 0 := by
  unfold unl
  simp only
  rw [h]
  omega
theorem unl_ne (k p1 p2 : Nat) (h : bitAt k (p1 : Int) ≠ bitAt k (p2 : Int)) : unl k ((p1 : Int), (p2 : Int)) = 1 := by
  unfold unl
  simp only
  unfold bitAt at *
  omega

set_option maxHeartbeats 2000000 in
theorem unlikeOf_ok (n : Nat) (A : Option Addr) (l : List (Int × Int)) (cap : Nat) (w : World) (hP : Pairs w A l) (hn : n ≤ 14) (hl : l.length ≤ 30) (hg : Good n l l.length) :
    Calls Tryd.prog 29 #[.int .i64 n, .slice A l.length cap] w (RetInts (statesOf n l) w) := by
  obtain ⟨M, hM, hM2, HM⟩ := wrap_pow n hn
  have hz0 := hP.len
  go_enter Tryd.func29, Tryd.ntmps29
  go_wp2_with
    (at_make; refine wp_make_ints _ rfl (.tmp 11) (.tmp 11) rfl .i64 .i64 (l.length + 1) rfl rfl (by omega) ?_; intro w2 hrow hb2 hz2)
  have hB2 : Below w.heap.size w w2 := hb2
  have hR0 : w.heap.size ≤ w.heap.size := Nat.le_refl _
  clear hb2
  generalize hR : w.heap.size = R at hrow hz2 hR0 ⊢
  have hRR : w.heap.size ≤ R := by omega
  clear hR hR0
  go_loopw [6] (fun i wr => ∃ k : Nat, k ≤ M ∧ i = .int .i64 k ∧ Below R w2 wr ∧ wr.rowIs R 3 (l.length + 1) (fun j => .int .i64 (cntTo l k j))) (fun i _ => M - (intOf i).toNat)
  case atStart => exact ⟨0, Nat.zero_le _, rfl, Below.refl _ _, hrow⟩
  case round =>
    obtain ⟨k, hk, rfl, hB, hrw⟩ := hrel
    obtain ⟨wo, rfl⟩ : ∃ wo : World, wo = wr := ⟨_, rfl⟩
    have hRlt := hrw.lt
    by_cases hlt : k < M
    · go_wp2
      go_loopw [7, 8] (fun c i wr => ∃ m : Nat, m ≤ l.length ∧ i = .int .i64 m ∧ c = .int .i64 (unlike k (l.take m)) ∧ Below wo.heap.size wo wr) (fun _ i _ => l.length - (intOf i).toNat)
      case atStart => exact ⟨0, Nat.zero_le _, rfl, rfl, Below.refl _ _⟩
      case round =>
        obtain ⟨m, hm, rfl, rfl, hBi⟩ := hrel
        by_cases hlm : m < l.length
        · obtain ⟨b, off, rfl, hb, d1, d2⟩ := (hP.below (hB2.trans ((hB.mono hRR).trans (hBi.mono (by have := hB.size; have := hB2.size; omega))))).at_ m hlm
          obtain ⟨g1, g2, g3, g4, _⟩ := badPair_of_false (hg.out m hlm)
          generalize hp : l.getD m (0, 0) = p at d1 d2 g1 g2 g3 g4
          obtain ⟨p1, p2⟩ := p
          simp only at d1 d2 g1 g2 g3 g4
          obtain ⟨p1, rfl⟩ := Int.eq_ofNat_of_zero_le g1
          obtain ⟨p2, rfl⟩ := Int.eq_ofNat_of_zero_le g2
          have h5 := unlike_take_succ k l m hlm
          rw [hp] at h5
          have hcle := unlike_take_le k l m
          have hp1 : p1 < 14 := by omega
          have hp2 : p2 < 14 := by omega
          clear hp
          by_cases hbit : bitAt k (p1 : Int) = bitAt k (p2 : Int)
          · rw [unl_eq k p1 p2 hbit] at h5
            have H5 := hide h5
            have e1 : ((((k : Int) / 2 ^ p1).tmod 2) != (((k : Int) / 2 ^ p2).tmod 2)) = false := by rw [bit_go, bit_go, hbit]; simp
            clear h5 hbit
            go_wp2
            go_quiet (fail)
            go_wp2
            go_roundw
            case rel => exact ⟨m + 1, by omega, by go_num, by rw [H5.out]; rfl, below_drewN' hBi _⟩
            case measure => simp [intOf]; omega
          · rw [unl_ne k p1 p2 hbit] at h5
            have H5 := hide h5
            have e1 : ((((k : Int) / 2 ^ p1).tmod 2) != (((k : Int) / 2 ^ p2).tmod 2)) = true := by rw [bit_go, bit_go, bne_iff_ne]; omega
            clear h5 hbit
            go_wp2
            go_quiet (fail)
            go_wp2
            go_roundw
            case rel => exact ⟨m + 1, by omega, by go_num, by rw [H5.out]; go_num, below_drewN' hBi _⟩
            case measure => simp [intOf]; omega
        · obtain rfl : m = l.length := by omega
          have hrw' := hrw.of_block (hBi.block R hRlt)
          have hR' := hrw'.lt
          have hul := unlike_take_le k l l.length
          have hu : unlike k (l.take l.length) = unlike k l := by rw [List.take_length]
          generalize unlike k (l.take l.length) = u at *
          have c1 : wr.cell? ⟨R, u, none⟩ = some (.int .i64 ((cntTo l k u : Nat) : Int)) := hrw'.cell (i := u) (by omega)
          have c2 := hrw'.frozen u
          have hcl := cntTo_le l k u
          have HU := hide hu
          clear hu
          generalize hc : cntTo l k u = c at c1 hcl
          have HCC := hide hc
          clear hc
          go_wp2
          go_roundw
          case rel =>
            refine ⟨k + 1, by omega, by go_num, (hB.trans (hBi.mono (by have := hB.size; omega))).setCell (Nat.le_refl _) _, ?_⟩
            refine (hrw'.set u _).congr fun j hj => ?_
            have hs := cntTo_succ l k j
            rw [← HU.out] at hs
            by_cases hju : j = u
            · subst hju
              rw [HCC.out] at hs
              simp only [if_true] at hs ⊢
              rw [hs]
              go_num
            · rw [if_neg hju] at hs ⊢
              rw [hs]
              rfl
          case measure => simp [intOf]; omega
    · obtain rfl : k = M := by omega
      go_wp2
      go_ret
      refine ⟨some ⟨R, 0, none⟩, l.length + 1, by rw [statesOf_length]; rfl, ?_, by rw [statesOf_length]; omega, hB2.trans (hB.mono (by omega))⟩
      have hi := Ints.ofRow (f := fun j => (cntTo l k j : Int)) hrw (by omega)
      rw [HM.out] at hi
      exact hi
end Go.Proofs.YtngogonepjicpaaDoor
