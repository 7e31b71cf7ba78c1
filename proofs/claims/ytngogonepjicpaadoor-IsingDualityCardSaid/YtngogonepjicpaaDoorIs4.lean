/- The walk of ising.States. No condition. -/
import Derived.Test.YtngogonepjicpaaDoorIs3
import Derived.Test.YtngogonepjicpaaDoorIsP2
import Derived.Test.YtngogonepjicpaaDoorBits
namespace Go.Proofs.YtngogonepjicpaaDoor
open Go.RowKit Go.Deep

set_option maxHeartbeats 1000000 in
theorem states_err (n : Int) (A : Option Addr) (l : List (Int × Int)) (cap : Nat) (w : World) (a : Nat → Addr) (hE : Env [2, 3] w a) (hP : Pairs w A l) (h : vcode n l ≠ 0) :
    Calls Tryd.prog 14 #[.agg #[.int .i64 n, .slice A l.length cap]] w fun e w' => e = .returned (.tuple #[.slice none 0 0, errC a (vcode n l)]) ∧ Below w.heap.size w w' := by
  have hv := valid_any n A l cap (w.alloc (.cells #[.int .i64 n, .slice A l.length cap] 35)) a (hE.below (below_alloc' (Below.refl _ _) _)) (hP.below (below_alloc' (Below.refl _ _) _))
  have he : errC a (vcode n l) = .iface 127 (.pointer (some (a (vcode n l).toNat))) := by unfold errC; rw [if_neg h]; rfl
  rw [he] at hv ⊢
  have HV := hide hv
  clear hv he h
  generalize a (vcode n l).toNat = a0 at HV ⊢
  go_enter Tryd.func14, Tryd.ntmps14
  go_wp2_with (go_at_call 28; refine HV.out.mono ?_; rintro e w1 ⟨rfl, hb1⟩)
  go_ret2
  exact ⟨rfl, below_trans (below_alloc' (Below.refl _ _) _) hb1⟩

theorem unl_go (k p1 p2 : Nat) (hk : k < 2 ^ 62) : bits BinOp.and IntKind.i64 (bits BinOp.xor IntKind.i64 ((k : Int) / 2 ^ p1) ((k : Int) / 2 ^ p2)) 1 = ((unl k ((p1 : Int), (p2 : Int)) : Nat) : Int) := by
  have e1 : ((k : Int) / 2 ^ p1) = ((k / 2 ^ p1 : Nat) : Int) := by push_cast; rfl
  have e2 : ((k : Int) / 2 ^ p2) = ((k / 2 ^ p2 : Nat) : Int) := by push_cast; rfl
  have h1 : k / 2 ^ p1 < 2 ^ 62 := Nat.lt_of_le_of_lt (Nat.div_le_self _ _) hk
  have h2 : k / 2 ^ p2 < 2 ^ 62 := Nat.lt_of_le_of_lt (Nat.div_le_self _ _) hk
  rw [e1, e2, i64_xor _ _ h1 h2]
  have h3 := i64_and (k / 2 ^ p1 ^^^ k / 2 ^ p2) 1 (Nat.xor_lt_two_pow h1 h2) (by decide)
  rw [show ((1 : Nat) : Int) = 1 from rfl] at h3
  rw [h3, xor_and_one]
  rfl
theorem unl_wrap (k p1 p2 c : Nat) (hk : k < 2 ^ 62) (hc : c ≤ 1000) : wrap64 ((c : Int) + bits BinOp.and IntKind.i64 (bits BinOp.xor IntKind.i64 ((k : Int) / 2 ^ p1) ((k : Int) / 2 ^ p2)) 1) = ((c + unl k ((p1 : Int), (p2 : Int)) : Nat) : Int) := by
  rw [unl_go k p1 p2 hk]
  have := unl_le k ((p1 : Int), (p2 : Int))
  unfold wrap64
  omega
theorem wrap_pow (n : Nat) (h : n ≤ 14) : ∃ M : Nat, wrap64 ((2 : Int) ^ n) = (M : Int) ∧ M ≤ 16384 ∧ Hid (M = 2 ^ n) := by
  have h1 : 2 ^ n ≤ 2 ^ 14 := Nat.pow_le_pow_right (by omega) h
  refine ⟨2 ^ n, ?_, by omega, hide rfl⟩
  have e : ((2 : Int) ^ n) = ((2 ^ n : Nat) : Int) := by simp
  rw [e]
  generalize 2 ^ n = M at *
  unfold wrap64
  omega

set_option maxHeartbeats 2000000 in
theorem states_ok (n : Nat) (A : Option Addr) (l : List (Int × Int)) (cap : Nat) (w : World) (a : Nat → Addr) (hE : Env [2, 3] w a) (hP : Pairs w A l) (hn : n ≤ 14) (hl : l.length ≤ 30) (hg : Good n l l.length) :
    Calls Tryd.prog 14 #[.agg #[.int .i64 n, .slice A l.length cap]] w (RetIntsErr (statesOf n l) w) := by
  have hv := valid_any n A l cap (w.alloc (.cells #[.int .i64 n, .slice A l.length cap] 35)) a (hE.below (below_alloc' (Below.refl _ _) _)) (hP.below (below_alloc' (Below.refl _ _) _))
  rw [vcode_good (by omega) (by omega) hl hg, errC_zero] at hv
  have HV := hide hv
  clear hv
  obtain ⟨M, hM, hM2, HM⟩ := wrap_pow n hn
  go_enter Tryd.func14, Tryd.ntmps14
  go_wp2_with (first
    | (go_at_call 28; refine HV.out.mono ?_; rintro e w1 ⟨rfl, hb1⟩; obtain ⟨k1, k2⟩ := below_cells hb1; have hz1 : w.heap.size < w1.heap.size := by have := hb1.size; simp at this; omega)
    | (at_make; refine wp_make_ints _ rfl (.tmp 18) (.tmp 18) rfl .i64 .i64 (l.length + 1) rfl rfl (by omega) ?_; intro w2 hrow hb2 hz2; obtain ⟨k3, k4⟩ := below_cells hb2))
  have x0 : w2.cell? ⟨w.heap.size, 0, none⟩ = some (.int .i64 n) := by rw [k3 _ _ hz1, k1 _ _ (by simp)]; simp
  have x1 : w2.cell? ⟨w.heap.size, 1, none⟩ = some (.slice A l.length cap) := by rw [k3 _ _ hz1, k1 _ _ (by simp)]; simp
  have hB2 : Below w.heap.size w w2 := below_trans (below_trans (below_alloc' (Below.refl _ _) _) hb1) hb2
  clear k1 k2 k3 k4 hb1 hb2
  have hlt0 : w.heap.size < w1.heap.size := hz1
  clear hz1
  generalize w1.heap.size = R at *
  go_loopw [23] (fun i wr => ∃ k : Nat, k ≤ M ∧ i = .int .i64 k ∧ Below R w2 wr ∧ wr.rowIs R 3 (l.length + 1) (fun j => .int .i64 (cntTo l k j))) (fun i _ => M - (intOf i).toNat)
  case atStart => exact ⟨0, Nat.zero_le _, rfl, Below.refl _ _, hrow⟩
  case round =>
    obtain ⟨k, hk, rfl, hB, hrw⟩ := hrel
    obtain ⟨wo, rfl⟩ : ∃ wo : World, wo = wr := ⟨_, rfl⟩
    have hRlt := hrw.lt
    have y0 : wo.cell? ⟨w.heap.size, 0, none⟩ = some (.int .i64 n) := (hB.cell (p := ⟨w.heap.size, 0, none⟩) hlt0).trans x0
    have y1 : wo.cell? ⟨w.heap.size, 1, none⟩ = some (.slice A l.length cap) := (hB.cell (p := ⟨w.heap.size, 1, none⟩) hlt0).trans x1
    by_cases hlt : k < M
    · go_wp2
      go_loopw [7, 29] (fun c i wr => ∃ m : Nat, m ≤ l.length ∧ i = .int .i64 m ∧ c = .int .i64 (unlike k (l.take m)) ∧ Below wo.heap.size wo wr) (fun _ i _ => l.length - (intOf i).toNat)
      case atStart => exact ⟨0, Nat.zero_le _, rfl, rfl, Below.refl _ _⟩
      case round =>
        obtain ⟨m, hm, rfl, rfl, hBi⟩ := hrel
        obtain ⟨k1, k2⟩ := below_cells hBi
        have hsz := hBi.size
        by_cases hlm : m < l.length
        · obtain ⟨b, off, rfl, hb, d1, d2⟩ := (hP.below (hB2.trans (hB.mono (Nat.le_of_lt hlt0)))).at_ m hlm
          obtain ⟨g1, g2, g3, g4, _⟩ := badPair_of_false (hg.out m hlm)
          generalize hp : l.getD m (0, 0) = p at d1 d2 g1 g2 g3 g4
          obtain ⟨p1, p2⟩ := p
          simp only at d1 d2 g1 g2 g3 g4
          obtain ⟨p1, rfl⟩ := Int.eq_ofNat_of_zero_le g1
          obtain ⟨p2, rfl⟩ := Int.eq_ofNat_of_zero_le g2
          have HP := hide hp
          clear hp
          have hp1 : p1 < 14 := by omega
          have hp2 : p2 < 14 := by omega
          go_wp2
          go_quiet (fail)
          go_wp2
          go_roundw
          case rel =>
            have h5 := unlike_take_succ k l m hlm
            rw [HP.out] at h5
            refine ⟨m + 1, by omega, by go_num, ?_, below_drewN' (below_alloc' hBi _) nq⟩
            rw [unl_wrap k p1 p2 _ (by omega) (by have := unlike_take_le k l m; omega), h5]
          case measure => simp [intOf]; omega
        · obtain rfl : m = l.length := by omega
          clear k1 k2
          have hrw' := hrw.of_block (hBi.block R hRlt)
          have hR' := hrw'.lt
          have hul := unlike_take_le k l l.length
          have hu : unlike k (l.take l.length) = unlike k l := by rw [List.take_length]
          generalize unlike k (l.take l.length) = u at *
          have c1 : wr.cell? ⟨R, u, none⟩ = some (.int .i64 ((cntTo l k u : Nat) : Int)) := hrw'.cell (i := u) (by omega)
          have c2 := hrw'.frozen u
          have hcl := cntTo_le l k u
          have HU := hide hu
          clear hu
          generalize hc : cntTo l k u = c at c1 hcl
          have HCC := hide hc
          clear hc
          go_wp2
          go_roundw
          case rel =>
            refine ⟨k + 1, by omega, by go_num, (hB.trans (hBi.mono (by have := hB.size; omega))).setCell (Nat.le_refl _) _, ?_⟩
            refine (hrw'.set u _).congr fun j hj => ?_
            have hs := cntTo_succ l k j
            rw [← HU.out] at hs
            by_cases hju : j = u
            · subst hju
              rw [HCC.out] at hs
              simp only [if_true] at hs ⊢
              rw [hs]
              go_num
            · rw [if_neg hju] at hs ⊢
              rw [hs]
              rfl
          case measure => simp [intOf]; omega
    · obtain rfl : k = M := by omega
      go_wp2
      go_ret2
      refine ⟨some ⟨R, 0, none⟩, l.length + 1, by rw [statesOf_length]; rfl, ?_, by rw [statesOf_length]; omega, hB2.trans (hB.mono (by omega))⟩
      have hi := Ints.ofRow (f := fun j => (cntTo l k j : Int)) hrw (by omega)
      rw [HM.out] at hi
      exact hi
end Go.Proofs.YtngogonepjicpaaDoor
