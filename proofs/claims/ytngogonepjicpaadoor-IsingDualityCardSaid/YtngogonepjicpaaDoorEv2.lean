/- The walk of ising.Even. No condition. -/
import Derived.Test.YtngogonepjicpaaDoorEv1
import Derived.Deep.RegionHeld3
import Derived.StillTailTactics
namespace Go.Proofs.YtngogonepjicpaaDoor
open Go.RowKit Go.Deep

theorem pow_wrap (p : Nat) (h : p < 14) : wrap64 ((2 : Int) ^ p) = ((2 ^ p : Nat) : Int) := by
  have h1 : 2 ^ p ≤ 2 ^ 14 := Nat.pow_le_pow_right (by decide) (by omega)
  have e : ((2 : Int) ^ p) = ((2 ^ p : Nat) : Int) := by simp
  rw [e]
  generalize 2 ^ p = M at *
  unfold wrap64
  omega
theorem turn_go (p1 p2 : Nat) (h1 : p1 < 14) (h2 : p2 < 14) (h : p1 ≠ p2) : bits BinOp.or IntKind.i64 (wrap64 (2 ^ p1)) (wrap64 (2 ^ p2)) = ((mask ((p1 : Int), (p2 : Int)) : Nat) : Int) := by
  have a1 : 2 ^ p1 ≤ 2 ^ 14 := Nat.pow_le_pow_right (by decide) (by omega)
  have a2 : 2 ^ p2 ≤ 2 ^ 14 := Nat.pow_le_pow_right (by decide) (by omega)
  rw [pow_wrap p1 h1, pow_wrap p2 h2, i64_or _ _ (by omega) (by omega), pow_or p1 p2 h]
  rfl

set_option maxRecDepth 100000 in
set_option maxHeartbeats 4000000 in
theorem even_ok (n : Nat) (A : Option Addr) (l : List (Int × Int)) (cap : Nat) (w : World) (a : Nat → Addr) (hE : Env [2, 3] w a) (hP : Pairs w A l) (hn : n ≤ 14) (hl : l.length ≤ 30) (hg : Good n l l.length) :
    Calls Tryd.prog 16 #[.agg #[.int .i64 n, .slice A l.length cap]] w (RetIntsErr (evenOf l) w) := by
  have hv := valid_any n A l cap (w.alloc (.cells #[.int .i64 n, .slice A l.length cap] 35)) a (hE.below (below_alloc' (Below.refl _ _) _)) (hP.below (below_alloc' (Below.refl _ _) _))
  rw [vcode_good (by omega) (by omega) hl hg, errC_zero] at hv
  have HV := hide hv
  clear hv
  obtain ⟨M, hM, hM2, HM⟩ := wrap_pow n hn
  go_enter Tryd.func16, Tryd.ntmps16
  go_wp2_with (first
    | (go_at_call 28; refine HV.out.mono ?_; rintro e w1 ⟨rfl, hb1⟩; obtain ⟨k1, k2⟩ := below_cells hb1; have hz1 : w.heap.size < w1.heap.size := by have := hb1.size; simp at this; omega)
    | (at_make; refine wp_make_lists _ rfl (.tmp 25) (.tmp 25) rfl .i64 .i64 M (congrArg (Value.int .i64) hM) (congrArg (Value.int .i64) hM) (by omega) ?_; intro w2 hrow hb2 hs2; obtain ⟨k3, k4⟩ := below_cells hb2))
  have x0 : w2.cell? ⟨w.heap.size, 0, none⟩ = some (.int .i64 n) := by rw [k3 _ _ hz1, k1 _ _ (by simp)]; simp
  have x1 : w2.cell? ⟨w.heap.size, 1, none⟩ = some (.slice A l.length cap) := by rw [k3 _ _ hz1, k1 _ _ (by simp)]; simp
  have hB2 : Below w.heap.size w w2 := below_trans (below_trans (below_alloc' (Below.refl _ _) _) hb1) hb2
  clear k1 k2 k3 k4 hb1 hb2
  have hlt0 : w.heap.size < w1.heap.size := hz1
  clear hz1
  generalize w1.heap.size = B0 at *
  -- the table of noughts
  go_loopw [29] (fun i wr => ∃ k : Nat, k ≤ M ∧ i = .int .i64 k ∧ Below B0 w2 wr ∧ TabTo wr B0 M (l.length + 1) k (fun _ _ => 0)) (fun i _ => M - (intOf i).toNat)
  case atStart => exact ⟨0, Nat.zero_le _, rfl, Below.refl _ _, TabTo.zero hrow hs2.out⟩
  case round =>
    obtain ⟨k, hk, rfl, hB, hT⟩ := hrel
    by_cases hlt : k < M
    · have c1 := hT.outer.frozen k
      have c2 : wr.cell? ⟨B0, k, none⟩ = some (.slice none 0 0) := by
        have := hT.outer.cell (i := k) hlt
        rw [if_neg (by omega)] at this
        exact this
      have hBl := hT.outer.lt
      go_wp2_with (at_make; refine wp_make_ints' _ rfl (.tmp 35) (.tmp 35) rfl .i64 .i64 (l.length + 1) rfl rfl (by omega) ?_; intro w3 hrow3 hb3 hs3; obtain ⟨k3, k4⟩ := below_cells hb3)
      go_roundw
      case rel =>
        have hsz := hT.size
        rw [hsz] at hrow3
        refine ⟨k + 1, by omega, by go_num, (hB.trans (hb3.mono (by omega))).setCell (Nat.le_refl _) _, ?_⟩
        rw [hsz]
        exact hT.succ hlt hb3 hrow3 hs3.out
      case measure => simp [intOf]; omega
    · obtain rfl : k = M := by omega
      have hTab := hT.whole
      have hsz := hide hT.size
      clear hT
      have hM1 : 0 < k := by have := Nat.two_pow_pos n; rw [HM.out]; exact this
      have c1 : wr.cell? ⟨B0, 0, none⟩ = some (.slice (some ⟨B0 + 1, 0, none⟩) (l.length + 1) (l.length + 1)) := hTab.outer.cell hM1
      have c2 : wr.cell? ⟨B0 + 1, 0, none⟩ = some (.int .i64 0) := (hTab.inner 0 hM1).cell (by omega)
      have c3 : wr.frozen? ⟨B0 + 1, 0, none⟩ = false := (hTab.inner 0 hM1).frozen 0
      have c4 : wr.cell? ⟨w.heap.size, 1, none⟩ = some (.slice A l.length cap) := (hB.cell (p := ⟨w.heap.size, 1, none⟩) hlt0).trans x1
      have hz1 : w.heap.size < wr.heap.size := by have := hB.size; have := hrow.lt; omega
      have hz2 : w.heap.size ≠ B0 + 1 := by omega
      go_wp2
      -- the bonds
      go_loopw [6, 46] (fun v6 i wq => ∃ j B, j ≤ l.length ∧ i = .int .i64 (j : Nat) ∧ v6 = .slice (some ⟨B, 0, none⟩) k k ∧ B0 ≤ B ∧ Below B0 w2 wq ∧ Tab wq B k (l.length + 1) (fun S q => ev ((l.map mask).take j) S q)) (fun _ i _ => l.length - (intOf i).toNat)
      case atStart =>
        refine ⟨0, B0, Nat.zero_le _, rfl, rfl, Nat.le_refl _, hB.setCell (by show B0 ≤ B0 + 1; omega) _, ?_⟩
        exact (hTab.set 0 0 hM1 1).congr fun S _ q _ => by
          simp only [List.take_zero, ev]
      case round =>
        obtain ⟨j, B, hj, rfl, rfl, hB0, hBq, hTq⟩ := hrel
        obtain ⟨wo, rfl⟩ : ∃ wo : World, wo = wr := ⟨_, rfl⟩
        by_cases hlj : j < l.length
        · obtain ⟨b, off, rfl, hb, d1, d2⟩ := (hP.below (hB2.trans (hBq.mono (Nat.le_of_lt hlt0)))).at_ j hlj
          obtain ⟨g1, g2, g3, g4, g5⟩ := badPair_of_false (hg.out j hlj)
          generalize hp : l.getD j (0, 0) = p at d1 d2 g1 g2 g3 g4 g5
          obtain ⟨p1, p2⟩ := p
          simp only at d1 d2 g1 g2 g3 g4 g5
          obtain ⟨p1, rfl⟩ := Int.eq_ofNat_of_zero_le g1
          obtain ⟨p2, rfl⟩ := Int.eq_ofNat_of_zero_le g2
          have HP := hide hp
          clear hp
          have hp1 : p1 < 14 := by omega
          have hp2 : p2 < 14 := by omega
          clear c1 c2 c3 c4
          go_wp2_with (at_make; refine wp_make_lists _ rfl (.tmp 51) (.tmp 51) rfl .i64 .i64 k rfl rfl (by omega) ?_; intro w3 hrow3 hb3 hs3; obtain ⟨k3, k4⟩ := below_cells hb3)
          go_quiet (fail)
          go_wp2
          have hTw := hTq.lt
          have hsz4 : w3.heap.size = wo.heap.size + 1 + 1 := by rw [hs3.out]; simp
          have hB4 : Below wo.heap.size wo (w3.drewN nq) := below_drewN' (below_trans (below_alloc' (Below.refl _ _) _) hb3) nq
          have hr3 : w3.rowIs (wo.heap.size + 1) 30 k (fun _ => .slice none 0 0) := by simpa using hrow3
          have hr4 : (w3.drewN nq).rowIs (wo.heap.size + 1) 30 k (fun _ => .slice none 0 0) := hr3
          have hT4 : TabTo (w3.drewN nq) (wo.heap.size + 1) k (l.length + 1) 0 (fun S q => ev ((l.map mask).take j) S q) := TabTo.zero hr4 (by simpa using hsz4)
          clear k3 k4 hb3 hrow3 hs3 hsz4 hr4 hr3
          generalize hB' : wo.heap.size + 1 = B' at *
          have hBB : B + k < B' := by omega
          have hBw : wo.heap.size < B' := by omega
          clear hB'
          generalize w3.drewN nq = w4 at *
          -- the copies
          go_loopw [62] (fun i wq => ∃ s : Nat, s ≤ k ∧ i = .int .i64 s ∧ Below wo.heap.size wo wq ∧ TabTo wq B' k (l.length + 1) s (fun S q => ev ((l.map mask).take j) S q)) (fun i _ => k - (intOf i).toNat)
          case atStart => exact ⟨0, Nat.zero_le _, rfl, hB4, hT4⟩
          case round =>
            obtain ⟨s, hs, rfl, hBs, hTs⟩ := hrel
            by_cases hsk : s < k
            · have hTq' : Tab wr B k (l.length + 1) (fun S q => ev ((l.map mask).take j) S q) := hTq.below hBs hTw
              have e1 : wr.cell? ⟨B', s, none⟩ = some (.slice none 0 0) := by
                have := hTs.outer.cell (i := s) hsk
                rw [if_neg (by omega)] at this
                exact this
              have e2 := hTs.outer.frozen s
              have e3 := hTs.outer.lt
              have hszs := hTs.size
              have e4 : B' < B' + 1 + s := by omega
              go_wp2_with (at_make; refine wp_make_ints' _ rfl (.tmp 68) (.tmp 68) rfl .i64 .i64 (l.length + 1) rfl rfl (by omega) ?_; intro w5 hrow5 hb5 hs5; obtain ⟨k3, k4⟩ := below_cells hb5)
              clear k3 k4
              have hT6 := TabTo.succ (f := fun x i => if x = s then 0 else ev ((l.map mask).take j) x i) (w1 := w5) ⟨hTs.outer, fun x hx => (hTs.inner x hx).congr fun i _ => by rw [if_neg (by omega)], hTs.size⟩ hsk hb5 (by rw [hszs] at hrow5; exact hrow5.congr fun i _ => by rw [if_pos rfl]; rfl) hs5.out
              have hB6 : Below wo.heap.size wo (w5.setCell ⟨B', s, none⟩ (.slice (some ⟨B' + 1 + s, 0, none⟩) (l.length + 1) (l.length + 1))) := (hBs.trans (hb5.mono (by omega))).setCell (by show wo.heap.size ≤ B'; omega) _
              clear hszs hs5 hb5 hrow5 hTs hBs
              generalize w5.setCell ⟨B', s, none⟩ (.slice (some ⟨B' + 1 + s, 0, none⟩) (l.length + 1) (l.length + 1)) = w6 at hT6 hB6 ⊢
              have hTq6 : Tab w6 B k (l.length + 1) (fun S q => ev ((l.map mask).take j) S q) := hTq.below hB6 hTw
              have f1 : w6.cell? ⟨B', s, none⟩ = some (.slice (some ⟨B' + 1 + s, 0, none⟩) (l.length + 1) (l.length + 1)) := by
                have := hT6.outer.cell (i := s) hsk
                rw [if_pos (by omega)] at this
                exact this
              have f2 : w6.cell? ⟨B, s, none⟩ = some (.slice (some ⟨B + 1 + s, 0, none⟩) (l.length + 1) (l.length + 1)) := hTq6.outer.cell hsk
              have hr1 := hT6.inner s (by omega)
              have hr2 := hTq6.inner s hsk
              have hs0 : (0 : Int) ≤ (s : Int) := Int.natCast_nonneg _
              have hs1 : (s : Int) < (k : Int) := by omega
              clear e1 e2 e3 e4 hTq'
              go_region_law (refine step_copy_rows rfl (.tmp 74) (.tmp 78) rfl (B' + 1 + s) (B + 1 + s) (l.length + 1) _ _ rfl rfl hr1 hr2 (fun _ _ => rfl) ?_; intro w7 hr7 hg7 hs7)
              all_goals
                go_wp2
                go_roundw
                case rel =>
                  have hsz6 := hT6.size
                  have hg7' : w6.grownBy w7 (some (B' + 1 + s)) := ⟨hg7.os, hg7.tape, hg7.output, hg7.size, hg7.block⟩
                  exact ⟨s + 1, by omega, by go_num, hB6.grown hg7' (by omega) (fun x hx => by injection hx; omega), hT6.fill hg7' hs7.out hr7⟩
                case measure => simp [intOf]; omega
            · obtain rfl : s = k := by omega
              have hTab' := hTs.whole
              have hTq' : Tab wr B s (l.length + 1) (fun S q => ev ((l.map mask).take j) S q) := hTq.below hBs hTw
              have hszs := hide hTs.size
              clear hTs
              go_wp2
              have hE : Tab wr B' s (l.length + 1) (fun S q => evStep (ev ((l.map mask).take j)) (mask ((p1 : Int), (p2 : Int))) 0 0 S q) := hTab'.congr fun S _ q _ => (evStep_start _ _ _ _).symm
              have hBr := hBs
              have hmaskn : mask ((p1 : Int), (p2 : Int)) < 2 ^ n := mask_lt g1 g2 g3 g4
              have hturn := turn_go p1 p2 hp1 hp2 (by omega)
              have HTU := hide hturn
              have HMN := hide hmaskn
              clear hTab' hTq' hturn hmaskn
              -- what is added, row after row
              go_loopw [83] (fun i wq => ∃ x : Nat, x ≤ s ∧ i = .int .i64 x ∧ Below wo.heap.size wo wq ∧ Tab wq B' s (l.length + 1) (fun S q => evStep (ev ((l.map mask).take j)) (mask ((p1 : Int), (p2 : Int))) x 0 S q)) (fun i _ => s - (intOf i).toNat)
              case atStart => exact ⟨0, Nat.zero_le _, rfl, hBr, hE⟩
              case round =>
                obtain ⟨x, hx, rfl, hBx, hTx⟩ := hrel
                by_cases hxs : x < s
                · go_wp2
                  go_loopw [87] (fun i wq => ∃ r : Nat, r ≤ l.length ∧ i = .int .i64 r ∧ Below wo.heap.size wo wq ∧ Tab wq B' s (l.length + 1) (fun S q => evStep (ev ((l.map mask).take j)) (mask ((p1 : Int), (p2 : Int))) x r S q)) (fun i _ => l.length - (intOf i).toNat)
                  case atStart => exact ⟨0, Nat.zero_le _, rfl, hBx, hTx⟩
                  case round =>
                    obtain ⟨r, hr, rfl, hBy, hTy⟩ := hrel
                    by_cases hrl : r < l.length
                    · obtain ⟨y, hy⟩ : ∃ y, y = x ^^^ mask ((p1 : Int), (p2 : Int)) := ⟨_, rfl⟩
                      have hyn : y < s := by
                        rw [hy, HM.out]
                        exact Nat.xor_lt_two_pow (by rw [← HM.out]; exact hxs) HMN.out
                      have hTz : Tab wr B s (l.length + 1) (fun S q => ev ((l.map mask).take j) S q) := hTq.below hBy hTw
                      have q1 : wr.cell? ⟨B', y, none⟩ = some (.slice (some ⟨B' + 1 + y, 0, none⟩) (l.length + 1) (l.length + 1)) := hTy.outer.cell hyn
                      have q2 : wr.cell? ⟨B' + 1 + y, r + 1, none⟩ = some (.int .i64 ((ev ((l.map mask).take j) y (r + 1) : Nat) : Int)) := by
                        have := (hTy.inner y hyn).cell (i := r + 1) (by omega)
                        rw [hy, evStep_at, ← hy] at this
                        exact this
                      have q3 : wr.cell? ⟨B, x, none⟩ = some (.slice (some ⟨B + 1 + x, 0, none⟩) (l.length + 1) (l.length + 1)) := hTz.outer.cell hxs
                      have q4 : wr.cell? ⟨B + 1 + x, r, none⟩ = some (.int .i64 ((ev ((l.map mask).take j) x r : Nat) : Int)) := (hTz.inner x hxs).cell (by omega)
                      have q5 : wr.frozen? ⟨B' + 1 + y, r + 1, none⟩ = false := (hTy.inner y hyn).frozen _
                      have q6 := ev_small ((l.map mask).take j) y (r + 1) (by simp; omega)
                      have q7 := ev_small ((l.map mask).take j) x r (by simp; omega)
                      have hset := hTy.set y (r + 1) hyn (ev ((l.map mask).take j) y (r + 1) + ev ((l.map mask).take j) x r)
                      have hT' : Tab (wr.setCell ⟨B' + 1 + y, r + 1, none⟩ (.int .i64 ((ev ((l.map mask).take j) y (r + 1) + ev ((l.map mask).take j) x r : Nat) : Int))) B' s (l.length + 1) (fun S q => evStep (ev ((l.map mask).take j)) (mask ((p1 : Int), (p2 : Int))) x (r + 1) S q) :=
                        hset.congr fun S _ q _ => by
                          rw [← evStep_add, hy]
                      have hxe : bits BinOp.xor IntKind.i64 (x : Int) (bits BinOp.or IntKind.i64 (wrap64 (2 ^ p1)) (wrap64 (2 ^ p2))) = (y : Int) := by
                        rw [HTU.out, i64_xor _ _ (by omega) (by have := HMN.out; have : 2 ^ n ≤ 2 ^ 14 := Nat.pow_le_pow_right (by decide) hn; omega), hy]
                      generalize ev ((l.map mask).take j) y (r + 1) = v1 at *
                      generalize ev ((l.map mask).take j) x r = v2 at *
                      have hy0 : (0 : Int) ≤ (y : Int) := Int.natCast_nonneg _
                      have hy1 : (y : Int) < (s : Int) := by omega
                      have hr0 : (0 : Int) ≤ (r : Int) := Int.natCast_nonneg _
                      have hr1 : (r : Int) < (l.length : Int) := by omega
                      have hr2 : (r : Int) < (l.length : Int) + 1 := by omega
                      have hr3 : (r : Int) + 1 < (l.length : Int) + 1 := by omega
                      have hr4 : 0 ≤ (r : Int) + 1 := by omega
                      have hr5 : ((r : Int) + 1).toNat = r + 1 := by omega
                      have hw1 : IntKind.i64.wrap ((r : Int) + 1) = (r : Int) + 1 := wraps_i64 _ (by omega) (by omega)
                      have hw2 : IntKind.i64.wrap ((v1 : Int) + (v2 : Int)) = (v1 : Int) + (v2 : Int) := wraps_i64 _ (by omega) (by omega)
                      have hT'' := hide hT'
                      clear hy hset hTx hTz hT'
                      go_wp2
                      go_still_tail 19, (by kernel_rfl)
                      go_wp2
                      go_roundw
                      case rel =>
                        refine ⟨r + 1, by omega, by go_num, ?_, ⟨hT''.out.outer, hT''.out.inner⟩⟩
                        have hbb := hBy.setCell (p := ⟨B' + 1 + y, r + 1, none⟩) (by show wo.heap.size ≤ B' + 1 + y; omega) (.int .i64 ((v1 + v2 : Nat) : Int))
                        exact ⟨hbb.os, hbb.tape, hbb.output, hbb.size, hbb.block⟩
                      case measure => simp [intOf]; omega
                    · obtain rfl : r = l.length := by omega
                      go_wp2
                      go_roundw
                      case rel => exact ⟨x + 1, by omega, by go_num, hBy, hTy.congr fun S _ q hq => evStep_row _ _ _ _ _ _ (by omega)⟩
                      case measure => simp [intOf]; omega
                · obtain rfl : x = s := by omega
                  go_wp2
                  go_roundw
                  case rel =>
                    refine ⟨j + 1, B', by omega, by go_num, rfl, by omega, hBq.trans (hBx.mono (by have := hTq.lt; omega)), hTx.congr fun S hS q _ => ?_⟩
                    rw [mask_take l j hlj, HP.out]
                    have hS2 : S < 2 ^ n := by rw [← HM.out]; exact hS
                    have := evStep_end ((l.map mask).take j) (mask ((p1 : Int), (p2 : Int))) n S q hS2 HMN.out
                    rw [← HM.out] at this
                    exact this
                  case measure => simp [intOf]; omega
        · obtain rfl : j = l.length := by omega
          have q1 : wo.cell? ⟨B, 0, none⟩ = some (.slice (some ⟨B + 1, 0, none⟩) (l.length + 1) (l.length + 1)) := hTq.outer.cell hM1
          have hrow0 := hTq.inner 0 hM1
          clear c1 c2 c3 c4
          go_wp2
          go_ret2
          refine ⟨some ⟨B + 1, 0, none⟩, l.length + 1, by rw [evenOf_length]; rfl, ?_, by rw [evenOf_length]; omega, hB2.trans (hBq.mono (by omega))⟩
          have hi := Ints.ofRow (f := fun q => (ev ((l.map mask).take l.length) 0 q : Int)) hrow0 (by omega)
          have hm : (l.map mask).take l.length = l.map mask := List.take_of_length_le (by simp)
          rw [hm] at hi
          exact hi
end Go.Proofs.YtngogonepjicpaaDoor
