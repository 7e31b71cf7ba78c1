/- Words, plain laws and walks behind the law OrderMoves, part 2. No condition. -/
import Derived.Test.YtcnecmcbjpehcaaDoorPOrderSpreadx0
import Derived.Test.YtcnecmcbjpehcaaDoorPOrderSpreadx8
import Derived.Test.YtcnecmcbjpehcaaDoorFlatOrderMovesa
import Derived.Test.YtcnecmcbjpehcaaDoorWWords
import Derived.Test.YtcnecmcbjpehcaaDoorWApart
import Derived.BigRegion
import Derived.Deep.RegionHeld3
import Derived.Deep.QuietTactic
import Derived.BigQuiet

/- What the print gives of some functions, but for one walk. No condition. -/
namespace Go.Proofs.YtcnecmcbjpehcaaDoor.POrderSpread
open Go.RowKit Go.Proofs.YtcnecmcbjpehcaaDoorW.PrintWords Go.Proofs.YtcnecmcbjpehcaaDoorW.PrintLast Go.Proofs.YtcnecmcbjpehcaaDoorW.PrintMore
attribute [local go_sem] max2_int min2_int max_two min_two max_three min_three max_four min_four   -- for this text's walks alone
set_option linter.unusedVariables false
set_option linter.unusedSimpArgs false

/-! ### demonref1_Sum: function 30 -/
def demonref1_Sum.l0 : Nat → List Int → Int → Int → Option (Int)
  | 0, _, _, _ => none
  | k + 1, x0, x3, x4 => if x4 < (x0.length : Int) then (if 0 ≤ x4 then (demonref1_Sum.l0 k x0 (wrap64 (x3 + (rd x0 x4))) (wrap64 (x4 + 1))) else (none)) else (some x3)
def demonref1_Sum.f (k : Nat) (l0 : List Int) : Option (Int) := demonref1_Sum.l0 k l0 0 0
theorem demonref1_Sum.mono_l : ∀ k, (∀ y0 y1 y2, LeO (demonref1_Sum.l0 k y0 y1 y2) (demonref1_Sum.l0 (k + 1) y0 y1 y2))
  | 0 => fun _ _ _ r h => by simp [demonref1_Sum.l0] at h
  | k + 1 => by
    have ih0 := demonref1_Sum.mono_l k
    · intro y0 y1 y2
      unfold demonref1_Sum.l0
      repeat' first
      | (with_reducible exact ih0 _ _ _)
      | (with_reducible exact LeO.refl _)
      | (with_reducible exact LeO.none _)
      | (with_reducible refine LeO.ite ?_ ?_)
      | (with_reducible refine LeO.bind ?_ (fun _ => ?_))
      | exact ih0 _ _ _
      | exact LeO.none _
      | refine LeO.ite ?_ ?_
      | refine LeO.bind ?_ (fun _ => ?_)
theorem demonref1_Sum.mono : ∀ a0 k, LeO (demonref1_Sum.f k a0) (demonref1_Sum.f (k + 1) a0) := by
  intro a0 k
  have ih0 := demonref1_Sum.mono_l k
  unfold demonref1_Sum.f
  repeat' first
      | (with_reducible exact ih0 _ _ _)
      | (with_reducible exact LeO.refl _)
      | (with_reducible exact LeO.none _)
      | (with_reducible refine LeO.ite ?_ ?_)
      | (with_reducible refine LeO.bind ?_ (fun _ => ?_))
      | exact ih0 _ _ _
      | exact LeO.none _
      | refine LeO.ite ?_ ?_
      | refine LeO.bind ?_ (fun _ => ?_)
set_option maxHeartbeats 8000000 in
set_option maxRecDepth 100000 in
theorem demonref1_Sum.calls (k : Nat) (A0 : Option Addr) (c0 : Nat) (l0 : List Int) (r : Int) (w : World) (hr0 : Kd.C (Kd.int .i64) w A0 l0.length l0) (hc0 : l0.length ≤ c0) (h : demonref1_Sum.f k l0 = some r) :
    Calls Tryd.prog 30 #[.slice A0 l0.length c0] w fun e w' => e = .returned (.int .i64 r) ∧ Drawn0 w w' := by
  have HR0 := Aside0.mk hr0
  have HC0 := Aside0.mk hc0
  clear hr0 hc0
  have H : (demonref1_Sum.l0 k l0 0 0) = some r := h
  clear h
  have H' := Aside0.mk H
  clear H
  go_enter Tryd.func30, Tryd.ntmps30
  go_wp2
  go_loopg [3, 4] k (fun kq v3 v4 w' => ∃ (x3_1 : Int) (x4_1 : Int), v3 = .int .i64 x3_1 ∧ v4 = .int .i64 x4_1 ∧ Aside0 (demonref1_Sum.l0 kq l0 x3_1 x4_1 = some r) ∧ Aside0 (kq ≤ k) ∧ Drawn0 w w')
  case atStart => exact ⟨(0), (0), (by first | rfl | (simp; done) | (simp [*]; done)), (by first | rfl | (simp; done) | (simp [*]; done)), H', ⟨Nat.le_refl _⟩, by repeat (first | exact Drawn0.refl _ | apply Drawn0.step)⟩
  case round =>
    clear H'
    obtain ⟨x3_1, x4_1, rfl, rfl, HA, HK1, ⟨m1, rfl⟩⟩ := hrel
    cases gk with
    | zero => exact absurd HA.out (by simp [demonref1_Sum.l0])
    | succ k1 =>
      have H := HA.out
      clear HA
      simp only [demonref1_Sum.l0] at H
      by_cases c2 : x4_1 < (l0.length : Int)
      · rw [if_pos c2] at H
        have c2b0 : decide (x4_1 < (l0.length : Int)) = true := decide_eq_true c2
        clear c2
        by_cases c3 : 0 ≤ x4_1
        · rw [if_pos c3] at H
          have c3b0 : decide (0 ≤ x4_1) = true := decide_eq_true c3
          clear c3
          have H' := Aside0.mk H
          clear H
          have p256 : 0 ≤ (x4_1 : Int) := of_decide_eq_true (by first | (with_reducible assumption) | assumption)
          have q256 : x4_1 < (l0.length : Int) := of_decide_eq_true (by first | (with_reducible assumption) | assumption)
          obtain ⟨ad256, e256, hx256_0⟩ := Kd.at_int HR0.out x4_1 p256 q256
          cases e256
          replace p256 := eq_true p256
          replace q256 := eq_true q256
          go_wp2
          go_roundg k1
          case measure => have := HK1.out; omega
          case rel => exact ⟨(wrap64 (x3_1 + (rd l0 x4_1))), (wrap64 (x4_1 + 1)), (by first | rfl | (simp; done) | (simp [*]; done)), (by first | rfl | (simp; done) | (simp [*]; done)), H', ⟨by have := HK1.out; omega⟩, by repeat (first | exact Drawn0.refl _ | apply Drawn0.step)⟩
        · rw [if_neg c3] at H
          exact absurd H (by simp)
      · rw [if_neg c2] at H
        have c2b0 : decide (x4_1 < (l0.length : Int)) = false := decide_eq_false c2
        clear c2
        obtain rfl := Option.some.inj H
        go_wp2
        go_ret
        exact ⟨by first | rfl | (simp; done) | (simp [*]; done), by repeat (first | exact Drawn0.refl _ | apply Drawn0.step)⟩

/-! ### demonref4_SquareError: function 26 -/
mutual
def demonref4_SquareError.l0 : Nat → List (List Int) → Int → Option (Int)
  | 0, _, _ => none
  | k + 1, x0, x3 => if x3 < (x0.length : Int) then (if 0 ≤ x3 then ((demonref4_Numbers.f k (rd_L1 x0 x3)).bind fun t258 => (if t258 = true then (if ((rd_L1 x0 x3).length : Int) = (x0.length : Int) then (demonref4_SquareError.l0 k x0 (wrap64 (x3 + 1))) else (some 3)) else (some 3))) else (none)) else (demonref4_SquareError.l1 k x0 0)
def demonref4_SquareError.l1 : Nat → List (List Int) → Int → Option (Int)
  | 0, _, _ => none
  | k + 1, x0, x5 => if x5 < (x0.length : Int) then (demonref4_SquareError.l2 k x0 x5 0 0) else (some 0)
def demonref4_SquareError.l2 : Nat → List (List Int) → Int → Int → Int → Option (Int)
  | 0, _, _, _, _ => none
  | k + 1, x0, x5, x6, x7 => if x7 < (x0.length : Int) then (if 0 ≤ x7 then (if 0 ≤ x5 then (if x5 < ((rd_L1 x0 x7).length : Int) then (demonref4_SquareError.l2 k x0 x5 (wrap64 (x6 + (rd (rd_L1 x0 x7) x5))) (wrap64 (x7 + 1))) else (none)) else (none)) else (none)) else (if 0 ≤ x5 then (if x5 < (x0.length : Int) then ((demonref1_Sum.f k (rd_L1 x0 x5)).bind fun t263 => (if 0 < (x0.length : Int) then ((demonref1_Sum.f k (rd_L1 x0 0)).bind fun t265 => (if t263 = t265 then ((demonref1_Sum.f k (rd_L1 x0 0)).bind fun t267 => (if x6 = t267 then (demonref4_SquareError.l1 k x0 (wrap64 (x5 + 1))) else (some 3))) else (some 3))) else (none))) else (none)) else (none))
end
def demonref4_SquareError.f (k : Nat) (l0 : List (List Int)) : Option (Int) := if (l0.length : Int) > 8 then (some 2) else (if (l0.length : Int) = 0 then (some 3) else (demonref4_SquareError.l0 k l0 0))
theorem demonref4_SquareError.mono_l : ∀ k, (∀ y0 y1, LeO (demonref4_SquareError.l0 k y0 y1) (demonref4_SquareError.l0 (k + 1) y0 y1)) ∧ (∀ y0 y1, LeO (demonref4_SquareError.l1 k y0 y1) (demonref4_SquareError.l1 (k + 1) y0 y1)) ∧ (∀ y0 y1 y2 y3, LeO (demonref4_SquareError.l2 k y0 y1 y2 y3) (demonref4_SquareError.l2 (k + 1) y0 y1 y2 y3))
  | 0 => ⟨fun _ _ r h => by simp [demonref4_SquareError.l0] at h, fun _ _ r h => by simp [demonref4_SquareError.l1] at h, fun _ _ _ _ r h => by simp [demonref4_SquareError.l2] at h⟩
  | k + 1 => by
    obtain ⟨ih0, ih1, ih2⟩ := demonref4_SquareError.mono_l k
    refine ⟨?_, ?_, ?_⟩
    · intro y0 y1
      unfold demonref4_SquareError.l0
      repeat' first
      | (with_reducible exact ih0 _ _)
      | (with_reducible exact ih1 _ _)
      | (with_reducible exact ih2 _ _ _ _)
      | (with_reducible exact demonref1_Sum.mono _ _)
      | (with_reducible exact demonref4_Numbers.mono _ _)
      | (with_reducible exact LeO.refl _)
      | (with_reducible exact LeO.none _)
      | (with_reducible refine LeO.ite ?_ ?_)
      | (with_reducible refine LeO.bind ?_ (fun _ => ?_))
      | exact ih0 _ _
      | exact ih1 _ _
      | exact ih2 _ _ _ _
      | exact demonref1_Sum.mono _ _
      | exact demonref4_Numbers.mono _ _
      | exact LeO.none _
      | refine LeO.ite ?_ ?_
      | refine LeO.bind ?_ (fun _ => ?_)
    · intro y0 y1
      unfold demonref4_SquareError.l1
      repeat' first
      | (with_reducible exact ih0 _ _)
      | (with_reducible exact ih1 _ _)
      | (with_reducible exact ih2 _ _ _ _)
      | (with_reducible exact demonref1_Sum.mono _ _)
      | (with_reducible exact demonref4_Numbers.mono _ _)
      | (with_reducible exact LeO.refl _)
      | (with_reducible exact LeO.none _)
      | (with_reducible refine LeO.ite ?_ ?_)
      | (with_reducible refine LeO.bind ?_ (fun _ => ?_))
      | exact ih0 _ _
      | exact ih1 _ _
      | exact ih2 _ _ _ _
      | exact demonref1_Sum.mono _ _
      | exact demonref4_Numbers.mono _ _
      | exact LeO.none _
      | refine LeO.ite ?_ ?_
      | refine LeO.bind ?_ (fun _ => ?_)
    · intro y0 y1 y2 y3
      unfold demonref4_SquareError.l2
      repeat' first
      | (with_reducible exact ih0 _ _)
      | (with_reducible exact ih1 _ _)
      | (with_reducible exact ih2 _ _ _ _)
      | (with_reducible exact demonref1_Sum.mono _ _)
      | (with_reducible exact demonref4_Numbers.mono _ _)
      | (with_reducible exact LeO.refl _)
      | (with_reducible exact LeO.none _)
      | (with_reducible refine LeO.ite ?_ ?_)
      | (with_reducible refine LeO.bind ?_ (fun _ => ?_))
      | exact ih0 _ _
      | exact ih1 _ _
      | exact ih2 _ _ _ _
      | exact demonref1_Sum.mono _ _
      | exact demonref4_Numbers.mono _ _
      | exact LeO.none _
      | refine LeO.ite ?_ ?_
      | refine LeO.bind ?_ (fun _ => ?_)
theorem demonref4_SquareError.mono : ∀ a0 k, LeO (demonref4_SquareError.f k a0) (demonref4_SquareError.f (k + 1) a0) := by
  intro a0 k
  obtain ⟨ih0, ih1, ih2⟩ := demonref4_SquareError.mono_l k
  unfold demonref4_SquareError.f
  repeat' first
      | (with_reducible exact ih0 _ _)
      | (with_reducible exact ih1 _ _)
      | (with_reducible exact ih2 _ _ _ _)
      | (with_reducible exact demonref1_Sum.mono _ _)
      | (with_reducible exact demonref4_Numbers.mono _ _)
      | (with_reducible exact LeO.refl _)
      | (with_reducible exact LeO.none _)
      | (with_reducible refine LeO.ite ?_ ?_)
      | (with_reducible refine LeO.bind ?_ (fun _ => ?_))
      | exact ih0 _ _
      | exact ih1 _ _
      | exact ih2 _ _ _ _
      | exact demonref1_Sum.mono _ _
      | exact demonref4_Numbers.mono _ _
      | exact LeO.none _
      | refine LeO.ite ?_ ?_
      | refine LeO.bind ?_ (fun _ => ?_)
/-! ### demonref4_SpreadOf: function 28 -/
mutual
def demonref4_SpreadOf.l0 : Nat → List (List Int) → List Int → List Int → Int → Option (List Int)
  | 0, _, _, _, _ => none
  | k + 1, x0, x1, x5, x6 => if x6 < (x0.length : Int) then (demonref4_SpreadOf.l1 k x0 x1 x5 x6 0 0) else (some x5)
def demonref4_SpreadOf.l1 : Nat → List (List Int) → List Int → List Int → Int → Int → Int → Option (List Int)
  | 0, _, _, _, _, _, _ => none
  | k + 1, x0, x1, x5, x6, x7, x8 => if x8 < (x1.length : Int) then (if 0 ≤ x6 then (if x6 < (x0.length : Int) then (if 0 ≤ x8 then (if x8 < ((rd_L1 x0 x6).length : Int) then (demonref4_SpreadOf.l1 k x0 x1 x5 x6 (wrap64 (x7 + (wrap64 ((rd (rd_L1 x0 x6) x8) * (rd x1 x8))))) (wrap64 (x8 + 1))) else (none)) else (none)) else (none)) else (none)) else (if x5.length < 17592186044416 then (demonref4_SpreadOf.l0 k x0 x1 (x5 ++ [x7]) (wrap64 (x6 + 1))) else (none))
end
def demonref4_SpreadOf.f (k : Nat) (l0 : List (List Int)) (l1 : List Int) : Option (List Int) := demonref4_SpreadOf.l0 k l0 l1 ([] : List Int) 0
theorem demonref4_SpreadOf.mono_l : ∀ k, (∀ y0 y1 y2 y3, LeO (demonref4_SpreadOf.l0 k y0 y1 y2 y3) (demonref4_SpreadOf.l0 (k + 1) y0 y1 y2 y3)) ∧ (∀ y0 y1 y2 y3 y4 y5, LeO (demonref4_SpreadOf.l1 k y0 y1 y2 y3 y4 y5) (demonref4_SpreadOf.l1 (k + 1) y0 y1 y2 y3 y4 y5))
  | 0 => ⟨fun _ _ _ _ r h => by simp [demonref4_SpreadOf.l0] at h, fun _ _ _ _ _ _ r h => by simp [demonref4_SpreadOf.l1] at h⟩
  | k + 1 => by
    obtain ⟨ih0, ih1⟩ := demonref4_SpreadOf.mono_l k
    refine ⟨?_, ?_⟩
    · intro y0 y1 y2 y3
      unfold demonref4_SpreadOf.l0
      repeat' first
      | (with_reducible exact ih0 _ _ _ _)
      | (with_reducible exact ih1 _ _ _ _ _ _)
      | (with_reducible exact LeO.refl _)
      | (with_reducible exact LeO.none _)
      | (with_reducible refine LeO.ite ?_ ?_)
      | (with_reducible refine LeO.bind ?_ (fun _ => ?_))
      | exact ih0 _ _ _ _
      | exact ih1 _ _ _ _ _ _
      | exact LeO.none _
      | refine LeO.ite ?_ ?_
      | refine LeO.bind ?_ (fun _ => ?_)
    · intro y0 y1 y2 y3 y4 y5
      unfold demonref4_SpreadOf.l1
      repeat' first
      | (with_reducible exact ih0 _ _ _ _)
      | (with_reducible exact ih1 _ _ _ _ _ _)
      | (with_reducible exact LeO.refl _)
      | (with_reducible exact LeO.none _)
      | (with_reducible refine LeO.ite ?_ ?_)
      | (with_reducible refine LeO.bind ?_ (fun _ => ?_))
      | exact ih0 _ _ _ _
      | exact ih1 _ _ _ _ _ _
      | exact LeO.none _
      | refine LeO.ite ?_ ?_
      | refine LeO.bind ?_ (fun _ => ?_)
theorem demonref4_SpreadOf.mono : ∀ a0 a1 k, LeO (demonref4_SpreadOf.f k a0 a1) (demonref4_SpreadOf.f (k + 1) a0 a1) := by
  intro a0 a1 k
  obtain ⟨ih0, ih1⟩ := demonref4_SpreadOf.mono_l k
  unfold demonref4_SpreadOf.f
  repeat' first
      | (with_reducible exact ih0 _ _ _ _)
      | (with_reducible exact ih1 _ _ _ _ _ _)
      | (with_reducible exact LeO.refl _)
      | (with_reducible exact LeO.none _)
      | (with_reducible refine LeO.ite ?_ ?_)
      | (with_reducible refine LeO.bind ?_ (fun _ => ?_))
      | exact ih0 _ _ _ _
      | exact ih1 _ _ _ _ _ _
      | exact LeO.none _
      | refine LeO.ite ?_ ?_
      | refine LeO.bind ?_ (fun _ => ?_)
set_option maxHeartbeats 8000000 in
set_option maxRecDepth 100000 in
theorem demonref4_SpreadOf.calls (k : Nat) (A0 : Option Addr) (c0 : Nat) (l0 : List (List Int)) (A1 : Option Addr) (c1 : Nat) (l1 : List Int) (r : List Int) (w : World) (hr0 : Kd.C (Kd.slice 3 (Kd.int .i64)) w A0 l0.length l0) (hc0 : l0.length ≤ c0) (hr1 : Kd.C (Kd.int .i64) w A1 l1.length l1) (hc1 : l1.length ≤ c1) (h : demonref4_SpreadOf.f k l0 l1 = some r) :
    Calls Tryd.prog 28 #[.slice A0 l0.length c0, .slice A1 l1.length c1] w fun e w' => ∃ v0_ : Value, e = .returned (v0_) ∧ Kd.R (Kd.int .i64) 3 w' w.heap.size (fun _ => True) v0_ r ∧ Below w.heap.size w w' := by
  have HR0 := Aside0.mk hr0
  have HC0 := Aside0.mk hc0
  clear hr0 hc0
  have HR1 := Aside0.mk hr1
  have HC1 := Aside0.mk hc1
  clear hr1 hc1
  have HB := Aside0.mk (Below.refl w.heap.size w)
  have H : (demonref4_SpreadOf.l0 k l0 l1 ([] : List Int) 0) = some r := h
  clear h
  have H' := Aside0.mk H
  clear H
  go_enter Tryd.func28, Tryd.ntmps28
  go_wp2
  repeat (go_quiet (fail); try go_wp2)
  go_loopg [5, 6] k (fun kq v5 v6 w' => ∃ (x5_1 : List Int) (x6_1 : Int), v6 = .int .i64 x6_1 ∧ Aside0 (demonref4_SpreadOf.l0 kq l0 l1 x5_1 x6_1 = some r) ∧ Aside0 (kq ≤ k) ∧ Aside0 (Kd.R (Kd.int .i64) 3 w' w.heap.size (fun _ => True) v5 x5_1) ∧ Aside0 (Below w.heap.size w w'))
  case atStart => exact ⟨(([] : List Int)), (0), (by first | rfl | (simp; done) | (simp [*]; done)), H', ⟨Nat.le_refl _⟩, ⟨by first | exact Kd.R_nil _ _ _ _ _ | exact Kd.N_nil _ _ _ _ _ | exact Kd.V_nil _ _ _ _ _ | exact Kd.Q_nil _ _ _ _ _ | exact Kd.S_nil _ _ _ _ _⟩, ⟨by repeat (first | (with_reducible first | exact HB.out | apply below_alloc | apply pw_below_drewN | apply below_drew1) | exact HB.out)⟩⟩
  case round =>
    clear H'
    try clear c1
    try clear c2
    try clear p2
    obtain ⟨x5_1, x6_1, rfl, HA, HK1, HO_5, HB⟩ := hrel
    cases gk with
    | zero => exact absurd HA.out (by simp [demonref4_SpreadOf.l0])
    | succ k1 =>
      have H := HA.out
      clear HA
      simp only [demonref4_SpreadOf.l0] at H
      by_cases c3 : x6_1 < (l0.length : Int)
      · rw [if_pos c3] at H
        have c3b0 : decide (x6_1 < (l0.length : Int)) = true := decide_eq_true c3
        clear c3
        have H' := Aside0.mk H
        clear H
        go_wp2
        repeat (go_quiet (fail); try go_wp2)
        go_loopg [7, 8] k1 (fun kq v7 v8 w' => ∃ (x7_2 : Int) (x8_2 : Int), v7 = .int .i64 x7_2 ∧ v8 = .int .i64 x8_2 ∧ Aside0 (demonref4_SpreadOf.l1 kq l0 l1 x5_1 x6_1 x7_2 x8_2 = some r) ∧ Aside0 (kq ≤ k1) ∧ Aside0 (Kd.R (Kd.int .i64) 3 w' w.heap.size (fun _ => True) u5 x5_1) ∧ Aside0 (Below w.heap.size w w'))
        case atStart => exact ⟨(0), (0), (by first | rfl | (simp; done) | (simp [*]; done)), (by first | rfl | (simp; done) | (simp [*]; done)), H', ⟨Nat.le_refl _⟩, ⟨by (with_reducible repeat (first | apply Kd.R_alloc | apply Kd.R_drewN | apply Kd.R_drew)); exact HO_5.out⟩, ⟨by repeat (first | (with_reducible first | exact HB.out | apply below_alloc | apply pw_below_drewN | apply below_drew1) | exact HB.out)⟩⟩
        case round =>
          clear H'
          try clear c1
          try clear c2
          try clear p2
          try clear c3
          try clear c3b0
          try clear p2
          obtain ⟨x7_2, x8_2, rfl, rfl, HA, HK2, HO_5, HB⟩ := hrel
          cases gk with
          | zero => exact absurd HA.out (by simp [demonref4_SpreadOf.l1])
          | succ k2 =>
            have H := HA.out
            clear HA
            simp only [demonref4_SpreadOf.l1] at H
            by_cases c4 : x8_2 < (l1.length : Int)
            · rw [if_pos c4] at H
              have c4b0 : decide (x8_2 < (l1.length : Int)) = true := decide_eq_true c4
              clear c4
              by_cases c5 : 0 ≤ x6_1
              · rw [if_pos c5] at H
                have c5b0 : decide (0 ≤ x6_1) = true := decide_eq_true c5
                clear c5
                by_cases c6 : x6_1 < (l0.length : Int)
                · rw [if_pos c6] at H
                  have c6b0 : decide (x6_1 < (l0.length : Int)) = true := decide_eq_true c6
                  clear c6
                  by_cases c7 : 0 ≤ x8_2
                  · rw [if_pos c7] at H
                    have c7b0 : decide (0 ≤ x8_2) = true := decide_eq_true c7
                    clear c7
                    by_cases c8 : x8_2 < ((rd_L1 l0 x6_1).length : Int)
                    · rw [if_pos c8] at H
                      have c8b0 : decide (x8_2 < ((rd_L1 l0 x6_1).length : Int)) = true := decide_eq_true c8
                      clear c8
                      have H' := Aside0.mk H
                      clear H
                      have p268 : 0 ≤ (x6_1 : Int) := of_decide_eq_true (by first | (with_reducible assumption) | assumption)
                      have q268 : x6_1 < (l0.length : Int) := of_decide_eq_true (by first | (with_reducible assumption) | assumption)
                      obtain ⟨ad268, A268_0, c268_0, e268, hx268_0, hl268_0, hi268_0⟩ := at_L1 HR0.out x6_1 p268 q268
                      cases e268
                      replace hx268_0 := (HB.out.cell (World.block_lt_of_cell? w _ hx268_0)).trans hx268_0
                      have HR268_0 := Aside0.mk hi268_0
                      have HC268_0 := Aside0.mk hl268_0
                      clear hi268_0 hl268_0
                      replace p268 := eq_true p268
                      replace q268 := eq_true q268
                      have p269 : 0 ≤ (x8_2 : Int) := of_decide_eq_true (by first | (with_reducible assumption) | assumption)
                      have q269 : x8_2 < ((rd_L1 l0 x6_1).length : Int) := of_decide_eq_true (by first | (with_reducible assumption) | assumption)
                      obtain ⟨ad269, e269, hx269_0⟩ := Kd.at_int HR268_0.out x8_2 p269 q269
                      cases e269
                      replace hx269_0 := (HB.out.cell (World.block_lt_of_cell? w _ hx269_0)).trans hx269_0
                      replace p269 := eq_true p269
                      replace q269 := eq_true q269
                      have p270 : 0 ≤ (x8_2 : Int) := of_decide_eq_true (by first | (with_reducible assumption) | assumption)
                      have q270 : x8_2 < (l1.length : Int) := of_decide_eq_true (by first | (with_reducible assumption) | assumption)
                      obtain ⟨ad270, e270, hx270_0⟩ := Kd.at_int HR1.out x8_2 p270 q270
                      cases e270
                      replace hx270_0 := (HB.out.cell (World.block_lt_of_cell? w _ hx270_0)).trans hx270_0
                      replace p270 := eq_true p270
                      replace q270 := eq_true q270
                      go_wp2
                      repeat (go_quiet (fail); try go_wp2)
                      go_roundg k2
                      case measure => have := HK1.out; have := HK2.out; omega
                      case rel => exact ⟨(wrap64 (x7_2 + (wrap64 ((rd (rd_L1 l0 x6_1) x8_2) * (rd l1 x8_2))))), (wrap64 (x8_2 + 1)), (by first | rfl | (simp; done) | (simp [*]; done)), (by first | rfl | (simp; done) | (simp [*]; done)), H', ⟨by have := HK1.out; have := HK2.out; omega⟩, ⟨by (with_reducible repeat (first | apply Kd.R_alloc | apply Kd.R_drewN | apply Kd.R_drew)); exact HO_5.out⟩, ⟨by repeat (first | (with_reducible first | exact HB.out | apply below_alloc | apply pw_below_drewN | apply below_drew1) | exact HB.out)⟩⟩
                    · rw [if_neg c8] at H
                      exact absurd H (by simp)
                  · rw [if_neg c7] at H
                    exact absurd H (by simp)
                · rw [if_neg c6] at H
                  exact absurd H (by simp)
              · rw [if_neg c5] at H
                exact absurd H (by simp)
            · rw [if_neg c4] at H
              have c4b0 : decide (x8_2 < (l1.length : Int)) = false := decide_eq_false c4
              clear c4
              by_cases c9 : x5_1.length < 17592186044416
              · rw [if_pos c9] at H
                have LMc9 := Aside0.mk c9
                clear c9
                obtain ⟨y271, hy271⟩ : ∃ y_ : List Int, y_ = (x5_1 ++ [x7_2]) := ⟨_, rfl⟩
                replace H : (demonref4_SpreadOf.l0 k2 l0 l1 y271 (wrap64 (x6_1 + 1))) = some r := by first | (rw [hy271]; with_reducible exact H) | (have H2_ := (Option.bind_some _ _).symm.trans H; rw [hy271]; with_reducible exact H2_) | (have H2_ := (Option.bind_some _ _).symm.trans H; with_reducible exact H2_) | with_reducible exact H | (rw [hy271]; exact H) | exact H
                have Ny271 := Aside0.mk hy271
                clear hy271
                have H' := Aside0.mk H
                clear H
                go_wp2_with (first | ((with_reducible refine gate_builtin (b := .append) (xs := #[.tmp 35, .tmp 37]) rfl ?_); at_builtin; refine Kd.R_append (Kd.int .i64) (w0 := w) w.heap.size rfl (.tmp 35) (.tmp 37) 25 3 (.int .i64 0) 8 rfl Tryd.underlying25 info3 rfl (by decide) (by omega) u5 x5_1 x7_2 [.int .i64 x7_2] (fun _ => True) (fun _ => False) rfl rfl ?aP (fun _ hk => hk.elim) ?aF ?aO ?aB ?aS ?aL ?_; (case aP => exact rfl); (case aB => exact (by repeat (first | (with_reducible first | exact HB.out | apply below_alloc | apply pw_below_drewN | apply below_drew1) | exact HB.out))); (case aF => exact (fun _ _ => trivial)); (case aO => exact (by (with_reducible repeat (first | apply Kd.R_alloc | apply Kd.R_drewN | apply Kd.R_drew)); exact HO_5.out)); (case aS => exact (below_size (by repeat (first | (with_reducible first | exact HB.out | apply below_alloc | apply pw_below_drewN | apply below_drew1) | exact HB.out)))); (case aL => have := LMc9.out; omega); intro v272 w10 ho hb hg hat; rw [← Ny271.out] at ho; have n0_ := Aside0.mk (hb); have n1_ := Aside0.mk (ho); clear HB; clear HO_5; have HB := n0_; have HO273 := n1_; clear n0_ n1_; clear ho hb hg hat))
                repeat (go_quiet (first | ((with_reducible refine gate_builtin (b := .append) (xs := #[.tmp 35, .tmp 37]) rfl ?_); at_builtin; refine Kd.R_append (Kd.int .i64) (w0 := w) w.heap.size rfl (.tmp 35) (.tmp 37) 25 3 (.int .i64 0) 8 rfl Tryd.underlying25 info3 rfl (by decide) (by omega) u5 x5_1 x7_2 [.int .i64 x7_2] (fun _ => True) (fun _ => False) rfl rfl ?aP (fun _ hk => hk.elim) ?aF ?aO ?aB ?aS ?aL ?_; (case aP => exact rfl); (case aB => exact (by repeat (first | (with_reducible first | exact HB.out | apply below_alloc | apply pw_below_drewN | apply below_drew1) | exact HB.out))); (case aF => exact (fun _ _ => trivial)); (case aO => exact (by (with_reducible repeat (first | apply Kd.R_alloc | apply Kd.R_drewN | apply Kd.R_drew)); exact HO_5.out)); (case aS => exact (below_size (by repeat (first | (with_reducible first | exact HB.out | apply below_alloc | apply pw_below_drewN | apply below_drew1) | exact HB.out)))); (case aL => have := LMc9.out; omega); intro v272 w10 ho hb hg hat; rw [← Ny271.out] at ho; have n0_ := Aside0.mk (hb); have n1_ := Aside0.mk (ho); clear HB; clear HO_5; have HB := n0_; have HO273 := n1_; clear n0_ n1_; clear ho hb hg hat)); try go_wp2_with (first | ((with_reducible refine gate_builtin (b := .append) (xs := #[.tmp 35, .tmp 37]) rfl ?_); at_builtin; refine Kd.R_append (Kd.int .i64) (w0 := w) w.heap.size rfl (.tmp 35) (.tmp 37) 25 3 (.int .i64 0) 8 rfl Tryd.underlying25 info3 rfl (by decide) (by omega) u5 x5_1 x7_2 [.int .i64 x7_2] (fun _ => True) (fun _ => False) rfl rfl ?aP (fun _ hk => hk.elim) ?aF ?aO ?aB ?aS ?aL ?_; (case aP => exact rfl); (case aB => exact (by repeat (first | (with_reducible first | exact HB.out | apply below_alloc | apply pw_below_drewN | apply below_drew1) | exact HB.out))); (case aF => exact (fun _ _ => trivial)); (case aO => exact (by (with_reducible repeat (first | apply Kd.R_alloc | apply Kd.R_drewN | apply Kd.R_drew)); exact HO_5.out)); (case aS => exact (below_size (by repeat (first | (with_reducible first | exact HB.out | apply below_alloc | apply pw_below_drewN | apply below_drew1) | exact HB.out)))); (case aL => have := LMc9.out; omega); intro v272 w10 ho hb hg hat; rw [← Ny271.out] at ho; have n0_ := Aside0.mk (hb); have n1_ := Aside0.mk (ho); clear HB; clear HO_5; have HB := n0_; have HO273 := n1_; clear n0_ n1_; clear ho hb hg hat)))
                go_roundg k2
                case measure => have := HK1.out; have := HK2.out; omega
                case rel => exact ⟨(y271), (wrap64 (x6_1 + 1)), (by first | rfl | (simp; done) | (simp [*]; done)), H', ⟨by have := HK1.out; have := HK2.out; omega⟩, ⟨by (with_reducible repeat (first | apply Kd.R_alloc | apply Kd.R_drewN | apply Kd.R_drew)); exact HO273.out⟩, ⟨by repeat (first | (with_reducible first | exact HB.out | apply below_alloc | apply pw_below_drewN | apply below_drew1) | exact HB.out)⟩⟩
              · rw [if_neg c9] at H
                exact absurd H (by simp)
      · rw [if_neg c3] at H
        have c3b0 : decide (x6_1 < (l0.length : Int)) = false := decide_eq_false c3
        clear c3
        obtain rfl := Option.some.inj H
        go_wp2
        repeat (go_quiet (fail); try go_wp2)
        go_ret
        exact ⟨_, by first | rfl | (simp [errW_none, errW_some] <;> rfl) | (simp [*, errW_none, errW_some] <;> rfl), by (with_reducible repeat (first | apply Kd.R_alloc | apply Kd.R_drewN | apply Kd.R_drew)); exact HO_5.out, by repeat (first | (with_reducible first | exact HB.out | apply below_alloc | apply pw_below_drewN | apply below_drew1) | exact HB.out)⟩

-- NOT PRINTED: function 39 (order_square)

-- NOT PRINTED: function 29 (order_Spread)

-- NOT PRINTED: function 6 (demonlaw4_OrderSpread)

end Go.Proofs.YtcnecmcbjpehcaaDoor.POrderSpread

/- Plain words for tables whose rows and columns have one sum, and for what they make of weights; what the printed functions on them answer. No condition. -/
namespace Go.Proofs.YtcnecmcbjpehcaaDoor
open Go Go.RowKit Go.Proofs.YtcnecmcbjpehcaaDoorW.PrintWords Go.Proofs.YtcnecmcbjpehcaaDoor.POrderSpread

theorem rdL_nat (m : List (List Int)) (i : Nat) : rd_L1 m (i : Int) = m.getD i [] := rfl
theorem sumS_l0 (l : List Int) : ∀ (k : Nat) (s i : Int), POrderSpread.demonref1_Sum.l0 k l s i = POrderAbove.demonref1_Sum.l0 k l s i
  | 0, _, _ => rfl
  | k + 1, s, i => by simp only [POrderSpread.demonref1_Sum.l0, POrderAbove.demonref1_Sum.l0, sumS_l0 l k]
theorem sumS_f {l : List Int} (h : Small l) : Ev (fun k => POrderSpread.demonref1_Sum.f k l) l.sum := Ev.congr (fun k => sumS_l0 l k 0 0) (sum_f h)
theorem numbersS_l0 (l : List Int) : ∀ (k : Nat) (i : Int), POrderSpread.demonref4_Numbers.l0 k l i = POrderAbove.demonref4_Numbers.l0 k l i
  | 0, _ => rfl
  | k + 1, i => by simp only [POrderSpread.demonref4_Numbers.l0, POrderAbove.demonref4_Numbers.l0, numbersS_l0 l k]
theorem numbersS_f (l : List Int) (hl : l.length ≤ 2000000) : Ev (fun k => POrderSpread.demonref4_Numbers.f k l) (numb l) := Ev.congr (fun k => numbersS_l0 l k 0) (numbers_f l hl)
theorem getDL_eq (l : List (List Int)) (i : Nat) (h : i < l.length) : l.getD i [] = l[i] := by simp [List.getD_eq_getElem?_getD, h]
theorem takeL_at (l : List (List Int)) (i : Nat) (h : i < l.length) : l.take (i + 1) = l.take i ++ [l.getD i []] := by
  rw [List.take_succ_eq_append_getElem h, getDL_eq l i h]

/-- a row that may stand in a table of n rows -/
def goodRow (n : Nat) (r : List Int) : Bool := numb r && decide (r.length = n)
/-- a column's sum, of the first k rows -/
def colTo (m : List (List Int)) (i k : Nat) : Int := ((m.take k).map fun r => r.getD i 0).sum
def colSum (m : List (List Int)) (i : Nat) : Int := colTo m i m.length
theorem colTo_succ (m : List (List Int)) (i k : Nat) (h : k < m.length) : colTo m i (k + 1) = colTo m i k + (m.getD k []).getD i 0 := by
  unfold colTo
  rw [takeL_at m k h, List.map_append, List.sum_append]
  simp
/-- the sums at place i are right -/
def goodAt (m : List (List Int)) (i : Nat) : Bool := decide ((m.getD i []).sum = (m.getD 0 []).sum) && decide (colSum m i = (m.getD 0 []).sum)
/-- the code of a table's error -/
def sqErr (m : List (List Int)) : Int := if 8 < m.length then 2 else if m.length = 0 then 3 else if (m.all (goodRow m.length) && (List.range m.length).all (goodAt m)) = true then 0 else 3
theorem goodRow_get {m : List (List Int)} (h : m.all (goodRow m.length) = true) (i : Nat) (hi : i < m.length) : numb (m.getD i []) = true ∧ (m.getD i []).length = m.length := by
  rw [List.all_eq_true] at h
  have := h (m.getD i []) (by rw [getDL_eq m i hi]; exact List.getElem_mem hi)
  simpa [goodRow] using this
theorem colTo_bound {m : List (List Int)} (h : m.all (goodRow m.length) = true) (i : Nat) (hi : i < m.length) : ∀ k, k ≤ m.length → 0 ≤ colTo m i k ∧ colTo m i k ≤ 4096 * (k : Int) := by
  intro k
  induction k with
  | zero => intro _; simp [colTo]
  | succ k ih =>
    intro hk
    have h1 := ih (by omega)
    obtain ⟨g1, g2⟩ := goodRow_get h k (by omega)
    have h2 := numb_get g1 i (by omega)
    rw [colTo_succ m i k (by omega)]
    omega
theorem squareError_l2 {m : List (List Int)} (h : m.all (goodRow m.length) = true) (h8 : m.length ≤ 8) (i : Nat) (hi : i < m.length) (r : Int)
    (yes : goodAt m i = true → Ev (fun k => POrderSpread.demonref4_SquareError.l1 k m ((i + 1 : Nat) : Int)) r) (no : goodAt m i = false → r = 3) :
    ∀ (d j : Nat), j + d = m.length → Ev (fun k => POrderSpread.demonref4_SquareError.l2 k m (i : Int) (colTo m i j) (j : Int)) r := by
  intro d
  induction d with
  | zero =>
    intro j hj
    obtain rfl : j = m.length := by omega
    have s1 := sumS_f (numb_small (goodRow_get h i hi).1 (by have := (goodRow_get h i hi).2; omega))
    have s0 := sumS_f (numb_small (goodRow_get h 0 (by omega)).1 (by have := (goodRow_get h 0 (by omega)).2; omega))
    have body : Ev (fun k => (POrderSpread.demonref1_Sum.f k (m.getD i [])).bind fun t => if 0 < (m.length : Int) then (POrderSpread.demonref1_Sum.f k (m.getD 0 [])).bind fun s => if t = s then (POrderSpread.demonref1_Sum.f k (m.getD 0 [])).bind fun u => if colTo m i m.length = u then POrderSpread.demonref4_SquareError.l1 k m (wrap64 ((i : Int) + 1)) else some 3 else some 3 else none) r := by
      refine Ev.bind s1 (Ev.congr (fun k => by rw [if_pos (by omega)]) (Ev.bind s0 ?_))
      by_cases c1 : (m.getD i []).sum = (m.getD 0 []).sum
      · refine Ev.congr (fun k => by rw [if_pos c1]) (Ev.bind s0 ?_)
        by_cases c2 : colTo m i m.length = (m.getD 0 []).sum
        · refine Ev.congr (fun k => by rw [if_pos c2, wrap_up i (by omega)]) (yes ?_)
          unfold goodAt colSum
          rw [decide_eq_true c1, decide_eq_true c2]
          rfl
        · rw [no (by unfold goodAt colSum; rw [decide_eq_false c2, Bool.and_false])]
          exact Ev.congr (fun k => by rw [if_neg c2]) (Ev.now _)
      · rw [no (by unfold goodAt; rw [decide_eq_false c1, Bool.false_and])]
        exact Ev.congr (fun k => by rw [if_neg c1]) (Ev.now _)
    refine Ev.step (fun k => ?_) body
    simp only [POrderSpread.demonref4_SquareError.l2]
    rw [if_neg (by omega), if_pos (by omega), if_pos (by omega)]
    rfl
  | succ d ih =>
    intro j hj
    have hb := colTo_bound h i hi j (by omega)
    have hg := goodRow_get h j (by omega)
    have hx := numb_get hg.1 i (by omega)
    refine Ev.step (fun k => ?_) (ih (j + 1) (by omega))
    simp only [POrderSpread.demonref4_SquareError.l2]
    have hw : wrap64 (colTo m i j + (m.getD j []).getD i 0) = colTo m i (j + 1) := by rw [colTo_succ m i j (by omega)]; unfold wrap64; omega
    rw [if_pos (by omega), if_pos (by omega), if_pos (by omega), rdL_nat, if_pos (by omega), rd_nat, hw, wrap_up j (by omega)]
theorem squareError_l1 {m : List (List Int)} (h : m.all (goodRow m.length) = true) (h8 : m.length ≤ 8) : ∀ (d i : Nat), i + d = m.length → (List.range i).all (goodAt m) = true → Ev (fun k => POrderSpread.demonref4_SquareError.l1 k m (i : Int)) (if (List.range m.length).all (goodAt m) = true then 0 else 3) := by
  intro d
  induction d with
  | zero =>
    intro i hi ha
    obtain rfl : i = m.length := by omega
    rw [if_pos ha]
    refine Ev.step (f := fun _ => some 0) (fun k => ?_) (Ev.now _)
    simp only [POrderSpread.demonref4_SquareError.l1]
    rw [if_neg (by omega)]
  | succ d ih =>
    intro i hi ha
    have hl2 := squareError_l2 h h8 i (by omega) (if (List.range m.length).all (goodAt m) = true then 0 else 3) (fun hg => ih (i + 1) (by omega) (by rw [List.range_succ, List.all_append, ha]; simp [hg])) (fun hg => if_neg (fun ht => by
      have := List.all_eq_true.1 ht i (List.mem_range.2 (by omega))
      rw [hg] at this
      cases this)) m.length 0 (by omega)
    refine Ev.step (fun k => ?_) hl2
    simp only [POrderSpread.demonref4_SquareError.l1]
    rw [if_pos (by omega)]
    rfl
theorem squareError_l0 (m : List (List Int)) (h8 : m.length ≤ 8) (hr : ∀ r, r ∈ m → r.length ≤ 2000000) : ∀ (d i : Nat), i + d = m.length → (m.take i).all (goodRow m.length) = true → Ev (fun k => POrderSpread.demonref4_SquareError.l0 k m (i : Int)) (if (m.all (goodRow m.length) && (List.range m.length).all (goodAt m)) = true then 0 else 3) := by
  intro d
  induction d with
  | zero =>
    intro i hi ha
    obtain rfl : i = m.length := by omega
    rw [List.take_length] at ha
    rw [ha, Bool.true_and]
    refine Ev.step (fun k => ?_) (squareError_l1 ha h8 m.length 0 (by omega) rfl)
    simp only [POrderSpread.demonref4_SquareError.l0]
    rw [if_neg (by omega)]
    rfl
  | succ d ih =>
    intro i hi ha
    have hm : m.getD i [] ∈ m := by rw [getDL_eq m i (by omega)]; exact List.getElem_mem _
    have hn := numbersS_f (m.getD i []) (hr _ hm)
    have bad : goodRow m.length (m.getD i []) = false → (if (m.all (goodRow m.length) && (List.range m.length).all (goodAt m)) = true then (0 : Int) else 3) = 3 := fun hb => if_neg (fun ht => by
      rw [Bool.and_eq_true] at ht
      have := List.all_eq_true.1 ht.1 _ hm
      rw [hb] at this
      cases this)
    have body : Ev (fun k => (POrderSpread.demonref4_Numbers.f k (m.getD i [])).bind fun t => if t = true then (if ((m.getD i []).length : Int) = (m.length : Int) then POrderSpread.demonref4_SquareError.l0 k m (wrap64 ((i : Int) + 1)) else some 3) else some 3) (if (m.all (goodRow m.length) && (List.range m.length).all (goodAt m)) = true then 0 else 3) := by
      refine Ev.bind hn ?_
      by_cases c1 : numb (m.getD i []) = true
      · by_cases c2 : ((m.getD i []).length : Int) = (m.length : Int)
        · refine Ev.congr (fun k => by rw [if_pos c1, if_pos c2, wrap_up i (by omega)]) (ih (i + 1) (by omega) ?_)
          rw [takeL_at m i (by omega), List.all_append, ha]
          have c2' : (m.getD i []).length = m.length := by omega
          simp only [List.all_cons, List.all_nil, Bool.and_true, goodRow, c1, c2', decide_true]
        · rw [bad (by unfold goodRow; rw [decide_eq_false (by omega), Bool.and_false])]
          exact Ev.congr (fun k => by rw [if_pos c1, if_neg c2]) (Ev.now _)
      · rw [bad (by unfold goodRow; cases h : numb (m.getD i []) with
          | true => exact absurd h c1
          | false => rfl)]
        exact Ev.congr (fun k => by rw [if_neg c1]) (Ev.now _)
    refine Ev.step (fun k => ?_) body
    simp only [POrderSpread.demonref4_SquareError.l0]
    rw [if_pos (by omega), if_pos (by omega), rdL_nat]
theorem squareError_f (m : List (List Int)) (hr : ∀ r, r ∈ m → r.length ≤ 2000000) : Ev (fun k => POrderSpread.demonref4_SquareError.f k m) (sqErr m) := by
  unfold sqErr
  by_cases c1 : (m.length : Int) > 8
  · rw [if_pos (by omega)]
    exact Ev.congr (fun k => by unfold POrderSpread.demonref4_SquareError.f; rw [if_pos c1]) (Ev.now _)
  rw [if_neg (by omega)]
  by_cases c2 : (m.length : Int) = 0
  · rw [if_pos (by omega)]
    exact Ev.congr (fun k => by unfold POrderSpread.demonref4_SquareError.f; rw [if_neg c1, if_pos c2]) (Ev.now _)
  rw [if_neg (by omega)]
  exact Ev.congr (fun k => by unfold POrderSpread.demonref4_SquareError.f; rw [if_neg c1, if_neg c2]; rfl) (squareError_l0 m (by omega) hr m.length 0 (by omega) rfl)

/-- what a row makes of the first k weights -/
def dotTo (r w : List Int) (k : Nat) : Int := ((List.range k).map fun j => r.getD j 0 * w.getD j 0).sum
theorem dotTo_succ (r w : List Int) (k : Nat) : dotTo r w (k + 1) = dotTo r w k + r.getD k 0 * w.getD k 0 := by
  unfold dotTo
  rw [List.range_succ, List.map_append, List.sum_append]
  simp
def spreadOf (m : List (List Int)) (w : List Int) : List Int := m.map fun r => dotTo r w w.length
theorem mul_bound {x y : Int} (hx : 0 ≤ x ∧ x ≤ 4096) (hy : 0 ≤ y ∧ y ≤ 4096) : 0 ≤ x * y ∧ x * y ≤ 16777216 := by
  obtain ⟨q, hq, hq2⟩ : ∃ q : Nat, x * y = q ∧ q ≤ 4096 * 4096 := by
    obtain ⟨a, rfl⟩ := Int.eq_ofNat_of_zero_le hx.1
    obtain ⟨b, rfl⟩ := Int.eq_ofNat_of_zero_le hy.1
    exact ⟨a * b, by push_cast; rfl, Nat.mul_le_mul (by omega) (by omega)⟩
  omega
theorem dotTo_bound {r w : List Int} (hr : numb r = true) (hw : numb w = true) (hl : r.length = w.length) : ∀ k, k ≤ w.length → 0 ≤ dotTo r w k ∧ dotTo r w k ≤ 16777216 * (k : Int) := by
  intro k
  induction k with
  | zero => intro _; simp [dotTo]
  | succ k ih =>
    intro hk
    have h1 := ih (by omega)
    have h2 := mul_bound (numb_get hr k (by omega)) (numb_get hw k (by omega))
    rw [dotTo_succ]
    omega
theorem spreadOf_ev {m : List (List Int)} {w : List Int} (h : m.all (goodRow m.length) = true) (h8 : m.length ≤ 8) (hw : numb w = true) (hl : w.length = m.length) : ∀ (d i : Nat), i + d = m.length → Ev (fun k => POrderSpread.demonref4_SpreadOf.l0 k m w (spreadOf (m.take i) w) (i : Int)) (spreadOf m w) := by
  intro d
  induction d with
  | zero =>
    intro i hi
    obtain rfl : i = m.length := by omega
    rw [List.take_length]
    refine Ev.step (f := fun _ => some (spreadOf m w)) (fun k => ?_) (Ev.now _)
    simp only [POrderSpread.demonref4_SpreadOf.l0]
    rw [if_neg (by omega)]
  | succ d ih =>
    intro i hi
    have hg := goodRow_get h i (by omega)
    have hnx := ih (i + 1) (by omega)
    have hsp : spreadOf (m.take (i + 1)) w = spreadOf (m.take i) w ++ [dotTo (m.getD i []) w w.length] := by
      unfold spreadOf
      rw [takeL_at m i (by omega), List.map_append]
      rfl
    have hlen : (spreadOf (m.take i) w).length = i := by unfold spreadOf; rw [List.length_map, List.length_take]; omega
    rw [hsp] at hnx
    have inner : ∀ (c j : Nat), j + c = w.length → Ev (fun k => POrderSpread.demonref4_SpreadOf.l1 k m w (spreadOf (m.take i) w) (i : Int) (dotTo (m.getD i []) w j) (j : Int)) (spreadOf m w) := by
      intro c
      induction c with
      | zero =>
        intro j hj
        obtain rfl : j = w.length := by omega
        refine Ev.step (fun k => ?_) hnx
        simp only [POrderSpread.demonref4_SpreadOf.l1]
        rw [if_neg (by omega), if_pos (by rw [hlen]; omega), wrap_up i (by omega)]
      | succ c ihc =>
        intro j hj
        have hb := dotTo_bound hg.1 hw (by omega) j (by omega)
        have hm := mul_bound (numb_get hg.1 j (by omega)) (numb_get hw j (by omega))
        refine Ev.step (fun k => ?_) (ihc (j + 1) (by omega))
        have w1 : wrap64 ((m.getD i []).getD j 0 * w.getD j 0) = (m.getD i []).getD j 0 * w.getD j 0 := by unfold wrap64; omega
        have w2 : wrap64 (dotTo (m.getD i []) w j + (m.getD i []).getD j 0 * w.getD j 0) = dotTo (m.getD i []) w (j + 1) := by rw [dotTo_succ]; unfold wrap64; omega
        simp only [POrderSpread.demonref4_SpreadOf.l1]
        rw [if_pos (by omega), if_pos (by omega), if_pos (by omega), if_pos (by omega), rdL_nat, if_pos (by omega), rd_nat, rd_nat, w1, w2, wrap_up j (by omega)]
    refine Ev.step (fun k => ?_) (inner w.length 0 (by omega))
    simp only [POrderSpread.demonref4_SpreadOf.l0]
    rw [if_pos (by omega)]
    rfl
theorem spreadOf_f {m : List (List Int)} {w : List Int} (h : m.all (goodRow m.length) = true) (h8 : m.length ≤ 8) (hw : numb w = true) (hl : w.length = m.length) : Ev (fun k => POrderSpread.demonref4_SpreadOf.f k m w) (spreadOf m w) := spreadOf_ev h h8 hw hl m.length 0 (by omega)
end Go.Proofs.YtcnecmcbjpehcaaDoor

/- Between our words for memory and those of the printed texts: a slice that reads as a list, a table. No condition. -/
namespace Go.Proofs.YtcnecmcbjpehcaaDoor
open Go.RowKit Go.Deep Go.Proofs.YtcnecmcbjpehcaaDoorW.PrintWords

theorem Ints.toC {w : World} {A : Option Addr} {l : List Int} (h : Ints w A l) : Kd.C (Kd.int .i64) w A l.length l := by
  refine ⟨rfl, h.len, fun hn => ?_⟩
  obtain ⟨b, off, rfl, _, _⟩ := h.at_ 0 hn
  refine ⟨_, rfl, fun j p hj => ⟨[.int .i64 p], rfl, rfl, fun i u hu => ?_⟩⟩
  have hjl : j < l.length := by
    rcases Nat.lt_or_ge j l.length with h1 | h1
    · exact h1
    · rw [List.getElem?_eq_none h1] at hj; cases hj
  obtain ⟨b', off', e, _, hc⟩ := h.at_ j hjl
  injection e with e
  injection e with e1 e2 _
  subst e1 e2
  have hi : i = 0 := by
    rcases Nat.eq_zero_or_pos i with h1 | h1
    · exact h1
    · rw [List.getElem?_eq_none (by simp; omega)] at hu; cases hu
  subst hi
  rw [addr_add]
  have hp : l.getD j 0 = p := by rw [List.getD_eq_getElem?_getD, hj]; rfl
  rw [hp] at hc
  simp at hu
  subst hu
  show w.cell? ⟨b, off + (j * 1 + 0), none⟩ = _
  rw [Nat.mul_one, Nat.add_zero]
  exact hc
theorem Ints.ofC {w : World} {g off : Nat} {l : List Int} (h : Kd.C (Kd.int .i64) w (some ⟨g, off, none⟩) l.length l) : Ints w (some ⟨g, off, none⟩) l :=
  ⟨h.2.1, fun i hi => by
    obtain ⟨ad, c, e, _, hK, hc⟩ := Kd.C_get h 0 i (by omega) (by omega)
    obtain rfl := Option.some.inj e
    have hK' : c = [.int .i64 (l.getD i 0)] := hK
    subst hK'
    have h1 := hc 0 _ rfl
    rw [addr_add] at h1
    have h2 : w.cell? ⟨g, off + i, none⟩ = some (.int .i64 (l.getD i 0)) := by
      have e1 : off + ((i : Int).toNat * (Kd.int IntKind.i64).sz + 0) = off + i := by
        show off + ((i : Int).toNat * 1 + 0) = off + i
        omega
      rw [e1] at h1
      exact h1
    exact ⟨g, off, rfl, World.block_lt_of_cell? w _ h2, h2⟩⟩
theorem Ints.ofR {w : World} {e base : Nat} {ok : Nat → Prop} {v : Value} {l : List Int} (h : Kd.R (Kd.int .i64) e w base ok v l) : ∃ A c, v = .slice A l.length c ∧ Ints w A l ∧ l.length ≤ c := by
  obtain ⟨A, c, rfl, hc, hC⟩ := Kd.R_reads h
  refine ⟨A, c, rfl, ?_, hc⟩
  rcases Nat.eq_zero_or_pos l.length with h0 | h0
  · rw [List.eq_nil_of_length_eq_zero h0]; exact Ints.nil w A
  · obtain ⟨g, cap, e1, _⟩ := Kd.R_form h h0
    injection e1 with e1
    subst e1
    exact Ints.ofC hC
theorem Lists.toC {w : World} {A : Option Addr} {l : List (List Int)} (h : Lists w A l) : Kd.C (Kd.slice 3 (Kd.int .i64)) w A l.length l := by
  refine ⟨rfl, h.len, fun hn => ?_⟩
  obtain ⟨b, off, _, _, rfl, _⟩ := h.at_ 0 hn
  refine ⟨_, rfl, fun j p hj => ?_⟩
  have hjl : j < l.length := by
    rcases Nat.lt_or_ge j l.length with h1 | h1
    · exact h1
    · rw [List.getElem?_eq_none h1] at hj; cases hj
  obtain ⟨b', off', A', c, e, _, hc, hle, hI⟩ := h.at_ j hjl
  injection e with e
  injection e with e1 e2 _
  subst e1 e2
  have hp : l.getD j [] = p := by rw [List.getD_eq_getElem?_getD, hj]; rfl
  rw [hp] at hc hle hI
  refine ⟨[.slice A' p.length c], rfl, ⟨A', c, rfl, hle, hI.toC⟩, fun i u hu => ?_⟩
  have hi : i = 0 := by
    rcases Nat.eq_zero_or_pos i with h1 | h1
    · exact h1
    · rw [List.getElem?_eq_none (by simp; omega)] at hu; cases hu
  subst hi
  simp at hu
  subst hu
  rw [addr_add]
  show w.cell? ⟨b, off + (j * 1 + 0), none⟩ = _
  rw [Nat.mul_one, Nat.add_zero]
  exact hc
theorem Lists.ofR {w : World} {e base : Nat} {ok : Nat → Prop} {v : Value} {l : List (List Int)} (h : Kd.R (Kd.slice 3 (Kd.int .i64)) e w base ok v l) : ∃ A c, v = .slice A l.length c ∧ Lists w A l ∧ l.length ≤ c := by
  obtain ⟨A, c, rfl, hc, hC⟩ := Kd.R_reads h
  refine ⟨A, c, rfl, ?_, hc⟩
  rcases Nat.eq_zero_or_pos l.length with h0 | h0
  · rw [List.eq_nil_of_length_eq_zero h0]; exact Lists.nil w A
  · obtain ⟨g, cap, e1, _⟩ := Kd.R_form h h0
    injection e1 with e1
    subst e1
    refine ⟨hC.2.1, fun i hi => ?_⟩
    obtain ⟨_, inner, ho, hr⟩ := h
    have hp : l[i]? = some (l.getD i []) := by rw [List.getD_eq_getElem?_getD, List.getElem?_eq_getElem hi]; rfl
    obtain ⟨u, hu, hR⟩ := hr.2 i _ hp
    obtain ⟨A', c', rfl, hI, hle⟩ := Ints.ofR hR
    have hin : inner[i]? = some (.slice A' (l.getD i []).length c') := by
      have h1 : ((inner.drop (i * 1)).take 1)[0]? = some (.slice A' (l.getD i []).length c') := by
        have : ((inner.drop (i * 1)).take 1) = [.slice A' (l.getD i []).length c'] := hu
        rw [this]
        rfl
      rw [List.getElem?_take_of_lt (by omega), List.getElem?_drop, Nat.mul_one, Nat.add_zero] at h1
      exact h1
    have hcell : w.cell? ⟨g, 0 + i, none⟩ = some (.slice A' (l.getD i []).length c') := by
      have := ho.cells (g := g) rfl i _ hin
      rw [addr_add] at this
      exact this
    exact ⟨g, 0, A', c', rfl, World.block_lt_of_cell? w _ hcell, hcell, hle, hI⟩
theorem drawn_below {w w' : World} (h : Drawn0 w w') : Below w.heap.size w w' := by
  obtain ⟨n, rfl⟩ := h
  exact below_drewN' (Below.refl _ _) n
theorem rd_getD (l : List Int) (i : Nat) : rd l (i : Int) = l.getD i 0 := rfl
end Go.Proofs.YtcnecmcbjpehcaaDoor

/- The walks of order.numbers, falling, above, lists, Above. No condition. -/
namespace Go.Proofs.YtcnecmcbjpehcaaDoor
open Go.RowKit Go.Deep Go.Proofs.YtcnecmcbjpehcaaDoorW.PrintWords

theorem num_pred (w : World) (x : Int) : ∀ W, Below w.heap.size w W → Calls Tryd.prog 57 #[.int .i64 x] W fun e w' => e = .returned (.bool (badNum x)) ∧ Below w.heap.size w w' := fun W hb => by
  go_enter Tryd.func57, Tryd.ntmps57
  go_wp2_with (fail)
  · go_ret
    exact ⟨rfl, hb⟩
  · go_ret
    have h : x < 0 := by assumption
    exact ⟨by simp [badNum, h], hb⟩
theorem anyQ_take (q : Int → Bool) (l : List Int) (i : Nat) (h : i < l.length) : (l.take (i + 1)).any q = ((l.take i).any q || q (l.getD i 0)) := by
  rw [take_at l i h, List.any_append]
  simp
set_option maxHeartbeats 1000000 in
theorem indexNum_any (A : Option Addr) (l : List Int) (c : Nat) (w : World) (hA : Ints w A l) :
    Calls Tryd.prog 73 #[.slice A l.length c, .func (.func 57) #[] #[]] w fun e w' => ∃ r : Int, e = .returned (.int .i64 r) ∧ decide (0 ≤ r) = l.any badNum ∧ Below w.heap.size w w' := by
  have eg : ∀ args w, (callFunc 57 args).run Tryd.prog w = .ok (.enter 57 args) w := enters_of Tryd.func57 (by kernel_rfl) rfl
  have HP := hide (fun x W (hb : Below w.heap.size w W) => num_pred w x W hb)
  have hlen := hA.len
  go_enter Tryd.func73, Tryd.ntmps73
  go_wp2_with (fail)
  go_loopw [5, 8] (fun _ v wr => ∃ i : Nat, i ≤ l.length ∧ v = .int .i64 i ∧ Below w.heap.size w wr ∧ (l.take i).any badNum = false) (fun _ v _ => l.length - (intOf v).toNat)
  case atStart => exact ⟨0, Nat.zero_le _, rfl, Below.refl _ _, by simp⟩
  case round =>
    obtain ⟨i, hi, rfl, hBi, hn⟩ := hrel
    obtain ⟨wi, rfl⟩ : ∃ wi : World, wi = wr := ⟨_, rfl⟩
    have i0 : (0 : Int) ≤ (i : Int) := Int.natCast_nonneg _
    by_cases hil : i < l.length
    · have i1 : (i : Int) < (l.length : Int) := by omega
      obtain ⟨b, off, rfl, _, d1⟩ := (hA.below hBi).at_ i hil
      have hnx := anyQ_take badNum l i hil
      rw [hn, Bool.false_or] at hnx
      have hyes : badNum (l.getD i 0) = true → l.any badNum = true := fun h => by
        rw [List.any_eq_true]
        rw [getD_eq l i 0 hil] at h
        exact ⟨l[i], List.getElem_mem hil, h⟩
      have hcall := HP.out (l.getD i 0) wi hBi
      generalize l.getD i 0 = x at d1 hnx hyes hcall
      generalize hq : badNum x = q at hnx hyes hcall
      have HC := hide hcall
      have HNX := hide hnx
      have HY := hide hyes
      clear hcall hnx hyes hn hq
      cases q
      · go_wp2_with (go_at_fn 57; refine Calls.mono HC.out ?_; rintro e w1 ⟨rfl, hb1⟩)
        go_roundw
        case rel => exact ⟨i + 1, by omega, by go_num, hb1, HNX.out⟩
        case measure => simp [intOf]; omega
      · go_wp2_with (go_at_fn 57; refine Calls.mono HC.out ?_; rintro e w1 ⟨rfl, hb1⟩)
        go_ret
        exact ⟨(i : Int), rfl, by rw [HY.out (by trivial)]; exact decide_eq_true i0, hb1⟩
    · obtain rfl : i = l.length := by omega
      rw [List.take_length] at hn
      have HN := hide hn
      clear hn
      go_wp2_with (fail)
      go_ret
      exact ⟨-1, rfl, by rw [HN.out]; rfl, hBi⟩
theorem containsNum_any (A : Option Addr) (l : List Int) (c : Nat) (w : World) (hA : Ints w A l) :
    Calls Tryd.prog 56 #[.slice A l.length c, .func (.func 57) #[] #[]] w fun e w' => e = .returned (.bool (l.any badNum)) ∧ Below w.heap.size w w' := by
  have HC := hide (indexNum_any A l c w hA)
  go_enter Tryd.func56, Tryd.ntmps56
  go_wp2_with (go_at_call 73; refine Calls.mono HC.out ?_; rintro e w1 ⟨r, rfl, hr, hb1⟩)
  go_ret
  exact ⟨by rw [← hr]; rfl, hb1⟩
theorem numbers_any (A : Option Addr) (l : List Int) (c : Nat) (w : World) (hA : Ints w A l) :
    Calls Tryd.prog 46 #[.slice A l.length c] w fun e w' => e = .returned (.bool (numb l)) ∧ Below w.heap.size w w' := by
  have hc := containsNum_any A l c w hA
  have e : l.any badNum = !numb l := by unfold numb; rw [Bool.not_not]
  rw [e] at hc
  have HC := hide hc
  clear hc e
  generalize numb l = q at HC ⊢
  go_enter Tryd.func46, Tryd.ntmps46
  go_wp2_with (go_at_call 56; refine Calls.mono HC.out ?_; rintro e w1 ⟨rfl, hb1⟩)
  go_ret
  exact ⟨rfl, hb1⟩
theorem total_ok (A : Option Addr) (l : List Int) (c : Nat) (w : World) (hA : Ints w A l) (hc : l.length ≤ c) (hs : Small l) :
    Calls Tryd.prog 41 #[.slice A l.length c] w fun e w' => e = .returned (.int .i64 l.sum) ∧ Below w.heap.size w w' := by
  obtain ⟨k, hk⟩ := (total_f hs).rounds
  refine (POrderAbove.dist_Total.calls k A c l l.sum w hA.toC hc hk).mono ?_
  rintro e w' ⟨rfl, h⟩
  exact ⟨rfl, drawn_below h⟩
theorem falling_ok (A : Option Addr) (l : List Int) (c : Nat) (w : World) (hA : Ints w A l) (h0 : 0 < l.length) (hl : l.length ≤ 2000000) :
    Calls Tryd.prog 48 #[.slice A l.length c] w fun e w' => ∃ B d, e = .returned (.slice B l.length d) ∧ Ints w' B (falls l) ∧ l.length ≤ d ∧ Below w.heap.size w w' := by
  have HC := hide (clone_ok A l c w hA h0 hl)
  go_enter Tryd.func48, Tryd.ntmps48
  go_wp2_with (first
    | (go_at_call 40; refine Calls.mono HC.out ?_; rintro e w1 ⟨g, d, rfl, hg, hd, ho, hb⟩)
    | (go_at_call 59; refine Calls.mono (sort_ok w.heap.size g l.length d l w w1 hg ho hb hl) ?_; rintro e w2 ⟨rfl, ho2, hb2⟩)
    | (go_at_call 60; refine Calls.mono (reverse_ok w.heap.size g l.length d (sorted l) w w2 hg ho2 hb2 (by rw [sorted_length]; omega)) ?_; rintro e w3 ⟨rfl, ho3, hb3⟩))
  go_ret
  exact ⟨_, d, rfl, own_ints ho3 (falls_length l), hd, hb3⟩

/-- what is left over of the first k -/
def leftTo (a b : List Int) (k : Nat) : Int := (a.take k).sum - (b.take k).sum
theorem leftTo_succ (a b : List Int) (k : Nat) (ha : k < a.length) (hb : k < b.length) : leftTo a b (k + 1) = leftTo a b k + (a.getD k 0 - b.getD k 0) := by
  unfold leftTo
  rw [sum_take a k ha, sum_take b k hb]
  omega
theorem leftTo_bound {a b : List Int} (ha : Small a) (hb : Small b) (k : Nat) (h1 : k ≤ a.length) (h2 : k ≤ b.length) : -2199023255552000000 ≤ leftTo a b k ∧ leftTo a b k ≤ 2199023255552000000 := by
  have e1 := ha.sum k h1
  have e2 := hb.sum k h2
  have e3 := ha.1
  unfold leftTo
  omega
set_option maxHeartbeats 2000000 in
theorem above_ok (A B : Option Addr) (p q : List Int) (c d : Nat) (w : World) (hA : Ints w A p) (hB : Ints w B q) (hp : Small p) (hq : Small q) (h0 : 0 < p.length) (hpq : p.length = q.length) :
    Calls Tryd.prog 44 #[.slice A p.length c, .slice B q.length d] w fun e w' => e = .returned (.bool (aboveB p q)) ∧ Below w.heap.size w w' := by
  have hpl := hp.1
  obtain ⟨r, hr⟩ : ∃ r, aboveB p q = r := ⟨_, rfl⟩
  rw [hr]
  have HR := hide (show aboveTo (falls p) (falls q) (p.length + 1) = r from hr)
  clear hr
  have hF1 := falling_ok A p c w hA h0 (by omega)
  have hF2 := fun w' (hb : Below w.heap.size w w') => falling_ok B q d w' (hB.below hb) (by omega) (by omega)
  rw [← hpq] at hF2 ⊢
  have HF1 := hide hF1
  have HF2 := hide hF2
  have HPQ := hide hpq
  clear hF1 hF2 hpq
  go_enter Tryd.func44, Tryd.ntmps44
  go_wp2_with (first
    | (go_at_call 48; refine Calls.mono HF1.out ?_; rintro e w1 ⟨A1, c1, rfl, hI1, hc1, b1⟩; clear HF1)
    | (go_at_call 48; refine Calls.mono (HF2.out w1 b1) ?_; rintro e w2 ⟨A2, c2, rfl, hI2, hc2, b2⟩; have hB2 := below_trans b1 b2))
  have hI12 := hI1.below b2
  have hsp := falls_small hp
  have hsq := falls_small hq
  have hla := falls_length p
  have hlb : (falls q).length = p.length := by rw [falls_length, HPQ.out]
  have a1 : aboveTo (falls p) (falls q) 1 = true := by unfold aboveTo; simp
  generalize falls p = a at hI12 hsp hla HR a1
  generalize falls q = b at hI2 hsq hlb HR a1
  have HLA := hide hla
  have HLB := hide hlb
  have HA1 := hide a1
  clear hI1 hla hlb a1
  go_loopw [7, 15] (fun lv iv wr => ∃ i : Nat, i ≤ p.length ∧ iv = .int .i64 i ∧ lv = .int .i64 (leftTo a b i) ∧ Hid (aboveTo a b (i + 1) = true) ∧ Below w2.heap.size w2 wr) (fun _ iv _ => p.length - (intOf iv).toNat)
  case atStart => exact ⟨0, Nat.zero_le _, rfl, rfl, HA1, Below.refl _ _⟩
  case round =>
    obtain ⟨i, hi, rfl, rfl, HT, hBi⟩ := hrel
    obtain ⟨wi, rfl⟩ : ∃ wi : World, wi = wr := ⟨_, rfl⟩
    have i0 : (0 : Int) ≤ (i : Int) := Int.natCast_nonneg _
    by_cases hil : i < p.length
    · have i1 : (i : Int) < (p.length : Int) := by omega
      have la := HLA.out
      have lb := HLB.out
      obtain ⟨ba, oa, rfl, _, da⟩ := (hI12.below hBi).at_ i (by omega)
      obtain ⟨bb, ob, rfl, _, db⟩ := (hI2.below hBi).at_ i (by omega)
      have hls := leftTo_succ a b i (by omega) (by omega)
      obtain ⟨m1, m2⟩ := leftTo_bound hsp hsq i (by omega) (by omega)
      have hat := aboveTo_succ a b (i + 1)
      have hge : decide ((b.take (i + 1)).sum ≤ (a.take (i + 1)).sum) = decide (0 ≤ leftTo a b (i + 1)) := by
        unfold leftTo
        by_cases h : (b.take (i + 1)).sum ≤ (a.take (i + 1)).sum
        · rw [decide_eq_true h, decide_eq_true (by omega)]
        · rw [decide_eq_false h, decide_eq_false (by omega)]
      rw [HT.out, Bool.true_and, hge] at hat
      have hno : leftTo a b (i + 1) < 0 → r = false := fun h => by
        rw [← HR.out]
        refine aboveTo_false (n := i + 1) (fun h2 => ?_) (by omega)
        unfold leftTo at h
        omega
      obtain ⟨x1, x2⟩ := hsp.get i (by omega)
      obtain ⟨y1, y2⟩ := hsq.get i (by omega)
      clear la lb
      generalize a.getD i 0 = x at da hls x1 x2
      generalize b.getD i 0 = y at db hls y1 y2
      rw [hls] at hat hno
      generalize leftTo a b i = lf at hls hat hno m1 m2
      have HLS := hide hls
      have HAT := hide hat
      have HNO := hide hno
      clear hls hat hno hge
      go_wp2_with (fail)
      go_quiet (fail)
      go_wp2_with (fail)
      · go_ret
        exact ⟨by rw [HNO.out (by omega)]; rfl, below_trans hB2 (below_drewN' hBi _)⟩
      · go_roundw
        case rel => exact ⟨i + 1, by omega, by go_num, by rw [HLS.out], hide (by rw [HAT.out]; exact decide_eq_true (by omega)), below_drewN' hBi _⟩
        case measure => simp [intOf]; omega
    · obtain rfl : i = p.length := by omega
      have ht := HT.out
      rw [HR.out] at ht
      subst ht
      go_wp2_with (fail)
      go_ret
      exact ⟨rfl, below_trans hB2 hBi⟩
end Go.Proofs.YtcnecmcbjpehcaaDoor

/- The walks of errors.As with a target of the type **api.Fault: at a sentinel it is false, at a fault true (after the kit's worked Toyas). Condition: the handle of the type error is laid. -/
namespace Go.Proofs.YtcnecmcbjpehcaaDoor
open Go.RowKit Go.Deep Go.Extern.Stop Go.Stop Go.Extern

/-! ### closed facts on the model's entries for internal/reflectlite, at this program's types -/
def kindExt : TypeId → Sem Value := fun t => do pure (.int .u8 (← Rtype.kind t))
def vTypeExt : TypeId → Addr → Nat → Nat → Sem Value := fun t _ _ _ => ReflectliteType.toType t
def unpackExt : Array Value → Sem Value := fun args => ReflectliteValue.unpack (args.getD 0 (.tuple #[]))
theorem as_valueOfT (t : Addr) (w : World) : (unpackExt #[.iface 87 (.pointer (some t))]).run Tryd.prog w
    = .ok (.agg #[.pointer (some ⟨9, 87, none⟩), .pointer (some ⟨w.heap.size, 0, none⟩), .int .u64 150]) (w.alloc (.cells #[.pointer (some t)] 87)) := by kernel_rfl
theorem as_typeT (a : Addr) (w : World) : (ReflectliteValue.methodAny (ReflectliteValue.valueError "reflectlite.Value.Type" 0) vTypeExt #[.agg #[.pointer (some ⟨9, 87, none⟩), .pointer (some a), .int .u64 150]]).run Tryd.prog w
    = .ok (.iface 120 (.agg #[.pointer (some ⟨9, 87, none⟩)])) w := by kernel_rfl
theorem as_methodKind (h : Value) (w : World) : (Go.method 294 120 (.agg #[h]) "Kind").run Tryd.prog w = .ok (115, h) w := by kernel_rfl
theorem as_kindT (w : World) : (ReflectliteType.abiMethod kindExt #[.pointer (some ⟨9, 87, none⟩)]).run Tryd.prog w = .ok (.int .u8 22) w := by kernel_rfl
theorem as_kindF (w : World) : (ReflectliteType.abiMethod kindExt #[.pointer (some ⟨9, 75, none⟩)]).run Tryd.prog w = .ok (.int .u8 22) w := by kernel_rfl
theorem rlm (z : Sem Value) (f : TypeId → Addr → Nat → Nat → Sem Value) (v : Value) :
    ReflectliteValue.method z f #[v] = (do match ← ReflectliteValue.parts v with | none => z | some (t, a, fl) => f t a fl (fl % 32)) := rfl
theorem as_partsT (a : Addr) (w : World) : (ReflectliteValue.parts (.agg #[.pointer (some ⟨9, 87, none⟩), .pointer (some a), .int .u64 150])).run Tryd.prog w = .ok (some (87, a, 150)) w := by kernel_rfl
theorem as_isNilT (a p : Addr) (W : World) (ha : W.cell? a = some (.pointer (some p))) :
    (ReflectliteValue.method (ReflectliteValue.valueError "reflectlite.Value.IsNil" 0) ReflectliteValue.isNil #[.agg #[.pointer (some ⟨9, 87, none⟩), .pointer (some a), .int .u64 150]]).run Tryd.prog W = .ok (.bool false) W := by
  rw [rlm]
  simp only [Sem.run_bind, as_partsT, Result.andThen]
  simp [ReflectliteValue.isNil, loadVar, isAgg, underlying, Tryd.underlying87, ha, Result.andThen]
theorem as_methodElem (h : Value) (w : World) : (Go.method 294 120 (.agg #[h]) "Elem").run Tryd.prog w = .ok (126, .agg #[h]) w := by kernel_rfl
theorem as_methodImplements (h : Value) (w : World) : (Go.method 294 120 (.agg #[h]) "Implements").run Tryd.prog w = .ok (127, .agg #[h]) w := by kernel_rfl
theorem as_methodAssignableTo (h : Value) (w : World) : (Go.method 294 120 (.agg #[h]) "AssignableTo").run Tryd.prog w = .ok (124, .agg #[h]) w := by kernel_rfl
theorem as_elemT (w : World) : (ReflectliteType.method ReflectliteType.elem #[.agg #[.pointer (some ⟨9, 87, none⟩)]]).run Tryd.prog w = .ok (.iface 120 (.agg #[.pointer (some ⟨9, 75, none⟩)])) w := by kernel_rfl
theorem as_implementsF (w : World) : (ReflectliteType.relation "Implements" ReflectliteType.implements_ #[.agg #[.pointer (some ⟨9, 75, none⟩)], .iface 120 (.agg #[.pointer (some ⟨9, 27, none⟩)])]).run Tryd.prog w = .ok (.bool true) w := by kernel_rfl
theorem as_typeOfF (v : Value) (w : World) : (ReflectliteType.typeOf #[.iface 75 v]).run Tryd.prog w = .ok (.iface 120 (.agg #[.pointer (some ⟨9, 75, none⟩)])) w := by kernel_rfl
theorem as_assignF (w : World) : (ReflectliteType.relation "AssignableTo" ReflectliteType.assignableTo #[.agg #[.pointer (some ⟨9, 75, none⟩)], .iface 120 (.agg #[.pointer (some ⟨9, 75, none⟩)])]).run Tryd.prog w = .ok (.bool true) w := by kernel_rfl
theorem as_assignE (w : World) : (ReflectliteType.relation "AssignableTo" ReflectliteType.assignableTo #[.agg #[.pointer (some ⟨9, 155, none⟩)], .iface 120 (.agg #[.pointer (some ⟨9, 75, none⟩)])]).run Tryd.prog w = .ok (.bool false) w := by kernel_rfl
theorem as_valueOfF (e : Addr) (w : World) : (unpackExt #[.iface 75 (.pointer (some e))]).run Tryd.prog w
    = .ok (.agg #[.pointer (some ⟨9, 75, none⟩), .pointer (some ⟨w.heap.size, 0, none⟩), .int .u64 150]) (w.alloc (.cells #[.pointer (some e)] 75)) := by kernel_rfl
theorem as_elemOfT (w : World) : (Rtype.elem? 87).run Tryd.prog w = .ok (some 75) w := by kernel_rfl
theorem as_mkF (p : Addr) (w : World) : (ReflectliteValue.mk 75 p ReflectliteValue.flagAddr).run Tryd.prog w = .ok (.agg #[.pointer (some ⟨9, 75, none⟩), .pointer (some p), .int .u64 406]) w := by kernel_rfl
theorem as_elemVT (a p : Addr) (W : World) (ha : W.cell? a = some (.pointer (some p))) :
    (ReflectliteValue.method (ReflectliteValue.valueError "reflectlite.Value.Elem" 0) ReflectliteValue.elem #[.agg #[.pointer (some ⟨9, 87, none⟩), .pointer (some a), .int .u64 150]]).run Tryd.prog W
      = .ok (.agg #[.pointer (some ⟨9, 75, none⟩), .pointer (some p), .int .u64 406]) W := by
  rw [rlm]
  simp only [Sem.run_bind, as_partsT, Result.andThen]
  simp [ReflectliteValue.elem, loadVar, isAgg, underlying, Tryd.underlying87, ha, Result.andThen, as_elemOfT, as_mkF]
theorem rls (v x : Value) : ReflectliteValue.set #[v, x] = (do
    let (some (dst, a, fl), some (src, b, _)) := (← ReflectliteValue.parts v, ← ReflectliteValue.parts x)
      | unsupported (.noEntry "extern/(internal/reflectlite.Value).Set.zeroValue")
    if fl / ReflectliteValue.flagAddr % 2 == 0 then unsupported (.noEntry "extern/(internal/reflectlite.Value).Set.unaddressable")
    let val ← loadVar src b
    if ← Rtype.directlyAssignable dst src then storeVar dst a val
    else if ← Rtype.implements dst src then
      if (← Rtype.kind src) == 20 then
        match val with
        | .nilIface => unsupported (.noEntry "extern/reflectlite: a nil value of one interface type handed on as a value of another")
        | _ => storeVar dst a val
      else storeVar dst a (.iface src val)
    else panicString ("reflectlite.Set: value of type " ++ (← Rtype.spelt src) ++ " is not assignable to type " ++ (← Rtype.spelt dst))
    pure (.tuple #[])) := rfl
theorem as_partsFa (a : Addr) (w : World) : (ReflectliteValue.parts (.agg #[.pointer (some ⟨9, 75, none⟩), .pointer (some a), .int .u64 406])).run Tryd.prog w = .ok (some (75, a, 406)) w := by kernel_rfl
theorem as_partsF (a : Addr) (w : World) : (ReflectliteValue.parts (.agg #[.pointer (some ⟨9, 75, none⟩), .pointer (some a), .int .u64 150])).run Tryd.prog w = .ok (some (75, a, 150)) w := by kernel_rfl
theorem as_directF (w : World) : (Rtype.directlyAssignable 75 75).run Tryd.prog w = .ok true w := by kernel_rfl
theorem as_setF (ta b e : Addr) (old : Value) (W : World) (hb : W.cell? b = some (.pointer (some e))) (ht : W.cell? ta = some old) (hf : W.frozen? ta = false) :
    (ReflectliteValue.set #[.agg #[.pointer (some ⟨9, 75, none⟩), .pointer (some ta), .int .u64 406], .agg #[.pointer (some ⟨9, 75, none⟩), .pointer (some b), .int .u64 150]]).run Tryd.prog W
      = .ok (.tuple #[]) (W.setCell ta (.pointer (some e))) := by
  rw [rls]
  simp only [Sem.run_bind, as_partsFa, as_partsF, Result.andThen]
  simp [ReflectliteValue.flagAddr, loadVar, isAgg, underlying, Tryd.underlying75, hb, Result.andThen, as_directF, storeVar, Value.cells, storeCells, Addr.add]
  rw [run_store Tryd.prog W ta _ _ (by rfl)]
  simp [ht, hf]

theorem no_as_E (v : Value) (xT : TypeId) (w : World) : (Instr.typeAssert (.iface 155 v) xT 124 true).run Tryd.prog w = .ok (.tuple #[.nilIface, .bool false]) w := run_typeAssert_lacksB Tryd.underlying124 (by kernel_rfl) (by kernel_rfl) v xT w

set_option maxHeartbeats 4000000 in
/-- errors.As at a sentinel: false; what was there is as it was -/
theorem as_sent (e t : Addr) (w : World) (hg : Handle w) :
    Calls Tryd.prog 54 #[.iface 155 (.pointer (some e)), .iface 87 (.pointer (some t))] w fun ev w' => ev = .returned (.bool false) ∧ Below w.heap.size w w' := by
  have h6 := @run_callFunc_extern Tryd.prog 67 _ unpackExt Tryd.func67 (by kernel_rfl) (by kernel_rfl) (by kernel_rfl) (by kernel_rfl)
  have h7 := @run_callFunc_extern Tryd.prog 68 _ (ReflectliteValue.methodAny (ReflectliteValue.valueError "reflectlite.Value.Type" 0) vTypeExt) Tryd.func68 (by kernel_rfl) (by kernel_rfl) (by kernel_rfl) (by kernel_rfl)
  have h8 := @run_callFunc_extern Tryd.prog 69 _ (ReflectliteValue.method (ReflectliteValue.valueError "reflectlite.Value.IsNil" 0) ReflectliteValue.isNil) Tryd.func69 (by kernel_rfl) (by kernel_rfl) (by kernel_rfl) (by kernel_rfl)
  have h27 := @run_callFunc_extern Tryd.prog 115 _ (ReflectliteType.abiMethod kindExt) Tryd.func115 (by kernel_rfl) (by kernel_rfl) (by kernel_rfl) (by kernel_rfl)
  have h37 := @run_callFunc_extern Tryd.prog 126 _ (ReflectliteType.method ReflectliteType.elem) Tryd.func126 (by kernel_rfl) (by kernel_rfl) (by kernel_rfl) (by kernel_rfl)
  have h38 := @run_callFunc_extern Tryd.prog 127 _ (ReflectliteType.relation "Implements" ReflectliteType.implements_) Tryd.func127 (by kernel_rfl) (by kernel_rfl) (by kernel_rfl) (by kernel_rfl)
  have h10 := @run_callFunc_extern Tryd.prog 71 _ ReflectliteType.typeOf Tryd.func71 (by kernel_rfl) (by kernel_rfl) (by kernel_rfl) (by kernel_rfl)
  have h35 := @run_callFunc_extern Tryd.prog 124 _ (ReflectliteType.relation "AssignableTo" ReflectliteType.assignableTo) Tryd.func124 (by kernel_rfl) (by kernel_rfl) (by kernel_rfl) (by kernel_rfl)
  have tO := is_typeOf
  have mA := as_methodAssignableTo
  have aE := as_assignE
  have f6 := as_valueOfT
  have f7 := as_typeT
  have mK := as_methodKind
  have mE := as_methodElem
  have mI := as_methodImplements
  have kT := as_kindT
  have kF := as_kindF
  have eT := as_elemT
  have iF := as_implementsF
  have nA := no_as_E
  have uE := no_unwrap_E
  have vE := no_unwraps_E
  have n8 := as_isNilT ⟨w.heap.size, 0, none⟩ t ((w.alloc (.cells #[.pointer (some t)] 87)).alloc (.cells #[.pointer (some ⟨9, 87, none⟩), .pointer (some ⟨w.heap.size, 0, none⟩), .int .u64 150] 101)) (by simp)
  have hlt : 8 < w.heap.size := World.block_lt_of_cell? w _ hg
  have hg2 : ((w.alloc (.cells #[.pointer (some t)] 87)).alloc (.cells #[.pointer (some ⟨9, 87, none⟩), .pointer (some ⟨w.heap.size, 0, none⟩), .int .u64 150] 101)).cell? ⟨8, 0, none⟩ = some (.iface 120 (.agg #[.pointer (some ⟨9, 27, none⟩)])) := by
    rw [World.cell?_alloc_lt _ _ ⟨8, 0, none⟩ (by simp; omega), World.cell?_alloc_lt _ _ ⟨8, 0, none⟩ hlt]; exact hg
  go_enter Tryd.func54, Tryd.ntmps54
  go_wp2
  refine wp_loop_rounds 1 ?_
  rw [rounds_succ]
  go_wp2
  go_ret
  exact ⟨rfl, below_alloc' (below_alloc' (below_alloc' (Below.refl _ _) _) _) _⟩

set_option maxHeartbeats 4000000 in
/-- errors.As at a fault: true; the target points to it -/
theorem as_fault (e t : Addr) (old : Value) (w : World) (hg : Handle w) (ht0 : w.cell? t = some old) (hf0 : w.frozen? t = false) :
    Calls Tryd.prog 54 #[.iface 75 (.pointer (some e)), .iface 87 (.pointer (some t))] w fun ev w' => ev = .returned (.bool true) ∧ w' = ((((w.alloc (.cells #[.pointer (some t)] 87)).alloc (.cells #[.pointer (some ⟨9, 87, none⟩), .pointer (some ⟨w.heap.size, 0, none⟩), .int .u64 150] 101)).alloc (.cells #[.pointer (some ⟨9, 87, none⟩), .pointer (some ⟨w.heap.size, 0, none⟩), .int .u64 150] 101)).alloc (.cells #[.pointer (some e)] 75)).setCell t (.pointer (some e)) := by
  have h6 := @run_callFunc_extern Tryd.prog 67 _ unpackExt Tryd.func67 (by kernel_rfl) (by kernel_rfl) (by kernel_rfl) (by kernel_rfl)
  have h7 := @run_callFunc_extern Tryd.prog 68 _ (ReflectliteValue.methodAny (ReflectliteValue.valueError "reflectlite.Value.Type" 0) vTypeExt) Tryd.func68 (by kernel_rfl) (by kernel_rfl) (by kernel_rfl) (by kernel_rfl)
  have h8 := @run_callFunc_extern Tryd.prog 69 _ (ReflectliteValue.method (ReflectliteValue.valueError "reflectlite.Value.IsNil" 0) ReflectliteValue.isNil) Tryd.func69 (by kernel_rfl) (by kernel_rfl) (by kernel_rfl) (by kernel_rfl)
  have h27 := @run_callFunc_extern Tryd.prog 115 _ (ReflectliteType.abiMethod kindExt) Tryd.func115 (by kernel_rfl) (by kernel_rfl) (by kernel_rfl) (by kernel_rfl)
  have h37 := @run_callFunc_extern Tryd.prog 126 _ (ReflectliteType.method ReflectliteType.elem) Tryd.func126 (by kernel_rfl) (by kernel_rfl) (by kernel_rfl) (by kernel_rfl)
  have h38 := @run_callFunc_extern Tryd.prog 127 _ (ReflectliteType.relation "Implements" ReflectliteType.implements_) Tryd.func127 (by kernel_rfl) (by kernel_rfl) (by kernel_rfl) (by kernel_rfl)
  have h10 := @run_callFunc_extern Tryd.prog 71 _ ReflectliteType.typeOf Tryd.func71 (by kernel_rfl) (by kernel_rfl) (by kernel_rfl) (by kernel_rfl)
  have h35 := @run_callFunc_extern Tryd.prog 124 _ (ReflectliteType.relation "AssignableTo" ReflectliteType.assignableTo) Tryd.func124 (by kernel_rfl) (by kernel_rfl) (by kernel_rfl) (by kernel_rfl)
  have h11 := @run_callFunc_extern Tryd.prog 79 _ (ReflectliteValue.method (ReflectliteValue.valueError "reflectlite.Value.Elem" 0) ReflectliteValue.elem) Tryd.func79 (by kernel_rfl) (by kernel_rfl) (by kernel_rfl) (by kernel_rfl)
  have h12 := @run_callFunc_extern Tryd.prog 80 _ ReflectliteValue.set Tryd.func80 (by kernel_rfl) (by kernel_rfl) (by kernel_rfl) (by kernel_rfl)
  have tO := as_typeOfF
  have mA := as_methodAssignableTo
  have aE := as_assignF
  have vF := as_valueOfF
  have f6 := as_valueOfT
  have f7 := as_typeT
  have mK := as_methodKind
  have mE := as_methodElem
  have mI := as_methodImplements
  have kT := as_kindT
  have kF := as_kindF
  have eT := as_elemT
  have iF := as_implementsF
  have n8 := as_isNilT ⟨w.heap.size, 0, none⟩ t ((w.alloc (.cells #[.pointer (some t)] 87)).alloc (.cells #[.pointer (some ⟨9, 87, none⟩), .pointer (some ⟨w.heap.size, 0, none⟩), .int .u64 150] 101)) (by simp)
  have hlt : 8 < w.heap.size := World.block_lt_of_cell? w _ hg
  have hg2 : ((w.alloc (.cells #[.pointer (some t)] 87)).alloc (.cells #[.pointer (some ⟨9, 87, none⟩), .pointer (some ⟨w.heap.size, 0, none⟩), .int .u64 150] 101)).cell? ⟨8, 0, none⟩ = some (.iface 120 (.agg #[.pointer (some ⟨9, 27, none⟩)])) := by
    rw [World.cell?_alloc_lt _ _ ⟨8, 0, none⟩ (by simp; omega), World.cell?_alloc_lt _ _ ⟨8, 0, none⟩ hlt]; exact hg
  have htl : t.block < w.heap.size := World.block_lt_of_cell? w _ ht0
  have el := as_elemVT ⟨w.heap.size, 0, none⟩ t (((w.alloc (.cells #[.pointer (some t)] 87)).alloc (.cells #[.pointer (some ⟨9, 87, none⟩), .pointer (some ⟨w.heap.size, 0, none⟩), .int .u64 150] 101)).alloc (.cells #[.pointer (some ⟨9, 87, none⟩), .pointer (some ⟨w.heap.size, 0, none⟩), .int .u64 150] 101)) (by rw [World.cell?_alloc_lt _ _ ⟨w.heap.size, 0, none⟩ (by simp; omega)]; simp)
  have st := as_setF t ⟨w.heap.size + 1 + 1 + 1, 0, none⟩ e old ((((w.alloc (.cells #[.pointer (some t)] 87)).alloc (.cells #[.pointer (some ⟨9, 87, none⟩), .pointer (some ⟨w.heap.size, 0, none⟩), .int .u64 150] 101)).alloc (.cells #[.pointer (some ⟨9, 87, none⟩), .pointer (some ⟨w.heap.size, 0, none⟩), .int .u64 150] 101)).alloc (.cells #[.pointer (some e)] 75))
    (by rw [World.cell?_alloc_at _ _ _ _ (by simp)]; rfl)
    (by rw [World.cell?_alloc_lt _ _ t (by simp; omega), World.cell?_alloc_lt _ _ t (by simp; omega), World.cell?_alloc_lt _ _ t (by simp; omega), World.cell?_alloc_lt _ _ t htl]; exact ht0)
    (by rw [World.frozen?_alloc_old _ _ t (by simp; omega), World.frozen?_alloc_old _ _ t (by simp; omega), World.frozen?_alloc_old _ _ t (by simp; omega), World.frozen?_alloc_old _ _ t (Nat.ne_of_lt htl)]; exact hf0)
  go_enter Tryd.func54, Tryd.ntmps54
  go_wp2
  refine wp_loop_rounds 1 ?_
  rw [rounds_succ]
  go_wp2
  go_ret
  exact ⟨rfl, rfl⟩
end Go.Proofs.YtcnecmcbjpehcaaDoor

/- The walks of plain.Code and coded. Condition: the variables read as laid. -/
namespace Go.Proofs.YtcnecmcbjpehcaaDoor
open Go.RowKit Go.Deep

def codes : List Nat := [1, 2, 3, 4, 5, 6, 7, 8]
theorem mem_codes {c : Nat} (h1 : 1 ≤ c) (h8 : c ≤ 8) : c ∈ codes := by
  unfold codes
  simp
  omega

theorem code_nil (w : World) : Calls Tryd.prog 45 #[.nilIface] w fun e w' => e = .returned (.tuple #[.int .i64 0, .int .i64 (-1)]) ∧ w = w' := by
  go_enter Tryd.func45, Tryd.ntmps45
  go_wp2
  go_ret2
  exact ⟨rfl, rfl⟩

set_option maxHeartbeats 4000000 in
theorem code_sent (w : World) (a : Nat → Addr) (hS : Sent codes w a) (hH : Handle w) (c : Nat) (h1 : 1 ≤ c) (h8 : c ≤ 8) :
    Calls Tryd.prog 45 #[.iface 155 (.pointer (some (a c)))] w fun e w' => e = .returned (.tuple #[.int .i64 c, .int .i64 (-1)]) ∧ Below w.heap.size w w' := by
  have has := as_sent (a c) ⟨w.heap.size, 0, none⟩ (w.alloc (.cells #[.pointer none] 75)) (hH.below (below_alloc' (Below.refl _ _) _))
  have HAS := hide has
  clear has
  have hn := fun X => run_eql_iface_nil_left (P := Tryd.prog) X 155 (.pointer (some (a c))) Tryd.underlying27
  go_enter Tryd.func45, Tryd.ntmps45
  go_wp2_with
    (go_at_call 54
     refine HAS.out.mono ?_
     rintro e w1 ⟨rfl, hb1⟩
     have hS1 := hS.below (below_trans (below_alloc' (Below.refl _ _) (.cells #[.pointer none] 75)) hb1)
     have e1 := hS1.cell 1 (by decide)
     have e2 := hS1.cell 2 (by decide)
     have e3 := hS1.cell 3 (by decide)
     have e4 := hS1.cell 4 (by decide)
     have e5 := hS1.cell 5 (by decide)
     have e6 := hS1.cell 6 (by decide)
     have e7 := hS1.cell 7 (by decide)
     have e8 := hS1.cell 8 (by decide)
     simp only [glob] at e1 e2 e3 e4 e5 e6 e7 e8)
  clear e1 e2 e3 e4 e5 e6 e7 e8
  have hB0 : Below w.heap.size w w1 := below_trans (below_alloc' (Below.refl _ _) (.cells #[.pointer none] 75)) hb1
  clear hb1
  go_loopw [3, 26] (fun at3 i wr => ∃ k : Nat, k < c ∧ i = .int .i64 k ∧ at3 = .int .i64 (-1) ∧ Below (w1.heap.size + 1) (w1.alloc (.cells #[.iface 155 (.pointer (some (a 1))), .iface 155 (.pointer (some (a 2))), .iface 155 (.pointer (some (a 3))), .iface 155 (.pointer (some (a 4))), .iface 155 (.pointer (some (a 5))), .iface 155 (.pointer (some (a 6))), .iface 155 (.pointer (some (a 7))), .iface 155 (.pointer (some (a 8)))] 27)) wr) (fun _ i _ => 8 - (intOf i).toNat)
  case atStart => exact ⟨0, by omega, rfl, rfl, Below.refl _ _⟩
  case round =>
    obtain ⟨k, hk, rfl, rfl, hB⟩ := hrel
    have hcell : wr.cell? ⟨w1.heap.size, k, none⟩ = some (.iface 155 (.pointer (some (a (k + 1))))) := by
      rw [hB.cell (p := ⟨w1.heap.size, k, none⟩) (by show w1.heap.size < _; omega), World.cell?_alloc_at _ _ _ _ rfl]
      have hk8 : k < 8 := by omega
      clear hk hB
      match k, hk8 with
      | 0, _ => rfl
      | 1, _ => rfl
      | 2, _ => rfl
      | 3, _ => rfl
      | 4, _ => rfl
      | 5, _ => rfl
      | 6, _ => rfl
      | 7, _ => rfl
    have hSr : Sent codes wr a := hS.below (below_trans (below_alloc' hB0 _) (hB.mono (by simp)))
    have his := is_sent wr a hSr c (k + 1) (mem_codes h1 h8) (mem_codes (by omega) (by omega))
    by_cases e : c = k + 1
    · rw [decide_eq_true e] at his
      have HIS := hide his
      clear his
      have HE := hide e
      clear e
      go_wp2_with (go_at_call 55; refine HIS.out.mono ?_; rintro e w2 ⟨rfl, rfl⟩)
      go_ret2
      refine ⟨?_, ?_⟩
      · have := HE.out
        subst this
        rfl
      · exact (below_alloc' hB0 _).trans (hB.mono (by have := hB0.size; omega))
    · rw [decide_eq_false e] at his
      have HIS := hide his
      clear his
      have hk2 : k + 1 < c := by omega
      clear e
      go_wp2_with (go_at_call 55; refine HIS.out.mono ?_; rintro e w2 ⟨rfl, rfl⟩)
      go_roundw
      case rel => exact ⟨k + 1, hk2, by go_num, rfl, hB⟩
      case measure => simp [intOf]; omega

set_option maxHeartbeats 4000000 in
theorem code_fault (w : World) (a : Nat → Addr) (hS : Sent codes w a) (hH : Handle w) (c : Nat) (h1 : 1 ≤ c) (h8 : c ≤ 8) (pb po : Nat) (at_ : Int) (hpb : pb < w.heap.size) (hat : w.cell? ⟨pb, po, none⟩ = some (.int .i64 at_)) (herr : w.cell? ⟨pb, po + 1, none⟩ = some (.iface 155 (.pointer (some (a c))))) :
    Calls Tryd.prog 45 #[.iface 75 (.pointer (some ⟨pb, po, none⟩))] w fun e w' => e = .returned (.tuple #[.int .i64 c, .int .i64 at_]) ∧ Below w.heap.size w w' := by
  have has := as_fault ⟨pb, po, none⟩ ⟨w.heap.size, 0, none⟩ (.pointer none) (w.alloc (.cells #[.pointer none] 75)) (hH.below (below_alloc' (Below.refl _ _) _)) (by simp) (by simp)
  have HAS := hide has
  clear has
  have hn := fun X => run_eql_iface_nil_left (P := Tryd.prog) X 75 (.pointer (some ⟨pb, po, none⟩)) Tryd.underlying27
  go_enter Tryd.func45, Tryd.ntmps45
  go_wp2_with
    (go_at_call 54
     refine HAS.out.mono ?_
     rintro e w1 ⟨rfl, hw1⟩
     have hB0 : Below w.heap.size w w1 := by
       rw [hw1]
       refine Below.setCell ?_ (by simp) _
       exact below_alloc' (below_alloc' (below_alloc' (below_alloc' (below_alloc' (Below.refl _ _) _) _) _) _) _
     have hf1 : w1.cell? ⟨w.heap.size, 0, none⟩ = some (.pointer (some ⟨pb, po, none⟩)) := by
       rw [hw1, World.cell?_setCell_same (u := .pointer none)]
       rw [World.cell?_alloc_lt _ _ ⟨w.heap.size, 0, none⟩ (by simp; omega), World.cell?_alloc_lt _ _ ⟨w.heap.size, 0, none⟩ (by simp; omega), World.cell?_alloc_lt _ _ ⟨w.heap.size, 0, none⟩ (by simp; omega), World.cell?_alloc_lt _ _ ⟨w.heap.size, 0, none⟩ (by simp)]
       simp
     clear hw1
     have hat1 : w1.cell? ⟨pb, po, none⟩ = some (.int .i64 at_) := (hB0.cell (p := ⟨pb, po, none⟩) hpb).trans hat
     have hS1 := hS.below hB0
     have e1 := hS1.cell 1 (by decide)
     have e2 := hS1.cell 2 (by decide)
     have e3 := hS1.cell 3 (by decide)
     have e4 := hS1.cell 4 (by decide)
     have e5 := hS1.cell 5 (by decide)
     have e6 := hS1.cell 6 (by decide)
     have e7 := hS1.cell 7 (by decide)
     have e8 := hS1.cell 8 (by decide)
     simp only [glob] at e1 e2 e3 e4 e5 e6 e7 e8)
  clear e1 e2 e3 e4 e5 e6 e7 e8
  go_loopw [3, 26] (fun at3 i wr => ∃ k : Nat, k < c ∧ i = .int .i64 k ∧ at3 = .int .i64 at_ ∧ Below (w1.heap.size + 1) (w1.alloc (.cells #[.iface 155 (.pointer (some (a 1))), .iface 155 (.pointer (some (a 2))), .iface 155 (.pointer (some (a 3))), .iface 155 (.pointer (some (a 4))), .iface 155 (.pointer (some (a 5))), .iface 155 (.pointer (some (a 6))), .iface 155 (.pointer (some (a 7))), .iface 155 (.pointer (some (a 8)))] 27)) wr) (fun _ i _ => 8 - (intOf i).toNat)
  case atStart => exact ⟨0, by omega, rfl, rfl, Below.refl _ _⟩
  case round =>
    obtain ⟨k, hk, rfl, rfl, hB⟩ := hrel
    have hcell : wr.cell? ⟨w1.heap.size, k, none⟩ = some (.iface 155 (.pointer (some (a (k + 1))))) := by
      rw [hB.cell (p := ⟨w1.heap.size, k, none⟩) (by show w1.heap.size < _; omega), World.cell?_alloc_at _ _ _ _ rfl]
      have hk8 : k < 8 := by omega
      clear hk hB
      match k, hk8 with
      | 0, _ => rfl
      | 1, _ => rfl
      | 2, _ => rfl
      | 3, _ => rfl
      | 4, _ => rfl
      | 5, _ => rfl
      | 6, _ => rfl
      | 7, _ => rfl
    have hSr : Sent codes wr a := hS.below (below_trans (below_alloc' hB0 _) (hB.mono (by simp)))
    have herr1 : wr.cell? ⟨pb, po + 1, none⟩ = some (.iface 155 (.pointer (some (a c)))) := ((below_trans (below_alloc' hB0 _) (hB.mono (by simp))).cell (p := ⟨pb, po + 1, none⟩) hpb).trans herr
    have his := is_fault wr a hSr pb po c (k + 1) (mem_codes h1 h8) (mem_codes (by omega) (by omega)) herr1
    clear herr1
    by_cases e : c = k + 1
    · rw [decide_eq_true e] at his
      have HIS := hide his
      clear his
      have HE := hide e
      clear e
      go_wp2_with (go_at_call 55; refine HIS.out.mono ?_; rintro e w2 ⟨rfl, rfl⟩)
      go_ret2
      refine ⟨?_, ?_⟩
      · have := HE.out
        subst this
        rfl
      · exact (below_alloc' hB0 _).trans (hB.mono (by have := hB0.size; omega))
    · rw [decide_eq_false e] at his
      have HIS := hide his
      clear his
      have hk2 : k + 1 < c := by omega
      clear e
      go_wp2_with (go_at_call 55; refine HIS.out.mono ?_; rintro e w2 ⟨rfl, rfl⟩)
      go_roundw
      case rel => exact ⟨k + 1, hk2, by go_num, rfl, hB⟩
      case measure => simp [intOf]; omega

set_option maxHeartbeats 1000000 in
/-- coded: is the error's code this one? -/
theorem coded_any (w : World) (a : Nat → Addr) (hS : Sent codes w a) (hH : Handle w) (c : Nat) (hc : c ≤ 8) (x : Int) :
    Calls Tryd.prog 19 #[errC a c, .int .i64 x] w fun e w' => e = .returned (.bool (decide ((c : Int) = x))) ∧ Below w.heap.size w w' := by
  by_cases h0 : c = 0
  · subst h0
    have e0 : errC a ((0 : Nat) : Int) = .nilIface := rfl
    rw [e0]
    by_cases hx : x = 0
    · subst hx
      go_enter Tryd.func19, Tryd.ntmps19
      go_wp2_with (go_at_call 45; refine (code_nil _).mono ?_; rintro e w' ⟨rfl, rfl⟩)
      go_ret
      exact ⟨rfl, Below.refl _ _⟩
    · have h1 : (0 == x) = false := by simpa using fun h : 0 = x => hx h.symm
      have h2 : decide (((0 : Nat) : Int) = x) = false := decide_eq_false (fun h => hx h.symm)
      rw [h2]
      clear hx h2
      go_enter Tryd.func19, Tryd.ntmps19
      go_wp2_with (go_at_call 45; refine (code_nil _).mono ?_; rintro e w' ⟨rfl, rfl⟩)
      go_ret
      exact ⟨rfl, Below.refl _ _⟩
  · have e0 : errC a (c : Int) = .iface 155 (.pointer (some (a c))) := by unfold errC; rw [if_neg (by omega)]; rfl
    rw [e0]
    have hcode := code_sent w a hS hH c (by omega) hc
    have HC := hide hcode
    clear hcode e0 h0
    generalize a c = a0 at HC ⊢
    have hcc : ∃ y : Int, y = (c : Int) := ⟨_, rfl⟩
    obtain ⟨y, hy⟩ := hcc
    rw [← hy] at HC ⊢
    clear hy hc
    by_cases hx : y = x
    · subst hx
      rw [decide_eq_true rfl]
      go_enter Tryd.func19, Tryd.ntmps19
      go_wp2_with (go_at_call 45; refine HC.out.mono ?_; rintro e w' ⟨rfl, hb⟩)
      go_ret
      exact ⟨rfl, hb⟩
    · have h1 : (y == x) = false := by simpa using hx
      rw [decide_eq_false hx]
      clear hx
      go_enter Tryd.func19, Tryd.ntmps19
      go_wp2_with (go_at_call 45; refine HC.out.mono ?_; rintro e w' ⟨rfl, hb⟩)
      go_ret
      exact ⟨rfl, hb⟩
end Go.Proofs.YtcnecmcbjpehcaaDoor

/- The walk of demonref1.SameInts. No condition. -/
namespace Go.Proofs.YtcnecmcbjpehcaaDoor
open Go.RowKit Go.Deep

/-- two lists are alike ahead of place k -/
structure AlikeTo (l m : List Int) (k : Nat) : Prop where
  out : ∀ j, j < k → l.getD j 0 = m.getD j 0
theorem AlikeTo.zero (l m : List Int) : AlikeTo l m 0 := ⟨fun j h => absurd h (by omega)⟩
theorem AlikeTo.succ {l m : List Int} {k : Nat} (h : AlikeTo l m k) (hk : l.getD k 0 = m.getD k 0) : AlikeTo l m (k + 1) :=
  ⟨fun j hj => by
    by_cases e : j = k
    · rw [e]; exact hk
    · exact h.out j (by omega)⟩
theorem AlikeTo.eq {l m : List Int} (h : AlikeTo l m l.length) (hl : l.length = m.length) : l = m := by
  apply List.ext_getElem hl
  intro i h1 h2
  have := h.out i h1
  simpa [List.getD_eq_getElem?_getD, h1, h2] using this

set_option maxHeartbeats 1000000 in
theorem same_any (A B : Option Addr) (l m : List Int) (c d : Nat) (w : World) (hA : Ints w A l) (hB : Ints w B m) :
    Calls Tryd.prog 25 #[.slice A l.length c, .slice B m.length d] w fun e w' => e = .returned (.bool (decide (l = m))) ∧ Below w.heap.size w w' := by
  have hl := hA.len
  have hm := hB.len
  by_cases he : l.length = m.length
  · have HE := hide he
    have h1 : ((l.length : Int) != (m.length : Int)) = false := by rw [he]; simp
    have h2 : (l.length != m.length) = false := by rw [he]; simp
    clear he
    go_enter Tryd.func25, Tryd.ntmps25
    go_wp2
    go_loopw [5] (fun i wr => ∃ k : Nat, k ≤ l.length ∧ i = .int .i64 k ∧ AlikeTo l m k ∧ Below w.heap.size w wr) (fun i _ => l.length - (intOf i).toNat)
    case atStart => exact ⟨0, Nat.zero_le _, rfl, AlikeTo.zero _ _, Below.refl _ _⟩
    case round =>
      obtain ⟨k, hk, rfl, ha, hb⟩ := hrel
      by_cases hlt : k < l.length
      · have hlt2 : k < m.length := by rw [← HE.out]; exact hlt
        obtain ⟨b, o, rfl, hbl, c1⟩ := (hA.below hb).at_ k hlt
        obtain ⟨b', o', rfl, hbl', c2⟩ := (hB.below hb).at_ k hlt2
        by_cases hx : l.getD k 0 = m.getD k 0
        · have ha' := ha.succ hx
          have hx' : ((l.getD k 0) != (m.getD k 0)) = false := by rw [hx]; simp
          generalize l.getD k 0 = x at c1 hx'
          generalize m.getD k 0 = y at c2 hx'
          clear hx
          go_wp2
          go_quiet (fail)
          go_wp2
          go_roundw
          case rel => exact ⟨k + 1, by omega, by go_num, ha', below_drewN' hb _⟩
          case measure => simp [intOf]; omega
        · have hne : l ≠ m := fun e => hx (by rw [e])
          have hx' : ((l.getD k 0) != (m.getD k 0)) = true := by simpa using hx
          generalize l.getD k 0 = x at c1 hx'
          generalize m.getD k 0 = y at c2 hx'
          clear hx
          go_wp2
          go_quiet (fail)
          go_wp2
          go_ret
          exact ⟨ret_bool (decide_eq_false hne).symm, below_drewN' hb _⟩
      · obtain rfl : k = l.length := by omega
        have heq := ha.eq HE.out
        have HQ := hide (decide_eq_true heq)
        clear heq
        go_wp2
        go_ret
        exact ⟨ret_bool HQ.out.symm, hb⟩
  · have h1 : ((l.length : Int) != (m.length : Int)) = true := by rw [bne_iff_ne]; omega
    have h2 : (l.length != m.length) = true := by rw [bne_iff_ne]; exact he
    have hne : l ≠ m := fun e => he (by rw [e])
    have HQ := hide (decide_eq_false hne)
    clear he hne
    go_enter Tryd.func25, Tryd.ntmps25
    go_wp2
    go_ret
    exact ⟨ret_bool HQ.out.symm, Below.refl _ _⟩
end Go.Proofs.YtcnecmcbjpehcaaDoor

/- The walks of order.lists, Above, the closed fact unlike, and of the law OrderAbove. Condition: the variables read as laid. -/
namespace Go.Proofs.YtcnecmcbjpehcaaDoor
open Go.RowKit Go.Deep Go.Proofs.YtcnecmcbjpehcaaDoorW.PrintWords

set_option maxHeartbeats 2000000 in
theorem lists_any (A B : Option Addr) (p q : List Int) (c d : Nat) (w : World) (a : Nat → Addr) (hE : Env [2, 3] w a) (hA : Ints w A p) (hB : Ints w B q) (hc : p.length ≤ c) (hd : q.length ≤ d) :
    Calls Tryd.prog 43 #[.slice A p.length c, .slice B q.length d] w fun e w' => e = .returned (errC a (lErr p q)) ∧ Below w.heap.size w w' := by
  have HN1 := hide (fun w' (hb : Below w.heap.size w w') => numbers_any A p c w' (hA.below hb))
  have HN2 := hide (fun w' (hb : Below w.heap.size w w') => numbers_any B q d w' (hB.below hb))
  have HEN := hide (fun w' (hb : Below w.heap.size w w') => (⟨(hE.below hb).cell 2 (by decide), (hE.below hb).cell 3 (by decide)⟩ : w'.cell? ⟨glob 2, 0, none⟩ = _ ∧ w'.cell? ⟨glob 3, 0, none⟩ = _))
  simp only [glob] at HEN
  obtain ⟨y2, y3⟩ := HEN.out w (Below.refl _ _)
  have hlen := hA.len
  have hlenb := hB.len
  obtain ⟨r, hr⟩ : ∃ r, lErr p q = r := ⟨_, rfl⟩
  rw [hr]
  unfold lErr at hr
  by_cases c1 : 16 < (p.length : Int)
  · rw [if_pos (.inl (by omega))] at hr
    subst hr
    go_enter Tryd.func43, Tryd.ntmps43
    go_wp2_with (first
      | (go_at_call 46; refine Calls.mono (HN1.out _ (Below.refl _ _)) ?_; rintro e w1 ⟨rfl, hB1⟩; obtain ⟨k12, k13⟩ := HEN.out w1 hB1; clear HN1)
      | (go_at_call 46; refine Calls.mono (HN2.out w1 hB1) ?_; rintro e w2 ⟨rfl, b2⟩; have hB2 := below_trans hB1 b2; obtain ⟨k22, k23⟩ := HEN.out w2 hB2)
      | (go_at_call 41; refine Calls.mono (HT1.out w2 hB2) ?_; rintro e w3 ⟨rfl, b3⟩; have hB3 := below_trans hB2 b3; clear HT1)
      | (go_at_call 41; refine Calls.mono (HT2.out w3 hB3) ?_; rintro e w4 ⟨rfl, b4⟩; have hB4 := below_trans hB3 b4; obtain ⟨k42, k43⟩ := HEN.out w4 hB4))
    go_ret
    exact ⟨rfl, Below.refl _ _⟩
  by_cases c2 : 16 < (q.length : Int)
  · rw [if_pos (.inr (by omega))] at hr
    subst hr
    go_enter Tryd.func43, Tryd.ntmps43
    go_wp2_with (first
      | (go_at_call 46; refine Calls.mono (HN1.out _ (Below.refl _ _)) ?_; rintro e w1 ⟨rfl, hB1⟩; obtain ⟨k12, k13⟩ := HEN.out w1 hB1; clear HN1)
      | (go_at_call 46; refine Calls.mono (HN2.out w1 hB1) ?_; rintro e w2 ⟨rfl, b2⟩; have hB2 := below_trans hB1 b2; obtain ⟨k22, k23⟩ := HEN.out w2 hB2)
      | (go_at_call 41; refine Calls.mono (HT1.out w2 hB2) ?_; rintro e w3 ⟨rfl, b3⟩; have hB3 := below_trans hB2 b3; clear HT1)
      | (go_at_call 41; refine Calls.mono (HT2.out w3 hB3) ?_; rintro e w4 ⟨rfl, b4⟩; have hB4 := below_trans hB3 b4; obtain ⟨k42, k43⟩ := HEN.out w4 hB4))
    go_ret
    exact ⟨rfl, Below.refl _ _⟩
  rw [if_neg (by omega)] at hr
  by_cases c3 : p.length = 0
  · have b3 : ((p.length : Int) == 0) = true := by rw [beq_iff_eq]; omega
    rw [if_neg (fun g => g.2.2.1 c3)] at hr
    subst hr
    have C3 := hide c3
    clear c3
    go_enter Tryd.func43, Tryd.ntmps43
    go_wp2_with (first
      | (go_at_call 46; refine Calls.mono (HN1.out _ (Below.refl _ _)) ?_; rintro e w1 ⟨rfl, hB1⟩; obtain ⟨k12, k13⟩ := HEN.out w1 hB1; clear HN1)
      | (go_at_call 46; refine Calls.mono (HN2.out w1 hB1) ?_; rintro e w2 ⟨rfl, b2⟩; have hB2 := below_trans hB1 b2; obtain ⟨k22, k23⟩ := HEN.out w2 hB2)
      | (go_at_call 41; refine Calls.mono (HT1.out w2 hB2) ?_; rintro e w3 ⟨rfl, b3⟩; have hB3 := below_trans hB2 b3; clear HT1)
      | (go_at_call 41; refine Calls.mono (HT2.out w3 hB3) ?_; rintro e w4 ⟨rfl, b4⟩; have hB4 := below_trans hB3 b4; obtain ⟨k42, k43⟩ := HEN.out w4 hB4))
    go_ret
    exact ⟨rfl, Below.refl _ _⟩
  have b3 : ((p.length : Int) == 0) = false := by rw [beq_eq_false_iff_ne]; omega
  by_cases c4 : (p.length : Int) = q.length
  · have b4 : ((p.length : Int) != (q.length : Int)) = false := by rw [c4]; simp
    cases n1 : numb p
    · rw [n1] at HN1
      rw [if_neg (fun g => by rw [n1] at g; exact absurd g.1 (by decide))] at hr
      subst hr
      have C4 := hide c4
      clear c4 n1
      go_enter Tryd.func43, Tryd.ntmps43
      go_wp2_with (first
        | (go_at_call 46; refine Calls.mono (HN1.out _ (Below.refl _ _)) ?_; rintro e w1 ⟨rfl, hB1⟩; obtain ⟨k12, k13⟩ := HEN.out w1 hB1; clear HN1)
        | (go_at_call 46; refine Calls.mono (HN2.out w1 hB1) ?_; rintro e w2 ⟨rfl, b2⟩; have hB2 := below_trans hB1 b2; obtain ⟨k22, k23⟩ := HEN.out w2 hB2)
        | (go_at_call 41; refine Calls.mono (HT1.out w2 hB2) ?_; rintro e w3 ⟨rfl, b3⟩; have hB3 := below_trans hB2 b3; clear HT1)
        | (go_at_call 41; refine Calls.mono (HT2.out w3 hB3) ?_; rintro e w4 ⟨rfl, b4⟩; have hB4 := below_trans hB3 b4; obtain ⟨k42, k43⟩ := HEN.out w4 hB4))
      go_ret
      exact ⟨rfl, hB1⟩
    · cases n2 : numb q
      · rw [n1] at HN1
        rw [n2] at HN2
        rw [if_neg (fun g => by rw [n2] at g; exact absurd g.2.1 (by decide))] at hr
        subst hr
        have C4 := hide c4
        clear c4 n1 n2
        go_enter Tryd.func43, Tryd.ntmps43
        go_wp2_with (first
          | (go_at_call 46; refine Calls.mono (HN1.out _ (Below.refl _ _)) ?_; rintro e w1 ⟨rfl, hB1⟩; obtain ⟨k12, k13⟩ := HEN.out w1 hB1; clear HN1)
          | (go_at_call 46; refine Calls.mono (HN2.out w1 hB1) ?_; rintro e w2 ⟨rfl, b2⟩; have hB2 := below_trans hB1 b2; obtain ⟨k22, k23⟩ := HEN.out w2 hB2)
          | (go_at_call 41; refine Calls.mono (HT1.out w2 hB2) ?_; rintro e w3 ⟨rfl, b3⟩; have hB3 := below_trans hB2 b3; clear HT1)
          | (go_at_call 41; refine Calls.mono (HT2.out w3 hB3) ?_; rintro e w4 ⟨rfl, b4⟩; have hB4 := below_trans hB3 b4; obtain ⟨k42, k43⟩ := HEN.out w4 hB4))
        go_ret
        exact ⟨rfl, hB2⟩
      · have HT1 := hide (fun w' (hb : Below w.heap.size w w') => total_ok A p c w' (hA.below hb) hc (numb_small n1 (by omega)))
        have HT2 := hide (fun w' (hb : Below w.heap.size w w') => total_ok B q d w' (hB.below hb) hd (numb_small n2 (by omega)))
        rw [n1] at HN1
        rw [n2] at HN2
        by_cases c5 : p.sum = q.sum
        · have b5 : (p.sum != q.sum) = false := by rw [c5]; simp
          rw [if_pos ⟨n1, n2, c3, by omega, c5⟩] at hr
          subst hr
          have C4 := hide c4
          have C5 := hide c5
          clear c4 c5 n1 n2 c3
          go_enter Tryd.func43, Tryd.ntmps43
          go_wp2_with (first
            | (go_at_call 46; refine Calls.mono (HN1.out _ (Below.refl _ _)) ?_; rintro e w1 ⟨rfl, hB1⟩; obtain ⟨k12, k13⟩ := HEN.out w1 hB1; clear HN1)
            | (go_at_call 46; refine Calls.mono (HN2.out w1 hB1) ?_; rintro e w2 ⟨rfl, b2⟩; have hB2 := below_trans hB1 b2; obtain ⟨k22, k23⟩ := HEN.out w2 hB2)
            | (go_at_call 41; refine Calls.mono (HT1.out w2 hB2) ?_; rintro e w3 ⟨rfl, b3⟩; have hB3 := below_trans hB2 b3; clear HT1)
            | (go_at_call 41; refine Calls.mono (HT2.out w3 hB3) ?_; rintro e w4 ⟨rfl, b4⟩; have hB4 := below_trans hB3 b4; obtain ⟨k42, k43⟩ := HEN.out w4 hB4))
          go_ret
          exact ⟨rfl, hB4⟩
        · have b5 : (p.sum != q.sum) = true := by rw [bne_iff_ne]; exact c5
          rw [if_neg (fun g => c5 g.2.2.2.2)] at hr
          subst hr
          have C4 := hide c4
          clear c4 c5 n1 n2 c3
          go_enter Tryd.func43, Tryd.ntmps43
          go_wp2_with (first
            | (go_at_call 46; refine Calls.mono (HN1.out _ (Below.refl _ _)) ?_; rintro e w1 ⟨rfl, hB1⟩; obtain ⟨k12, k13⟩ := HEN.out w1 hB1; clear HN1)
            | (go_at_call 46; refine Calls.mono (HN2.out w1 hB1) ?_; rintro e w2 ⟨rfl, b2⟩; have hB2 := below_trans hB1 b2; obtain ⟨k22, k23⟩ := HEN.out w2 hB2)
            | (go_at_call 41; refine Calls.mono (HT1.out w2 hB2) ?_; rintro e w3 ⟨rfl, b3⟩; have hB3 := below_trans hB2 b3; clear HT1)
            | (go_at_call 41; refine Calls.mono (HT2.out w3 hB3) ?_; rintro e w4 ⟨rfl, b4⟩; have hB4 := below_trans hB3 b4; obtain ⟨k42, k43⟩ := HEN.out w4 hB4))
          go_ret
          exact ⟨rfl, hB4⟩
  · have b4 : ((p.length : Int) != (q.length : Int)) = true := by rw [bne_iff_ne]; exact c4
    rw [if_neg (fun g => c4 (by have := g.2.2.2.1; omega))] at hr
    subst hr
    go_enter Tryd.func43, Tryd.ntmps43
    go_wp2_with (first
      | (go_at_call 46; refine Calls.mono (HN1.out _ (Below.refl _ _)) ?_; rintro e w1 ⟨rfl, hB1⟩; obtain ⟨k12, k13⟩ := HEN.out w1 hB1; clear HN1)
      | (go_at_call 46; refine Calls.mono (HN2.out w1 hB1) ?_; rintro e w2 ⟨rfl, b2⟩; have hB2 := below_trans hB1 b2; obtain ⟨k22, k23⟩ := HEN.out w2 hB2)
      | (go_at_call 41; refine Calls.mono (HT1.out w2 hB2) ?_; rintro e w3 ⟨rfl, b3⟩; have hB3 := below_trans hB2 b3; clear HT1)
      | (go_at_call 41; refine Calls.mono (HT2.out w3 hB3) ?_; rintro e w4 ⟨rfl, b4⟩; have hB4 := below_trans hB3 b4; obtain ⟨k42, k43⟩ := HEN.out w4 hB4))
    go_ret
    exact ⟨rfl, Below.refl _ _⟩
theorem lErr_zero {p q : List Int} (h : lErr p q = 0) : (p.length ≤ 16 ∧ q.length ≤ 16) ∧ numb p = true ∧ numb q = true ∧ 0 < p.length ∧ p.length = q.length ∧ p.sum = q.sum := by
  unfold lErr at h
  by_cases c1 : 16 < p.length ∨ 16 < q.length
  · rw [if_pos c1] at h; cases h
  · rw [if_neg c1] at h
    rcases Classical.em (numb p = true ∧ numb q = true ∧ p.length ≠ 0 ∧ p.length = q.length ∧ p.sum = q.sum) with g | g
    · exact ⟨by omega, g.1, g.2.1, by have := g.2.2.1; omega, g.2.2.2.1, g.2.2.2.2⟩
    · rw [if_neg g] at h; cases h
theorem lErr_nat (p q : List Int) : ∃ c : Nat, lErr p q = (c : Int) ∧ c ≤ 8 := by
  unfold lErr
  split
  · exact ⟨2, rfl, by decide⟩
  · split
    · exact ⟨0, rfl, by decide⟩
    · exact ⟨3, rfl, by decide⟩
theorem errC_pos' (a : Nat → Addr) {c : Int} (h : c ≠ 0) : errC a c = .iface 155 (.pointer (some (a c.toNat))) := by unfold errC; rw [if_neg h]; rfl
/-- order.Above at right lists -/
theorem aboveP_ok (A B : Option Addr) (p q : List Int) (c d : Nat) (w : World) (a : Nat → Addr) (hE : Env [2, 3] w a) (hA : Ints w A p) (hB : Ints w B q) (hc : p.length ≤ c) (hd : q.length ≤ d) (h0 : lErr p q = 0) :
    Calls Tryd.prog 17 #[.slice A p.length c, .slice B q.length d] w fun e w' => e = .returned (.tuple #[.bool (aboveB p q), .nilIface]) ∧ Below w.heap.size w w' := by
  obtain ⟨h1, n1, n2, h2, h3, _⟩ := lErr_zero h0
  have hl := lists_any A B p q c d w a hE hA hB hc hd
  rw [h0, errC_zero] at hl
  have HL := hide hl
  have HAB := hide (fun w' (hb : Below w.heap.size w w') => above_ok A B p q c d w' (hA.below hb) (hB.below hb) (numb_small n1 (by omega)) (numb_small n2 (by omega)) h2 h3)
  clear hl h0 h1 n1 n2 h2 h3
  generalize aboveB p q = r at HAB ⊢
  go_enter Tryd.func17, Tryd.ntmps17
  go_wp2_with (first
    | (go_at_call 43; refine Calls.mono HL.out ?_; rintro e w1 ⟨rfl, b1⟩)
    | (go_at_call 44; refine Calls.mono (HAB.out w1 b1) ?_; rintro e w2 ⟨rfl, b2⟩; have hB2 := below_trans b1 b2))
  go_ret2
  exact ⟨rfl, hB2⟩
theorem aboveP_err (A B : Option Addr) (p q : List Int) (c d : Nat) (w : World) (a : Nat → Addr) (hE : Env [2, 3] w a) (hA : Ints w A p) (hB : Ints w B q) (hc : p.length ≤ c) (hd : q.length ≤ d) (h0 : lErr p q ≠ 0) :
    Calls Tryd.prog 17 #[.slice A p.length c, .slice B q.length d] w fun e w' => e = .returned (.tuple #[.bool false, errC a (lErr p q)]) ∧ Below w.heap.size w w' := by
  have hl := lists_any A B p q c d w a hE hA hB hc hd
  rw [errC_pos' a h0] at hl ⊢
  generalize a (lErr p q).toNat = x at hl ⊢
  have HL := hide hl
  clear hl h0
  go_enter Tryd.func17, Tryd.ntmps17
  go_wp2_with (go_at_call 43; refine Calls.mono HL.out ?_; rintro e w1 ⟨rfl, b1⟩)
  go_ret2
  exact ⟨rfl, b1⟩
theorem Ints.lit (w : World) (l : List Int) (t : TypeId) (hl : l.length ≤ 9223372036854775807) : Ints (w.alloc (.cells (intCells l).toArray t)) (some ⟨w.heap.size, 0, none⟩) l :=
  ⟨hl, fun i hi => ⟨w.heap.size, 0, rfl, by simp, by
    have := intCells_at l i hi
    simpa using this⟩⟩
theorem unlike_fact : lErr [0, 4] [2, 2] = 0 := by decide +kernel
theorem sorted_two {x y : Int} (h : x ≤ y) (l : List Int) (hl : l = [x, y]) : falls l = [y, x] := by
  subst hl
  exact (falls_unique (l := [x, y]) (m := [y, x]) (List.Perm.swap _ _ _) (by simp [h])).symm
theorem unlike_above : aboveB [0, 4] [2, 2] = true := by
  unfold aboveB
  rw [sorted_two (by decide : (0 : Int) ≤ 4) _ rfl, sorted_two (by decide : (2 : Int) ≤ 2) _ rfl]
  decide +kernel
theorem unlike_any (w : World) (a : Nat → Addr) (hE : Env [2, 3] w a) :
    Calls Tryd.prog 10 #[] w fun e w' => e = .returned (.bool true) ∧ Below w.heap.size w w' := by
  have h1 := Ints.lit w [0, 4] 3 (by decide)
  have h2 := Ints.lit (w.alloc (.cells #[.int .i64 0, .int .i64 4] 3)) [2, 2] 3 (by decide)
  have hB : Below w.heap.size w ((w.alloc (.cells #[.int .i64 0, .int .i64 4] 3)).alloc (.cells #[.int .i64 2, .int .i64 2] 3)) := below_alloc' (below_alloc' (Below.refl _ _) _) _
  have hp := aboveP_ok (some ⟨w.heap.size, 0, none⟩) (some ⟨w.heap.size + 1, 0, none⟩) [0, 4] [2, 2] 2 2 ((w.alloc (.cells #[.int .i64 0, .int .i64 4] 3)).alloc (.cells #[.int .i64 2, .int .i64 2] 3)) a (hE.below hB) (h1.below (below_alloc' (Below.refl _ _) _)) (by simpa [intCells] using h2) (by decide) (by decide) unlike_fact
  rw [unlike_above] at hp
  have HP := hide hp
  have HB := hide hB
  clear hp hB h1 h2
  go_enter Tryd.func10, Tryd.ntmps10
  go_wp2_with (go_at_call 17; refine Calls.mono HP.out ?_; rintro e w4 ⟨rfl, hb4⟩)
  go_ret
  exact ⟨rfl, below_trans HB.out hb4⟩
theorem ints_ok (A : Option Addr) (l : List Int) (c : Nat) (w : World) (hA : Ints w A l) (hc : l.length ≤ c) (hl : l.length ≤ 2000000) :
    Calls Tryd.prog 18 #[.slice A l.length c] w fun e w' => RetInts l w e w' := by
  refine (POrderAbove.demonlaw4_ints.calls A c l l w hA.toC hc (by unfold POrderAbove.demonlaw4_ints.f; simp; omega)).mono ?_
  rintro e w' ⟨v, rfl, hR, hb⟩
  obtain ⟨B, d, rfl, hI, hd⟩ := Ints.ofR hR
  exact ⟨B, d, rfl, hI, hd, hb⟩
theorem listsError_ok (A B : Option Addr) (p q : List Int) (c d : Nat) (w : World) (hA : Ints w A p) (hB : Ints w B q) (hc : p.length ≤ c) (hd : q.length ≤ d) (hp : p.length ≤ 2000000) (hq : q.length ≤ 2000000) :
    Calls Tryd.prog 16 #[.slice A p.length c, .slice B q.length d] w fun e w' => e = .returned (.int .i64 (lErr p q)) ∧ Below w.heap.size w w' := by
  obtain ⟨k, hk⟩ := (listsError_f p q hp hq).rounds
  refine (POrderAbove.demonref4_ListsError.calls k A c p B d q (lErr p q) w hA.toC hc hB.toC hd hk).mono ?_
  rintro e w' ⟨rfl, h⟩
  exact ⟨rfl, drawn_below h⟩
theorem isAbove_ok (A B : Option Addr) (p q : List Int) (c d : Nat) (w : World) (hA : Ints w A p) (hB : Ints w B q) (hc : p.length ≤ c) (hd : q.length ≤ d) (h0 : lErr p q = 0) :
    Calls Tryd.prog 20 #[.slice A p.length c, .slice B q.length d] w fun e w' => e = .returned (.bool (aboveB p q)) ∧ Below w.heap.size w w' := by
  obtain ⟨h1, n1, n2, h2, h3, _⟩ := lErr_zero h0
  obtain ⟨k, hk⟩ := (isAbove_f (numb_small n1 (by omega)) (numb_small n2 (by omega)) h3).rounds
  exact POrderAbove.demonref4_IsAbove.calls k A c p B d q (aboveB p q) w hA.toC hc hB.toC hd hk
theorem sub23 {c : Nat} (h : c ∈ [2, 3]) : c ∈ codes := by
  simp at h
  rcases h with rfl | rfl <;> simp [codes]

set_option maxRecDepth 100000 in
set_option maxHeartbeats 8000000 in
theorem law_above (A B : Option Addr) (p q : List Int) (c d : Nat) (w : World) (a : Nat → Addr) (hS : Sent codes w a) (hH : Handle w) (hA : Ints w A p) (hB : Ints w B q) (hc : p.length ≤ c) (hd : q.length ≤ d) :
    Calls Tryd.prog 4 #[.slice A p.length c, .slice B q.length d] w fun e w' => e = .returned (.bool true) ∧ Below w.heap.size w w' := by
  have hlen := hA.len
  have hlenb := hB.len
  have HE : Hid (∀ w', Below w.heap.size w w' → Env [2, 3] w' a) := hide fun w' hb => (hS.toEnv.sub (fun c h => sub23 h)).below hb
  have HUN := hide (fun w' (hb : Below w.heap.size w w') => unlike_any w' a (HE.out w' hb))
  by_cases hl1 : 200 < (p.length : Int)
  · go_enter Tryd.func4, Tryd.ntmps4
    go_wp2_with (go_at_call 10; refine Calls.mono (HUN.out _ (Below.refl _ _)) ?_; rintro e w1 ⟨rfl, hB1⟩)
    go_ret
    exact ⟨rfl, hB1⟩
  by_cases hl2 : 200 < (q.length : Int)
  · go_enter Tryd.func4, Tryd.ntmps4
    go_wp2_with (go_at_call 10; refine Calls.mono (HUN.out _ (Below.refl _ _)) ?_; rintro e w1 ⟨rfl, hB1⟩)
    go_ret
    exact ⟨rfl, hB1⟩
  have HC1 := hide (fun w' (hb : Below w.heap.size w w') => ints_ok A p c w' (hA.below hb) hc (by omega))
  have HC2 := hide (fun w' (hb : Below w.heap.size w w') => ints_ok B q d w' (hB.below hb) hd (by omega))
  have HLE := hide (fun w' (hb : Below w.heap.size w w') => listsError_ok A B p q c d w' (hA.below hb) (hB.below hb) hc hd (by omega) (by omega))
  by_cases h0 : lErr p q = 0
  · have HIA := hide (fun w' (hb : Below w.heap.size w w') => isAbove_ok A B p q c d w' (hA.below hb) (hB.below hb) hc hd h0)
    have HAP := hide (fun (A' B' : Option Addr) (x y : Nat) w' (h1 : Ints w' A' p) (h2 : Ints w' B' q) (hx : p.length ≤ x) (hy : q.length ≤ y) (hb : Below w.heap.size w w') => aboveP_ok A' B' p q x y w' a (HE.out w' hb) h1 h2 hx hy h0)
    have HCD := hide (fun w' (hb : Below w.heap.size w w') => coded_any w' a (hS.below hb) (hH.below hb) 0 (by decide) 0)
    rw [h0] at HLE
    clear h0
    generalize aboveB p q = r at HIA HAP
    go_enter Tryd.func4, Tryd.ntmps4
    go_wp2_with (first
      | (go_at_call 10; refine Calls.mono (HUN.out _ (Below.refl _ _)) ?_; rintro e w1 ⟨rfl, hB1⟩)
      | (go_at_call 16; refine Calls.mono (HLE.out w1 hB1) ?_; rintro e w2 ⟨rfl, b2⟩; have hB2 := below_trans hB1 b2)
      | (go_at_call 18; refine Calls.mono (HC1.out w2 hB2) ?_; rintro e w3 ⟨A3, c3, rfl, hI3, hc3, b3⟩; have hB3 := below_trans hB2 b3; clear HC1)
      | (go_at_call 18; refine Calls.mono (HC2.out w3 hB3) ?_; rintro e w4 ⟨A4, c4, rfl, hI4, hc4, b4⟩; have hB4 := below_trans hB3 b4)
      | (go_at_call 17; refine Calls.mono (HAP.out A3 A4 c3 c4 w4 (hI3.below b4) hI4 hc3 hc4 hB4) ?_; rintro e w5 ⟨rfl, b5⟩; have hB5 := below_trans hB4 b5)
      | (go_at_call 19; refine Calls.mono (HCD.out w5 hB5) ?_; rintro e w6 ⟨rfl, b6⟩; have hB6 := below_trans hB5 b6)
      | (go_at_call 20; refine Calls.mono (HIA.out w6 hB6) ?_; rintro e w7 ⟨rfl, b7⟩; have hB7 := below_trans hB6 b7))
    go_ret
    exact ⟨by simp, hB7⟩
  · obtain ⟨cc, hc', hc8⟩ := lErr_nat p q
    have hc0 : 0 < cc := by
      rcases Nat.eq_zero_or_pos cc with h | h
      · subst h; exact absurd hc' h0
      · exact h
    have hap := fun (A' B' : Option Addr) (x y : Nat) w' (h1 : Ints w' A' p) (h2 : Ints w' B' q) (hx : p.length ≤ x) (hy : q.length ≤ y) (hb : Below w.heap.size w w') => aboveP_err A' B' p q x y w' a (HE.out w' hb) h1 h2 hx hy h0
    have hcd := fun w' (hb : Below w.heap.size w w') => coded_any w' a (hS.below hb) (hH.below hb) cc hc8 cc
    rw [hc'] at hap HLE
    rw [decide_eq_true rfl] at hcd
    have he : errC a (cc : Int) = .iface 155 (.pointer (some (a cc))) := errC_pos' a (by omega)
    rw [he] at hap hcd
    have HAP := hide hap
    have HCD := hide hcd
    clear hap hcd he hc' h0
    have hci : 0 < (cc : Int) := by omega
    have hcn : ((cc : Int) == 0) = false := by rw [beq_eq_false_iff_ne]; omega
    go_enter Tryd.func4, Tryd.ntmps4
    go_wp2_with (first
      | (go_at_call 10; refine Calls.mono (HUN.out _ (Below.refl _ _)) ?_; rintro e w1 ⟨rfl, hB1⟩)
      | (go_at_call 16; refine Calls.mono (HLE.out w1 hB1) ?_; rintro e w2 ⟨rfl, b2⟩; have hB2 := below_trans hB1 b2)
      | (go_at_call 18; refine Calls.mono (HC1.out w2 hB2) ?_; rintro e w3 ⟨A3, c3, rfl, hI3, hc3, b3⟩; have hB3 := below_trans hB2 b3; clear HC1)
      | (go_at_call 18; refine Calls.mono (HC2.out w3 hB3) ?_; rintro e w4 ⟨A4, c4, rfl, hI4, hc4, b4⟩; have hB4 := below_trans hB3 b4)
      | (go_at_call 17; refine Calls.mono (HAP.out A3 A4 c3 c4 w4 (hI3.below b4) hI4 hc3 hc4 hB4) ?_; rintro e w5 ⟨rfl, b5⟩; have hB5 := below_trans hB4 b5)
      | (go_at_call 19; refine Calls.mono (HCD.out w5 hB5) ?_; rintro e w6 ⟨rfl, b6⟩; have hB6 := below_trans hB5 b6))
    go_ret
    exact ⟨rfl, hB6⟩
end Go.Proofs.YtcnecmcbjpehcaaDoor

/- The walk of demonref4.SquareError. No condition. -/
namespace Go.Proofs.YtcnecmcbjpehcaaDoor
open Go.RowKit Go.Deep Go.Proofs.YtcnecmcbjpehcaaDoorW.PrintWords

theorem sumS_ok (A : Option Addr) (l : List Int) (c : Nat) (w : World) (hA : Ints w A l) (hc : l.length ≤ c) (hs : Small l) :
    Calls Tryd.prog 30 #[.slice A l.length c] w fun e w' => e = .returned (.int .i64 l.sum) ∧ Drawn0 w w' := by
  obtain ⟨k, hk⟩ := (sumS_f hs).rounds
  exact POrderSpread.demonref1_Sum.calls k A c l l.sum w hA.toC hc hk
theorem numbersS_ok (A : Option Addr) (l : List Int) (c : Nat) (w : World) (hA : Ints w A l) (hc : l.length ≤ c) (hl : l.length ≤ 2000000) :
    Calls Tryd.prog 27 #[.slice A l.length c] w fun e w' => e = .returned (.bool (numb l)) ∧ Drawn0 w w' := by
  obtain ⟨k, hk⟩ := (numbersS_f l hl).rounds
  exact POrderSpread.demonref4_Numbers.calls k A c l (numb l) w hA.toC hc hk
theorem quiet_drawn {f : FuncId} {args : Array Value} {w : World} {n : Nat} {v : Value} (h : Calls Tryd.prog f args (w.drewN n) fun e w' => e = .returned v ∧ Drawn0 (w.drewN n) w') :
    Calls Tryd.prog f args (w.drewN n) fun e w'' => e = .returned v ∧ ∃ m, w'' = w.drewN m :=
  h.mono fun _ _ ⟨he, hm⟩ => by
    obtain ⟨⟨k, rfl⟩⟩ := hm
    exact ⟨he, n + k, by rw [World.drewN_drewN]⟩
theorem goodAt_bad {m : List (List Int)} {i : Nat} (hi : i < m.length) (h : goodAt m i = false) : (List.range m.length).all (goodAt m) = false := by
  rw [List.all_eq_false]
  exact ⟨i, List.mem_range.2 hi, by rw [h]; decide⟩
theorem goodRow_bad {m : List (List Int)} {i : Nat} (hi : i < m.length) (h : goodRow m.length (m.getD i []) = false) : m.all (goodRow m.length) = false := by
  rw [List.all_eq_false]
  exact ⟨m.getD i [], by rw [getDL_eq m i hi]; exact List.getElem_mem hi, by rw [h]; decide⟩
theorem takeRow {m : List (List Int)} {i : Nat} (hi : i < m.length) (h : (m.take i).all (goodRow m.length) = true) (hg : goodRow m.length (m.getD i []) = true) : (m.take (i + 1)).all (goodRow m.length) = true := by
  rw [takeL_at m i hi, List.all_append, h]
  simp only [List.all_cons, List.all_nil, hg, Bool.and_true]
theorem rangeAt {m : List (List Int)} {i : Nat} (h : (List.range i).all (goodAt m) = true) (hg : goodAt m i = true) : (List.range (i + 1)).all (goodAt m) = true := by
  rw [List.range_succ, List.all_append, h]
  simp [hg]

set_option maxRecDepth 100000 in
set_option maxHeartbeats 4000000 in
theorem squareError_ok (A : Option Addr) (m : List (List Int)) (c : Nat) (w : World) (hA : Lists w A m) (_hc : m.length ≤ c) (hr : ∀ r, r ∈ m → r.length ≤ 2000000) :
    Calls Tryd.prog 26 #[.slice A m.length c] w fun e w' => e = .returned (.int .i64 (sqErr m)) ∧ Below w.heap.size w w' := by
  have hlen := hA.len
  obtain ⟨r, hrr⟩ : ∃ r, sqErr m = r := ⟨_, rfl⟩
  rw [hrr]
  unfold sqErr at hrr
  by_cases c1 : 8 < (m.length : Int)
  · rw [if_pos (by omega)] at hrr
    subst hrr
    go_enter Tryd.func26, Tryd.ntmps26
    go_wp2_with (fail)
    go_ret
    exact ⟨rfl, Below.refl _ _⟩
  rw [if_neg (by omega)] at hrr
  by_cases c2 : m.length = 0
  · rw [if_pos c2] at hrr
    subst hrr
    have b2 : ((m.length : Int) == 0) = true := by rw [beq_iff_eq]; omega
    have C2 := hide c2
    clear c2
    go_enter Tryd.func26, Tryd.ntmps26
    go_wp2_with (fail)
    go_ret
    exact ⟨rfl, Below.refl _ _⟩
  rw [if_neg c2] at hrr
  have b2 : ((m.length : Int) == 0) = false := by rw [beq_eq_false_iff_ne]; omega
  have HR := hide hrr
  have HRL := hide hr
  clear hrr hr
  go_enter Tryd.func26, Tryd.ntmps26
  go_wp2_with (fail)
  go_loopw [3] (fun v wr => ∃ i : Nat, i ≤ m.length ∧ v = .int .i64 i ∧ Hid ((m.take i).all (goodRow m.length) = true) ∧ Below w.heap.size w wr) (fun v _ => m.length - (intOf v).toNat)
  case atStart => exact ⟨0, Nat.zero_le _, rfl, hide rfl, Below.refl _ _⟩
  case round =>
    obtain ⟨i, hi, rfl, HT, hBi⟩ := hrel
    obtain ⟨wi, rfl⟩ : ∃ wi : World, wi = wr := ⟨_, rfl⟩
    have i0 : (0 : Int) ≤ (i : Int) := Int.natCast_nonneg _
    by_cases hil : i < m.length
    · have i1 : (i : Int) < (m.length : Int) := by omega
      obtain ⟨b, off, A', c', rfl, hb, d1, hle, hI⟩ := (hA.below hBi).at_ i hil
      have hnum := numbersS_ok A' (m.getD i []) c' wi hI hle (HRL.out _ (by rw [getDL_eq m i hil]; exact List.getElem_mem _))
      have hbad : (numb (m.getD i []) && decide ((m.getD i []).length = m.length)) = false → m.all (goodRow m.length) = false := fun h => goodRow_bad hil h
      have hnx : (numb (m.getD i []) && decide ((m.getD i []).length = m.length)) = true → (m.take (i + 1)).all (goodRow m.length) = true := fun h => takeRow hil HT.out h
      have HB := hide hbad
      have HNX := hide hnx
      clear hbad hnx
      generalize m.getD i [] = ri at d1 hle hI hnum HB HNX
      generalize numb ri = q at hnum HB HNX
      by_cases hl : (ri.length : Int) = m.length
      · have hne : ((ri.length : Int) != (m.length : Int)) = false := by rw [hl]; simp
        have hl' : ri.length = m.length := by omega
        have HL := hide hl'
        have HNUM := hide hnum
        clear hnum hl hl'
        generalize ri.length = n1 at d1 hle hne HL HNUM HB HNX
        cases q
        · go_wp2_with (go_at_call 27; refine Calls.mono HNUM.out ?_; rintro e w1 ⟨rfl, hw1⟩; have hb1 := drawn_below hw1; have d1' := (hb1.cell (p := ⟨b, off + i, none⟩) hb).trans d1)
          go_ret
          exact ⟨ret_int (by rw [← HR.out, HB.out (by rfl), Bool.false_and]; rfl), below_trans hBi hb1⟩
        · go_wp2_with (go_at_call 27; refine Calls.mono HNUM.out ?_; rintro e w1 ⟨rfl, hw1⟩; have hb1 := drawn_below hw1; have d1' := (hb1.cell (p := ⟨b, off + i, none⟩) hb).trans d1)
          go_roundw
          case rel => exact ⟨i + 1, by omega, by go_num, hide (HNX.out (by rw [HL.out]; simp)), below_trans hBi hb1⟩
          case measure => simp [intOf]; omega
      · have hne : ((ri.length : Int) != (m.length : Int)) = true := by rw [bne_iff_ne]; exact hl
        have hl' : ¬ ri.length = m.length := by omega
        have HL := hide hl'
        have HNUM := hide hnum
        clear hnum hl hl'
        generalize ri.length = n1 at d1 hle hne HL HNUM HB HNX
        have hfin : r = 3 := by rw [← HR.out, HB.out (by rw [decide_eq_false HL.out, Bool.and_false]), Bool.false_and]; rfl
        have HFIN := hide hfin
        clear hfin
        cases q
        all_goals
          go_wp2_with (go_at_call 27; refine Calls.mono HNUM.out ?_; rintro e w1 ⟨rfl, hw1⟩; have hb1 := drawn_below hw1; have d1' := (hb1.cell (p := ⟨b, off + i, none⟩) hb).trans d1)
          go_ret
          exact ⟨ret_int HFIN.out.symm, below_trans hBi hb1⟩
    · obtain rfl : i = m.length := by omega
      have hall := HT.out
      rw [List.take_length] at hall
      have hrr := HR.out
      rw [hall, Bool.true_and] at hrr
      have HALL := hide hall
      have HR2 := hide hrr
      clear hall hrr HT
      go_wp2_with (fail)
      go_loopw [5, 6, 7] (fun v _ _ wr => ∃ i : Nat, i ≤ m.length ∧ v = .int .i64 i ∧ Hid ((List.range i).all (goodAt m) = true) ∧ Below w.heap.size w wr) (fun v _ _ _ => m.length - (intOf v).toNat)
      case atStart => exact ⟨0, Nat.zero_le _, rfl, hide rfl, hBi⟩
      case round =>
        obtain ⟨i, hi2, rfl, HT, hBi2⟩ := hrel
        obtain ⟨wj, rfl⟩ : ∃ wj : World, wj = wr := ⟨_, rfl⟩
        have i0 : (0 : Int) ≤ (i : Int) := Int.natCast_nonneg _
        by_cases hil : i < m.length
        · have i1 : (i : Int) < (m.length : Int) := by omega
          go_wp2_with (fail)
          go_loop [6, 7] (fun dv jv => ∃ j : Nat, j ≤ m.length ∧ jv = .int .i64 j ∧ dv = .int .i64 (colTo m i j)) (fun _ jv => m.length - (intOf jv).toNat)
          case atStart => exact ⟨0, Nat.zero_le _, rfl, rfl⟩
          case round =>
            obtain ⟨j, hj, rfl, rfl⟩ := hrel
            have j0 : (0 : Int) ≤ (j : Int) := Int.natCast_nonneg _
            by_cases hjl : j < m.length
            · have j1 : (j : Int) < (m.length : Int) := by omega
              obtain ⟨b, off, A', c', rfl, hb, d1, hle, hI⟩ := (hA.below hBi2).at_ j hjl
              obtain ⟨g1, g2⟩ := goodRow_get HALL.out j hjl
              obtain ⟨b2, off2, rfl, hb2, d2⟩ := hI.at_ i (by omega)
              have hx := numb_get g1 i (by omega)
              have hcb := colTo_bound HALL.out i hil j (by omega)
              have hcs := colTo_succ m i j hjl
              rw [g2] at d1
              have i2 : (i : Int) < (m.length : Int) := by omega
              generalize (m.getD j []).getD i 0 = x at d2 hx hcs
              generalize colTo m i j = s at hcb hcs
              have HCS := hide hcs
              clear hcs g1 g2 hI hle
              go_wp2_with (fail)
              go_round
              case rel => exact ⟨j + 1, by omega, by go_num, by rw [HCS.out]⟩
              case measure => simp [intOf]; omega
            · obtain rfl : j = m.length := by omega
              have m0 : 0 < m.length := by omega
              have m1 : (0 : Int) < (m.length : Int) := by omega
              obtain ⟨b, off, A1, c1', rfl, hb, d1, hle1, hI1⟩ := (hA.below hBi2).at_ i hil
              obtain ⟨b', off', A0, c0, e0, _, d0, hle0, hI0⟩ := (hA.below hBi2).at_ 0 m0
              injection e0 with e0
              injection e0 with e1 e2 _
              subst e1 e2
              have d0' : wj.cell? ⟨b, off, none⟩ = some (.slice A0 (m.getD 0 []).length c0) := d0
              obtain ⟨g1, g2⟩ := goodRow_get HALL.out i hil
              obtain ⟨g3, g4⟩ := goodRow_get HALL.out 0 m0
              have hs1 := fun w' (h : Below wj.heap.size wj w') => sumS_ok A1 (m.getD i []) c1' w' (hI1.below h) hle1 (numb_small g1 (by omega))
              have hs0 := fun w' (h : Below wj.heap.size wj w') => sumS_ok A0 (m.getD 0 []) c0 w' (hI0.below h) hle0 (numb_small g3 (by omega))
              have hnx : (decide ((m.getD i []).sum = (m.getD 0 []).sum) && decide (colTo m i m.length = (m.getD 0 []).sum)) = true → (List.range (i + 1)).all (goodAt m) = true := fun h => rangeAt HT.out h
              have hbd : (decide ((m.getD i []).sum = (m.getD 0 []).sum) && decide (colTo m i m.length = (m.getD 0 []).sum)) = false → r = 3 := fun h => by rw [← HR2.out, if_neg (by rw [goodAt_bad hil h]; decide)]
              rw [g2] at d1 hs1
              rw [g4] at d0' hs0
              clear d0 hI0 hI1 g1 g2 g3 g4 hle1 hle0
              generalize (m.getD i []).sum = x at hs1 hnx hbd
              generalize (m.getD 0 []).sum = y at hs0 hnx hbd
              generalize colTo m i m.length = z at hnx hbd
              have HNX := hide hnx
              have HBD := hide hbd
              have HS1 := hide hs1
              have HS0 := hide hs0
              clear hnx hbd hs1 hs0
              by_cases hxy : x = y
              · have bxy : (x != y) = false := by rw [hxy]; simp
                by_cases hzy : z = y
                · have bzy : (z != y) = false := by rw [hzy]; simp
                  have hn := HNX.out (by rw [decide_eq_true hxy, decide_eq_true hzy]; rfl)
                  have HN2 := hide hn
                  clear hxy hzy hn
                  go_wp2_with (fail)
                  go_quiet ((first
                    | (go_at_call 30; with_reducible exact quiet_drawn (HS1.out _ (below_drewN' (Below.refl _ _) _)))
                    | (go_at_call 30; with_reducible exact quiet_drawn (HS0.out _ (below_drewN' (Below.refl _ _) _)))))
                  go_wp2_with (fail)
                  go_roundw
                  case rel => exact ⟨i + 1, by omega, by go_num, HN2, below_drewN' hBi2 _⟩
                  case measure => simp [intOf]; omega
                · have bzy : (z != y) = true := by rw [bne_iff_ne]; exact hzy
                  have hn := HBD.out (by rw [decide_eq_false hzy, Bool.and_false])
                  have HN2 := hide hn
                  clear hxy hzy hn
                  go_wp2_with (fail)
                  go_quiet ((first
                    | (go_at_call 30; with_reducible exact quiet_drawn (HS1.out _ (below_drewN' (Below.refl _ _) _)))
                    | (go_at_call 30; with_reducible exact quiet_drawn (HS0.out _ (below_drewN' (Below.refl _ _) _)))))
                  go_wp2_with (fail)
                  go_ret
                  exact ⟨ret_int HN2.out.symm, below_drewN' hBi2 _⟩
              · have bxy : (x != y) = true := by rw [bne_iff_ne]; exact hxy
                have hn := HBD.out (by rw [decide_eq_false hxy, Bool.false_and])
                have HN2 := hide hn
                clear hn
                go_wp2_with (fail)
                go_quiet ((first
                  | (go_at_call 30; with_reducible exact quiet_drawn (HS1.out _ (below_drewN' (Below.refl _ _) _)))
                  | (go_at_call 30; with_reducible exact quiet_drawn (HS0.out _ (below_drewN' (Below.refl _ _) _)))))
                go_wp2_with (fail)
                go_ret
                exact ⟨ret_int HN2.out.symm, below_drewN' hBi2 _⟩
        · obtain rfl : i = m.length := by omega
          have hfin : r = 0 := by rw [← HR2.out, if_pos HT.out]
          subst hfin
          go_wp2_with (fail)
          go_ret
          exact ⟨rfl, hBi2⟩
end Go.Proofs.YtcnecmcbjpehcaaDoor
