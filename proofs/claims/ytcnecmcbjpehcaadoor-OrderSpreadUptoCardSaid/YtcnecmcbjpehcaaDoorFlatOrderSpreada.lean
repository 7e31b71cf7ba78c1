/- Words, plain laws and walks behind the law OrderSpread, part 1. No condition. -/
import Derived.Test.YtcnecmcbjpehcaaDoorPOrderSpreadx0
import Derived.Test.YtcnecmcbjpehcaaDoorPOrderSpreadx8
import Derived.Test.YtcnecmcbjpehcaaDoorPOrderAbovex9
import Derived.Test.YtcnecmcbjpehcaaDoorPOrderAbovex1

/- What the print gives of some functions, but for one walk. No condition. -/
namespace Go.Proofs.YtcnecmcbjpehcaaDoor.POrderSpread
open Go.RowKit Go.Proofs.YtcnecmcbjpehcaaDoorW.PrintWords Go.Proofs.YtcnecmcbjpehcaaDoorW.PrintLast Go.Proofs.YtcnecmcbjpehcaaDoorW.PrintMore
attribute [local go_sem] max2_int min2_int max_two min_two max_three min_three max_four min_four   -- for this text's walks alone
set_option linter.unusedVariables false
set_option linter.unusedSimpArgs false

/-! ### demonref1_Sum: function 30 -/
def demonref1_Sum.l0 : Nat → List Int → Int → Int → Option (Int)
  | 0, _, _, _ => none
  | k + 1, x0, x3, x4 => if x4 < (x0.length : Int) then (if 0 ≤ x4 then (demonref1_Sum.l0 k x0 (wrap64 (x3 + (rd x0 x4))) (wrap64 (x4 + 1))) else (none)) else (some x3)
def demonref1_Sum.f (k : Nat) (l0 : List Int) : Option (Int) := demonref1_Sum.l0 k l0 0 0
theorem demonref1_Sum.mono_l : ∀ k, (∀ y0 y1 y2, LeO (demonref1_Sum.l0 k y0 y1 y2) (demonref1_Sum.l0 (k + 1) y0 y1 y2))
  | 0 => fun _ _ _ r h => by simp [demonref1_Sum.l0] at h
  | k + 1 => by
    have ih0 := demonref1_Sum.mono_l k
    · intro y0 y1 y2
      unfold demonref1_Sum.l0
      repeat' first
      | (with_reducible exact ih0 _ _ _)
      | (with_reducible exact LeO.refl _)
      | (with_reducible exact LeO.none _)
      | (with_reducible refine LeO.ite ?_ ?_)
      | (with_reducible refine LeO.bind ?_ (fun _ => ?_))
      | exact ih0 _ _ _
      | exact LeO.none _
      | refine LeO.ite ?_ ?_
      | refine LeO.bind ?_ (fun _ => ?_)
theorem demonref1_Sum.mono : ∀ a0 k, LeO (demonref1_Sum.f k a0) (demonref1_Sum.f (k + 1) a0) := by
  intro a0 k
  have ih0 := demonref1_Sum.mono_l k
  unfold demonref1_Sum.f
  repeat' first
      | (with_reducible exact ih0 _ _ _)
      | (with_reducible exact LeO.refl _)
      | (with_reducible exact LeO.none _)
      | (with_reducible refine LeO.ite ?_ ?_)
      | (with_reducible refine LeO.bind ?_ (fun _ => ?_))
      | exact ih0 _ _ _
      | exact LeO.none _
      | refine LeO.ite ?_ ?_
      | refine LeO.bind ?_ (fun _ => ?_)
set_option maxHeartbeats 8000000 in
set_option maxRecDepth 100000 in
theorem demonref1_Sum.calls (k : Nat) (A0 : Option Addr) (c0 : Nat) (l0 : List Int) (r : Int) (w : World) (hr0 : Kd.C (Kd.int .i64) w A0 l0.length l0) (hc0 : l0.length ≤ c0) (h : demonref1_Sum.f k l0 = some r) :
    Calls Tryd.prog 30 #[.slice A0 l0.length c0] w fun e w' => e = .returned (.int .i64 r) ∧ Drawn0 w w' := by
  have HR0 := Aside0.mk hr0
  have HC0 := Aside0.mk hc0
  clear hr0 hc0
  have H : (demonref1_Sum.l0 k l0 0 0) = some r := h
  clear h
  have H' := Aside0.mk H
  clear H
  go_enter Tryd.func30, Tryd.ntmps30
  go_wp2
  go_loopg [3, 4] k (fun kq v3 v4 w' => ∃ (x3_1 : Int) (x4_1 : Int), v3 = .int .i64 x3_1 ∧ v4 = .int .i64 x4_1 ∧ Aside0 (demonref1_Sum.l0 kq l0 x3_1 x4_1 = some r) ∧ Aside0 (kq ≤ k) ∧ Drawn0 w w')
  case atStart => exact ⟨(0), (0), (by first | rfl | (simp; done) | (simp [*]; done)), (by first | rfl | (simp; done) | (simp [*]; done)), H', ⟨Nat.le_refl _⟩, by repeat (first | exact Drawn0.refl _ | apply Drawn0.step)⟩
  case round =>
    clear H'
    obtain ⟨x3_1, x4_1, rfl, rfl, HA, HK1, ⟨m1, rfl⟩⟩ := hrel
    cases gk with
    | zero => exact absurd HA.out (by simp [demonref1_Sum.l0])
    | succ k1 =>
      have H := HA.out
      clear HA
      simp only [demonref1_Sum.l0] at H
      by_cases c2 : x4_1 < (l0.length : Int)
      · rw [if_pos c2] at H
        have c2b0 : decide (x4_1 < (l0.length : Int)) = true := decide_eq_true c2
        clear c2
        by_cases c3 : 0 ≤ x4_1
        · rw [if_pos c3] at H
          have c3b0 : decide (0 ≤ x4_1) = true := decide_eq_true c3
          clear c3
          have H' := Aside0.mk H
          clear H
          have p256 : 0 ≤ (x4_1 : Int) := of_decide_eq_true (by first | (with_reducible assumption) | assumption)
          have q256 : x4_1 < (l0.length : Int) := of_decide_eq_true (by first | (with_reducible assumption) | assumption)
          obtain ⟨ad256, e256, hx256_0⟩ := Kd.at_int HR0.out x4_1 p256 q256
          cases e256
          replace p256 := eq_true p256
          replace q256 := eq_true q256
          go_wp2
          go_roundg k1
          case measure => have := HK1.out; omega
          case rel => exact ⟨(wrap64 (x3_1 + (rd l0 x4_1))), (wrap64 (x4_1 + 1)), (by first | rfl | (simp; done) | (simp [*]; done)), (by first | rfl | (simp; done) | (simp [*]; done)), H', ⟨by have := HK1.out; omega⟩, by repeat (first | exact Drawn0.refl _ | apply Drawn0.step)⟩
        · rw [if_neg c3] at H
          exact absurd H (by simp)
      · rw [if_neg c2] at H
        have c2b0 : decide (x4_1 < (l0.length : Int)) = false := decide_eq_false c2
        clear c2
        obtain rfl := Option.some.inj H
        go_wp2
        go_ret
        exact ⟨by first | rfl | (simp; done) | (simp [*]; done), by repeat (first | exact Drawn0.refl _ | apply Drawn0.step)⟩

/-! ### demonref4_SquareError: function 26 -/
mutual
def demonref4_SquareError.l0 : Nat → List (List Int) → Int → Option (Int)
  | 0, _, _ => none
  | k + 1, x0, x3 => if x3 < (x0.length : Int) then (if 0 ≤ x3 then ((demonref4_Numbers.f k (rd_L1 x0 x3)).bind fun t258 => (if t258 = true then (if ((rd_L1 x0 x3).length : Int) = (x0.length : Int) then (demonref4_SquareError.l0 k x0 (wrap64 (x3 + 1))) else (some 3)) else (some 3))) else (none)) else (demonref4_SquareError.l1 k x0 0)
def demonref4_SquareError.l1 : Nat → List (List Int) → Int → Option (Int)
  | 0, _, _ => none
  | k + 1, x0, x5 => if x5 < (x0.length : Int) then (demonref4_SquareError.l2 k x0 x5 0 0) else (some 0)
def demonref4_SquareError.l2 : Nat → List (List Int) → Int → Int → Int → Option (Int)
  | 0, _, _, _, _ => none
  | k + 1, x0, x5, x6, x7 => if x7 < (x0.length : Int) then (if 0 ≤ x7 then (if 0 ≤ x5 then (if x5 < ((rd_L1 x0 x7).length : Int) then (demonref4_SquareError.l2 k x0 x5 (wrap64 (x6 + (rd (rd_L1 x0 x7) x5))) (wrap64 (x7 + 1))) else (none)) else (none)) else (none)) else (if 0 ≤ x5 then (if x5 < (x0.length : Int) then ((demonref1_Sum.f k (rd_L1 x0 x5)).bind fun t263 => (if 0 < (x0.length : Int) then ((demonref1_Sum.f k (rd_L1 x0 0)).bind fun t265 => (if t263 = t265 then ((demonref1_Sum.f k (rd_L1 x0 0)).bind fun t267 => (if x6 = t267 then (demonref4_SquareError.l1 k x0 (wrap64 (x5 + 1))) else (some 3))) else (some 3))) else (none))) else (none)) else (none))
end
def demonref4_SquareError.f (k : Nat) (l0 : List (List Int)) : Option (Int) := if (l0.length : Int) > 8 then (some 2) else (if (l0.length : Int) = 0 then (some 3) else (demonref4_SquareError.l0 k l0 0))
theorem demonref4_SquareError.mono_l : ∀ k, (∀ y0 y1, LeO (demonref4_SquareError.l0 k y0 y1) (demonref4_SquareError.l0 (k + 1) y0 y1)) ∧ (∀ y0 y1, LeO (demonref4_SquareError.l1 k y0 y1) (demonref4_SquareError.l1 (k + 1) y0 y1)) ∧ (∀ y0 y1 y2 y3, LeO (demonref4_SquareError.l2 k y0 y1 y2 y3) (demonref4_SquareError.l2 (k + 1) y0 y1 y2 y3))
  | 0 => ⟨fun _ _ r h => by simp [demonref4_SquareError.l0] at h, fun _ _ r h => by simp [demonref4_SquareError.l1] at h, fun _ _ _ _ r h => by simp [demonref4_SquareError.l2] at h⟩
  | k + 1 => by
    obtain ⟨ih0, ih1, ih2⟩ := demonref4_SquareError.mono_l k
    refine ⟨?_, ?_, ?_⟩
    · intro y0 y1
      unfold demonref4_SquareError.l0
      repeat' first
      | (with_reducible exact ih0 _ _)
      | (with_reducible exact ih1 _ _)
      | (with_reducible exact ih2 _ _ _ _)
      | (with_reducible exact demonref1_Sum.mono _ _)
      | (with_reducible exact demonref4_Numbers.mono _ _)
      | (with_reducible exact LeO.refl _)
      | (with_reducible exact LeO.none _)
      | (with_reducible refine LeO.ite ?_ ?_)
      | (with_reducible refine LeO.bind ?_ (fun _ => ?_))
      | exact ih0 _ _
      | exact ih1 _ _
      | exact ih2 _ _ _ _
      | exact demonref1_Sum.mono _ _
      | exact demonref4_Numbers.mono _ _
      | exact LeO.none _
      | refine LeO.ite ?_ ?_
      | refine LeO.bind ?_ (fun _ => ?_)
    · intro y0 y1
      unfold demonref4_SquareError.l1
      repeat' first
      | (with_reducible exact ih0 _ _)
      | (with_reducible exact ih1 _ _)
      | (with_reducible exact ih2 _ _ _ _)
      | (with_reducible exact demonref1_Sum.mono _ _)
      | (with_reducible exact demonref4_Numbers.mono _ _)
      | (with_reducible exact LeO.refl _)
      | (with_reducible exact LeO.none _)
      | (with_reducible refine LeO.ite ?_ ?_)
      | (with_reducible refine LeO.bind ?_ (fun _ => ?_))
      | exact ih0 _ _
      | exact ih1 _ _
      | exact ih2 _ _ _ _
      | exact demonref1_Sum.mono _ _
      | exact demonref4_Numbers.mono _ _
      | exact LeO.none _
      | refine LeO.ite ?_ ?_
      | refine LeO.bind ?_ (fun _ => ?_)
    · intro y0 y1 y2 y3
      unfold demonref4_SquareError.l2
      repeat' first
      | (with_reducible exact ih0 _ _)
      | (with_reducible exact ih1 _ _)
      | (with_reducible exact ih2 _ _ _ _)
      | (with_reducible exact demonref1_Sum.mono _ _)
      | (with_reducible exact demonref4_Numbers.mono _ _)
      | (with_reducible exact LeO.refl _)
      | (with_reducible exact LeO.none _)
      | (with_reducible refine LeO.ite ?_ ?_)
      | (with_reducible refine LeO.bind ?_ (fun _ => ?_))
      | exact ih0 _ _
      | exact ih1 _ _
      | exact ih2 _ _ _ _
      | exact demonref1_Sum.mono _ _
      | exact demonref4_Numbers.mono _ _
      | exact LeO.none _
      | refine LeO.ite ?_ ?_
      | refine LeO.bind ?_ (fun _ => ?_)
theorem demonref4_SquareError.mono : ∀ a0 k, LeO (demonref4_SquareError.f k a0) (demonref4_SquareError.f (k + 1) a0) := by
  intro a0 k
  obtain ⟨ih0, ih1, ih2⟩ := demonref4_SquareError.mono_l k
  unfold demonref4_SquareError.f
  repeat' first
      | (with_reducible exact ih0 _ _)
      | (with_reducible exact ih1 _ _)
      | (with_reducible exact ih2 _ _ _ _)
      | (with_reducible exact demonref1_Sum.mono _ _)
      | (with_reducible exact demonref4_Numbers.mono _ _)
      | (with_reducible exact LeO.refl _)
      | (with_reducible exact LeO.none _)
      | (with_reducible refine LeO.ite ?_ ?_)
      | (with_reducible refine LeO.bind ?_ (fun _ => ?_))
      | exact ih0 _ _
      | exact ih1 _ _
      | exact ih2 _ _ _ _
      | exact demonref1_Sum.mono _ _
      | exact demonref4_Numbers.mono _ _
      | exact LeO.none _
      | refine LeO.ite ?_ ?_
      | refine LeO.bind ?_ (fun _ => ?_)
/-! ### demonref4_SpreadOf: function 28 -/
mutual
def demonref4_SpreadOf.l0 : Nat → List (List Int) → List Int → List Int → Int → Option (List Int)
  | 0, _, _, _, _ => none
  | k + 1, x0, x1, x5, x6 => if x6 < (x0.length : Int) then (demonref4_SpreadOf.l1 k x0 x1 x5 x6 0 0) else (some x5)
def demonref4_SpreadOf.l1 : Nat → List (List Int) → List Int → List Int → Int → Int → Int → Option (List Int)
  | 0, _, _, _, _, _, _ => none
  | k + 1, x0, x1, x5, x6, x7, x8 => if x8 < (x1.length : Int) then (if 0 ≤ x6 then (if x6 < (x0.length : Int) then (if 0 ≤ x8 then (if x8 < ((rd_L1 x0 x6).length : Int) then (demonref4_SpreadOf.l1 k x0 x1 x5 x6 (wrap64 (x7 + (wrap64 ((rd (rd_L1 x0 x6) x8) * (rd x1 x8))))) (wrap64 (x8 + 1))) else (none)) else (none)) else (none)) else (none)) else (if x5.length < 17592186044416 then (demonref4_SpreadOf.l0 k x0 x1 (x5 ++ [x7]) (wrap64 (x6 + 1))) else (none))
end
def demonref4_SpreadOf.f (k : Nat) (l0 : List (List Int)) (l1 : List Int) : Option (List Int) := demonref4_SpreadOf.l0 k l0 l1 ([] : List Int) 0
theorem demonref4_SpreadOf.mono_l : ∀ k, (∀ y0 y1 y2 y3, LeO (demonref4_SpreadOf.l0 k y0 y1 y2 y3) (demonref4_SpreadOf.l0 (k + 1) y0 y1 y2 y3)) ∧ (∀ y0 y1 y2 y3 y4 y5, LeO (demonref4_SpreadOf.l1 k y0 y1 y2 y3 y4 y5) (demonref4_SpreadOf.l1 (k + 1) y0 y1 y2 y3 y4 y5))
  | 0 => ⟨fun _ _ _ _ r h => by simp [demonref4_SpreadOf.l0] at h, fun _ _ _ _ _ _ r h => by simp [demonref4_SpreadOf.l1] at h⟩
  | k + 1 => by
    obtain ⟨ih0, ih1⟩ := demonref4_SpreadOf.mono_l k
    refine ⟨?_, ?_⟩
    · intro y0 y1 y2 y3
      unfold demonref4_SpreadOf.l0
      repeat' first
      | (with_reducible exact ih0 _ _ _ _)
      | (with_reducible exact ih1 _ _ _ _ _ _)
      | (with_reducible exact LeO.refl _)
      | (with_reducible exact LeO.none _)
      | (with_reducible refine LeO.ite ?_ ?_)
      | (with_reducible refine LeO.bind ?_ (fun _ => ?_))
      | exact ih0 _ _ _ _
      | exact ih1 _ _ _ _ _ _
      | exact LeO.none _
      | refine LeO.ite ?_ ?_
      | refine LeO.bind ?_ (fun _ => ?_)
    · intro y0 y1 y2 y3 y4 y5
      unfold demonref4_SpreadOf.l1
      repeat' first
      | (with_reducible exact ih0 _ _ _ _)
      | (with_reducible exact ih1 _ _ _ _ _ _)
      | (with_reducible exact LeO.refl _)
      | (with_reducible exact LeO.none _)
      | (with_reducible refine LeO.ite ?_ ?_)
      | (with_reducible refine LeO.bind ?_ (fun _ => ?_))
      | exact ih0 _ _ _ _
      | exact ih1 _ _ _ _ _ _
      | exact LeO.none _
      | refine LeO.ite ?_ ?_
      | refine LeO.bind ?_ (fun _ => ?_)
theorem demonref4_SpreadOf.mono : ∀ a0 a1 k, LeO (demonref4_SpreadOf.f k a0 a1) (demonref4_SpreadOf.f (k + 1) a0 a1) := by
  intro a0 a1 k
  obtain ⟨ih0, ih1⟩ := demonref4_SpreadOf.mono_l k
  unfold demonref4_SpreadOf.f
  repeat' first
      | (with_reducible exact ih0 _ _ _ _)
      | (with_reducible exact ih1 _ _ _ _ _ _)
      | (with_reducible exact LeO.refl _)
      | (with_reducible exact LeO.none _)
      | (with_reducible refine LeO.ite ?_ ?_)
      | (with_reducible refine LeO.bind ?_ (fun _ => ?_))
      | exact ih0 _ _ _ _
      | exact ih1 _ _ _ _ _ _
      | exact LeO.none _
      | refine LeO.ite ?_ ?_
      | refine LeO.bind ?_ (fun _ => ?_)
set_option maxHeartbeats 8000000 in
set_option maxRecDepth 100000 in
theorem demonref4_SpreadOf.calls (k : Nat) (A0 : Option Addr) (c0 : Nat) (l0 : List (List Int)) (A1 : Option Addr) (c1 : Nat) (l1 : List Int) (r : List Int) (w : World) (hr0 : Kd.C (Kd.slice 3 (Kd.int .i64)) w A0 l0.length l0) (hc0 : l0.length ≤ c0) (hr1 : Kd.C (Kd.int .i64) w A1 l1.length l1) (hc1 : l1.length ≤ c1) (h : demonref4_SpreadOf.f k l0 l1 = some r) :
    Calls Tryd.prog 28 #[.slice A0 l0.length c0, .slice A1 l1.length c1] w fun e w' => ∃ v0_ : Value, e = .returned (v0_) ∧ Kd.R (Kd.int .i64) 3 w' w.heap.size (fun _ => True) v0_ r ∧ Below w.heap.size w w' := by
  have HR0 := Aside0.mk hr0
  have HC0 := Aside0.mk hc0
  clear hr0 hc0
  have HR1 := Aside0.mk hr1
  have HC1 := Aside0.mk hc1
  clear hr1 hc1
  have HB := Aside0.mk (Below.refl w.heap.size w)
  have H : (demonref4_SpreadOf.l0 k l0 l1 ([] : List Int) 0) = some r := h
  clear h
  have H' := Aside0.mk H
  clear H
  go_enter Tryd.func28, Tryd.ntmps28
  go_wp2
  repeat (go_quiet (fail); try go_wp2)
  go_loopg [5, 6] k (fun kq v5 v6 w' => ∃ (x5_1 : List Int) (x6_1 : Int), v6 = .int .i64 x6_1 ∧ Aside0 (demonref4_SpreadOf.l0 kq l0 l1 x5_1 x6_1 = some r) ∧ Aside0 (kq ≤ k) ∧ Aside0 (Kd.R (Kd.int .i64) 3 w' w.heap.size (fun _ => True) v5 x5_1) ∧ Aside0 (Below w.heap.size w w'))
  case atStart => exact ⟨(([] : List Int)), (0), (by first | rfl | (simp; done) | (simp [*]; done)), H', ⟨Nat.le_refl _⟩, ⟨by first | exact Kd.R_nil _ _ _ _ _ | exact Kd.N_nil _ _ _ _ _ | exact Kd.V_nil _ _ _ _ _ | exact Kd.Q_nil _ _ _ _ _ | exact Kd.S_nil _ _ _ _ _⟩, ⟨by repeat (first | (with_reducible first | exact HB.out | apply below_alloc | apply pw_below_drewN | apply below_drew1) | exact HB.out)⟩⟩
  case round =>
    clear H'
    try clear c1
    try clear c2
    try clear p2
    obtain ⟨x5_1, x6_1, rfl, HA, HK1, HO_5, HB⟩ := hrel
    cases gk with
    | zero => exact absurd HA.out (by simp [demonref4_SpreadOf.l0])
    | succ k1 =>
      have H := HA.out
      clear HA
      simp only [demonref4_SpreadOf.l0] at H
      by_cases c3 : x6_1 < (l0.length : Int)
      · rw [if_pos c3] at H
        have c3b0 : decide (x6_1 < (l0.length : Int)) = true := decide_eq_true c3
        clear c3
        have H' := Aside0.mk H
        clear H
        go_wp2
        repeat (go_quiet (fail); try go_wp2)
        go_loopg [7, 8] k1 (fun kq v7 v8 w' => ∃ (x7_2 : Int) (x8_2 : Int), v7 = .int .i64 x7_2 ∧ v8 = .int .i64 x8_2 ∧ Aside0 (demonref4_SpreadOf.l1 kq l0 l1 x5_1 x6_1 x7_2 x8_2 = some r) ∧ Aside0 (kq ≤ k1) ∧ Aside0 (Kd.R (Kd.int .i64) 3 w' w.heap.size (fun _ => True) u5 x5_1) ∧ Aside0 (Below w.heap.size w w'))
        case atStart => exact ⟨(0), (0), (by first | rfl | (simp; done) | (simp [*]; done)), (by first | rfl | (simp; done) | (simp [*]; done)), H', ⟨Nat.le_refl _⟩, ⟨by (with_reducible repeat (first | apply Kd.R_alloc | apply Kd.R_drewN | apply Kd.R_drew)); exact HO_5.out⟩, ⟨by repeat (first | (with_reducible first | exact HB.out | apply below_alloc | apply pw_below_drewN | apply below_drew1) | exact HB.out)⟩⟩
        case round =>
          clear H'
          try clear c1
          try clear c2
          try clear p2
          try clear c3
          try clear c3b0
          try clear p2
          obtain ⟨x7_2, x8_2, rfl, rfl, HA, HK2, HO_5, HB⟩ := hrel
          cases gk with
          | zero => exact absurd HA.out (by simp [demonref4_SpreadOf.l1])
          | succ k2 =>
            have H := HA.out
            clear HA
            simp only [demonref4_SpreadOf.l1] at H
            by_cases c4 : x8_2 < (l1.length : Int)
            · rw [if_pos c4] at H
              have c4b0 : decide (x8_2 < (l1.length : Int)) = true := decide_eq_true c4
              clear c4
              by_cases c5 : 0 ≤ x6_1
              · rw [if_pos c5] at H
                have c5b0 : decide (0 ≤ x6_1) = true := decide_eq_true c5
                clear c5
                by_cases c6 : x6_1 < (l0.length : Int)
                · rw [if_pos c6] at H
                  have c6b0 : decide (x6_1 < (l0.length : Int)) = true := decide_eq_true c6
                  clear c6
                  by_cases c7 : 0 ≤ x8_2
                  · rw [if_pos c7] at H
                    have c7b0 : decide (0 ≤ x8_2) = true := decide_eq_true c7
                    clear c7
                    by_cases c8 : x8_2 < ((rd_L1 l0 x6_1).length : Int)
                    · rw [if_pos c8] at H
                      have c8b0 : decide (x8_2 < ((rd_L1 l0 x6_1).length : Int)) = true := decide_eq_true c8
                      clear c8
                      have H' := Aside0.mk H
                      clear H
                      have p268 : 0 ≤ (x6_1 : Int) := of_decide_eq_true (by first | (with_reducible assumption) | assumption)
                      have q268 : x6_1 < (l0.length : Int) := of_decide_eq_true (by first | (with_reducible assumption) | assumption)
                      obtain ⟨ad268, A268_0, c268_0, e268, hx268_0, hl268_0, hi268_0⟩ := at_L1 HR0.out x6_1 p268 q268
                      cases e268
                      replace hx268_0 := (HB.out.cell (World.block_lt_of_cell? w _ hx268_0)).trans hx268_0
                      have HR268_0 := Aside0.mk hi268_0
                      have HC268_0 := Aside0.mk hl268_0
                      clear hi268_0 hl268_0
                      replace p268 := eq_true p268
                      replace q268 := eq_true q268
                      have p269 : 0 ≤ (x8_2 : Int) := of_decide_eq_true (by first | (with_reducible assumption) | assumption)
                      have q269 : x8_2 < ((rd_L1 l0 x6_1).length : Int) := of_decide_eq_true (by first | (with_reducible assumption) | assumption)
                      obtain ⟨ad269, e269, hx269_0⟩ := Kd.at_int HR268_0.out x8_2 p269 q269
                      cases e269
                      replace hx269_0 := (HB.out.cell (World.block_lt_of_cell? w _ hx269_0)).trans hx269_0
                      replace p269 := eq_true p269
                      replace q269 := eq_true q269
                      have p270 : 0 ≤ (x8_2 : Int) := of_decide_eq_true (by first | (with_reducible assumption) | assumption)
                      have q270 : x8_2 < (l1.length : Int) := of_decide_eq_true (by first | (with_reducible assumption) | assumption)
                      obtain ⟨ad270, e270, hx270_0⟩ := Kd.at_int HR1.out x8_2 p270 q270
                      cases e270
                      replace hx270_0 := (HB.out.cell (World.block_lt_of_cell? w _ hx270_0)).trans hx270_0
                      replace p270 := eq_true p270
                      replace q270 := eq_true q270
                      go_wp2
                      repeat (go_quiet (fail); try go_wp2)
                      go_roundg k2
                      case measure => have := HK1.out; have := HK2.out; omega
                      case rel => exact ⟨(wrap64 (x7_2 + (wrap64 ((rd (rd_L1 l0 x6_1) x8_2) * (rd l1 x8_2))))), (wrap64 (x8_2 + 1)), (by first | rfl | (simp; done) | (simp [*]; done)), (by first | rfl | (simp; done) | (simp [*]; done)), H', ⟨by have := HK1.out; have := HK2.out; omega⟩, ⟨by (with_reducible repeat (first | apply Kd.R_alloc | apply Kd.R_drewN | apply Kd.R_drew)); exact HO_5.out⟩, ⟨by repeat (first | (with_reducible first | exact HB.out | apply below_alloc | apply pw_below_drewN | apply below_drew1) | exact HB.out)⟩⟩
                    · rw [if_neg c8] at H
                      exact absurd H (by simp)
                  · rw [if_neg c7] at H
                    exact absurd H (by simp)
                · rw [if_neg c6] at H
                  exact absurd H (by simp)
              · rw [if_neg c5] at H
                exact absurd H (by simp)
            · rw [if_neg c4] at H
              have c4b0 : decide (x8_2 < (l1.length : Int)) = false := decide_eq_false c4
              clear c4
              by_cases c9 : x5_1.length < 17592186044416
              · rw [if_pos c9] at H
                have LMc9 := Aside0.mk c9
                clear c9
                obtain ⟨y271, hy271⟩ : ∃ y_ : List Int, y_ = (x5_1 ++ [x7_2]) := ⟨_, rfl⟩
                replace H : (demonref4_SpreadOf.l0 k2 l0 l1 y271 (wrap64 (x6_1 + 1))) = some r := by first | (rw [hy271]; with_reducible exact H) | (have H2_ := (Option.bind_some _ _).symm.trans H; rw [hy271]; with_reducible exact H2_) | (have H2_ := (Option.bind_some _ _).symm.trans H; with_reducible exact H2_) | with_reducible exact H | (rw [hy271]; exact H) | exact H
                have Ny271 := Aside0.mk hy271
                clear hy271
                have H' := Aside0.mk H
                clear H
                go_wp2_with (first | ((with_reducible refine gate_builtin (b := .append) (xs := #[.tmp 35, .tmp 37]) rfl ?_); at_builtin; refine Kd.R_append (Kd.int .i64) (w0 := w) w.heap.size rfl (.tmp 35) (.tmp 37) 25 3 (.int .i64 0) 8 rfl Tryd.underlying25 info3 rfl (by decide) (by omega) u5 x5_1 x7_2 [.int .i64 x7_2] (fun _ => True) (fun _ => False) rfl rfl ?aP (fun _ hk => hk.elim) ?aF ?aO ?aB ?aS ?aL ?_; (case aP => exact rfl); (case aB => exact (by repeat (first | (with_reducible first | exact HB.out | apply below_alloc | apply pw_below_drewN | apply below_drew1) | exact HB.out))); (case aF => exact (fun _ _ => trivial)); (case aO => exact (by (with_reducible repeat (first | apply Kd.R_alloc | apply Kd.R_drewN | apply Kd.R_drew)); exact HO_5.out)); (case aS => exact (below_size (by repeat (first | (with_reducible first | exact HB.out | apply below_alloc | apply pw_below_drewN | apply below_drew1) | exact HB.out)))); (case aL => have := LMc9.out; omega); intro v272 w10 ho hb hg hat; rw [← Ny271.out] at ho; have n0_ := Aside0.mk (hb); have n1_ := Aside0.mk (ho); clear HB; clear HO_5; have HB := n0_; have HO273 := n1_; clear n0_ n1_; clear ho hb hg hat))
                repeat (go_quiet (first | ((with_reducible refine gate_builtin (b := .append) (xs := #[.tmp 35, .tmp 37]) rfl ?_); at_builtin; refine Kd.R_append (Kd.int .i64) (w0 := w) w.heap.size rfl (.tmp 35) (.tmp 37) 25 3 (.int .i64 0) 8 rfl Tryd.underlying25 info3 rfl (by decide) (by omega) u5 x5_1 x7_2 [.int .i64 x7_2] (fun _ => True) (fun _ => False) rfl rfl ?aP (fun _ hk => hk.elim) ?aF ?aO ?aB ?aS ?aL ?_; (case aP => exact rfl); (case aB => exact (by repeat (first | (with_reducible first | exact HB.out | apply below_alloc | apply pw_below_drewN | apply below_drew1) | exact HB.out))); (case aF => exact (fun _ _ => trivial)); (case aO => exact (by (with_reducible repeat (first | apply Kd.R_alloc | apply Kd.R_drewN | apply Kd.R_drew)); exact HO_5.out)); (case aS => exact (below_size (by repeat (first | (with_reducible first | exact HB.out | apply below_alloc | apply pw_below_drewN | apply below_drew1) | exact HB.out)))); (case aL => have := LMc9.out; omega); intro v272 w10 ho hb hg hat; rw [← Ny271.out] at ho; have n0_ := Aside0.mk (hb); have n1_ := Aside0.mk (ho); clear HB; clear HO_5; have HB := n0_; have HO273 := n1_; clear n0_ n1_; clear ho hb hg hat)); try go_wp2_with (first | ((with_reducible refine gate_builtin (b := .append) (xs := #[.tmp 35, .tmp 37]) rfl ?_); at_builtin; refine Kd.R_append (Kd.int .i64) (w0 := w) w.heap.size rfl (.tmp 35) (.tmp 37) 25 3 (.int .i64 0) 8 rfl Tryd.underlying25 info3 rfl (by decide) (by omega) u5 x5_1 x7_2 [.int .i64 x7_2] (fun _ => True) (fun _ => False) rfl rfl ?aP (fun _ hk => hk.elim) ?aF ?aO ?aB ?aS ?aL ?_; (case aP => exact rfl); (case aB => exact (by repeat (first | (with_reducible first | exact HB.out | apply below_alloc | apply pw_below_drewN | apply below_drew1) | exact HB.out))); (case aF => exact (fun _ _ => trivial)); (case aO => exact (by (with_reducible repeat (first | apply Kd.R_alloc | apply Kd.R_drewN | apply Kd.R_drew)); exact HO_5.out)); (case aS => exact (below_size (by repeat (first | (with_reducible first | exact HB.out | apply below_alloc | apply pw_below_drewN | apply below_drew1) | exact HB.out)))); (case aL => have := LMc9.out; omega); intro v272 w10 ho hb hg hat; rw [← Ny271.out] at ho; have n0_ := Aside0.mk (hb); have n1_ := Aside0.mk (ho); clear HB; clear HO_5; have HB := n0_; have HO273 := n1_; clear n0_ n1_; clear ho hb hg hat)))
                go_roundg k2
                case measure => have := HK1.out; have := HK2.out; omega
                case rel => exact ⟨(y271), (wrap64 (x6_1 + 1)), (by first | rfl | (simp; done) | (simp [*]; done)), H', ⟨by have := HK1.out; have := HK2.out; omega⟩, ⟨by (with_reducible repeat (first | apply Kd.R_alloc | apply Kd.R_drewN | apply Kd.R_drew)); exact HO273.out⟩, ⟨by repeat (first | (with_reducible first | exact HB.out | apply below_alloc | apply pw_below_drewN | apply below_drew1) | exact HB.out)⟩⟩
              · rw [if_neg c9] at H
                exact absurd H (by simp)
      · rw [if_neg c3] at H
        have c3b0 : decide (x6_1 < (l0.length : Int)) = false := decide_eq_false c3
        clear c3
        obtain rfl := Option.some.inj H
        go_wp2
        repeat (go_quiet (fail); try go_wp2)
        go_ret
        exact ⟨_, by first | rfl | (simp [errW_none, errW_some] <;> rfl) | (simp [*, errW_none, errW_some] <;> rfl), by (with_reducible repeat (first | apply Kd.R_alloc | apply Kd.R_drewN | apply Kd.R_drew)); exact HO_5.out, by repeat (first | (with_reducible first | exact HB.out | apply below_alloc | apply pw_below_drewN | apply below_drew1) | exact HB.out)⟩

-- NOT PRINTED: function 39 (order_square)

-- NOT PRINTED: function 29 (order_Spread)

-- NOT PRINTED: function 6 (demonlaw4_OrderSpread)

end Go.Proofs.YtcnecmcbjpehcaaDoor.POrderSpread

/- Plain words for systems: which pair is bad; the code of a system's error. No condition. -/
namespace Go.Proofs.YtcnecmcbjpehcaaDoor

def badPair (n : Int) (p : Int × Int) : Bool := decide (p.1 < 0 ∨ p.2 < 0 ∨ n ≤ p.1 ∨ n ≤ p.2 ∨ p.1 = p.2)
def vcode (n : Int) (l : List (Int × Int)) : Int := if n < 0 ∨ 14 < n ∨ 30 < l.length then 2 else if l.any (badPair n) then 3 else 0

/-- all pairs ahead of place k are right -/
structure Good (n : Int) (l : List (Int × Int)) (k : Nat) : Prop where
  out : ∀ j, j < k → badPair n (l.getD j (0, 0)) = false
theorem Good.zero (n : Int) (l : List (Int × Int)) : Good n l 0 := ⟨fun j h => absurd h (by omega)⟩
theorem Good.succ {n : Int} {l : List (Int × Int)} {k : Nat} (h : Good n l k) (hk : badPair n (l.getD k (0, 0)) = false) : Good n l (k + 1) :=
  ⟨fun j hj => by
    by_cases e : j = k
    · rw [e]; exact hk
    · exact h.out j (by omega)⟩
theorem getD_eq {α : Type} (l : List α) (i : Nat) (d : α) (h : i < l.length) : l.getD i d = l[i] := by simp [List.getD_eq_getElem?_getD, h]
theorem vcode_big {n : Int} {l : List (Int × Int)} (h : n < 0 ∨ 14 < n ∨ 30 < l.length) : vcode n l = 2 := by unfold vcode; rw [if_pos h]
theorem vcode_bad {n : Int} {l : List (Int × Int)} {k : Nat} (h0 : 0 ≤ n) (h1 : n ≤ 14) (h2 : l.length ≤ 30) (hk : k < l.length) (hb : badPair n (l.getD k (0, 0)) = true) : vcode n l = 3 := by
  unfold vcode
  rw [if_neg (by omega), if_pos]
  rw [List.any_eq_true]
  rw [getD_eq l k _ hk] at hb
  exact ⟨l[k], List.getElem_mem hk, hb⟩
theorem vcode_good {n : Int} {l : List (Int × Int)} (h0 : 0 ≤ n) (h1 : n ≤ 14) (h2 : l.length ≤ 30) (h : Good n l l.length) : vcode n l = 0 := by
  unfold vcode
  rw [if_neg (by omega), if_neg]
  rw [List.any_eq_true]
  rintro ⟨p, hp, hb⟩
  obtain ⟨i, hi, rfl⟩ := List.getElem_of_mem hp
  have := h.out i hi
  rw [getD_eq l i _ hi] at this
  rw [this] at hb
  cases hb
theorem vcode_zero {n : Int} {l : List (Int × Int)} (h : vcode n l = 0) : 0 ≤ n ∧ n ≤ 14 ∧ l.length ≤ 30 ∧ Good n l l.length := by
  unfold vcode at h
  by_cases c : n < 0 ∨ 14 < n ∨ 30 < l.length
  · rw [if_pos c] at h; cases h
  · rw [if_neg c] at h
    by_cases d : l.any (badPair n) = true
    · rw [if_pos d] at h; cases h
    · refine ⟨by omega, by omega, by omega, ⟨fun j hj => ?_⟩⟩
      rw [getD_eq l j _ hj]
      cases e : badPair n l[j]
      · rfl
      · exact absurd (List.any_eq_true.2 ⟨l[j], List.getElem_mem hj, e⟩) d
theorem vcode_cases (n : Int) (l : List (Int × Int)) : vcode n l = 0 ∨ vcode n l = 2 ∨ vcode n l = 3 := by
  unfold vcode
  split
  · exact .inr (.inl rfl)
  · split
    · exact .inr (.inr rfl)
    · exact .inl rfl
theorem badPair_true {n : Int} {p : Int × Int} (h : p.1 < 0 ∨ p.2 < 0 ∨ n ≤ p.1 ∨ n ≤ p.2 ∨ p.1 = p.2) : badPair n p = true := decide_eq_true h
theorem badPair_false {n : Int} {p : Int × Int} (h0 : 0 ≤ p.1) (h1 : 0 ≤ p.2) (h2 : p.1 < n) (h3 : p.2 < n) (h4 : p.1 ≠ p.2) : badPair n p = false := decide_eq_false (by omega)
theorem badPair_of_false {n : Int} {p : Int × Int} (h : badPair n p = false) : 0 ≤ p.1 ∧ 0 ≤ p.2 ∧ p.1 < n ∧ p.2 < n ∧ p.1 ≠ p.2 := by
  have := of_decide_eq_false h
  omega
end Go.Proofs.YtcnecmcbjpehcaaDoor

/- Plain words for lists of numbers and for what lies above what; what the printed functions on them answer. No condition. -/
namespace Go.Proofs.YtcnecmcbjpehcaaDoor
open Go Go.RowKit Go.Proofs.YtcnecmcbjpehcaaDoorW.PrintWords

theorem wrap_up (i : Nat) (h : i ≤ 2000000) : wrap64 ((i : Int) + 1) = ((i + 1 : Nat) : Int) := by
  unfold wrap64
  omega
theorem rd_nat (l : List Int) (i : Nat) : rd l (i : Int) = l.getD i 0 := rfl
theorem take_at (l : List Int) (i : Nat) (h : i < l.length) : l.take (i + 1) = l.take i ++ [l.getD i 0] := by
  rw [List.take_succ_eq_append_getElem h, getD_eq l i 0 h]
theorem sum_take (l : List Int) (i : Nat) (h : i < l.length) : (l.take (i + 1)).sum = (l.take i).sum + l.getD i 0 := by
  rw [take_at l i h, List.sum_append]
  simp
/-- all small: no sum of them wraps -/
def Small (l : List Int) : Prop := l.length ≤ 1000000 ∧ ∀ x, x ∈ l → -1099511627776 ≤ x ∧ x ≤ 1099511627776
theorem Small.get {l : List Int} (h : Small l) (i : Nat) (hi : i < l.length) : -1099511627776 ≤ l.getD i 0 ∧ l.getD i 0 ≤ 1099511627776 := by
  rw [getD_eq l i 0 hi]
  exact h.2 _ (List.getElem_mem hi)
theorem Small.take {l : List Int} (h : Small l) (n : Nat) : Small (l.take n) := ⟨by have := h.1; rw [List.length_take]; omega, fun x hx => h.2 x (List.mem_of_mem_take hx)⟩
theorem Small.sum {l : List Int} (h : Small l) : ∀ i, i ≤ l.length → -(1099511627776 * (i : Int)) ≤ (l.take i).sum ∧ (l.take i).sum ≤ 1099511627776 * (i : Int) := by
  intro i
  induction i with
  | zero => intro _; simp
  | succ i ih =>
    intro hi
    have h1 := ih (by omega)
    have h2 := h.get i (by omega)
    rw [sum_take l i (by omega)]
    omega
theorem Small.sum_all {l : List Int} (h : Small l) : -1099511627776000000 ≤ l.sum ∧ l.sum ≤ 1099511627776000000 := by
  have h1 := h.sum l.length (Nat.le_refl _)
  have h2 := h.1
  rw [List.take_length] at h1
  omega
theorem sum_ev {l : List Int} (h : Small l) : ∀ (d i : Nat), i + d = l.length → Ev (fun k => POrderAbove.demonref1_Sum.l0 k l (l.take i).sum (i : Int)) l.sum := by
  have hl := h.1
  intro d
  induction d with
  | zero =>
    intro i hi
    obtain rfl : i = l.length := by omega
    refine Ev.step (f := fun _ => some l.sum) (fun k => ?_) (Ev.now _)
    simp only [POrderAbove.demonref1_Sum.l0]
    rw [if_neg (by omega), List.take_length]
  | succ d ih =>
    intro i hi
    refine Ev.step (fun k => ?_) (ih (i + 1) (by omega))
    have h1 := h.sum i (by omega)
    have h2 := h.get i (by omega)
    have hw : wrap64 ((l.take i).sum + l.getD i 0) = (l.take (i + 1)).sum := by rw [sum_take l i (by omega)]; unfold wrap64; omega
    simp only [POrderAbove.demonref1_Sum.l0]
    rw [if_pos (by omega), if_pos (by omega), rd_nat, hw, wrap_up i (by omega)]
theorem sum_f {l : List Int} (h : Small l) : Ev (fun k => POrderAbove.demonref1_Sum.f k l) l.sum := sum_ev h l.length 0 (by omega)
theorem total_ev {l : List Int} (h : Small l) : ∀ (d i : Nat), i + d = l.length → Ev (fun k => POrderAbove.dist_Total.l0 k (l.take i).sum l (l.length : Int) (i : Int)) l.sum := by
  have hl := h.1
  intro d
  induction d with
  | zero =>
    intro i hi
    obtain rfl : i = l.length := by omega
    refine Ev.step (f := fun _ => some l.sum) (fun k => ?_) (Ev.now _)
    simp only [POrderAbove.dist_Total.l0]
    rw [if_neg (by omega), List.take_length]
  | succ d ih =>
    intro i hi
    refine Ev.step (fun k => ?_) (ih (i + 1) (by omega))
    have h1 := h.sum i (by omega)
    have h2 := h.get i (by omega)
    have hw : wrap64 ((l.take i).sum + l.getD i 0) = (l.take (i + 1)).sum := by rw [sum_take l i (by omega)]; unfold wrap64; omega
    simp only [POrderAbove.dist_Total.l0]
    rw [if_pos (by omega), if_pos (by omega), if_pos (by omega), rd_nat, hw, wrap_up i (by omega)]
theorem total_f {l : List Int} (h : Small l) : Ev (fun k => POrderAbove.dist_Total.f k l) l.sum := total_ev h l.length 0 (by omega)

/-- a number that no list may hold -/
def badNum (x : Int) : Bool := decide (x < 0) || decide (4096 < x)
/-- from 0 to the greatest weight? -/
def numb (l : List Int) : Bool := !(l.any badNum)
theorem numb_get {l : List Int} (h : numb l = true) (i : Nat) (hi : i < l.length) : 0 ≤ l.getD i 0 ∧ l.getD i 0 ≤ 4096 := by
  unfold numb at h
  rw [Bool.not_eq_true', List.any_eq_false] at h
  have := h l[i] (List.getElem_mem hi)
  rw [getD_eq l i 0 hi]
  simp [badNum] at this
  omega
theorem numb_mem {l : List Int} (h : numb l = true) (x : Int) (hx : x ∈ l) : 0 ≤ x ∧ x ≤ 4096 := by
  unfold numb at h
  rw [Bool.not_eq_true', List.any_eq_false] at h
  have := h x hx
  simp [badNum] at this
  omega
theorem numb_small {l : List Int} (h : numb l = true) (hl : l.length ≤ 1000000) : Small l := ⟨hl, fun x hx => by have := numb_mem h x hx; omega⟩
theorem numbers_ev (l : List Int) (hl : l.length ≤ 2000000) : ∀ (d i : Nat), i + d = l.length → (l.take i).any badNum = false → Ev (fun k => POrderAbove.demonref4_Numbers.l0 k l (i : Int)) (numb l) := by
  intro d
  induction d with
  | zero =>
    intro i hi hn
    obtain rfl : i = l.length := by omega
    rw [List.take_length] at hn
    have e : numb l = true := by unfold numb; rw [hn]; rfl
    rw [e]
    refine Ev.step (f := fun _ => some true) (fun k => ?_) (Ev.now _)
    simp only [POrderAbove.demonref4_Numbers.l0]
    rw [if_neg (by omega)]
  | succ d ih =>
    intro i hi hn
    have hil : i < l.length := by omega
    have bad : badNum (l.getD i 0) = true → numb l = false := fun h => by
      unfold numb
      rw [Bool.not_eq_false', List.any_eq_true]
      exact ⟨l[i], List.getElem_mem hil, by rw [getD_eq l i 0 hil] at h; exact h⟩
    by_cases h1 : l.getD i 0 < 0
    · rw [bad (by unfold badNum; rw [decide_eq_true h1, Bool.true_or])]
      refine Ev.step (f := fun _ => some false) (fun k => ?_) (Ev.now _)
      simp only [POrderAbove.demonref4_Numbers.l0]
      rw [if_pos (by omega), if_pos (by omega), rd_nat, if_pos h1]
    · by_cases h2 : l.getD i 0 > 4096
      · rw [bad (by unfold badNum; rw [decide_eq_true h2, Bool.or_true])]
        refine Ev.step (f := fun _ => some false) (fun k => ?_) (Ev.now _)
        simp only [POrderAbove.demonref4_Numbers.l0]
        rw [if_pos (by omega), if_pos (by omega), rd_nat, if_neg h1, if_pos h2]
      · refine Ev.step (fun k => ?_) (ih (i + 1) (by omega) ?_)
        · simp only [POrderAbove.demonref4_Numbers.l0]
          rw [if_pos (by omega), if_pos (by omega), rd_nat, if_neg h1, if_neg h2, wrap_up i (by omega)]
        · rw [take_at l i hil, List.any_append, hn]
          simp only [List.any_cons, List.any_nil, Bool.false_or, Bool.or_false, badNum]
          rw [decide_eq_false h1, decide_eq_false (show ¬ 4096 < l.getD i 0 from h2)]
          rfl
theorem numbers_f (l : List Int) (hl : l.length ≤ 2000000) : Ev (fun k => POrderAbove.demonref4_Numbers.f k l) (numb l) := numbers_ev l hl l.length 0 (by omega) (by simp)

/-- the code of two lists' error -/
def lErr (p q : List Int) : Int := if 16 < p.length ∨ 16 < q.length then 2 else if numb p = true ∧ numb q = true ∧ p.length ≠ 0 ∧ p.length = q.length ∧ p.sum = q.sum then 0 else 3
theorem listsError_f (p q : List Int) (hp : p.length ≤ 2000000) (hq : q.length ≤ 2000000) : Ev (fun k => POrderAbove.demonref4_ListsError.f k p q) (lErr p q) := by
  have two : ∀ b : Bool, b = true → Ev (fun k => POrderAbove.demonref4_ListsError.j0 k p q b) 2 := fun b hb => Ev.step (f := fun _ => some 2) (fun k => by rw [POrderAbove.demonref4_ListsError.j0, if_pos hb]) (Ev.now _)
  have three : ∀ b : Bool, b = true → Ev (fun k => POrderAbove.demonref4_ListsError.j1 k p q b) 3 := fun b hb => Ev.step (f := fun _ => some 3) (fun k => by rw [POrderAbove.demonref4_ListsError.j1, if_pos hb]) (Ev.now _)
  unfold lErr
  by_cases c1 : (p.length : Int) > 16
  · rw [if_pos (.inl (by omega))]
    exact Ev.congr (fun k => by unfold POrderAbove.demonref4_ListsError.f; rw [if_pos c1]) (two true rfl)
  by_cases c2 : (q.length : Int) > 16
  · rw [if_pos (.inr (by omega))]
    exact Ev.congr (fun k => by unfold POrderAbove.demonref4_ListsError.f; rw [if_neg c1]) (two _ (decide_eq_true c2))
  rw [if_neg (by omega)]
  refine Ev.congr (f := fun k => POrderAbove.demonref4_ListsError.j0 k p q (decide ((q.length : Int) > 16))) (fun k => by unfold POrderAbove.demonref4_ListsError.f; rw [if_neg c1]) ?_
  refine Ev.step (fun k => by rw [POrderAbove.demonref4_ListsError.j0, if_neg (by simp; omega)]) (Ev.bind (numbers_f p hp) (Ev.bind (numbers_f q hq) ?_))
  by_cases h1 : numb p = true
  · by_cases h2 : numb q = true
    · by_cases h3 : (p.length : Int) = 0
      · rw [if_neg (fun g => g.2.2.1 (by omega))]
        exact Ev.congr (fun k => by rw [if_pos h1, if_pos h2, if_pos h3]) (three true rfl)
      · refine Ev.congr (f := fun k => POrderAbove.demonref4_ListsError.j1 k p q ((p.length : Int) != (q.length : Int))) (fun k => by rw [if_pos h1, if_pos h2, if_neg h3]) ?_
        by_cases h4 : (p.length : Int) = (q.length : Int)
        · have hsp := sum_f (numb_small h1 (by omega))
          have hsq := sum_f (numb_small h2 (by omega))
          refine Ev.step (fun k => by rw [POrderAbove.demonref4_ListsError.j1, if_neg (by rw [h4]; simp)]) (Ev.bind hsp (Ev.bind hsq ?_))
          by_cases h5 : p.sum = q.sum
          · have e : (if numb p = true ∧ numb q = true ∧ p.length ≠ 0 ∧ p.length = q.length ∧ p.sum = q.sum then (0 : Int) else 3) = 0 := if_pos ⟨h1, h2, by omega, by omega, h5⟩
            rw [e]
            exact Ev.congr (fun k => by rw [if_pos h5]) (Ev.now _)
          · have e : (if numb p = true ∧ numb q = true ∧ p.length ≠ 0 ∧ p.length = q.length ∧ p.sum = q.sum then (0 : Int) else 3) = 3 := if_neg (fun g => h5 g.2.2.2.2)
            rw [e]
            exact Ev.congr (fun k => by rw [if_neg h5]) (Ev.now _)
        · rw [if_neg (fun g => h4 (by have := g.2.2.2.1; omega))]
          exact three _ (by rw [bne_iff_ne]; exact h4)
    · rw [if_neg (fun g => h2 g.2.1)]
      exact Ev.congr (fun k => by rw [if_pos h1, if_neg h2]) (three true rfl)
  · rw [if_neg (fun g => h1 g.1)]
    exact Ev.congr (fun k => by rw [if_neg h1]) (three true rfl)

/-- the numbers in order -/
def sorted (l : List Int) : List Int := l.mergeSort fun x y => decide (x ≤ y)
theorem sorted_length (l : List Int) : (sorted l).length = l.length := List.length_mergeSort l
theorem sorted_perm (l : List Int) : (sorted l).Perm l := List.mergeSort_perm l _
theorem sorted_le (l : List Int) : (sorted l).Pairwise (fun a b => a ≤ b) := by
  have h := List.pairwise_mergeSort (le := fun (x y : Int) => decide (x ≤ y)) (fun a b c h1 h2 => by simp at *; omega) (fun a b => by simp; omega) l
  exact h.imp fun h => by simpa using h
/-- the greatest first -/
def falls (l : List Int) : List Int := (sorted l).reverse
theorem falls_length (l : List Int) : (falls l).length = l.length := by unfold falls; rw [List.length_reverse, sorted_length]
theorem falls_perm (l : List Int) : (falls l).Perm l := (List.reverse_perm _).trans (sorted_perm l)
theorem falls_desc (l : List Int) : (falls l).Pairwise (fun a b => b ≤ a) := by
  unfold falls
  rw [List.pairwise_reverse]
  exact sorted_le l
theorem falls_unique {l m : List Int} (hp : m.Perm l) (hd : m.Pairwise (fun a b => b ≤ a)) : m = falls l :=
  List.Perm.eq_of_pairwise (le := fun a b => b ≤ a) (fun a b _ _ h1 h2 => by omega) hd (falls_desc l) (hp.trans (falls_perm l).symm)
theorem falls_numb {l : List Int} (h : numb l = true) : numb (falls l) = true := by
  unfold numb
  rw [Bool.not_eq_true', List.any_eq_false]
  intro x hx
  have := numb_mem h x ((falls_perm l).mem_iff.1 hx)
  simp [badNum]
  omega
/-- put in behind all that are not less -/
def insD : List Int → Int → List Int
  | [], x => [x]
  | y :: ys, x => if x ≤ y then y :: insD ys x else x :: y :: ys
theorem insD_perm (x : Int) : ∀ d, (insD d x).Perm (d ++ [x])
  | [] => List.Perm.refl _
  | y :: ys => by
    rw [insD]
    split
    · exact (insD_perm x ys).cons y
    · exact ((List.perm_append_comm (l₁ := [x]) (l₂ := y :: ys)))
theorem insD_mem {x z : Int} {d : List Int} (h : z ∈ insD d x) : z = x ∨ z ∈ d := by
  have := (insD_perm x d).mem_iff.1 h
  rw [List.mem_append, List.mem_singleton] at this
  exact this.symm
theorem insD_desc (x : Int) : ∀ d, d.Pairwise (fun a b => b ≤ a) → (insD d x).Pairwise (fun a b => b ≤ a)
  | [], _ => List.pairwise_singleton _ _
  | y :: ys, h => by
    rw [List.pairwise_cons] at h
    rw [insD]
    split
    · rw [List.pairwise_cons]
      refine ⟨fun z hz => ?_, insD_desc x ys h.2⟩
      rcases insD_mem hz with rfl | hz
      · assumption
      · exact h.1 z hz
    · rename_i hxy
      rw [List.pairwise_cons, List.pairwise_cons]
      refine ⟨fun z hz => ?_, h⟩
      rcases List.mem_cons.1 hz with rfl | hz
      · omega
      · have := h.1 z hz
        omega
theorem insD_at (x : Int) : ∀ (d : List Int) (k : Nat), k ≤ d.length → (∀ j, j < k → x ≤ d.getD j 0) → (k < d.length → d.getD k 0 < x) → d.take k ++ [x] ++ d.drop k = insD d x
  | [], k, _, _, _ => by simp [insD]
  | y :: ys, 0, _, _, h => by
    have : y < x := by simpa using h (by simp)
    rw [insD, if_neg (by omega)]
    rfl
  | y :: ys, k + 1, hk, hj, h => by
    have h0 : x ≤ y := by simpa using hj 0 (by omega)
    rw [insD, if_pos h0, ← insD_at x ys k (by simpa using hk) (fun j hj' => by simpa using hj (j + 1) (by omega)) (fun hk' => by simpa using h (by simpa using hk'))]
    rfl
/-- the reference's way -/
def fallR (l : List Int) : List Int := l.foldl insD []
theorem fold_insD : ∀ (l d : List Int), d.Pairwise (fun a b => b ≤ a) → (l.foldl insD d).Perm (d ++ l) ∧ (l.foldl insD d).Pairwise (fun a b => b ≤ a)
  | [], d, h => ⟨by simp, h⟩
  | x :: l, d, h => by
    obtain ⟨h1, h2⟩ := fold_insD l (insD d x) (insD_desc x d h)
    refine ⟨h1.trans ?_, h2⟩
    have := (insD_perm x d).append_right l
    rwa [List.append_assoc] at this
theorem fallR_eq (l : List Int) : fallR l = falls l := by
  obtain ⟨h1, h2⟩ := fold_insD l [] List.Pairwise.nil
  have h3 : (l.foldl insD []).Perm l := by simpa using h1
  exact falls_unique h3 h2
theorem falling_ev (l : List Int) (hl : l.length ≤ 1000000) : ∀ (e i : Nat), i + e = l.length → Ev (fun k => POrderAbove.demonref4_Falling.l0 k l ((l.take i).foldl insD []) (i : Int)) (fallR l) := by
  intro e
  induction e with
  | zero =>
    intro i hi
    obtain rfl : i = l.length := by omega
    rw [List.take_length]
    refine Ev.step (f := fun _ => some (fallR l)) (fun k => ?_) (Ev.now _)
    simp only [POrderAbove.demonref4_Falling.l0]
    rw [if_neg (by omega)]
    rfl
  | succ e ih =>
    intro i hi
    have hil : i < l.length := by omega
    have hdl : ((l.take i).foldl insD []).length = i := by
      have := (fold_insD (l.take i) [] List.Pairwise.nil).1.length_eq
      rw [List.nil_append, List.length_take] at this
      omega
    have hnx : (l.take (i + 1)).foldl insD [] = insD ((l.take i).foldl insD []) (l.getD i 0) := by rw [take_at l i hil, List.foldl_append]; rfl
    have hih := ih (i + 1) (by omega)
    rw [hnx] at hih
    generalize (l.take i).foldl insD [] = d at hdl hih ⊢
    have inner : ∀ (c j : Nat), j + c = d.length → (∀ a, a < j → l.getD i 0 ≤ d.getD a 0) → Ev (fun k => POrderAbove.demonref4_Falling.l1 k l d (i : Int) (j : Int)) (fallR l) := by
      intro c
      induction c with
      | zero =>
        intro j hj ha
        obtain rfl : j = d.length := by omega
        have hins := insD_at (l.getD i 0) d d.length (Nat.le_refl _) ha (fun h => absurd h (Nat.lt_irrefl _))
        rw [← hins] at hih
        refine Ev.step (fun k => ?_) hih
        simp only [POrderAbove.demonref4_Falling.l1]
        rw [if_neg (by omega), if_pos (by omega), if_pos (by omega), Option.bind_some, if_pos (by simp; omega), Option.bind_some, if_pos (by omega), if_pos (by omega), if_pos (by simp; omega), Option.bind_some, Option.bind_some, if_pos (by simp; omega), rd_nat, wrap_up i (by omega), Int.toNat_natCast, List.nil_append]
      | succ c ihc =>
        intro j hj ha
        have hjd : j < d.length := by omega
        by_cases hc : d.getD j 0 ≥ l.getD i 0
        · refine Ev.step (fun k => ?_) (ihc (j + 1) (by omega) (fun a haj => ?_))
          · simp only [POrderAbove.demonref4_Falling.l1]
            rw [if_pos (by omega), if_pos (by omega), if_pos (by omega), if_pos (by omega), rd_nat, rd_nat, if_pos hc, wrap_up j (by omega)]
          · rcases Nat.lt_or_ge a j with h | h
            · exact ha a h
            · obtain rfl : a = j := by omega
              exact hc
        · have hins := insD_at (l.getD i 0) d j (by omega) ha (fun _ => by omega)
          rw [← hins] at hih
          refine Ev.step (fun k => ?_) hih
          simp only [POrderAbove.demonref4_Falling.l1]
          rw [if_pos (by omega), if_pos (by omega), if_pos (by omega), if_pos (by omega), rd_nat, rd_nat, if_neg hc, if_pos (by omega), Option.bind_some, if_pos (by simp; omega), Option.bind_some, if_pos (by simp; omega), Option.bind_some, Option.bind_some, if_pos (by simp; omega), wrap_up i (by omega), Int.toNat_natCast, List.nil_append]
    refine Ev.step (fun k => ?_) (inner d.length 0 (by omega) (fun a h => absurd h (Nat.not_lt_zero _)))
    simp only [POrderAbove.demonref4_Falling.l0]
    rw [if_pos (by omega)]
    rfl
theorem falling_f (l : List Int) (hl : l.length ≤ 1000000) : Ev (fun k => POrderAbove.demonref4_Falling.f k l) (falls l) := by
  have := falling_ev l hl l.length 0 (by omega)
  rw [fallR_eq] at this
  exact this
/-- of the first k the sums of both lists -/
def aboveTo (a b : List Int) (n : Nat) : Bool := (List.range n).all fun k => decide ((b.take k).sum ≤ (a.take k).sum)
def aboveB (p q : List Int) : Bool := aboveTo (falls p) (falls q) (p.length + 1)
theorem aboveTo_succ (a b : List Int) (n : Nat) : aboveTo a b (n + 1) = (aboveTo a b n && decide ((b.take n).sum ≤ (a.take n).sum)) := by
  unfold aboveTo
  rw [List.range_succ, List.all_append]
  simp
theorem aboveTo_false {a b : List Int} {n m : Nat} (h : ¬ (b.take n).sum ≤ (a.take n).sum) (hn : n < m) : aboveTo a b m = false := by
  unfold aboveTo
  rw [List.all_eq_false]
  exact ⟨n, List.mem_range.2 hn, by simp; omega⟩
theorem isAbove_l0 {a b : List Int} (ha : Small a) (hb : Small b) (hab : a.length = b.length) : ∀ (e k0 : Nat), k0 + e = a.length + 1 → aboveTo a b k0 = true → Ev (fun k => POrderAbove.demonref4_IsAbove.l0 k a b (k0 : Int)) (aboveTo a b (a.length + 1)) := by
  have hl := ha.1
  intro e
  induction e with
  | zero =>
    intro k0 hk h
    obtain rfl : k0 = a.length + 1 := by omega
    rw [h]
    refine Ev.step (f := fun _ => some true) (fun k => ?_) (Ev.now _)
    simp only [POrderAbove.demonref4_IsAbove.l0]
    rw [if_neg (by omega)]
  | succ e ih =>
    intro k0 hk h
    have h1 := sum_f (ha.take k0)
    have h2 := sum_f (hb.take k0)
    by_cases hc : (a.take k0).sum < (b.take k0).sum
    · rw [aboveTo_false (by omega) (by omega : k0 < a.length + 1)]
      refine Ev.step (f := fun k => (POrderAbove.demonref1_Sum.f k (a.take k0)).bind fun t => if (k0 : Int) ≤ (b.length : Int) then (POrderAbove.demonref1_Sum.f k (b.take k0)).bind fun s => if t < s then some false else POrderAbove.demonref4_IsAbove.l0 k a b (wrap64 ((k0 : Int) + 1)) else none) (fun k => ?_) (Ev.bind h1 (Ev.congr (fun k => by rw [if_pos (by omega)]) (Ev.bind h2 (Ev.congr (fun k => by rw [if_pos hc]) (Ev.now _)))))
      simp only [POrderAbove.demonref4_IsAbove.l0]
      rw [if_pos (by omega), if_pos (by omega), Int.toNat_natCast]
    · have hih := ih (k0 + 1) (by omega) (by rw [aboveTo_succ, h, decide_eq_true (by omega)]; rfl)
      rw [← wrap_up k0 (by omega)] at hih
      refine Ev.step (f := fun k => (POrderAbove.demonref1_Sum.f k (a.take k0)).bind fun t => if (k0 : Int) ≤ (b.length : Int) then (POrderAbove.demonref1_Sum.f k (b.take k0)).bind fun s => if t < s then some false else POrderAbove.demonref4_IsAbove.l0 k a b (wrap64 ((k0 : Int) + 1)) else none) (fun k => ?_) (Ev.bind h1 (Ev.congr (fun k => by rw [if_pos (by omega)]) (Ev.bind h2 (Ev.congr (fun k => by rw [if_neg hc]) hih))))
      simp only [POrderAbove.demonref4_IsAbove.l0]
      rw [if_pos (by omega), if_pos (by omega), Int.toNat_natCast]
theorem falls_small {l : List Int} (h : Small l) : Small (falls l) := ⟨by rw [falls_length]; exact h.1, fun x hx => h.2 x ((falls_perm l).mem_iff.1 hx)⟩
theorem isAbove_f {p q : List Int} (hp : Small p) (hq : Small q) (hpq : p.length = q.length) : Ev (fun k => POrderAbove.demonref4_IsAbove.f k p q) (aboveB p q) := by
  refine Ev.bind (falling_f p hp.1) (Ev.bind (falling_f q hq.1) ?_)
  have := isAbove_l0 (falls_small hp) (falls_small hq) (by rw [falls_length, falls_length, hpq]) (p.length + 1) 0 (by rw [falls_length]; omega) rfl
  rwa [falls_length] at this
end Go.Proofs.YtcnecmcbjpehcaaDoor

/- Plain words for tables whose rows and columns have one sum, and for what they make of weights; what the printed functions on them answer. No condition. -/
namespace Go.Proofs.YtcnecmcbjpehcaaDoor
open Go Go.RowKit Go.Proofs.YtcnecmcbjpehcaaDoorW.PrintWords Go.Proofs.YtcnecmcbjpehcaaDoor.POrderSpread

theorem rdL_nat (m : List (List Int)) (i : Nat) : rd_L1 m (i : Int) = m.getD i [] := rfl
theorem sumS_l0 (l : List Int) : ∀ (k : Nat) (s i : Int), POrderSpread.demonref1_Sum.l0 k l s i = POrderAbove.demonref1_Sum.l0 k l s i
  | 0, _, _ => rfl
  | k + 1, s, i => by simp only [POrderSpread.demonref1_Sum.l0, POrderAbove.demonref1_Sum.l0, sumS_l0 l k]
theorem sumS_f {l : List Int} (h : Small l) : Ev (fun k => POrderSpread.demonref1_Sum.f k l) l.sum := Ev.congr (fun k => sumS_l0 l k 0 0) (sum_f h)
theorem numbersS_l0 (l : List Int) : ∀ (k : Nat) (i : Int), POrderSpread.demonref4_Numbers.l0 k l i = POrderAbove.demonref4_Numbers.l0 k l i
  | 0, _ => rfl
  | k + 1, i => by simp only [POrderSpread.demonref4_Numbers.l0, POrderAbove.demonref4_Numbers.l0, numbersS_l0 l k]
theorem numbersS_f (l : List Int) (hl : l.length ≤ 2000000) : Ev (fun k => POrderSpread.demonref4_Numbers.f k l) (numb l) := Ev.congr (fun k => numbersS_l0 l k 0) (numbers_f l hl)
theorem getDL_eq (l : List (List Int)) (i : Nat) (h : i < l.length) : l.getD i [] = l[i] := by simp [List.getD_eq_getElem?_getD, h]
theorem takeL_at (l : List (List Int)) (i : Nat) (h : i < l.length) : l.take (i + 1) = l.take i ++ [l.getD i []] := by
  rw [List.take_succ_eq_append_getElem h, getDL_eq l i h]

/-- a row that may stand in a table of n rows -/
def goodRow (n : Nat) (r : List Int) : Bool := numb r && decide (r.length = n)
/-- a column's sum, of the first k rows -/
def colTo (m : List (List Int)) (i k : Nat) : Int := ((m.take k).map fun r => r.getD i 0).sum
def colSum (m : List (List Int)) (i : Nat) : Int := colTo m i m.length
theorem colTo_succ (m : List (List Int)) (i k : Nat) (h : k < m.length) : colTo m i (k + 1) = colTo m i k + (m.getD k []).getD i 0 := by
  unfold colTo
  rw [takeL_at m k h, List.map_append, List.sum_append]
  simp
/-- the sums at place i are right -/
def goodAt (m : List (List Int)) (i : Nat) : Bool := decide ((m.getD i []).sum = (m.getD 0 []).sum) && decide (colSum m i = (m.getD 0 []).sum)
/-- the code of a table's error -/
def sqErr (m : List (List Int)) : Int := if 8 < m.length then 2 else if m.length = 0 then 3 else if (m.all (goodRow m.length) && (List.range m.length).all (goodAt m)) = true then 0 else 3
theorem goodRow_get {m : List (List Int)} (h : m.all (goodRow m.length) = true) (i : Nat) (hi : i < m.length) : numb (m.getD i []) = true ∧ (m.getD i []).length = m.length := by
  rw [List.all_eq_true] at h
  have := h (m.getD i []) (by rw [getDL_eq m i hi]; exact List.getElem_mem hi)
  simpa [goodRow] using this
theorem colTo_bound {m : List (List Int)} (h : m.all (goodRow m.length) = true) (i : Nat) (hi : i < m.length) : ∀ k, k ≤ m.length → 0 ≤ colTo m i k ∧ colTo m i k ≤ 4096 * (k : Int) := by
  intro k
  induction k with
  | zero => intro _; simp [colTo]
  | succ k ih =>
    intro hk
    have h1 := ih (by omega)
    obtain ⟨g1, g2⟩ := goodRow_get h k (by omega)
    have h2 := numb_get g1 i (by omega)
    rw [colTo_succ m i k (by omega)]
    omega
theorem squareError_l2 {m : List (List Int)} (h : m.all (goodRow m.length) = true) (h8 : m.length ≤ 8) (i : Nat) (hi : i < m.length) (r : Int)
    (yes : goodAt m i = true → Ev (fun k => POrderSpread.demonref4_SquareError.l1 k m ((i + 1 : Nat) : Int)) r) (no : goodAt m i = false → r = 3) :
    ∀ (d j : Nat), j + d = m.length → Ev (fun k => POrderSpread.demonref4_SquareError.l2 k m (i : Int) (colTo m i j) (j : Int)) r := by
  intro d
  induction d with
  | zero =>
    intro j hj
    obtain rfl : j = m.length := by omega
    have s1 := sumS_f (numb_small (goodRow_get h i hi).1 (by have := (goodRow_get h i hi).2; omega))
    have s0 := sumS_f (numb_small (goodRow_get h 0 (by omega)).1 (by have := (goodRow_get h 0 (by omega)).2; omega))
    have body : Ev (fun k => (POrderSpread.demonref1_Sum.f k (m.getD i [])).bind fun t => if 0 < (m.length : Int) then (POrderSpread.demonref1_Sum.f k (m.getD 0 [])).bind fun s => if t = s then (POrderSpread.demonref1_Sum.f k (m.getD 0 [])).bind fun u => if colTo m i m.length = u then POrderSpread.demonref4_SquareError.l1 k m (wrap64 ((i : Int) + 1)) else some 3 else some 3 else none) r := by
      refine Ev.bind s1 (Ev.congr (fun k => by rw [if_pos (by omega)]) (Ev.bind s0 ?_))
      by_cases c1 : (m.getD i []).sum = (m.getD 0 []).sum
      · refine Ev.congr (fun k => by rw [if_pos c1]) (Ev.bind s0 ?_)
        by_cases c2 : colTo m i m.length = (m.getD 0 []).sum
        · refine Ev.congr (fun k => by rw [if_pos c2, wrap_up i (by omega)]) (yes ?_)
          unfold goodAt colSum
          rw [decide_eq_true c1, decide_eq_true c2]
          rfl
        · rw [no (by unfold goodAt colSum; rw [decide_eq_false c2, Bool.and_false])]
          exact Ev.congr (fun k => by rw [if_neg c2]) (Ev.now _)
      · rw [no (by unfold goodAt; rw [decide_eq_false c1, Bool.false_and])]
        exact Ev.congr (fun k => by rw [if_neg c1]) (Ev.now _)
    refine Ev.step (fun k => ?_) body
    simp only [POrderSpread.demonref4_SquareError.l2]
    rw [if_neg (by omega), if_pos (by omega), if_pos (by omega)]
    rfl
  | succ d ih =>
    intro j hj
    have hb := colTo_bound h i hi j (by omega)
    have hg := goodRow_get h j (by omega)
    have hx := numb_get hg.1 i (by omega)
    refine Ev.step (fun k => ?_) (ih (j + 1) (by omega))
    simp only [POrderSpread.demonref4_SquareError.l2]
    have hw : wrap64 (colTo m i j + (m.getD j []).getD i 0) = colTo m i (j + 1) := by rw [colTo_succ m i j (by omega)]; unfold wrap64; omega
    rw [if_pos (by omega), if_pos (by omega), if_pos (by omega), rdL_nat, if_pos (by omega), rd_nat, hw, wrap_up j (by omega)]
theorem squareError_l1 {m : List (List Int)} (h : m.all (goodRow m.length) = true) (h8 : m.length ≤ 8) : ∀ (d i : Nat), i + d = m.length → (List.range i).all (goodAt m) = true → Ev (fun k => POrderSpread.demonref4_SquareError.l1 k m (i : Int)) (if (List.range m.length).all (goodAt m) = true then 0 else 3) := by
  intro d
  induction d with
  | zero =>
    intro i hi ha
    obtain rfl : i = m.length := by omega
    rw [if_pos ha]
    refine Ev.step (f := fun _ => some 0) (fun k => ?_) (Ev.now _)
    simp only [POrderSpread.demonref4_SquareError.l1]
    rw [if_neg (by omega)]
  | succ d ih =>
    intro i hi ha
    have hl2 := squareError_l2 h h8 i (by omega) (if (List.range m.length).all (goodAt m) = true then 0 else 3) (fun hg => ih (i + 1) (by omega) (by rw [List.range_succ, List.all_append, ha]; simp [hg])) (fun hg => if_neg (fun ht => by
      have := List.all_eq_true.1 ht i (List.mem_range.2 (by omega))
      rw [hg] at this
      cases this)) m.length 0 (by omega)
    refine Ev.step (fun k => ?_) hl2
    simp only [POrderSpread.demonref4_SquareError.l1]
    rw [if_pos (by omega)]
    rfl
theorem squareError_l0 (m : List (List Int)) (h8 : m.length ≤ 8) (hr : ∀ r, r ∈ m → r.length ≤ 2000000) : ∀ (d i : Nat), i + d = m.length → (m.take i).all (goodRow m.length) = true → Ev (fun k => POrderSpread.demonref4_SquareError.l0 k m (i : Int)) (if (m.all (goodRow m.length) && (List.range m.length).all (goodAt m)) = true then 0 else 3) := by
  intro d
  induction d with
  | zero =>
    intro i hi ha
    obtain rfl : i = m.length := by omega
    rw [List.take_length] at ha
    rw [ha, Bool.true_and]
    refine Ev.step (fun k => ?_) (squareError_l1 ha h8 m.length 0 (by omega) rfl)
    simp only [POrderSpread.demonref4_SquareError.l0]
    rw [if_neg (by omega)]
    rfl
  | succ d ih =>
    intro i hi ha
    have hm : m.getD i [] ∈ m := by rw [getDL_eq m i (by omega)]; exact List.getElem_mem _
    have hn := numbersS_f (m.getD i []) (hr _ hm)
    have bad : goodRow m.length (m.getD i []) = false → (if (m.all (goodRow m.length) && (List.range m.length).all (goodAt m)) = true then (0 : Int) else 3) = 3 := fun hb => if_neg (fun ht => by
      rw [Bool.and_eq_true] at ht
      have := List.all_eq_true.1 ht.1 _ hm
      rw [hb] at this
      cases this)
    have body : Ev (fun k => (POrderSpread.demonref4_Numbers.f k (m.getD i [])).bind fun t => if t = true then (if ((m.getD i []).length : Int) = (m.length : Int) then POrderSpread.demonref4_SquareError.l0 k m (wrap64 ((i : Int) + 1)) else some 3) else some 3) (if (m.all (goodRow m.length) && (List.range m.length).all (goodAt m)) = true then 0 else 3) := by
      refine Ev.bind hn ?_
      by_cases c1 : numb (m.getD i []) = true
      · by_cases c2 : ((m.getD i []).length : Int) = (m.length : Int)
        · refine Ev.congr (fun k => by rw [if_pos c1, if_pos c2, wrap_up i (by omega)]) (ih (i + 1) (by omega) ?_)
          rw [takeL_at m i (by omega), List.all_append, ha]
          have c2' : (m.getD i []).length = m.length := by omega
          simp only [List.all_cons, List.all_nil, Bool.and_true, goodRow, c1, c2', decide_true]
        · rw [bad (by unfold goodRow; rw [decide_eq_false (by omega), Bool.and_false])]
          exact Ev.congr (fun k => by rw [if_pos c1, if_neg c2]) (Ev.now _)
      · rw [bad (by unfold goodRow; cases h : numb (m.getD i []) with
          | true => exact absurd h c1
          | false => rfl)]
        exact Ev.congr (fun k => by rw [if_neg c1]) (Ev.now _)
    refine Ev.step (fun k => ?_) body
    simp only [POrderSpread.demonref4_SquareError.l0]
    rw [if_pos (by omega), if_pos (by omega), rdL_nat]
theorem squareError_f (m : List (List Int)) (hr : ∀ r, r ∈ m → r.length ≤ 2000000) : Ev (fun k => POrderSpread.demonref4_SquareError.f k m) (sqErr m) := by
  unfold sqErr
  by_cases c1 : (m.length : Int) > 8
  · rw [if_pos (by omega)]
    exact Ev.congr (fun k => by unfold POrderSpread.demonref4_SquareError.f; rw [if_pos c1]) (Ev.now _)
  rw [if_neg (by omega)]
  by_cases c2 : (m.length : Int) = 0
  · rw [if_pos (by omega)]
    exact Ev.congr (fun k => by unfold POrderSpread.demonref4_SquareError.f; rw [if_neg c1, if_pos c2]) (Ev.now _)
  rw [if_neg (by omega)]
  exact Ev.congr (fun k => by unfold POrderSpread.demonref4_SquareError.f; rw [if_neg c1, if_neg c2]; rfl) (squareError_l0 m (by omega) hr m.length 0 (by omega) rfl)

/-- what a row makes of the first k weights -/
def dotTo (r w : List Int) (k : Nat) : Int := ((List.range k).map fun j => r.getD j 0 * w.getD j 0).sum
theorem dotTo_succ (r w : List Int) (k : Nat) : dotTo r w (k + 1) = dotTo r w k + r.getD k 0 * w.getD k 0 := by
  unfold dotTo
  rw [List.range_succ, List.map_append, List.sum_append]
  simp
def spreadOf (m : List (List Int)) (w : List Int) : List Int := m.map fun r => dotTo r w w.length
theorem mul_bound {x y : Int} (hx : 0 ≤ x ∧ x ≤ 4096) (hy : 0 ≤ y ∧ y ≤ 4096) : 0 ≤ x * y ∧ x * y ≤ 16777216 := by
  obtain ⟨q, hq, hq2⟩ : ∃ q : Nat, x * y = q ∧ q ≤ 4096 * 4096 := by
    obtain ⟨a, rfl⟩ := Int.eq_ofNat_of_zero_le hx.1
    obtain ⟨b, rfl⟩ := Int.eq_ofNat_of_zero_le hy.1
    exact ⟨a * b, by push_cast; rfl, Nat.mul_le_mul (by omega) (by omega)⟩
  omega
theorem dotTo_bound {r w : List Int} (hr : numb r = true) (hw : numb w = true) (hl : r.length = w.length) : ∀ k, k ≤ w.length → 0 ≤ dotTo r w k ∧ dotTo r w k ≤ 16777216 * (k : Int) := by
  intro k
  induction k with
  | zero => intro _; simp [dotTo]
  | succ k ih =>
    intro hk
    have h1 := ih (by omega)
    have h2 := mul_bound (numb_get hr k (by omega)) (numb_get hw k (by omega))
    rw [dotTo_succ]
    omega
theorem spreadOf_ev {m : List (List Int)} {w : List Int} (h : m.all (goodRow m.length) = true) (h8 : m.length ≤ 8) (hw : numb w = true) (hl : w.length = m.length) : ∀ (d i : Nat), i + d = m.length → Ev (fun k => POrderSpread.demonref4_SpreadOf.l0 k m w (spreadOf (m.take i) w) (i : Int)) (spreadOf m w) := by
  intro d
  induction d with
  | zero =>
    intro i hi
    obtain rfl : i = m.length := by omega
    rw [List.take_length]
    refine Ev.step (f := fun _ => some (spreadOf m w)) (fun k => ?_) (Ev.now _)
    simp only [POrderSpread.demonref4_SpreadOf.l0]
    rw [if_neg (by omega)]
  | succ d ih =>
    intro i hi
    have hg := goodRow_get h i (by omega)
    have hnx := ih (i + 1) (by omega)
    have hsp : spreadOf (m.take (i + 1)) w = spreadOf (m.take i) w ++ [dotTo (m.getD i []) w w.length] := by
      unfold spreadOf
      rw [takeL_at m i (by omega), List.map_append]
      rfl
    have hlen : (spreadOf (m.take i) w).length = i := by unfold spreadOf; rw [List.length_map, List.length_take]; omega
    rw [hsp] at hnx
    have inner : ∀ (c j : Nat), j + c = w.length → Ev (fun k => POrderSpread.demonref4_SpreadOf.l1 k m w (spreadOf (m.take i) w) (i : Int) (dotTo (m.getD i []) w j) (j : Int)) (spreadOf m w) := by
      intro c
      induction c with
      | zero =>
        intro j hj
        obtain rfl : j = w.length := by omega
        refine Ev.step (fun k => ?_) hnx
        simp only [POrderSpread.demonref4_SpreadOf.l1]
        rw [if_neg (by omega), if_pos (by rw [hlen]; omega), wrap_up i (by omega)]
      | succ c ihc =>
        intro j hj
        have hb := dotTo_bound hg.1 hw (by omega) j (by omega)
        have hm := mul_bound (numb_get hg.1 j (by omega)) (numb_get hw j (by omega))
        refine Ev.step (fun k => ?_) (ihc (j + 1) (by omega))
        have w1 : wrap64 ((m.getD i []).getD j 0 * w.getD j 0) = (m.getD i []).getD j 0 * w.getD j 0 := by unfold wrap64; omega
        have w2 : wrap64 (dotTo (m.getD i []) w j + (m.getD i []).getD j 0 * w.getD j 0) = dotTo (m.getD i []) w (j + 1) := by rw [dotTo_succ]; unfold wrap64; omega
        simp only [POrderSpread.demonref4_SpreadOf.l1]
        rw [if_pos (by omega), if_pos (by omega), if_pos (by omega), if_pos (by omega), rdL_nat, if_pos (by omega), rd_nat, rd_nat, w1, w2, wrap_up j (by omega)]
    refine Ev.step (fun k => ?_) (inner w.length 0 (by omega))
    simp only [POrderSpread.demonref4_SpreadOf.l0]
    rw [if_pos (by omega)]
    rfl
theorem spreadOf_f {m : List (List Int)} {w : List Int} (h : m.all (goodRow m.length) = true) (h8 : m.length ≤ 8) (hw : numb w = true) (hl : w.length = m.length) : Ev (fun k => POrderSpread.demonref4_SpreadOf.f k m w) (spreadOf m w) := spreadOf_ev h h8 hw hl m.length 0 (by omega)
end Go.Proofs.YtcnecmcbjpehcaaDoor
