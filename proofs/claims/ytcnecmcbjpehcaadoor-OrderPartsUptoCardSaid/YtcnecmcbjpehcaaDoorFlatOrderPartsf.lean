/- Words, plain laws and walks behind the law OrderParts, part 6. No condition. -/
import Derived.Test.YtcnecmcbjpehcaaDoorPOrderPartsx0
import Derived.Test.YtcnecmcbjpehcaaDoorFlatOrderPartse
import Derived.Test.YtcnecmcbjpehcaaDoorWMore
import Derived.StillTailTactics
import Derived.Test.YtcnecmcbjpehcaaDoorFlatOrderPartsc
import Derived.Test.YtcnecmcbjpehcaaDoorFlatOrderPartsa
import Derived.Test.YtcnecmcbjpehcaaDoorRows

/- What the print gives of some functions, but for one walk. No condition. -/
namespace Go.Proofs.YtcnecmcbjpehcaaDoor.POrderParts
open Go.RowKit Go.Proofs.YtcnecmcbjpehcaaDoorW.PrintWords Go.Proofs.YtcnecmcbjpehcaaDoorW.PrintLast Go.Proofs.YtcnecmcbjpehcaaDoorW.PrintMore
attribute [local go_sem] max2_int min2_int max_two min_two max_three min_three max_four min_four   -- for this text's walks alone
set_option linter.unusedVariables false
set_option linter.unusedSimpArgs false

/-! ### demonref1_SameInts: function 25 -/
def demonref1_SameInts.l0 : Nat → List Int → List Int → Int → Option (Bool)
  | 0, _, _, _ => none
  | k + 1, x0, x1, x5 => if x5 < (x0.length : Int) then (if 0 ≤ x5 then (if x5 < (x1.length : Int) then (if (rd x0 x5) = (rd x1 x5) then (demonref1_SameInts.l0 k x0 x1 (wrap64 (x5 + 1))) else (some false)) else (none)) else (none)) else (some true)
def demonref1_SameInts.f (k : Nat) (l0 : List Int) (l1 : List Int) : Option (Bool) := if (l0.length : Int) = (l1.length : Int) then (demonref1_SameInts.l0 k l0 l1 0) else (some false)
theorem demonref1_SameInts.mono_l : ∀ k, (∀ y0 y1 y2, LeO (demonref1_SameInts.l0 k y0 y1 y2) (demonref1_SameInts.l0 (k + 1) y0 y1 y2))
  | 0 => fun _ _ _ r h => by simp [demonref1_SameInts.l0] at h
  | k + 1 => by
    have ih0 := demonref1_SameInts.mono_l k
    · intro y0 y1 y2
      unfold demonref1_SameInts.l0
      repeat' first
      | (with_reducible exact ih0 _ _ _)
      | (with_reducible exact LeO.refl _)
      | (with_reducible exact LeO.none _)
      | (with_reducible refine LeO.ite ?_ ?_)
      | (with_reducible refine LeO.bind ?_ (fun _ => ?_))
      | exact ih0 _ _ _
      | exact LeO.none _
      | refine LeO.ite ?_ ?_
      | refine LeO.bind ?_ (fun _ => ?_)
theorem demonref1_SameInts.mono : ∀ a0 a1 k, LeO (demonref1_SameInts.f k a0 a1) (demonref1_SameInts.f (k + 1) a0 a1) := by
  intro a0 a1 k
  have ih0 := demonref1_SameInts.mono_l k
  unfold demonref1_SameInts.f
  repeat' first
      | (with_reducible exact ih0 _ _ _)
      | (with_reducible exact LeO.refl _)
      | (with_reducible exact LeO.none _)
      | (with_reducible refine LeO.ite ?_ ?_)
      | (with_reducible refine LeO.bind ?_ (fun _ => ?_))
      | exact ih0 _ _ _
      | exact LeO.none _
      | refine LeO.ite ?_ ?_
      | refine LeO.bind ?_ (fun _ => ?_)
set_option maxHeartbeats 8000000 in
set_option maxRecDepth 100000 in
theorem demonref1_SameInts.calls (k : Nat) (A0 : Option Addr) (c0 : Nat) (l0 : List Int) (A1 : Option Addr) (c1 : Nat) (l1 : List Int) (r : Bool) (w : World) (hr0 : Kd.C (Kd.int .i64) w A0 l0.length l0) (hc0 : l0.length ≤ c0) (hr1 : Kd.C (Kd.int .i64) w A1 l1.length l1) (hc1 : l1.length ≤ c1) (h : demonref1_SameInts.f k l0 l1 = some r) :
    Calls Tryd.prog 25 #[.slice A0 l0.length c0, .slice A1 l1.length c1] w fun e w' => e = .returned (.bool r) ∧ Drawn0 w w' := by
  have HR0 := Aside0.mk hr0
  have HC0 := Aside0.mk hc0
  clear hr0 hc0
  have HR1 := Aside0.mk hr1
  have HC1 := Aside0.mk hc1
  clear hr1 hc1
  have H : (if (l0.length : Int) = (l1.length : Int) then (demonref1_SameInts.l0 k l0 l1 0) else (some false)) = some r := h
  clear h
  by_cases c3 : (l0.length : Int) = (l1.length : Int)
  · rw [if_pos c3] at H
    have c3b0 : ((l0.length : Int) == (l1.length : Int)) = true := beq_iff_eq.mpr c3
    have c3b1 : ((l0.length : Int) != (l1.length : Int)) = false := bne_eq_false_iff_eq.mpr c3
    have c3b2 : (l0.length == l1.length) = true := by first | simpa using c3 | (simp at c3 ⊢; omega)
    clear c3
    have H' := Aside0.mk H
    clear H
    go_enter Tryd.func25, Tryd.ntmps25
    go_wp2
    repeat (go_quiet (fail); try go_wp2)
    go_loopg [5] k (fun kq v5 w' => ∃ (x5_1 : Int), v5 = .int .i64 x5_1 ∧ Aside0 (demonref1_SameInts.l0 kq l0 l1 x5_1 = some r) ∧ Aside0 (kq ≤ k) ∧ Drawn0 w w')
    case atStart => exact ⟨(0), (by first | rfl | (simp; done) | (simp [*]; done)), H', ⟨Nat.le_refl _⟩, by repeat (first | exact Drawn0.refl _ | apply Drawn0.step)⟩
    case round =>
      clear H'
      try clear c1
      try clear c2
      try clear p2
      try clear c3
      try clear c3b0
      try clear c3b1
      try clear c3b2
      obtain ⟨x5_1, rfl, HA, HK1, ⟨m1, rfl⟩⟩ := hrel
      cases gk with
      | zero => exact absurd HA.out (by simp [demonref1_SameInts.l0])
      | succ k1 =>
        have H := HA.out
        clear HA
        simp only [demonref1_SameInts.l0] at H
        by_cases c4 : x5_1 < (l0.length : Int)
        · rw [if_pos c4] at H
          have c4b0 : decide (x5_1 < (l0.length : Int)) = true := decide_eq_true c4
          clear c4
          by_cases c5 : 0 ≤ x5_1
          · rw [if_pos c5] at H
            have c5b0 : decide (0 ≤ x5_1) = true := decide_eq_true c5
            clear c5
            by_cases c6 : x5_1 < (l1.length : Int)
            · rw [if_pos c6] at H
              have c6b0 : decide (x5_1 < (l1.length : Int)) = true := decide_eq_true c6
              clear c6
              by_cases c7 : (rd l0 x5_1) = (rd l1 x5_1)
              · rw [if_pos c7] at H
                have c7b0 : ((rd l0 x5_1) == (rd l1 x5_1)) = true := beq_iff_eq.mpr c7
                have c7b1 : ((rd l0 x5_1) != (rd l1 x5_1)) = false := bne_eq_false_iff_eq.mpr c7
                clear c7
                have H' := Aside0.mk H
                clear H
                have p257 : 0 ≤ (x5_1 : Int) := of_decide_eq_true (by first | (with_reducible assumption) | assumption)
                have q257 : x5_1 < (l0.length : Int) := of_decide_eq_true (by first | (with_reducible assumption) | assumption)
                obtain ⟨ad257, e257, hx257_0⟩ := Kd.at_int HR0.out x5_1 p257 q257
                cases e257
                replace p257 := eq_true p257
                replace q257 := eq_true q257
                have p258 : 0 ≤ (x5_1 : Int) := of_decide_eq_true (by first | (with_reducible assumption) | assumption)
                have q258 : x5_1 < (l1.length : Int) := of_decide_eq_true (by first | (with_reducible assumption) | assumption)
                obtain ⟨ad258, e258, hx258_0⟩ := Kd.at_int HR1.out x5_1 p258 q258
                cases e258
                replace p258 := eq_true p258
                replace q258 := eq_true q258
                go_wp2
                repeat (go_quiet (fail); try go_wp2)
                go_roundg k1
                case measure => have := HK1.out; omega
                case rel => exact ⟨(wrap64 (x5_1 + 1)), (by first | rfl | (simp; done) | (simp [*]; done)), H', ⟨by have := HK1.out; omega⟩, by repeat (first | exact Drawn0.refl _ | apply Drawn0.step)⟩
              · rw [if_neg c7] at H
                have c7b0 : ((rd l0 x5_1) == (rd l1 x5_1)) = false := beq_eq_false_iff_ne.mpr c7
                have c7b1 : ((rd l0 x5_1) != (rd l1 x5_1)) = true := bne_iff_ne.mpr c7
                obtain rfl := Option.some.inj H
                have p257 : 0 ≤ (x5_1 : Int) := of_decide_eq_true (by first | (with_reducible assumption) | assumption)
                have q257 : x5_1 < (l0.length : Int) := of_decide_eq_true (by first | (with_reducible assumption) | assumption)
                obtain ⟨ad257, e257, hx257_0⟩ := Kd.at_int HR0.out x5_1 p257 q257
                cases e257
                replace p257 := eq_true p257
                replace q257 := eq_true q257
                have p258 : 0 ≤ (x5_1 : Int) := of_decide_eq_true (by first | (with_reducible assumption) | assumption)
                have q258 : x5_1 < (l1.length : Int) := of_decide_eq_true (by first | (with_reducible assumption) | assumption)
                obtain ⟨ad258, e258, hx258_0⟩ := Kd.at_int HR1.out x5_1 p258 q258
                cases e258
                replace p258 := eq_true p258
                replace q258 := eq_true q258
                go_wp2
                repeat (go_quiet (fail); try go_wp2)
                go_ret
                exact ⟨by first | rfl | (simp; done) | (simp [*]; done), by repeat (first | exact Drawn0.refl _ | apply Drawn0.step)⟩
            · rw [if_neg c6] at H
              exact absurd H (by simp)
          · rw [if_neg c5] at H
            exact absurd H (by simp)
        · rw [if_neg c4] at H
          have c4b0 : decide (x5_1 < (l0.length : Int)) = false := decide_eq_false c4
          clear c4
          obtain rfl := Option.some.inj H
          go_wp2
          repeat (go_quiet (fail); try go_wp2)
          go_ret
          exact ⟨by first | rfl | (simp; done) | (simp [*]; done), by repeat (first | exact Drawn0.refl _ | apply Drawn0.step)⟩
  · rw [if_neg c3] at H
    have c3b0 : ((l0.length : Int) == (l1.length : Int)) = false := beq_eq_false_iff_ne.mpr c3
    have c3b1 : ((l0.length : Int) != (l1.length : Int)) = true := bne_iff_ne.mpr c3
    have c3b2 : (l0.length == l1.length) = false := by first | simpa using c3 | (simp at c3 ⊢; omega)
    obtain rfl := Option.some.inj H
    go_enter Tryd.func25, Tryd.ntmps25
    go_wp2
    repeat (go_quiet (fail); try go_wp2)
    go_ret
    exact ⟨by first | rfl | (simp; done) | (simp [*]; done), by repeat (first | exact Drawn0.refl _ | apply Drawn0.step)⟩

/-! ### demonref4_Numbers: function 27 -/
def demonref4_Numbers.l0 : Nat → List Int → Int → Option (Bool)
  | 0, _, _ => none
  | k + 1, x0, x3 => if x3 < (x0.length : Int) then (if 0 ≤ x3 then (if (rd x0 x3) < 0 then (some false) else (if (rd x0 x3) > 4096 then (some false) else (demonref4_Numbers.l0 k x0 (wrap64 (x3 + 1))))) else (none)) else (some true)
def demonref4_Numbers.f (k : Nat) (l0 : List Int) : Option (Bool) := demonref4_Numbers.l0 k l0 0
theorem demonref4_Numbers.mono_l : ∀ k, (∀ y0 y1, LeO (demonref4_Numbers.l0 k y0 y1) (demonref4_Numbers.l0 (k + 1) y0 y1))
  | 0 => fun _ _ r h => by simp [demonref4_Numbers.l0] at h
  | k + 1 => by
    have ih0 := demonref4_Numbers.mono_l k
    · intro y0 y1
      unfold demonref4_Numbers.l0
      repeat' first
      | (with_reducible exact ih0 _ _)
      | (with_reducible exact LeO.refl _)
      | (with_reducible exact LeO.none _)
      | (with_reducible refine LeO.ite ?_ ?_)
      | (with_reducible refine LeO.bind ?_ (fun _ => ?_))
      | exact ih0 _ _
      | exact LeO.none _
      | refine LeO.ite ?_ ?_
      | refine LeO.bind ?_ (fun _ => ?_)
theorem demonref4_Numbers.mono : ∀ a0 k, LeO (demonref4_Numbers.f k a0) (demonref4_Numbers.f (k + 1) a0) := by
  intro a0 k
  have ih0 := demonref4_Numbers.mono_l k
  unfold demonref4_Numbers.f
  repeat' first
      | (with_reducible exact ih0 _ _)
      | (with_reducible exact LeO.refl _)
      | (with_reducible exact LeO.none _)
      | (with_reducible refine LeO.ite ?_ ?_)
      | (with_reducible refine LeO.bind ?_ (fun _ => ?_))
      | exact ih0 _ _
      | exact LeO.none _
      | refine LeO.ite ?_ ?_
      | refine LeO.bind ?_ (fun _ => ?_)
set_option maxHeartbeats 8000000 in
set_option maxRecDepth 100000 in
theorem demonref4_Numbers.calls (k : Nat) (A0 : Option Addr) (c0 : Nat) (l0 : List Int) (r : Bool) (w : World) (hr0 : Kd.C (Kd.int .i64) w A0 l0.length l0) (hc0 : l0.length ≤ c0) (h : demonref4_Numbers.f k l0 = some r) :
    Calls Tryd.prog 27 #[.slice A0 l0.length c0] w fun e w' => e = .returned (.bool r) ∧ Drawn0 w w' := by
  have HR0 := Aside0.mk hr0
  have HC0 := Aside0.mk hc0
  clear hr0 hc0
  have H : (demonref4_Numbers.l0 k l0 0) = some r := h
  clear h
  have H' := Aside0.mk H
  clear H
  go_enter Tryd.func27, Tryd.ntmps27
  go_wp2
  go_loopg [3] k (fun kq v3 w' => ∃ (x3_1 : Int), v3 = .int .i64 x3_1 ∧ Aside0 (demonref4_Numbers.l0 kq l0 x3_1 = some r) ∧ Aside0 (kq ≤ k) ∧ Drawn0 w w')
  case atStart => exact ⟨(0), (by first | rfl | (simp; done) | (simp [*]; done)), H', ⟨Nat.le_refl _⟩, by repeat (first | exact Drawn0.refl _ | apply Drawn0.step)⟩
  case round =>
    clear H'
    obtain ⟨x3_1, rfl, HA, HK1, ⟨m1, rfl⟩⟩ := hrel
    cases gk with
    | zero => exact absurd HA.out (by simp [demonref4_Numbers.l0])
    | succ k1 =>
      have H := HA.out
      clear HA
      simp only [demonref4_Numbers.l0] at H
      by_cases c2 : x3_1 < (l0.length : Int)
      · rw [if_pos c2] at H
        have c2b0 : decide (x3_1 < (l0.length : Int)) = true := decide_eq_true c2
        clear c2
        by_cases c3 : 0 ≤ x3_1
        · rw [if_pos c3] at H
          have c3b0 : decide (0 ≤ x3_1) = true := decide_eq_true c3
          clear c3
          by_cases c4 : (rd l0 x3_1) < 0
          · rw [if_pos c4] at H
            have c4b0 : decide ((rd l0 x3_1) < 0) = true := decide_eq_true c4
            clear c4
            obtain rfl := Option.some.inj H
            have p259 : 0 ≤ (x3_1 : Int) := of_decide_eq_true (by first | (with_reducible assumption) | assumption)
            have q259 : x3_1 < (l0.length : Int) := of_decide_eq_true (by first | (with_reducible assumption) | assumption)
            obtain ⟨ad259, e259, hx259_0⟩ := Kd.at_int HR0.out x3_1 p259 q259
            cases e259
            replace p259 := eq_true p259
            replace q259 := eq_true q259
            go_wp2
            go_ret
            exact ⟨by first | rfl | (simp; done) | (simp [*]; done), by repeat (first | exact Drawn0.refl _ | apply Drawn0.step)⟩
          · rw [if_neg c4] at H
            have c4b0 : decide ((rd l0 x3_1) < 0) = false := decide_eq_false c4
            clear c4
            by_cases c5 : (rd l0 x3_1) > 4096
            · rw [if_pos c5] at H
              have c5b0 : decide (4096 < (rd l0 x3_1)) = true := decide_eq_true c5
              clear c5
              obtain rfl := Option.some.inj H
              have p259 : 0 ≤ (x3_1 : Int) := of_decide_eq_true (by first | (with_reducible assumption) | assumption)
              have q259 : x3_1 < (l0.length : Int) := of_decide_eq_true (by first | (with_reducible assumption) | assumption)
              obtain ⟨ad259, e259, hx259_0⟩ := Kd.at_int HR0.out x3_1 p259 q259
              cases e259
              replace p259 := eq_true p259
              replace q259 := eq_true q259
              have p260 : 0 ≤ (x3_1 : Int) := of_decide_eq_true (by first | (with_reducible assumption) | assumption)
              have q260 : x3_1 < (l0.length : Int) := of_decide_eq_true (by first | (with_reducible assumption) | assumption)
              obtain ⟨ad260, e260, hx260_0⟩ := Kd.at_int HR0.out x3_1 p260 q260
              obtain rfl : ad259 = ad260 := (by injection e260)
              replace p260 := eq_true p260
              replace q260 := eq_true q260
              go_wp2
              go_ret
              exact ⟨by first | rfl | (simp; done) | (simp [*]; done), by repeat (first | exact Drawn0.refl _ | apply Drawn0.step)⟩
            · rw [if_neg c5] at H
              have c5b0 : decide (4096 < (rd l0 x3_1)) = false := decide_eq_false c5
              clear c5
              have H' := Aside0.mk H
              clear H
              have p259 : 0 ≤ (x3_1 : Int) := of_decide_eq_true (by first | (with_reducible assumption) | assumption)
              have q259 : x3_1 < (l0.length : Int) := of_decide_eq_true (by first | (with_reducible assumption) | assumption)
              obtain ⟨ad259, e259, hx259_0⟩ := Kd.at_int HR0.out x3_1 p259 q259
              cases e259
              replace p259 := eq_true p259
              replace q259 := eq_true q259
              have p260 : 0 ≤ (x3_1 : Int) := of_decide_eq_true (by first | (with_reducible assumption) | assumption)
              have q260 : x3_1 < (l0.length : Int) := of_decide_eq_true (by first | (with_reducible assumption) | assumption)
              obtain ⟨ad260, e260, hx260_0⟩ := Kd.at_int HR0.out x3_1 p260 q260
              obtain rfl : ad259 = ad260 := (by injection e260)
              replace p260 := eq_true p260
              replace q260 := eq_true q260
              go_wp2
              go_roundg k1
              case measure => have := HK1.out; omega
              case rel => exact ⟨(wrap64 (x3_1 + 1)), (by first | rfl | (simp; done) | (simp [*]; done)), H', ⟨by have := HK1.out; omega⟩, by repeat (first | exact Drawn0.refl _ | apply Drawn0.step)⟩
        · rw [if_neg c3] at H
          exact absurd H (by simp)
      · rw [if_neg c2] at H
        have c2b0 : decide (x3_1 < (l0.length : Int)) = false := decide_eq_false c2
        clear c2
        obtain rfl := Option.some.inj H
        go_wp2
        go_ret
        exact ⟨by first | rfl | (simp; done) | (simp [*]; done), by repeat (first | exact Drawn0.refl _ | apply Drawn0.step)⟩

/-! ### demonref1_Sum: function 30 -/
def demonref1_Sum.l0 : Nat → List Int → Int → Int → Option (Int)
  | 0, _, _, _ => none
  | k + 1, x0, x3, x4 => if x4 < (x0.length : Int) then (if 0 ≤ x4 then (demonref1_Sum.l0 k x0 (wrap64 (x3 + (rd x0 x4))) (wrap64 (x4 + 1))) else (none)) else (some x3)
def demonref1_Sum.f (k : Nat) (l0 : List Int) : Option (Int) := demonref1_Sum.l0 k l0 0 0
theorem demonref1_Sum.mono_l : ∀ k, (∀ y0 y1 y2, LeO (demonref1_Sum.l0 k y0 y1 y2) (demonref1_Sum.l0 (k + 1) y0 y1 y2))
  | 0 => fun _ _ _ r h => by simp [demonref1_Sum.l0] at h
  | k + 1 => by
    have ih0 := demonref1_Sum.mono_l k
    · intro y0 y1 y2
      unfold demonref1_Sum.l0
      repeat' first
      | (with_reducible exact ih0 _ _ _)
      | (with_reducible exact LeO.refl _)
      | (with_reducible exact LeO.none _)
      | (with_reducible refine LeO.ite ?_ ?_)
      | (with_reducible refine LeO.bind ?_ (fun _ => ?_))
      | exact ih0 _ _ _
      | exact LeO.none _
      | refine LeO.ite ?_ ?_
      | refine LeO.bind ?_ (fun _ => ?_)
theorem demonref1_Sum.mono : ∀ a0 k, LeO (demonref1_Sum.f k a0) (demonref1_Sum.f (k + 1) a0) := by
  intro a0 k
  have ih0 := demonref1_Sum.mono_l k
  unfold demonref1_Sum.f
  repeat' first
      | (with_reducible exact ih0 _ _ _)
      | (with_reducible exact LeO.refl _)
      | (with_reducible exact LeO.none _)
      | (with_reducible refine LeO.ite ?_ ?_)
      | (with_reducible refine LeO.bind ?_ (fun _ => ?_))
      | exact ih0 _ _ _
      | exact LeO.none _
      | refine LeO.ite ?_ ?_
      | refine LeO.bind ?_ (fun _ => ?_)
set_option maxHeartbeats 8000000 in
set_option maxRecDepth 100000 in
theorem demonref1_Sum.calls (k : Nat) (A0 : Option Addr) (c0 : Nat) (l0 : List Int) (r : Int) (w : World) (hr0 : Kd.C (Kd.int .i64) w A0 l0.length l0) (hc0 : l0.length ≤ c0) (h : demonref1_Sum.f k l0 = some r) :
    Calls Tryd.prog 30 #[.slice A0 l0.length c0] w fun e w' => e = .returned (.int .i64 r) ∧ Drawn0 w w' := by
  have HR0 := Aside0.mk hr0
  have HC0 := Aside0.mk hc0
  clear hr0 hc0
  have H : (demonref1_Sum.l0 k l0 0 0) = some r := h
  clear h
  have H' := Aside0.mk H
  clear H
  go_enter Tryd.func30, Tryd.ntmps30
  go_wp2
  go_loopg [3, 4] k (fun kq v3 v4 w' => ∃ (x3_1 : Int) (x4_1 : Int), v3 = .int .i64 x3_1 ∧ v4 = .int .i64 x4_1 ∧ Aside0 (demonref1_Sum.l0 kq l0 x3_1 x4_1 = some r) ∧ Aside0 (kq ≤ k) ∧ Drawn0 w w')
  case atStart => exact ⟨(0), (0), (by first | rfl | (simp; done) | (simp [*]; done)), (by first | rfl | (simp; done) | (simp [*]; done)), H', ⟨Nat.le_refl _⟩, by repeat (first | exact Drawn0.refl _ | apply Drawn0.step)⟩
  case round =>
    clear H'
    obtain ⟨x3_1, x4_1, rfl, rfl, HA, HK1, ⟨m1, rfl⟩⟩ := hrel
    cases gk with
    | zero => exact absurd HA.out (by simp [demonref1_Sum.l0])
    | succ k1 =>
      have H := HA.out
      clear HA
      simp only [demonref1_Sum.l0] at H
      by_cases c2 : x4_1 < (l0.length : Int)
      · rw [if_pos c2] at H
        have c2b0 : decide (x4_1 < (l0.length : Int)) = true := decide_eq_true c2
        clear c2
        by_cases c3 : 0 ≤ x4_1
        · rw [if_pos c3] at H
          have c3b0 : decide (0 ≤ x4_1) = true := decide_eq_true c3
          clear c3
          have H' := Aside0.mk H
          clear H
          have p261 : 0 ≤ (x4_1 : Int) := of_decide_eq_true (by first | (with_reducible assumption) | assumption)
          have q261 : x4_1 < (l0.length : Int) := of_decide_eq_true (by first | (with_reducible assumption) | assumption)
          obtain ⟨ad261, e261, hx261_0⟩ := Kd.at_int HR0.out x4_1 p261 q261
          cases e261
          replace p261 := eq_true p261
          replace q261 := eq_true q261
          go_wp2
          go_roundg k1
          case measure => have := HK1.out; omega
          case rel => exact ⟨(wrap64 (x3_1 + (rd l0 x4_1))), (wrap64 (x4_1 + 1)), (by first | rfl | (simp; done) | (simp [*]; done)), (by first | rfl | (simp; done) | (simp [*]; done)), H', ⟨by have := HK1.out; omega⟩, by repeat (first | exact Drawn0.refl _ | apply Drawn0.step)⟩
        · rw [if_neg c3] at H
          exact absurd H (by simp)
      · rw [if_neg c2] at H
        have c2b0 : decide (x4_1 < (l0.length : Int)) = false := decide_eq_false c2
        clear c2
        obtain rfl := Option.some.inj H
        go_wp2
        go_ret
        exact ⟨by first | rfl | (simp; done) | (simp [*]; done), by repeat (first | exact Drawn0.refl _ | apply Drawn0.step)⟩

/-! ### demonref4_SquareError: function 26 -/
mutual
def demonref4_SquareError.l0 : Nat → List (List Int) → Int → Option (Int)
  | 0, _, _ => none
  | k + 1, x0, x3 => if x3 < (x0.length : Int) then (if 0 ≤ x3 then ((demonref4_Numbers.f k (rd_L1 x0 x3)).bind fun t263 => (if t263 = true then (if ((rd_L1 x0 x3).length : Int) = (x0.length : Int) then (demonref4_SquareError.l0 k x0 (wrap64 (x3 + 1))) else (some 3)) else (some 3))) else (none)) else (demonref4_SquareError.l1 k x0 0)
def demonref4_SquareError.l1 : Nat → List (List Int) → Int → Option (Int)
  | 0, _, _ => none
  | k + 1, x0, x5 => if x5 < (x0.length : Int) then (demonref4_SquareError.l2 k x0 x5 0 0) else (some 0)
def demonref4_SquareError.l2 : Nat → List (List Int) → Int → Int → Int → Option (Int)
  | 0, _, _, _, _ => none
  | k + 1, x0, x5, x6, x7 => if x7 < (x0.length : Int) then (if 0 ≤ x7 then (if 0 ≤ x5 then (if x5 < ((rd_L1 x0 x7).length : Int) then (demonref4_SquareError.l2 k x0 x5 (wrap64 (x6 + (rd (rd_L1 x0 x7) x5))) (wrap64 (x7 + 1))) else (none)) else (none)) else (none)) else (if 0 ≤ x5 then (if x5 < (x0.length : Int) then ((demonref1_Sum.f k (rd_L1 x0 x5)).bind fun t268 => (if 0 < (x0.length : Int) then ((demonref1_Sum.f k (rd_L1 x0 0)).bind fun t270 => (if t268 = t270 then ((demonref1_Sum.f k (rd_L1 x0 0)).bind fun t272 => (if x6 = t272 then (demonref4_SquareError.l1 k x0 (wrap64 (x5 + 1))) else (some 3))) else (some 3))) else (none))) else (none)) else (none))
end
def demonref4_SquareError.f (k : Nat) (l0 : List (List Int)) : Option (Int) := if (l0.length : Int) > 8 then (some 2) else (if (l0.length : Int) = 0 then (some 3) else (demonref4_SquareError.l0 k l0 0))
theorem demonref4_SquareError.mono_l : ∀ k, (∀ y0 y1, LeO (demonref4_SquareError.l0 k y0 y1) (demonref4_SquareError.l0 (k + 1) y0 y1)) ∧ (∀ y0 y1, LeO (demonref4_SquareError.l1 k y0 y1) (demonref4_SquareError.l1 (k + 1) y0 y1)) ∧ (∀ y0 y1 y2 y3, LeO (demonref4_SquareError.l2 k y0 y1 y2 y3) (demonref4_SquareError.l2 (k + 1) y0 y1 y2 y3))
  | 0 => ⟨fun _ _ r h => by simp [demonref4_SquareError.l0] at h, fun _ _ r h => by simp [demonref4_SquareError.l1] at h, fun _ _ _ _ r h => by simp [demonref4_SquareError.l2] at h⟩
  | k + 1 => by
    obtain ⟨ih0, ih1, ih2⟩ := demonref4_SquareError.mono_l k
    refine ⟨?_, ?_, ?_⟩
    · intro y0 y1
      unfold demonref4_SquareError.l0
      repeat' first
      | (with_reducible exact ih0 _ _)
      | (with_reducible exact ih1 _ _)
      | (with_reducible exact ih2 _ _ _ _)
      | (with_reducible exact demonref1_Sum.mono _ _)
      | (with_reducible exact demonref4_Numbers.mono _ _)
      | (with_reducible exact LeO.refl _)
      | (with_reducible exact LeO.none _)
      | (with_reducible refine LeO.ite ?_ ?_)
      | (with_reducible refine LeO.bind ?_ (fun _ => ?_))
      | exact ih0 _ _
      | exact ih1 _ _
      | exact ih2 _ _ _ _
      | exact demonref1_Sum.mono _ _
      | exact demonref4_Numbers.mono _ _
      | exact LeO.none _
      | refine LeO.ite ?_ ?_
      | refine LeO.bind ?_ (fun _ => ?_)
    · intro y0 y1
      unfold demonref4_SquareError.l1
      repeat' first
      | (with_reducible exact ih0 _ _)
      | (with_reducible exact ih1 _ _)
      | (with_reducible exact ih2 _ _ _ _)
      | (with_reducible exact demonref1_Sum.mono _ _)
      | (with_reducible exact demonref4_Numbers.mono _ _)
      | (with_reducible exact LeO.refl _)
      | (with_reducible exact LeO.none _)
      | (with_reducible refine LeO.ite ?_ ?_)
      | (with_reducible refine LeO.bind ?_ (fun _ => ?_))
      | exact ih0 _ _
      | exact ih1 _ _
      | exact ih2 _ _ _ _
      | exact demonref1_Sum.mono _ _
      | exact demonref4_Numbers.mono _ _
      | exact LeO.none _
      | refine LeO.ite ?_ ?_
      | refine LeO.bind ?_ (fun _ => ?_)
    · intro y0 y1 y2 y3
      unfold demonref4_SquareError.l2
      repeat' first
      | (with_reducible exact ih0 _ _)
      | (with_reducible exact ih1 _ _)
      | (with_reducible exact ih2 _ _ _ _)
      | (with_reducible exact demonref1_Sum.mono _ _)
      | (with_reducible exact demonref4_Numbers.mono _ _)
      | (with_reducible exact LeO.refl _)
      | (with_reducible exact LeO.none _)
      | (with_reducible refine LeO.ite ?_ ?_)
      | (with_reducible refine LeO.bind ?_ (fun _ => ?_))
      | exact ih0 _ _
      | exact ih1 _ _
      | exact ih2 _ _ _ _
      | exact demonref1_Sum.mono _ _
      | exact demonref4_Numbers.mono _ _
      | exact LeO.none _
      | refine LeO.ite ?_ ?_
      | refine LeO.bind ?_ (fun _ => ?_)
theorem demonref4_SquareError.mono : ∀ a0 k, LeO (demonref4_SquareError.f k a0) (demonref4_SquareError.f (k + 1) a0) := by
  intro a0 k
  obtain ⟨ih0, ih1, ih2⟩ := demonref4_SquareError.mono_l k
  unfold demonref4_SquareError.f
  repeat' first
      | (with_reducible exact ih0 _ _)
      | (with_reducible exact ih1 _ _)
      | (with_reducible exact ih2 _ _ _ _)
      | (with_reducible exact demonref1_Sum.mono _ _)
      | (with_reducible exact demonref4_Numbers.mono _ _)
      | (with_reducible exact LeO.refl _)
      | (with_reducible exact LeO.none _)
      | (with_reducible refine LeO.ite ?_ ?_)
      | (with_reducible refine LeO.bind ?_ (fun _ => ?_))
      | exact ih0 _ _
      | exact ih1 _ _
      | exact ih2 _ _ _ _
      | exact demonref1_Sum.mono _ _
      | exact demonref4_Numbers.mono _ _
      | exact LeO.none _
      | refine LeO.ite ?_ ?_
      | refine LeO.bind ?_ (fun _ => ?_)
end Go.Proofs.YtcnecmcbjpehcaaDoor.POrderParts

namespace Go.Proofs.YtcnecmcbjpehcaaDoor.POrderParts
open Go.RowKit Go.Proofs.YtcnecmcbjpehcaaDoorW.PrintWords Go.Proofs.YtcnecmcbjpehcaaDoorW.PrintLast Go.Proofs.YtcnecmcbjpehcaaDoorW.PrintMore
attribute [local go_sem] max2_int min2_int max_two min_two max_three min_three max_four min_four   -- for this text's walks alone
set_option linter.unusedVariables false
set_option linter.unusedSimpArgs false

/-! ### demonref1_Contains: function 14 -/
def demonref1_Contains.l0 : Nat → List Int → Int → Int → Option (Bool)
  | 0, _, _, _ => none
  | k + 1, x0, x1, x5 => if x5 < (x0.length : Int) then (if 0 ≤ x5 then (if (rd x0 x5) = x1 then (some true) else (demonref1_Contains.l0 k x0 x1 (wrap64 (x5 + 1)))) else (none)) else (some false)
def demonref1_Contains.f (k : Nat) (l0 : List Int) (a1 : Int) : Option (Bool) := demonref1_Contains.l0 k l0 a1 0
theorem demonref1_Contains.mono_l : ∀ k, (∀ y0 y1 y2, LeO (demonref1_Contains.l0 k y0 y1 y2) (demonref1_Contains.l0 (k + 1) y0 y1 y2))
  | 0 => fun _ _ _ r h => by simp [demonref1_Contains.l0] at h
  | k + 1 => by
    have ih0 := demonref1_Contains.mono_l k
    · intro y0 y1 y2
      unfold demonref1_Contains.l0
      repeat' first
      | (with_reducible exact ih0 _ _ _)
      | (with_reducible exact LeO.refl _)
      | (with_reducible exact LeO.none _)
      | (with_reducible refine LeO.ite ?_ ?_)
      | (with_reducible refine LeO.bind ?_ (fun _ => ?_))
      | exact ih0 _ _ _
      | exact LeO.none _
      | refine LeO.ite ?_ ?_
      | refine LeO.bind ?_ (fun _ => ?_)
theorem demonref1_Contains.mono : ∀ a0 a1 k, LeO (demonref1_Contains.f k a0 a1) (demonref1_Contains.f (k + 1) a0 a1) := by
  intro a0 a1 k
  have ih0 := demonref1_Contains.mono_l k
  unfold demonref1_Contains.f
  repeat' first
      | (with_reducible exact ih0 _ _ _)
      | (with_reducible exact LeO.refl _)
      | (with_reducible exact LeO.none _)
      | (with_reducible refine LeO.ite ?_ ?_)
      | (with_reducible refine LeO.bind ?_ (fun _ => ?_))
      | exact ih0 _ _ _
      | exact LeO.none _
      | refine LeO.ite ?_ ?_
      | refine LeO.bind ?_ (fun _ => ?_)
set_option maxHeartbeats 8000000 in
set_option maxRecDepth 100000 in
theorem demonref1_Contains.calls (k : Nat) (A0 : Option Addr) (c0 : Nat) (l0 : List Int) (a1 : Int) (r : Bool) (w : World) (hr0 : Kd.C (Kd.int .i64) w A0 l0.length l0) (hc0 : l0.length ≤ c0) (h : demonref1_Contains.f k l0 a1 = some r) :
    Calls Tryd.prog 14 #[.slice A0 l0.length c0, .int .i64 a1] w fun e w' => e = .returned (.bool r) ∧ Drawn0 w w' := by
  have HR0 := Aside0.mk hr0
  have HC0 := Aside0.mk hc0
  clear hr0 hc0
  have H : (demonref1_Contains.l0 k l0 a1 0) = some r := h
  clear h
  have H' := Aside0.mk H
  clear H
  go_enter Tryd.func14, Tryd.ntmps14
  go_wp2
  go_loopg [5] k (fun kq v5 w' => ∃ (x5_1 : Int), v5 = .int .i64 x5_1 ∧ Aside0 (demonref1_Contains.l0 kq l0 a1 x5_1 = some r) ∧ Aside0 (kq ≤ k) ∧ Drawn0 w w')
  case atStart => exact ⟨(0), (by first | rfl | (simp; done) | (simp [*]; done)), H', ⟨Nat.le_refl _⟩, by repeat (first | exact Drawn0.refl _ | apply Drawn0.step)⟩
  case round =>
    clear H'
    try clear c1
    try clear p2
    obtain ⟨x5_1, rfl, HA, HK1, ⟨m1, rfl⟩⟩ := hrel
    cases gk with
    | zero => exact absurd HA.out (by simp [demonref1_Contains.l0])
    | succ k1 =>
      have H := HA.out
      clear HA
      simp only [demonref1_Contains.l0] at H
      by_cases c3 : x5_1 < (l0.length : Int)
      · rw [if_pos c3] at H
        have c3b0 : decide (x5_1 < (l0.length : Int)) = true := decide_eq_true c3
        clear c3
        by_cases c4 : 0 ≤ x5_1
        · rw [if_pos c4] at H
          have c4b0 : decide (0 ≤ x5_1) = true := decide_eq_true c4
          clear c4
          by_cases c5 : (rd l0 x5_1) = a1
          · rw [if_pos c5] at H
            have c5b0 : ((rd l0 x5_1) == a1) = true := beq_iff_eq.mpr c5
            have c5b1 : ((rd l0 x5_1) != a1) = false := bne_eq_false_iff_eq.mpr c5
            clear c5
            obtain rfl := Option.some.inj H
            have p273 : 0 ≤ (x5_1 : Int) := of_decide_eq_true (by first | (with_reducible assumption) | assumption)
            have q273 : x5_1 < (l0.length : Int) := of_decide_eq_true (by first | (with_reducible assumption) | assumption)
            obtain ⟨ad273, e273, hx273_0⟩ := Kd.at_int HR0.out x5_1 p273 q273
            cases e273
            replace p273 := eq_true p273
            replace q273 := eq_true q273
            go_wp2
            go_ret
            exact ⟨by first | rfl | (simp; done) | (simp [*]; done), by repeat (first | exact Drawn0.refl _ | apply Drawn0.step)⟩
          · rw [if_neg c5] at H
            have c5b0 : ((rd l0 x5_1) == a1) = false := beq_eq_false_iff_ne.mpr c5
            have c5b1 : ((rd l0 x5_1) != a1) = true := bne_iff_ne.mpr c5
            have H' := Aside0.mk H
            clear H
            have p273 : 0 ≤ (x5_1 : Int) := of_decide_eq_true (by first | (with_reducible assumption) | assumption)
            have q273 : x5_1 < (l0.length : Int) := of_decide_eq_true (by first | (with_reducible assumption) | assumption)
            obtain ⟨ad273, e273, hx273_0⟩ := Kd.at_int HR0.out x5_1 p273 q273
            cases e273
            replace p273 := eq_true p273
            replace q273 := eq_true q273
            go_wp2
            go_roundg k1
            case measure => have := HK1.out; omega
            case rel => exact ⟨(wrap64 (x5_1 + 1)), (by first | rfl | (simp; done) | (simp [*]; done)), H', ⟨by have := HK1.out; omega⟩, by repeat (first | exact Drawn0.refl _ | apply Drawn0.step)⟩
        · rw [if_neg c4] at H
          exact absurd H (by simp)
      · rw [if_neg c3] at H
        have c3b0 : decide (x5_1 < (l0.length : Int)) = false := decide_eq_false c3
        clear c3
        obtain rfl := Option.some.inj H
        go_wp2
        go_ret
        exact ⟨by first | rfl | (simp; done) | (simp [*]; done), by repeat (first | exact Drawn0.refl _ | apply Drawn0.step)⟩

/-! ### demonref4_permutationsFrom: function 58 -/
mutual
def demonref4_permutationsFrom.l0 : Nat → List Int → Int → List (List Int) → Int → Option ((List (List Int)))
  | 0, _, _, _, _ => none
  | k + 1, x0, x1, x5, x6 => if x6 < x1 then ((demonref1_Contains.f k x0 x6).bind fun t277 => (if t277 = true then (demonref4_permutationsFrom.l0 k x0 x1 x5 (wrap64 (x6 + 1))) else (if ([] : List Int).length + x0.length < 17592186044416 then ((some (([] : List Int) ++ x0 : List Int)).bind fun y278 => (if y278.length < 17592186044416 then ((demonref4_permutationsFrom.f k (y278 ++ [x6]) x1).bind fun t284 => (if x5.length + t284.length < 5864062014805 then (demonref4_permutationsFrom.l0 k x0 x1 (x5 ++ t284) (wrap64 (x6 + 1))) else (none))) else (none))) else (none)))) else (some x5)
def demonref4_permutationsFrom.f : Nat → List Int → Int → Option ((List (List Int)))
  | 0, _, _ => none
  | k + 1, l0, a1 => if (l0.length : Int) = a1 then (some (([l0] : List (List Int)))) else (demonref4_permutationsFrom.l0 k l0 a1 ([] : List (List Int)) 0)
end
theorem demonref4_permutationsFrom.mono_l : ∀ k, (∀ y0 y1, LeO (demonref4_permutationsFrom.f k y0 y1) (demonref4_permutationsFrom.f (k + 1) y0 y1)) ∧ (∀ y0 y1 y2 y3, LeO (demonref4_permutationsFrom.l0 k y0 y1 y2 y3) (demonref4_permutationsFrom.l0 (k + 1) y0 y1 y2 y3))
  | 0 => ⟨fun _ _ r h => by simp [demonref4_permutationsFrom.f] at h, fun _ _ _ _ r h => by simp [demonref4_permutationsFrom.l0] at h⟩
  | k + 1 => by
    obtain ⟨ih0, ih1⟩ := demonref4_permutationsFrom.mono_l k
    refine ⟨?_, ?_⟩
    · intro y0 y1
      unfold demonref4_permutationsFrom.f
      repeat' first
      | (with_reducible exact ih0 _ _)
      | (with_reducible exact ih1 _ _ _ _)
      | (with_reducible exact demonref1_Contains.mono _ _ _)
      | (with_reducible exact LeO.refl _)
      | (with_reducible exact LeO.none _)
      | (with_reducible refine LeO.ite ?_ ?_)
      | (with_reducible refine LeO.bind ?_ (fun _ => ?_))
      | exact ih0 _ _
      | exact ih1 _ _ _ _
      | exact demonref1_Contains.mono _ _ _
      | exact LeO.none _
      | refine LeO.ite ?_ ?_
      | refine LeO.bind ?_ (fun _ => ?_)
    · intro y0 y1 y2 y3
      unfold demonref4_permutationsFrom.l0
      repeat' first
      | (with_reducible exact ih0 _ _)
      | (with_reducible exact ih1 _ _ _ _)
      | (with_reducible exact demonref1_Contains.mono _ _ _)
      | (with_reducible exact LeO.refl _)
      | (with_reducible exact LeO.none _)
      | (with_reducible refine LeO.ite ?_ ?_)
      | (with_reducible refine LeO.bind ?_ (fun _ => ?_))
      | exact ih0 _ _
      | exact ih1 _ _ _ _
      | exact demonref1_Contains.mono _ _ _
      | exact LeO.none _
      | refine LeO.ite ?_ ?_
      | refine LeO.bind ?_ (fun _ => ?_)
theorem demonref4_permutationsFrom.mono : ∀ a0 a1 k, LeO (demonref4_permutationsFrom.f k a0 a1) (demonref4_permutationsFrom.f (k + 1) a0 a1) := by
  intro a0 a1 k
  obtain ⟨ih0, ih1⟩ := demonref4_permutationsFrom.mono_l k
  exact ih0 a0 a1
set_option maxHeartbeats 8000000 in
set_option maxRecDepth 100000 in
theorem demonref4_permutationsFrom.calls (k : Nat) : ∀ (P0_ : Nat → Prop) (A0 : Option Addr) (c0 : Nat) (l0 : List Int) (a1 : Int) (r : List (List Int)) (w : World) (hs0 : Kd.V (Kd.int .i64) 3 w w.heap.size (fun k_ => P0_ k_) (.slice A0 l0.length c0) l0) (h : demonref4_permutationsFrom.f k l0 a1 = some r),
    Calls Tryd.prog 58 #[.slice A0 l0.length c0, .int .i64 a1] w fun e w' => ∃ v0_ : Value, e = .returned (v0_) ∧ Kd.N (Kd.slice 3 (Kd.int .i64)) 25 w' w.heap.size (fun k_ => (P0_ k_ ∨ w.heap.size ≤ k_)) v0_ r ∧ Below w.heap.size w w' := by
  induction k using Nat.strongRecOn with
  | _ k ih =>
  intro P0_ A0 c0 l0 a1 r w hs0 h
  cases k with
  | zero => exact absurd h (by simp [demonref4_permutationsFrom.f])
  | succ k =>
  simp only [demonref4_permutationsFrom.f] at h
  have HO0 := Aside0.mk (show Kd.V (Kd.int .i64) 3 w w.heap.size (fun k_ => (P0_ k_ ∨ w.heap.size ≤ k_)) (.slice A0 l0.length c0) l0 from Kd.V_mono hs0 (fun k_ hk => .inl hk))
  have HB := Aside0.mk (Below.refl w.heap.size w)
  have H : (if (l0.length : Int) = a1 then (some (([l0] : List (List Int)))) else (demonref4_permutationsFrom.l0 k l0 a1 ([] : List (List Int)) 0)) = some r := h
  clear h
  by_cases c3 : (l0.length : Int) = a1
  · rw [if_pos c3] at H
    have c3b0 : ((l0.length : Int) == a1) = true := beq_iff_eq.mpr c3
    have c3b1 : ((l0.length : Int) != a1) = false := bne_eq_false_iff_eq.mpr c3
    clear c3
    obtain ⟨y274, hy274⟩ : ∃ y_ : List (List Int), y_ = (([l0] : List (List Int))) := ⟨_, rfl⟩
    replace H : (some y274) = some r := by first | (rw [hy274]; with_reducible exact H) | (have H2_ := (Option.bind_some _ _).symm.trans H; rw [hy274]; with_reducible exact H2_) | (have H2_ := (Option.bind_some _ _).symm.trans H; with_reducible exact H2_) | with_reducible exact H | (rw [hy274]; exact H) | exact H
    have Ny274 := Aside0.mk hy274
    clear hy274
    obtain rfl := Option.some.inj H
    go_enter Tryd.func58, Tryd.ntmps58
    go_wp2_with (first | ((with_reducible refine gate_dst (N := 14) rfl ?_); refine Kd.N_lit (Kd.slice 3 (Kd.int .i64)) _ 25 ?hg (N' := 14) ?hd (xs := ([l0] : List (List Int))) (inner := [.slice A0 l0.length c0]) (ok := (fun k_ => (P0_ k_ ∨ w.heap.size ≤ k_))) (okp := (fun k_ => (P0_ k_ ∨ w.heap.size ≤ k_))) ?hr ?hp (fun _ hk => hk) ((show ∀ k_, w.heap.size ≤ k_ → (fun k_ => (P0_ k_ ∨ w.heap.size ≤ k_)) k_ from fun k_ hk => (.inr (Nat.le_trans (below_size (by repeat (first | (with_reducible first | exact HB.out | apply below_alloc | apply pw_below_drewN | apply below_drew1) | exact HB.out))) hk))) _ (Nat.le_refl _)) (Below.refl _ _) (Nat.le_refl _) (by simp) ?_; (case hd => rfl); (case hg => rfl); (case hr => first | (go_simp; done) | (go_simp; rfl)); (case hp => exact (Reps.one (show Kd.FK (Kd.slice 3 (Kd.int .i64)) _ _ l0 [.slice A0 l0.length c0] from (Kd.FK_slice_mk (Kd.V_reads' (Kd.V_mono (ok' := (fun k_ => (P0_ k_ ∨ w.heap.size ≤ k_))) (HO0.out) (fun k_ hk => hk))).2.1 (Kd.V_F (Kd.V_mono (ok' := (fun k_ => (P0_ k_ ∨ w.heap.size ≤ k_))) (HO0.out) (fun k_ hk => hk))))) (Reps.none _ _))); intro v275 w4 ho5 hb hg_ hnew_; clear hg_ hnew_; (first | rw [← Ny274.out] at ho5 | (simp only [Int.reduceToNat] at ho5; rw [← Ny274.out] at ho5)); have n0_ := Aside0.mk (Kd.V_elder' (by (with_reducible repeat (first | apply Kd.V_alloc | apply Kd.V_drewN | apply Kd.V_drew)); exact HO0.out) (Kd.N_base ho5) hb); have n1_ := Aside0.mk (Kd.N_lower ho5 (below_size (by repeat (first | (with_reducible first | exact HB.out | apply below_alloc | apply pw_below_drewN | apply below_drew1) | exact HB.out)))); have n2_ := Aside0.mk (below_step (by repeat (first | (with_reducible first | exact HB.out | apply below_alloc | apply pw_below_drewN | apply below_drew1) | exact HB.out)) hb); clear HO0; clear HB; have HO0 := n0_; have HO276 := n1_; have HB := n2_; clear n0_ n1_ n2_; clear hb ho5))
    go_ret
    exact ⟨_, by first | rfl | (simp [errW_none, errW_some] <;> rfl) | (simp [*, errW_none, errW_some] <;> rfl), by (with_reducible repeat (first | apply Kd.N_alloc | apply Kd.N_drewN | apply Kd.N_drew)); exact HO276.out, by repeat (first | (with_reducible first | exact HB.out | apply below_alloc | apply pw_below_drewN | apply below_drew1) | exact HB.out)⟩
  · rw [if_neg c3] at H
    have c3b0 : ((l0.length : Int) == a1) = false := beq_eq_false_iff_ne.mpr c3
    have c3b1 : ((l0.length : Int) != a1) = true := bne_iff_ne.mpr c3
    have H' := Aside0.mk H
    clear H
    go_enter Tryd.func58, Tryd.ntmps58
    go_wp2
    go_loopg [5, 6] k (fun kq v5 v6 w' => ∃ (x5_1 : List (List Int)) (x6_1 : Int), v6 = .int .i64 x6_1 ∧ Aside0 (demonref4_permutationsFrom.l0 kq l0 a1 x5_1 x6_1 = some r) ∧ Aside0 (kq ≤ k) ∧ Aside0 (Kd.V (Kd.int .i64) 3 w' w.heap.size (fun k_ => (P0_ k_ ∨ w.heap.size ≤ k_) ∧ some k_ ≠ (v5 : Value).ownBlock) (.slice A0 l0.length c0) l0) ∧ Aside0 (Kd.N (Kd.slice 3 (Kd.int .i64)) 25 w' w.heap.size (fun k_ => (P0_ k_ ∨ w.heap.size ≤ k_)) v5 x5_1) ∧ Aside0 (Below w.heap.size w w'))
    case atStart => exact ⟨(([] : List (List Int))), (0), (by first | rfl | (simp; done) | (simp [*]; done)), H', ⟨Nat.le_refl _⟩, ⟨by (with_reducible repeat (first | apply Kd.V_alloc | apply Kd.V_drewN | apply Kd.V_drew)); exact Kd.V_mono HO0.out (fun _ hk => ⟨hk, (by simp [Value.ownBlock])⟩)⟩, ⟨by first | exact Kd.S_nil _ _ _ _ _ | exact Kd.N_nil _ _ _ _ _ | exact Kd.V_nil _ _ _ _ _ | exact Kd.Q_nil _ _ _ _ _ | exact Kd.R_nil _ _ _ _ _⟩, ⟨by repeat (first | (with_reducible first | exact HB.out | apply below_alloc | apply pw_below_drewN | apply below_drew1) | exact HB.out)⟩⟩
    case round =>
      clear H'
      try clear p2
      try clear c3
      try clear c3b0
      try clear c3b1
      try clear c5
      obtain ⟨x5_1, x6_1, rfl, HA, HK1, HO_0, HO_5, HB⟩ := hrel
      cases gk with
      | zero => exact absurd HA.out (by simp [demonref4_permutationsFrom.l0])
      | succ k1 =>
        have H := HA.out
        clear HA
        simp only [demonref4_permutationsFrom.l0] at H
        by_cases c6 : x6_1 < a1
        · rw [if_pos c6] at H
          have c6b0 : decide (x6_1 < a1) = true := decide_eq_true c6
          clear c6
          replace H := Option.bind_eq_some_iff.mp H
          obtain ⟨t277, A70, H⟩ := H
          replace H : (if t277 = true then (demonref4_permutationsFrom.l0 k1 l0 a1 x5_1 (wrap64 (x6_1 + 1))) else (if ([] : List Int).length + l0.length < 17592186044416 then ((some (([] : List Int) ++ l0 : List Int)).bind fun y278 => (if y278.length < 17592186044416 then ((demonref4_permutationsFrom.f k1 (y278 ++ [x6_1]) a1).bind fun t284 => (if x5_1.length + t284.length < 5864062014805 then (demonref4_permutationsFrom.l0 k1 l0 a1 (x5_1 ++ t284) (wrap64 (x6_1 + 1))) else (none))) else (none))) else (none))) = some r := H
          have A7 := Aside0.mk A70
          clear A70
          by_cases c8 : t277 = true
          · subst c8
            have H1 : (demonref4_permutationsFrom.l0 k1 l0 a1 x5_1 (wrap64 (x6_1 + 1))) = some r := by rw [if_pos rfl] at H; exact H
            clear H
            have H := H1
            clear H1
            have H' := Aside0.mk H
            clear H
            go_wp2_with (first | ((with_reducible refine gate_callee (f := 14) rfl ?_); refine goesL_ (some 22) rfl rfl Tryd.func14 (by kernel_rfl) rfl #[.slice A0 l0.length c0, .int .i64 x6_1] rfl (by (try simp only [List.map_toArray, List.map_cons, List.map_nil]); first | done | rfl | (simp only [List.length_drop, List.length_take]; rfl)) ?_; (with_reducible refine (demonref1_Contains.calls k1 _ _ l0 x6_1 true _ ?side1 ?side2 A7.out).mono ?_); (case side1 => repeat (first | exact (Kd.V_reads' HO_0.out).2.2 | (with_reducible refine Kd.C_alloc ?_ _) | (with_reducible refine Kd.C_drewN ?_ _) | (with_reducible refine Kd.C_drew ?_))); (case side2 => exact (Kd.V_reads' HO_0.out).2.1); rintro e w' ⟨rfl, ⟨nd, rfl⟩⟩; refine ⟨_, rfl, ?_⟩))
            go_roundg k1
            case measure => have := HK1.out; omega
            case rel => exact ⟨(x5_1), (wrap64 (x6_1 + 1)), (by first | rfl | (simp; done) | (simp [*]; done)), H', ⟨by have := HK1.out; omega⟩, ⟨by (with_reducible repeat (first | apply Kd.V_alloc | apply Kd.V_drewN | apply Kd.V_drew)); exact HO_0.out⟩, ⟨by (with_reducible repeat (first | apply Kd.N_alloc | apply Kd.N_drewN | apply Kd.N_drew)); exact HO_5.out⟩, ⟨by repeat (first | (with_reducible first | exact HB.out | apply below_alloc | apply pw_below_drewN | apply below_drew1) | exact HB.out)⟩⟩
          · replace c8 := Bool.eq_false_iff.mpr c8
            subst c8
            have H1 : (if ([] : List Int).length + l0.length < 17592186044416 then ((some (([] : List Int) ++ l0 : List Int)).bind fun y278 => (if y278.length < 17592186044416 then ((demonref4_permutationsFrom.f k1 (y278 ++ [x6_1]) a1).bind fun t284 => (if x5_1.length + t284.length < 5864062014805 then (demonref4_permutationsFrom.l0 k1 l0 a1 (x5_1 ++ t284) (wrap64 (x6_1 + 1))) else (none))) else (none))) else (none)) = some r := by rw [if_neg (show ¬ (false = true) by decide)] at H; exact H
            clear H
            have H := H1
            clear H1
            by_cases c9 : ([] : List Int).length + l0.length < 17592186044416
            · rw [if_pos c9] at H
              have LMc9 := Aside0.mk c9
              clear c9
              obtain ⟨y278, hy278⟩ : ∃ y_ : List Int, y_ = (([] : List Int) ++ l0) := ⟨_, rfl⟩
              replace H : (if y278.length < 17592186044416 then ((demonref4_permutationsFrom.f k1 (y278 ++ [x6_1]) a1).bind fun t284 => (if x5_1.length + t284.length < 5864062014805 then (demonref4_permutationsFrom.l0 k1 l0 a1 (x5_1 ++ t284) (wrap64 (x6_1 + 1))) else (none))) else (none)) = some r := by first | (rw [hy278]; with_reducible exact H) | (have H2_ := (Option.bind_some _ _).symm.trans H; rw [hy278]; with_reducible exact H2_) | (have H2_ := (Option.bind_some _ _).symm.trans H; with_reducible exact H2_) | with_reducible exact H | (rw [hy278]; exact H) | exact H
              have Ny278 := Aside0.mk hy278
              clear hy278
              by_cases c10 : y278.length < 17592186044416
              · rw [if_pos c10] at H
                have LMc10 := Aside0.mk c10
                clear c10
                obtain ⟨y281, hy281⟩ : ∃ y_ : List Int, y_ = (y278 ++ [x6_1]) := ⟨_, rfl⟩
                replace H : ((demonref4_permutationsFrom.f k1 y281 a1).bind fun t284 => (if x5_1.length + t284.length < 5864062014805 then (demonref4_permutationsFrom.l0 k1 l0 a1 (x5_1 ++ t284) (wrap64 (x6_1 + 1))) else (none))) = some r := by first | (rw [hy281]; with_reducible exact H) | (have H2_ := (Option.bind_some _ _).symm.trans H; rw [hy281]; with_reducible exact H2_) | (have H2_ := (Option.bind_some _ _).symm.trans H; with_reducible exact H2_) | with_reducible exact H | (rw [hy281]; exact H) | exact H
                have Ny281 := Aside0.mk hy281
                clear hy281
                replace H := Option.bind_eq_some_iff.mp H
                obtain ⟨t284, A110, H⟩ := H
                replace H : (if x5_1.length + t284.length < 5864062014805 then (demonref4_permutationsFrom.l0 k1 l0 a1 (x5_1 ++ t284) (wrap64 (x6_1 + 1))) else (none)) = some r := H
                have A11 := Aside0.mk A110
                clear A110
                by_cases c12 : x5_1.length + t284.length < 5864062014805
                · rw [if_pos c12] at H
                  have LMc12 := Aside0.mk c12
                  clear c12
                  obtain ⟨y287, hy287⟩ : ∃ y_ : List (List Int), y_ = (x5_1 ++ t284) := ⟨_, rfl⟩
                  replace H : (demonref4_permutationsFrom.l0 k1 l0 a1 y287 (wrap64 (x6_1 + 1))) = some r := by first | (rw [hy287]; with_reducible exact H) | (have H2_ := (Option.bind_some _ _).symm.trans H; rw [hy287]; with_reducible exact H2_) | (have H2_ := (Option.bind_some _ _).symm.trans H; with_reducible exact H2_) | with_reducible exact H | (rw [hy287]; exact H) | exact H
                  have Ny287 := Aside0.mk hy287
                  clear hy287
                  have H' := Aside0.mk H
                  clear H
                  go_wp2_with (first | ((with_reducible refine gate_callee (f := 14) rfl ?_); refine goesL_ (some 22) rfl rfl Tryd.func14 (by kernel_rfl) rfl #[.slice A0 l0.length c0, .int .i64 x6_1] rfl (by (try simp only [List.map_toArray, List.map_cons, List.map_nil]); first | done | rfl | (simp only [List.length_drop, List.length_take]; rfl)) ?_; (with_reducible refine (demonref1_Contains.calls k1 _ _ l0 x6_1 false _ ?side1 ?side2 A7.out).mono ?_); (case side1 => repeat (first | exact (Kd.V_reads' HO_0.out).2.2 | (with_reducible refine Kd.C_alloc ?_ _) | (with_reducible refine Kd.C_drewN ?_ _) | (with_reducible refine Kd.C_drew ?_))); (case side2 => exact (Kd.V_reads' HO_0.out).2.1); rintro e w' ⟨rfl, ⟨nd, rfl⟩⟩; refine ⟨_, rfl, ?_⟩) | ((with_reducible refine gate_builtin (b := .append) (xs := #[.tmp 24, .tmp 25]) rfl ?_); at_builtin; refine Kd.R_append_rows (Kd.int .i64) (w0 := w) w.heap.size rfl (.tmp 24) (.tmp 25) 25 3 (.int .i64 0) 8 rfl Tryd.underlying25 info3 rfl (by decide) (by omega) (.slice none 0 0) ([] : List Int) l0 _ _ _ (fun k_ => (w.heap.size ≤ k_)) (fun _ => False) rfl rfl ?aO ?aR (fun _ _ h => h) (fun _ h => h.elim) ?aF ?aB ?aS ?aL ?_; (case aR => repeat (first | exact (Kd.V_reads' HO_0.out).2.2 | (with_reducible refine Kd.C_alloc ?_ _) | (with_reducible refine Kd.C_drewN ?_ _) | (with_reducible refine Kd.C_drew ?_))); (case aB => exact (by repeat (first | (with_reducible first | exact HB.out | apply below_alloc | apply pw_below_drewN | apply below_drew1) | exact HB.out))); (case aF => exact (fun k_ hk => (Nat.le_trans (below_size (by repeat (first | (with_reducible first | exact HB.out | apply below_alloc | apply pw_below_drewN | apply below_drew1) | exact HB.out))) hk))); (case aO => exact ((Kd.R_nil _ _ _ _ (fun k_ => (w.heap.size ≤ k_))))); (case aS => exact (below_size (by repeat (first | (with_reducible first | exact HB.out | apply below_alloc | apply pw_below_drewN | apply below_drew1) | exact HB.out)))); (case aL => have := LMc9.out; omega); intro v279 w13 ho hb hg hat; rw [← Ny278.out] at ho; have n0_ := Aside0.mk (Kd.V_afterv (Kd.V_apart_nil (by (with_reducible repeat (first | apply Kd.V_alloc | apply Kd.V_drewN | apply Kd.V_drew)); exact HO_0.out)) hg hat); have n1_ := Aside0.mk (Kd.N_afterv (Kd.N_apart_nil (by (with_reducible repeat (first | apply Kd.N_alloc | apply Kd.N_drewN | apply Kd.N_drew)); exact HO_5.out)) hg hat); have n2_ := Aside0.mk (hb); have n3_ := Aside0.mk (ho); clear HO_0; clear HO_5; clear HB; have HO_0 := n0_; have HO_5 := n1_; have HB := n2_; have HO280 := n3_; clear n0_ n1_ n2_ n3_; clear ho hb hg hat) | ((with_reducible refine gate_builtin (b := .append) (xs := #[.tmp 28, .tmp 30]) rfl ?_); at_builtin; refine Kd.R_append (Kd.int .i64) (w0 := w) w.heap.size rfl (.tmp 28) (.tmp 30) 25 3 (.int .i64 0) 8 rfl Tryd.underlying25 info3 rfl (by decide) (by omega) v279 y278 x6_1 [.int .i64 x6_1] (fun k_ => (w.heap.size ≤ k_)) (fun _ => False) rfl rfl ?aP (fun _ hk => hk.elim) ?aF ?aO ?aB ?aS ?aL ?_; (case aP => exact rfl); (case aB => exact (by repeat (first | (with_reducible first | exact HB.out | apply below_alloc | apply pw_below_drewN | apply below_drew1) | exact HB.out))); (case aF => exact (fun k_ hk => (Nat.le_trans (below_size (by repeat (first | (with_reducible first | exact HB.out | apply below_alloc | apply pw_below_drewN | apply below_drew1) | exact HB.out))) hk))); (case aO => exact (by (with_reducible repeat (first | apply Kd.R_alloc | apply Kd.R_drewN | apply Kd.R_drew)); exact HO280.out)); (case aS => exact (below_size (by repeat (first | (with_reducible first | exact HB.out | apply below_alloc | apply pw_below_drewN | apply below_drew1) | exact HB.out)))); (case aL => have := LMc10.out; omega); intro v282 w14 ho hb hg hat; rw [← Ny281.out] at ho; have n0_ := Aside0.mk (Kd.V_afterv (ok := (fun k_ => (P0_ k_ ∨ w.heap.size ≤ k_) ∧ some k_ ≠ (u5 : Value).ownBlock)) (by (with_reducible repeat (first | apply Kd.V_alloc | apply Kd.V_drewN | apply Kd.V_drew)); exact HO_0.out) hg hat); have n1_ := Aside0.mk (Kd.N_afterv (ok := (fun k_ => (P0_ k_ ∨ w.heap.size ≤ k_))) (by (with_reducible repeat (first | apply Kd.N_alloc | apply Kd.N_drewN | apply Kd.N_drew)); exact HO_5.out) hg hat); have n2_ := Aside0.mk (hb); have n3_ := Aside0.mk (ho); clear HO_0; clear HO_5; clear HB; clear HO280; have HO_0 := n0_; have HO_5 := n1_; have HB := n2_; have HO283 := n3_; clear n0_ n1_ n2_ n3_; clear ho hb hg hat; obtain ⟨Ao15, co15, eo15⟩ := Kd.R_slice HO283.out; subst eo15) | ((with_reducible refine gate_callee (f := 58) rfl ?_); refine goesL_ (some 33) rfl rfl Tryd.func58 (by kernel_rfl) rfl #[.slice Ao15 y281.length co15, .int .i64 a1] rfl (by (try simp only [List.map_toArray, List.map_cons, List.map_nil]); first | done | rfl | (simp only [List.length_drop, List.length_take]; rfl)) ?_; (with_reducible refine (ih k1 (by have := HK1.out; omega) (fun k_ => some k_ = (.slice Ao15 y281.length co15 : Value).ownBlock) _ _ y281 a1 t284 _ ?side1 A11.out).mono ?_); (case side1 => exact Kd.R_V (Kd.R_tight rfl (Kd.R_apart' (HO283.out) (Kd.N_typed HO_5.out) (by decide)))); rintro e w16 ⟨v285, rfl, ho0, hb⟩; refine ⟨_, rfl, ?_⟩; have n0_ := Aside0.mk (Kd.V_elder' (by (with_reducible repeat (first | apply Kd.V_alloc | apply Kd.V_drewN | apply Kd.V_drew)); exact HO_0.out) (Kd.N_base ho0) hb); have n1_ := Aside0.mk (Kd.N_elder' (by (with_reducible repeat (first | apply Kd.N_alloc | apply Kd.N_drewN | apply Kd.N_drew)); exact HO_5.out) (Kd.N_base ho0) hb); have n2_ := Aside0.mk (Kd.R_below (by (with_reducible repeat (first | apply Kd.R_alloc | apply Kd.R_drewN | apply Kd.R_drew)); exact HO283.out) hb); have n3_ := Aside0.mk (Kd.N_lower (Kd.N_mono (ok' := fun k_ => (P0_ k_ ∨ w.heap.size ≤ k_) ∧ some k_ ≠ (u5 : Value).ownBlock) ho0 (fun k_ hk_ => ⟨Or.elim hk_ (fun hs_ => (.inr (((Kd.R_apart' (HO283.out) (Kd.N_typed HO_5.out) (by decide)).1 k_ hs_.symm).1))) (fun hn_ => (.inr (Nat.le_trans (below_size (by repeat (first | (with_reducible first | exact HB.out | apply below_alloc | apply pw_below_drewN | apply below_drew1) | exact HB.out))) hn_))), Or.elim hk_ (fun hs_ => ((Kd.R_apart' (HO283.out) (Kd.N_typed HO_5.out) (by decide)).1 k_ hs_.symm).2) (fun hn_ => (Kd.fresh' (Kd.N_lt (by (with_reducible repeat (first | apply Kd.N_alloc | apply Kd.N_drewN | apply Kd.N_drew)); exact HO_5.out)) k_ hn_))⟩)) (below_size (by repeat (first | (with_reducible first | exact HB.out | apply below_alloc | apply pw_below_drewN | apply below_drew1) | exact HB.out)))); have n4_ := Aside0.mk (below_step (by repeat (first | (with_reducible first | exact HB.out | apply below_alloc | apply pw_below_drewN | apply below_drew1) | exact HB.out)) hb); clear HO_0; clear HO_5; clear HO283; clear HB; have HO_0 := n0_; have HO_5 := n1_; have HO283 := n2_; have HO286 := n3_; have HB := n4_; clear n0_ n1_ n2_ n3_ n4_; (try clear hb); (try clear hb2); (try clear hk); (try clear hi); (try clear ho0); obtain ⟨Ao18, co18, eo18⟩ := Kd.N_slice HO286.out; subst eo18) | ((with_reducible refine gate_builtin (b := .append) (xs := #[.tmp 27, .tmp 33]) rfl ?_); at_builtin; refine Kd.N_append_rows (Kd.slice 3 (Kd.int .i64)) (w0 := w) w.heap.size rfl (.tmp 27) (.tmp 33) 22 25 (.slice none 0 0) 24 rfl Tryd.underlying22 info25 rfl (by decide) (by omega) u5 x5_1 t284 _ _ _ (fun k_ => (P0_ k_ ∨ w.heap.size ≤ k_)) (fun k_ => ((fun k_ => (P0_ k_ ∨ w.heap.size ≤ k_))) k_ ∧ some k_ ≠ (u5 : Value).ownBlock) rfl rfl ?aO ?aR (fun _ hk => hk) ?aF ?aB ?aS ?aL ?_; (case aR => exact (by skip; exact Kd.N_F (Kd.N_mono (ok' := (fun k_ => ((fun k_ => (P0_ k_ ∨ w.heap.size ≤ k_))) k_ ∧ some k_ ≠ (u5 : Value).ownBlock)) (HO286.out) (fun k_ hk => ⟨hk.1, hk.2⟩)))); (case aB => exact (by repeat (first | (with_reducible first | exact HB.out | apply below_alloc | apply pw_below_drewN | apply below_drew1) | exact HB.out))); (case aF => exact (fun k_ hk => (.inr (Nat.le_trans (below_size (by repeat (first | (with_reducible first | exact HB.out | apply below_alloc | apply pw_below_drewN | apply below_drew1) | exact HB.out))) hk)))); (case aO => exact (by (with_reducible repeat (first | apply Kd.N_alloc | apply Kd.N_drewN | apply Kd.N_drew)); exact Kd.N_mono HO_5.out (fun _ hk => hk.1.1))); (case aS => exact (below_size (by repeat (first | (with_reducible first | exact HB.out | apply below_alloc | apply pw_below_drewN | apply below_drew1) | exact HB.out)))); (case aL => have := LMc12.out; omega); intro v288 w17 ho hb hg hat; rw [← Ny287.out] at ho; have n0_ := Aside0.mk (Kd.V_afterv (ok := (fun k_ => (P0_ k_ ∨ w.heap.size ≤ k_) ∧ some k_ ≠ (.slice Ao15 y281.length co15 : Value).ownBlock ∧ some k_ ≠ (.slice Ao18 t284.length co18 : Value).ownBlock)) (by (with_reducible repeat (first | apply Kd.V_alloc | apply Kd.V_drewN | apply Kd.V_drew)); exact Kd.V_mono HO_0.out (fun _ hk => ⟨⟨hk.1.1.1, ⟨hk.1.2, hk.2⟩⟩, hk.1.1.2⟩)) hg hat); have n1_ := Aside0.mk (Kd.R_over' (by (with_reducible repeat (first | apply Kd.R_alloc | apply Kd.R_drewN | apply Kd.R_drew)); exact HO283.out) (Kd.N_typed (by (with_reducible repeat (first | apply Kd.N_alloc | apply Kd.N_drewN | apply Kd.N_drew)); exact HO_5.out)) (by decide) hg); have n2_ := Aside0.mk (Kd.N_afterv (ok := (fun k_ => (P0_ k_ ∨ w.heap.size ≤ k_))) (by (with_reducible repeat (first | apply Kd.N_alloc | apply Kd.N_drewN | apply Kd.N_drew)); exact HO286.out) hg hat); have n3_ := Aside0.mk (hb); have n4_ := Aside0.mk (ho); clear HO_0; clear HO283; clear HO286; clear HB; clear HO_5; have HO_0 := n0_; have HO283 := n1_; have HO286 := n2_; have HB := n3_; have HO289 := n4_; clear n0_ n1_ n2_ n3_ n4_; clear ho hb hg hat))
                  go_roundg k1
                  case measure => have := HK1.out; omega
                  case rel => exact ⟨(y287), (wrap64 (x6_1 + 1)), (by first | rfl | (simp; done) | (simp [*]; done)), H', ⟨by have := HK1.out; omega⟩, ⟨by (with_reducible repeat (first | apply Kd.V_alloc | apply Kd.V_drewN | apply Kd.V_drew)); exact Kd.V_mono HO_0.out (fun _ hk => ⟨hk.1.1, hk.2⟩)⟩, ⟨by (with_reducible repeat (first | apply Kd.N_alloc | apply Kd.N_drewN | apply Kd.N_drew)); exact HO289.out⟩, ⟨by repeat (first | (with_reducible first | exact HB.out | apply below_alloc | apply pw_below_drewN | apply below_drew1) | exact HB.out)⟩⟩
                · rw [if_neg c12] at H
                  exact absurd H (by simp)
              · rw [if_neg c10] at H
                exact absurd H (by simp)
            · rw [if_neg c9] at H
              exact absurd H (by simp)
        · rw [if_neg c6] at H
          have c6b0 : decide (x6_1 < a1) = false := decide_eq_false c6
          clear c6
          obtain rfl := Option.some.inj H
          go_wp2
          go_ret
          exact ⟨_, by first | rfl | (simp [errW_none, errW_some] <;> rfl) | (simp [*, errW_none, errW_some] <;> rfl), by (with_reducible repeat (first | apply Kd.N_alloc | apply Kd.N_drewN | apply Kd.N_drew)); exact HO_5.out, by repeat (first | (with_reducible first | exact HB.out | apply below_alloc | apply pw_below_drewN | apply below_drew1) | exact HB.out)⟩

/-! ### demonref4_Permutations: function 47 -/
def demonref4_Permutations.f (k : Nat) (a0 : Int) : Option ((List (List Int))) := (demonref4_permutationsFrom.f k ([] : List Int) a0).bind fun t290 => (some t290)
theorem demonref4_Permutations.mono : ∀ a0 k, LeO (demonref4_Permutations.f k a0) (demonref4_Permutations.f (k + 1) a0) := by
  intro a0 k
  unfold demonref4_Permutations.f
  repeat' first
      | (with_reducible exact demonref4_permutationsFrom.mono _ _ _)
      | (with_reducible exact LeO.refl _)
      | (with_reducible exact LeO.none _)
      | (with_reducible refine LeO.ite ?_ ?_)
      | (with_reducible refine LeO.bind ?_ (fun _ => ?_))
      | exact demonref4_permutationsFrom.mono _ _ _
      | exact LeO.none _
      | refine LeO.ite ?_ ?_
      | refine LeO.bind ?_ (fun _ => ?_)
set_option maxHeartbeats 8000000 in
set_option maxRecDepth 100000 in
theorem demonref4_Permutations.calls (k : Nat) (a0 : Int) (r : List (List Int)) (w : World) (h : demonref4_Permutations.f k a0 = some r) :
    Calls Tryd.prog 47 #[.int .i64 a0] w fun e w' => ∃ v0_ : Value, e = .returned (v0_) ∧ Kd.N (Kd.slice 3 (Kd.int .i64)) 25 w' w.heap.size (fun k_ => (w.heap.size ≤ k_)) v0_ r ∧ Below w.heap.size w w' := by
  have HB := Aside0.mk (Below.refl w.heap.size w)
  have H : ((demonref4_permutationsFrom.f k ([] : List Int) a0).bind fun t290 => (some t290)) = some r := h
  clear h
  replace H := Option.bind_eq_some_iff.mp H
  obtain ⟨t290, A20, H⟩ := H
  replace H : (some t290) = some r := H
  have A2 := Aside0.mk A20
  clear A20
  obtain rfl := Option.some.inj H
  go_enter Tryd.func47, Tryd.ntmps47
  go_wp2_with (first | ((with_reducible refine gate_callee (f := 58) rfl ?_); refine goesL_ (some 4) rfl rfl Tryd.func58 (by kernel_rfl) rfl #[.slice none 0 0, .int .i64 a0] rfl (by (try simp only [List.map_toArray, List.map_cons, List.map_nil]); first | done | rfl | (simp only [List.length_drop, List.length_take]; rfl)) ?_; (refine (demonref4_permutationsFrom.calls k (fun k_ => False) _ _ ([] : List Int) a0 t290 _ ?side1 A2.out).mono ?_); (case side1 => exact Kd.V_nil _ _ _ _ _); rintro e w3 ⟨v291, rfl, ho0, hb⟩; refine ⟨_, rfl, ?_⟩; have n0_ := Aside0.mk (Kd.N_lower (Kd.N_mono (ok' := fun k_ => (w.heap.size ≤ k_)) ho0 (fun k_ hk_ => Or.elim hk_ (fun hs_ => (hs_).elim) (fun hn_ => (Nat.le_trans (below_size (by repeat (first | (with_reducible first | exact HB.out | apply below_alloc | apply pw_below_drewN | apply below_drew1) | exact HB.out))) hn_)))) (below_size (by repeat (first | (with_reducible first | exact HB.out | apply below_alloc | apply pw_below_drewN | apply below_drew1) | exact HB.out)))); have n1_ := Aside0.mk (below_step (by repeat (first | (with_reducible first | exact HB.out | apply below_alloc | apply pw_below_drewN | apply below_drew1) | exact HB.out)) hb); clear HB; have HO292 := n0_; have HB := n1_; clear n0_ n1_; (try clear hb); (try clear hb2); (try clear hk); (try clear hi); (try clear ho0)))
  go_ret
  exact ⟨_, by first | rfl | (simp [errW_none, errW_some] <;> rfl) | (simp [*, errW_none, errW_some] <;> rfl), by (with_reducible repeat (first | apply Kd.N_alloc | apply Kd.N_drewN | apply Kd.N_drew)); exact HO292.out, by repeat (first | (with_reducible first | exact HB.out | apply below_alloc | apply pw_below_drewN | apply below_drew1) | exact HB.out)⟩

-- NOT PRINTED: function 31 (demonref4_PartsOf)

/-! ### demonref1_SameLists: function 32 -/
def demonref1_SameLists.l0 : Nat → List (List Int) → List (List Int) → Int → Option (Bool)
  | 0, _, _, _ => none
  | k + 1, x0, x1, x5 => if x5 < (x0.length : Int) then (if 0 ≤ x5 then (if x5 < (x1.length : Int) then ((demonref1_SameInts.f k (rd_L1 x0 x5) (rd_L1 x1 x5)).bind fun t320 => (if t320 = true then (demonref1_SameLists.l0 k x0 x1 (wrap64 (x5 + 1))) else (some false))) else (none)) else (none)) else (some true)
def demonref1_SameLists.f (k : Nat) (l0 : List (List Int)) (l1 : List (List Int)) : Option (Bool) := if (l0.length : Int) = (l1.length : Int) then (demonref1_SameLists.l0 k l0 l1 0) else (some false)
theorem demonref1_SameLists.mono_l : ∀ k, (∀ y0 y1 y2, LeO (demonref1_SameLists.l0 k y0 y1 y2) (demonref1_SameLists.l0 (k + 1) y0 y1 y2))
  | 0 => fun _ _ _ r h => by simp [demonref1_SameLists.l0] at h
  | k + 1 => by
    have ih0 := demonref1_SameLists.mono_l k
    · intro y0 y1 y2
      unfold demonref1_SameLists.l0
      repeat' first
      | (with_reducible exact ih0 _ _ _)
      | (with_reducible exact demonref1_SameInts.mono _ _ _)
      | (with_reducible exact LeO.refl _)
      | (with_reducible exact LeO.none _)
      | (with_reducible refine LeO.ite ?_ ?_)
      | (with_reducible refine LeO.bind ?_ (fun _ => ?_))
      | exact ih0 _ _ _
      | exact demonref1_SameInts.mono _ _ _
      | exact LeO.none _
      | refine LeO.ite ?_ ?_
      | refine LeO.bind ?_ (fun _ => ?_)
theorem demonref1_SameLists.mono : ∀ a0 a1 k, LeO (demonref1_SameLists.f k a0 a1) (demonref1_SameLists.f (k + 1) a0 a1) := by
  intro a0 a1 k
  have ih0 := demonref1_SameLists.mono_l k
  unfold demonref1_SameLists.f
  repeat' first
      | (with_reducible exact ih0 _ _ _)
      | (with_reducible exact demonref1_SameInts.mono _ _ _)
      | (with_reducible exact LeO.refl _)
      | (with_reducible exact LeO.none _)
      | (with_reducible refine LeO.ite ?_ ?_)
      | (with_reducible refine LeO.bind ?_ (fun _ => ?_))
      | exact ih0 _ _ _
      | exact demonref1_SameInts.mono _ _ _
      | exact LeO.none _
      | refine LeO.ite ?_ ?_
      | refine LeO.bind ?_ (fun _ => ?_)
set_option maxHeartbeats 8000000 in
set_option maxRecDepth 100000 in
theorem demonref1_SameLists.calls (k : Nat) (A0 : Option Addr) (c0 : Nat) (l0 : List (List Int)) (A1 : Option Addr) (c1 : Nat) (l1 : List (List Int)) (r : Bool) (w : World) (hr0 : Kd.C (Kd.slice 3 (Kd.int .i64)) w A0 l0.length l0) (hc0 : l0.length ≤ c0) (hr1 : Kd.C (Kd.slice 3 (Kd.int .i64)) w A1 l1.length l1) (hc1 : l1.length ≤ c1) (h : demonref1_SameLists.f k l0 l1 = some r) :
    Calls Tryd.prog 32 #[.slice A0 l0.length c0, .slice A1 l1.length c1] w fun e w' => e = .returned (.bool r) ∧ Drawn0 w w' := by
  have HR0 := Aside0.mk hr0
  have HC0 := Aside0.mk hc0
  clear hr0 hc0
  have HR1 := Aside0.mk hr1
  have HC1 := Aside0.mk hc1
  clear hr1 hc1
  have H : (if (l0.length : Int) = (l1.length : Int) then (demonref1_SameLists.l0 k l0 l1 0) else (some false)) = some r := h
  clear h
  by_cases c3 : (l0.length : Int) = (l1.length : Int)
  · rw [if_pos c3] at H
    have c3b0 : ((l0.length : Int) == (l1.length : Int)) = true := beq_iff_eq.mpr c3
    have c3b1 : ((l0.length : Int) != (l1.length : Int)) = false := bne_eq_false_iff_eq.mpr c3
    have c3b2 : (l0.length == l1.length) = true := by first | simpa using c3 | (simp at c3 ⊢; omega)
    clear c3
    have H' := Aside0.mk H
    clear H
    go_enter Tryd.func32, Tryd.ntmps32
    go_wp2
    repeat (go_quiet (fail); try go_wp2)
    go_loopg [5] k (fun kq v5 w' => ∃ (x5_1 : Int), v5 = .int .i64 x5_1 ∧ Aside0 (demonref1_SameLists.l0 kq l0 l1 x5_1 = some r) ∧ Aside0 (kq ≤ k) ∧ Drawn0 w w')
    case atStart => exact ⟨(0), (by first | rfl | (simp; done) | (simp [*]; done)), H', ⟨Nat.le_refl _⟩, by repeat (first | exact Drawn0.refl _ | apply Drawn0.step)⟩
    case round =>
      clear H'
      try clear c1
      try clear p2
      try clear c3
      try clear c3b0
      try clear c3b1
      try clear c3b2
      obtain ⟨x5_1, rfl, HA, HK1, ⟨m1, rfl⟩⟩ := hrel
      cases gk with
      | zero => exact absurd HA.out (by simp [demonref1_SameLists.l0])
      | succ k1 =>
        have H := HA.out
        clear HA
        simp only [demonref1_SameLists.l0] at H
        by_cases c4 : x5_1 < (l0.length : Int)
        · rw [if_pos c4] at H
          have c4b0 : decide (x5_1 < (l0.length : Int)) = true := decide_eq_true c4
          clear c4
          by_cases c5 : 0 ≤ x5_1
          · rw [if_pos c5] at H
            have c5b0 : decide (0 ≤ x5_1) = true := decide_eq_true c5
            clear c5
            by_cases c6 : x5_1 < (l1.length : Int)
            · rw [if_pos c6] at H
              have c6b0 : decide (x5_1 < (l1.length : Int)) = true := decide_eq_true c6
              clear c6
              replace H := Option.bind_eq_some_iff.mp H
              obtain ⟨t320, A70, H⟩ := H
              replace H : (if t320 = true then (demonref1_SameLists.l0 k1 l0 l1 (wrap64 (x5_1 + 1))) else (some false)) = some r := H
              have A7 := Aside0.mk A70
              clear A70
              by_cases c8 : t320 = true
              · subst c8
                have H1 : (demonref1_SameLists.l0 k1 l0 l1 (wrap64 (x5_1 + 1))) = some r := by rw [if_pos rfl] at H; exact H
                clear H
                have H := H1
                clear H1
                have H' := Aside0.mk H
                clear H
                have p318 : 0 ≤ (x5_1 : Int) := of_decide_eq_true (by first | (with_reducible assumption) | assumption)
                have q318 : x5_1 < (l0.length : Int) := of_decide_eq_true (by first | (with_reducible assumption) | assumption)
                obtain ⟨ad318, A318_0, c318_0, e318, hx318_0, hl318_0, hi318_0⟩ := at_L1 HR0.out x5_1 p318 q318
                cases e318
                have HR318_0 := Aside0.mk hi318_0
                have HC318_0 := Aside0.mk hl318_0
                clear hi318_0 hl318_0
                replace p318 := eq_true p318
                replace q318 := eq_true q318
                have p319 : 0 ≤ (x5_1 : Int) := of_decide_eq_true (by first | (with_reducible assumption) | assumption)
                have q319 : x5_1 < (l1.length : Int) := of_decide_eq_true (by first | (with_reducible assumption) | assumption)
                obtain ⟨ad319, A319_0, c319_0, e319, hx319_0, hl319_0, hi319_0⟩ := at_L1 HR1.out x5_1 p319 q319
                cases e319
                have HR319_0 := Aside0.mk hi319_0
                have HC319_0 := Aside0.mk hl319_0
                clear hi319_0 hl319_0
                replace p319 := eq_true p319
                replace q319 := eq_true q319
                go_wp2_with (first | (go_at_call 25; (with_reducible refine (demonref1_SameInts.calls k1 _ _ (rd_L1 l0 x5_1) _ _ (rd_L1 l1 x5_1) true _ ?side1 ?side2 ?side3 ?side4 A7.out).mono ?_); (case side1 => repeat (first | exact HR318_0.out | (with_reducible refine Kd.C_alloc ?_ _) | (with_reducible refine Kd.C_drewN ?_ _) | (with_reducible refine Kd.C_drew ?_))); (case side2 => exact HC318_0.out); (case side3 => repeat (first | exact HR319_0.out | (with_reducible refine Kd.C_alloc ?_ _) | (with_reducible refine Kd.C_drewN ?_ _) | (with_reducible refine Kd.C_drew ?_))); (case side4 => exact HC319_0.out); rintro e w' ⟨rfl, ⟨nd, rfl⟩⟩; (try first | exact ⟨rfl, _, World.drewN_drewN _ _ _⟩ | exact ⟨rfl, _, Eq.trans (World.drewN_drewN _ _ _) (congrArg (World.drewN _) (Nat.add_assoc _ _ _))⟩)))
                repeat (go_quiet (first | (go_at_call 25; (with_reducible refine (demonref1_SameInts.calls k1 _ _ (rd_L1 l0 x5_1) _ _ (rd_L1 l1 x5_1) true _ ?side1 ?side2 ?side3 ?side4 A7.out).mono ?_); (case side1 => repeat (first | exact HR318_0.out | (with_reducible refine Kd.C_alloc ?_ _) | (with_reducible refine Kd.C_drewN ?_ _) | (with_reducible refine Kd.C_drew ?_))); (case side2 => exact HC318_0.out); (case side3 => repeat (first | exact HR319_0.out | (with_reducible refine Kd.C_alloc ?_ _) | (with_reducible refine Kd.C_drewN ?_ _) | (with_reducible refine Kd.C_drew ?_))); (case side4 => exact HC319_0.out); rintro e w' ⟨rfl, ⟨nd, rfl⟩⟩; (try first | exact ⟨rfl, _, World.drewN_drewN _ _ _⟩ | exact ⟨rfl, _, Eq.trans (World.drewN_drewN _ _ _) (congrArg (World.drewN _) (Nat.add_assoc _ _ _))⟩))); try go_wp2_with (first | (go_at_call 25; (with_reducible refine (demonref1_SameInts.calls k1 _ _ (rd_L1 l0 x5_1) _ _ (rd_L1 l1 x5_1) true _ ?side1 ?side2 ?side3 ?side4 A7.out).mono ?_); (case side1 => repeat (first | exact HR318_0.out | (with_reducible refine Kd.C_alloc ?_ _) | (with_reducible refine Kd.C_drewN ?_ _) | (with_reducible refine Kd.C_drew ?_))); (case side2 => exact HC318_0.out); (case side3 => repeat (first | exact HR319_0.out | (with_reducible refine Kd.C_alloc ?_ _) | (with_reducible refine Kd.C_drewN ?_ _) | (with_reducible refine Kd.C_drew ?_))); (case side4 => exact HC319_0.out); rintro e w' ⟨rfl, ⟨nd, rfl⟩⟩; (try first | exact ⟨rfl, _, World.drewN_drewN _ _ _⟩ | exact ⟨rfl, _, Eq.trans (World.drewN_drewN _ _ _) (congrArg (World.drewN _) (Nat.add_assoc _ _ _))⟩))))
                go_roundg k1
                case measure => have := HK1.out; omega
                case rel => exact ⟨(wrap64 (x5_1 + 1)), (by first | rfl | (simp; done) | (simp [*]; done)), H', ⟨by have := HK1.out; omega⟩, by repeat (first | exact Drawn0.refl _ | apply Drawn0.step)⟩
              · replace c8 := Bool.eq_false_iff.mpr c8
                subst c8
                have H1 : (some false) = some r := by rw [if_neg (show ¬ (false = true) by decide)] at H; exact H
                clear H
                have H := H1
                clear H1
                obtain rfl := Option.some.inj H
                have p318 : 0 ≤ (x5_1 : Int) := of_decide_eq_true (by first | (with_reducible assumption) | assumption)
                have q318 : x5_1 < (l0.length : Int) := of_decide_eq_true (by first | (with_reducible assumption) | assumption)
                obtain ⟨ad318, A318_0, c318_0, e318, hx318_0, hl318_0, hi318_0⟩ := at_L1 HR0.out x5_1 p318 q318
                cases e318
                have HR318_0 := Aside0.mk hi318_0
                have HC318_0 := Aside0.mk hl318_0
                clear hi318_0 hl318_0
                replace p318 := eq_true p318
                replace q318 := eq_true q318
                have p319 : 0 ≤ (x5_1 : Int) := of_decide_eq_true (by first | (with_reducible assumption) | assumption)
                have q319 : x5_1 < (l1.length : Int) := of_decide_eq_true (by first | (with_reducible assumption) | assumption)
                obtain ⟨ad319, A319_0, c319_0, e319, hx319_0, hl319_0, hi319_0⟩ := at_L1 HR1.out x5_1 p319 q319
                cases e319
                have HR319_0 := Aside0.mk hi319_0
                have HC319_0 := Aside0.mk hl319_0
                clear hi319_0 hl319_0
                replace p319 := eq_true p319
                replace q319 := eq_true q319
                go_wp2_with (first | (go_at_call 25; (with_reducible refine (demonref1_SameInts.calls k1 _ _ (rd_L1 l0 x5_1) _ _ (rd_L1 l1 x5_1) false _ ?side1 ?side2 ?side3 ?side4 A7.out).mono ?_); (case side1 => repeat (first | exact HR318_0.out | (with_reducible refine Kd.C_alloc ?_ _) | (with_reducible refine Kd.C_drewN ?_ _) | (with_reducible refine Kd.C_drew ?_))); (case side2 => exact HC318_0.out); (case side3 => repeat (first | exact HR319_0.out | (with_reducible refine Kd.C_alloc ?_ _) | (with_reducible refine Kd.C_drewN ?_ _) | (with_reducible refine Kd.C_drew ?_))); (case side4 => exact HC319_0.out); rintro e w' ⟨rfl, ⟨nd, rfl⟩⟩; (try first | exact ⟨rfl, _, World.drewN_drewN _ _ _⟩ | exact ⟨rfl, _, Eq.trans (World.drewN_drewN _ _ _) (congrArg (World.drewN _) (Nat.add_assoc _ _ _))⟩)))
                repeat (go_quiet (first | (go_at_call 25; (with_reducible refine (demonref1_SameInts.calls k1 _ _ (rd_L1 l0 x5_1) _ _ (rd_L1 l1 x5_1) false _ ?side1 ?side2 ?side3 ?side4 A7.out).mono ?_); (case side1 => repeat (first | exact HR318_0.out | (with_reducible refine Kd.C_alloc ?_ _) | (with_reducible refine Kd.C_drewN ?_ _) | (with_reducible refine Kd.C_drew ?_))); (case side2 => exact HC318_0.out); (case side3 => repeat (first | exact HR319_0.out | (with_reducible refine Kd.C_alloc ?_ _) | (with_reducible refine Kd.C_drewN ?_ _) | (with_reducible refine Kd.C_drew ?_))); (case side4 => exact HC319_0.out); rintro e w' ⟨rfl, ⟨nd, rfl⟩⟩; (try first | exact ⟨rfl, _, World.drewN_drewN _ _ _⟩ | exact ⟨rfl, _, Eq.trans (World.drewN_drewN _ _ _) (congrArg (World.drewN _) (Nat.add_assoc _ _ _))⟩))); try go_wp2_with (first | (go_at_call 25; (with_reducible refine (demonref1_SameInts.calls k1 _ _ (rd_L1 l0 x5_1) _ _ (rd_L1 l1 x5_1) false _ ?side1 ?side2 ?side3 ?side4 A7.out).mono ?_); (case side1 => repeat (first | exact HR318_0.out | (with_reducible refine Kd.C_alloc ?_ _) | (with_reducible refine Kd.C_drewN ?_ _) | (with_reducible refine Kd.C_drew ?_))); (case side2 => exact HC318_0.out); (case side3 => repeat (first | exact HR319_0.out | (with_reducible refine Kd.C_alloc ?_ _) | (with_reducible refine Kd.C_drewN ?_ _) | (with_reducible refine Kd.C_drew ?_))); (case side4 => exact HC319_0.out); rintro e w' ⟨rfl, ⟨nd, rfl⟩⟩; (try first | exact ⟨rfl, _, World.drewN_drewN _ _ _⟩ | exact ⟨rfl, _, Eq.trans (World.drewN_drewN _ _ _) (congrArg (World.drewN _) (Nat.add_assoc _ _ _))⟩))))
                go_ret
                exact ⟨by first | rfl | (simp; done) | (simp [*]; done), by repeat (first | exact Drawn0.refl _ | apply Drawn0.step)⟩
            · rw [if_neg c6] at H
              exact absurd H (by simp)
          · rw [if_neg c5] at H
            exact absurd H (by simp)
        · rw [if_neg c4] at H
          have c4b0 : decide (x5_1 < (l0.length : Int)) = false := decide_eq_false c4
          clear c4
          obtain rfl := Option.some.inj H
          go_wp2
          repeat (go_quiet (fail); try go_wp2)
          go_ret
          exact ⟨by first | rfl | (simp; done) | (simp [*]; done), by repeat (first | exact Drawn0.refl _ | apply Drawn0.step)⟩
  · rw [if_neg c3] at H
    have c3b0 : ((l0.length : Int) == (l1.length : Int)) = false := beq_eq_false_iff_ne.mpr c3
    have c3b1 : ((l0.length : Int) != (l1.length : Int)) = true := bne_iff_ne.mpr c3
    have c3b2 : (l0.length == l1.length) = false := by first | simpa using c3 | (simp at c3 ⊢; omega)
    obtain rfl := Option.some.inj H
    go_enter Tryd.func32, Tryd.ntmps32
    go_wp2
    repeat (go_quiet (fail); try go_wp2)
    go_ret
    exact ⟨by first | rfl | (simp; done) | (simp [*]; done), by repeat (first | exact Drawn0.refl _ | apply Drawn0.step)⟩

-- NOT PRINTED: function 7 (demonlaw4_OrderParts)

end Go.Proofs.YtcnecmcbjpehcaaDoor.POrderParts

/- Permutations: what it hands back, whatever else is written; what PartsOf builds. No condition. -/
namespace Go.Proofs.YtcnecmcbjpehcaaDoor
open Go.RowKit Go.Deep Go.Proofs.YtcnecmcbjpehcaaDoorW.PrintWords

theorem ints_ofC {w : World} {A : Option Addr} {l : List Int} (h : Kd.C (Kd.int .i64) w A l.length l) : Ints w A l := by
  rcases Nat.eq_zero_or_pos l.length with h0 | h0
  · rw [List.eq_nil_of_length_eq_zero h0]; exact Ints.nil w A
  · obtain ⟨ad, c, rfl, _, hK, hc⟩ := Kd.C_get h 0 0 (by omega) (by omega)
    have hK' : c = [.int .i64 (l.getD 0 0)] := hK
    subst hK'
    have h1 := spot_none (hc 0 _ rfl)
    rw [h1] at h ⊢
    exact Ints.ofC h
theorem perms_f (n : Nat) (h1 : 1 ≤ n) (h5 : n ≤ 5) : POrderParts.demonref4_Permutations.f 40 (n : Int) = some (permsFrom n n []) := by
  have h : n = 1 ∨ n = 2 ∨ n = 3 ∨ n = 4 ∨ n = 5 := by omega
  rcases h with rfl | rfl | rfl | rfl | rfl <;> decide +kernel
theorem perms_len (n : Nat) (h5 : n ≤ 5) : (permsFrom n n []).length ≤ 120 := by
  have h : n = 0 ∨ n = 1 ∨ n = 2 ∨ n = 3 ∨ n = 4 ∨ n = 5 := by omega
  rcases h with rfl | rfl | rfl | rfl | rfl | rfl <;> decide +kernel
theorem perms_ok (n : Nat) (h1 : 1 ≤ n) (h5 : n ≤ 5) (w : World) :
    Calls Tryd.prog 47 #[.int .i64 n] w fun e w' => ∃ A c, e = .returned (.slice A (permsFrom n n []).length c) ∧ (permsFrom n n []).length ≤ c ∧
      (∀ j, j < (permsFrom n n []).length → ∃ b off A' x, A = some ⟨b, off, none⟩ ∧ n ≤ x ∧ ∀ W' : World, (∀ k, w.heap.size ≤ k → k < w'.heap.size → W'.heap[k]? = w'.heap[k]?) → W'.cell? ⟨b, off + j, none⟩ = some (.slice A' n x) ∧ Ints W' A' ((permsFrom n n []).getD j [])) ∧ Below w.heap.size w w' := by
  refine (POrderParts.demonref4_Permutations.calls 40 n (permsFrom n n []) w (perms_f n h1 h5)).mono ?_
  rintro e w' ⟨v, rfl, hN, hb⟩
  obtain ⟨A, c, rfl, hl, hF⟩ := Kd.N_V (base' := 0) hN
  refine ⟨A, c, rfl, hl, fun j hj => ?_, hb⟩
  have hpl : ((permsFrom n n []).getD j []).length = n := (perms_good n _ (by rw [getDL_eq _ j hj]; exact List.getElem_mem hj)).len
  obtain ⟨ad, cc, rfl, _, hK, hc, hok⟩ := Kd.F_get hF [] (j : Int) (by omega) (by omega)
  obtain ⟨ad0, c0, e0, _, hK0, hc0, _⟩ := Kd.F_get hF [] 0 (by omega) (by omega)
  injection e0 with e0
  subst e0
  obtain ⟨A0, c00, rfl, _, _⟩ := Foot.now hK0
  have hs := spot_none (hc0 0 _ rfl)
  obtain ⟨A', x, rfl, hle, _⟩ := Foot.now hK
  have e2 : ((permsFrom n n []).getD (j : Int).toNat []) = (permsFrom n n []).getD j [] := by rw [Int.toNat_natCast]
  rw [e2] at hle hK hc
  have h2 := hc 0 _ rfl
  rw [hs, addr_add] at h2
  have e1 : ad.off + ((j : Int).toNat * (Kd.slice 3 (Kd.int IntKind.i64)).sz + 0) = ad.off + j := by
    show ad.off + ((j : Int).toNat * 1 + 0) = ad.off + j
    omega
  rw [e1, hpl] at h2
  have hblk := hok (by show 0 < 1; decide)
  refine ⟨ad.block, ad.off, A', x, by rw [← hs], by rw [hpl] at hle; exact hle, fun W' hW => ⟨?_, ?_⟩⟩
  · exact (World.cell?_of_block (a := ⟨ad.block, ad.off + j, none⟩) (hW ad.block hblk (World.block_lt_of_cell? w' ⟨ad.block, ad.off + j, none⟩ h2))).trans h2
  · obtain ⟨A2, x2, e3, _, hC⟩ := hK W' hW
    injection e3 with e3 _
    injection e3 with e3 _ _
    subst e3
    exact ints_ofC hC

/-- the permutations so far, how often each; the permutations themselves lie in the blocks from lo to wB's end -/
structure PSu (w wB : World) (lo n : Nat) (pv ov : Value) (acc : List (List Int × Int)) (pa : Nat → Option Addr) (px : Nat → Nat) : Prop where
  po : w.ownsRow wB.heap.size 25 1 pv acc.length ((List.range acc.length).map fun j => Value.slice (pa j) n (px j))
  oo : w.ownsRow wB.heap.size 3 1 ov acc.length (intCells (acc.map Prod.snd))
  rows : ∀ j, j < acc.length → n ≤ px j ∧ (acc.getD j ([], 0)).1.length = n ∧ ∀ W' : World, (∀ k, lo ≤ k → k < wB.heap.size → W'.heap[k]? = wB.heap[k]?) → Ints W' (pa j) (acc.getD j ([], 0)).1
  ne : ∀ b, pv.ownBlock = some b → ov.ownBlock ≠ some b
  agree : ∀ k, lo ≤ k → k < wB.heap.size → w.heap[k]? = wB.heap[k]?
  size : wB.heap.size ≤ w.heap.size
theorem PSu.nil (wB : World) (lo n : Nat) : PSu wB wB lo n (.slice none 0 0) (.slice none 0 0) [] (fun _ => none) (fun _ => 0) :=
  ⟨nil_own _ _ _ _, nil_own _ _ _ _, fun j q => absurd q (Nat.not_lt_zero _), fun b e => by simp [Value.ownBlock] at e, fun _ _ _ => rfl, Nat.le_refl _⟩
theorem PSu.below {w w' wB : World} {lo n : Nat} {pv ov : Value} {acc : List (List Int × Int)} {pa : Nat → Option Addr} {px : Nat → Nat} (s : PSu w wB lo n pv ov acc pa px) (hb : Below w.heap.size w w') : PSu w' wB lo n pv ov acc pa px :=
  ⟨own_same s.po (fun b e => hb.block b (s.po.lt b e).2), own_same s.oo (fun b e => hb.block b (s.oo.lt b e).2), s.rows, s.ne, fun k h1 h2 => (hb.block k (Nat.lt_of_lt_of_le h2 s.size)).trans (s.agree k h1 h2), Nat.le_trans s.size hb.size⟩
theorem PSu.set {w wB : World} {lo n : Nat} {pv ov : Value} {acc : List (List Int × Int)} {pa : Nat → Option Addr} {px : Nat → Nat} (s : PSu w wB lo n pv ov acc pa px) (hlo : lo ≤ wB.heap.size) (g o : Nat) (hg : g < lo) (v : Value) : PSu (w.setCell ⟨g, o, none⟩ v) wB lo n pv ov acc pa px :=
  ⟨own_same s.po (fun b e => heap_set_other w g o v b (by have := (s.po.lt b e).1; omega)), own_same s.oo (fun b e => heap_set_other w g o v b (by have := (s.oo.lt b e).1; omega)), s.rows, s.ne,
   fun k h1 h2 => (heap_set_other w g o v k (by omega)).trans (s.agree k h1 h2), by have := s.size; simpa [World.setCell] using this⟩
theorem PSu.more {w5 w7 w9 wB : World} {lo n : Nat} {pv ov pv' ov' : Value} {acc : List (List Int × Int)} {pa : Nat → Option Addr} {px : Nat → Nat} (s : PSu w5 wB lo n pv ov acc pa px) {o1 o2 : Obj} {ap : Option Addr} {xp : Nat} {p : List Int} {x : Int}
    (hp : ∀ W' : World, (∀ k, lo ≤ k → k < wB.heap.size → W'.heap[k]? = wB.heap[k]?) → Ints W' ap p) (hpl : p.length = n) (hxp : n ≤ xp)
    (h7 : w7.ownsRow wB.heap.size 25 1 pv' (acc.length + 1) (((List.range acc.length).map fun j => Value.slice (pa j) n (px j)) ++ [.slice ap n xp])) (g7 : (w5.alloc o1).grownBy w7 pv.ownBlock) (r7 : pv'.ownBlock = pv.ownBlock ∨ pv'.ownBlock = some (w5.alloc o1).heap.size)
    (h9 : w9.ownsRow wB.heap.size 3 1 ov' (acc.length + 1) (intCells (acc.map Prod.snd ++ [x]))) (g9 : (w7.alloc o2).grownBy w9 ov.ownBlock) (r9 : ov'.ownBlock = ov.ownBlock ∨ ov'.ownBlock = some (w7.alloc o2).heap.size) :
    PSu w9 wB lo n pv' ov' (acc ++ [(p, x)]) (fun j => if j = acc.length then ap else pa j) (fun j => if j = acc.length then xp else px j) ∧ ∀ b, b < wB.heap.size → w9.heap[b]? = w5.heap[b]? := by
  have z5 : (w5.alloc o1).heap.size = w5.heap.size + 1 := World.size_alloc _ _
  have z7 : (w7.alloc o2).heap.size = w7.heap.size + 1 := World.size_alloc _ _
  have s7 := g7.size
  have s9 := g9.size
  have sb := s.size
  have keep : ∀ b, b < wB.heap.size → w9.heap[b]? = w5.heap[b]? := fun b hb => by
    rw [g9.block b (by omega) (fun q => by have := (s.oo.lt b q.symm).1; omega), alloc_old _ _ _ (by omega), g7.block b (by omega) (fun q => by have := (s.po.lt b q.symm).1; omega), alloc_old _ _ _ (by omega)]
  have pvl : ∀ b, pv.ownBlock = some b → b < w5.heap.size := fun b e => (s.po.lt b e).2
  have ovl : ∀ b, ov.ownBlock = some b → b < w5.heap.size := fun b e => (s.oo.lt b e).2
  have gl : ∀ j, j < acc.length → (acc ++ [(p, x)]).getD j ([], 0) = acc.getD j ([], 0) := fun j hj => by simp [List.getD_eq_getElem?_getD, List.getElem?_append_left hj]
  have gr : (acc ++ [(p, x)]).getD acc.length ([], 0) = (p, x) := by simp [List.getD_eq_getElem?_getD]
  have hlen : (acc ++ [(p, x)]).length = acc.length + 1 := by simp
  refine ⟨⟨?_, ?_, fun j hj => ?_, fun b e => ?_, fun k h1 h2 => (keep k h2).trans (s.agree k h1 h2), by omega⟩, keep⟩
  · rw [hlen, range_step acc.length (fun j => Value.slice (pa j) n (px j)) _ (fun j hj => by simp only [if_neg (show j ≠ acc.length by omega)])]
    simp only [if_true]
    refine own_same h7 (fun b e => ?_)
    have hb7 := (h7.lt b e).2
    rw [g9.block b (by omega) (fun q => ?_), alloc_old _ _ _ hb7]
    rcases r7 with e2 | e2
    · rw [e2] at e; exact s.ne b e q.symm
    · rw [e2] at e; injection e with e; have := ovl b q.symm; omega
  · rw [hlen, List.map_append]
    exact h9
  · rw [hlen] at hj
    by_cases q : j = acc.length
    · subst q
      simp only [if_true]
      rw [gr]
      exact ⟨hxp, hpl, hp⟩
    · simp only [if_neg q]
      rw [gl j (by omega)]
      exact s.rows j (by omega)
  · rcases r7 with e7 | e7
    · rw [e7] at e
      rcases r9 with e9 | e9
      · rw [e9]; exact s.ne b e
      · rw [e9]; intro q; injection q with q; have := pvl b e; omega
    · rw [e7] at e
      injection e with e
      rcases r9 with e9 | e9
      · rw [e9]; intro q; have := ovl b q; omega
      · rw [e9]; intro q; injection q with q; omega
theorem PSu.lists {w wB : World} {lo n : Nat} {pv ov : Value} {acc : List (List Int × Int)} {pa : Nat → Option Addr} {px : Nat → Nat} (s : PSu w wB lo n pv ov acc pa px) :
    ∃ A c B d, pv = .slice A acc.length c ∧ acc.length ≤ c ∧ Lists w A (acc.map Prod.fst) ∧ ov = .slice B acc.length d ∧ acc.length ≤ d ∧ Ints w B (acc.map Prod.snd) := by
  obtain ⟨A, c, rfl, hc, hm⟩ := own_shape s.po
  obtain ⟨B, d, rfl, hd, _⟩ := own_shape s.oo
  refine ⟨A, c, B, d, rfl, hc, ⟨by simpa using hm, fun j hj => ?_⟩, rfl, hd, own_ints s.oo (by simp)⟩
  have hj' : j < acc.length := by simpa using hj
  obtain ⟨a2, a3, a1⟩ := s.rows j hj'
  obtain ⟨b, cap, e, _, hlt⟩ := s.po.form (by omega)
  injection e with e1 _ e2
  subst e1 e2
  have hcell := s.po.cells (g := b) rfl j (.slice (pa j) n (px j)) (by rw [List.getElem?_map, List.getElem?_range hj']; rfl)
  rw [addr_add] at hcell
  have e3 : (acc.map Prod.fst).getD j [] = (acc.getD j ([], 0)).1 := by simp [List.getD_eq_getElem?_getD, List.getElem?_map, List.getElem?_eq_getElem hj']
  rw [e3]
  exact ⟨b, 0, pa j, px j, rfl, hlt, by rw [hcell, a3], by rw [a3]; exact a2, a1 w s.agree⟩
theorem steps_count {n : Nat} (hn : 0 < n) {S0 : Int} {f0 : Nat → Nat → Int} (h0 : TGood n S0 f0) {acc : List (List Int × Int)} {f : Nat → Nat → Int} (h : Steps n f0 acc f) : (∃ S, TGood n S f) ∧ acc.length + nzc n f ≤ n * n := by
  induction h with
  | nil => exact ⟨⟨S0, h0⟩, by have := nzc_le n f0; simpa using this⟩
  | @snoc acc f p hs hpos hp ih =>
    obtain ⟨⟨S, hg⟩, hc⟩ := ih
    rw [hg.row 0 hn] at hpos
    obtain ⟨_, _, _, h4, h5⟩ := hg.step hn hpos hp
    exact ⟨⟨_, h4⟩, by rw [List.length_append]; simp only [List.length_cons, List.length_nil]; omega⟩
/-- the least number at a permutation, from 2^40 down -/
def leastR (f : Nat → Nat → Int) (p : List Int) : Nat → Int
  | 0 => 1099511627776
  | k + 1 => if f k (p.getD k 0).toNat < leastR f p k then f k (p.getD k 0).toNat else leastR f p k
theorem leastR_eq {n : Nat} {S : Int} {f : Nat → Nat → Int} (h : TGood n S f) {p : List Int} (hp : PGood n p) : ∀ k, 0 < k → k ≤ n → leastR f p k = leastTo f p k
  | 1, _, hk => by
    have ha := hp.at_ 0 (by omega)
    have := (h.cell 0 (p.getD 0 0).toNat (by omega) (by omega)).2
    rw [leastR, leastTo, leastR, leastTo, if_pos (by omega)]
    omega
  | k + 2, _, hk => by
    rw [leastR, leastTo, leastR_eq h hp (k + 1) (by omega) (by omega)]
    split <;> omega
end Go.Proofs.YtcnecmcbjpehcaaDoor

/- The walk of demonref4.PartsOf. No condition but a right table of at most five rows. -/
namespace Go.Proofs.YtcnecmcbjpehcaaDoor
open Go.RowKit Go.Deep Go.Proofs.YtcnecmcbjpehcaaDoorW.PrintWords

/-- what PartsOf hands back -/
def RetPO (acc : List (List Int × Int)) (w : World) (e : Ending) (w' : World) : Prop :=
  ∃ A c B d, e = .returned (.tuple #[.slice A acc.length c, .slice B acc.length d]) ∧ Lists w' A (acc.map Prod.fst) ∧ Ints w' B (acc.map Prod.snd) ∧ acc.length ≤ c ∧ acc.length ≤ d ∧ Below w.heap.size w w'
/-- all that holds between two permutations -/
def POSt (w wB : World) (lo g n : Nat) (hh cp : Nat → Nat) (pv ov : Value) (s : List (List Int × Int) × (Nat → Nat → Int)) (wr : World) : Prop :=
  ∃ pa px, PSu wr wB lo n pv ov s.1 pa px ∧ Tab2 wr w.heap.size g hh cp n n s.2 ∧ Below w.heap.size w wr

set_option maxRecDepth 100000 in
set_option maxHeartbeats 8000000 in
theorem partsOf_ok (A : Option Addr) (m : List (List Int)) (c : Nat) (w : World) (hA : Lists w A m) (h : sqErr m = 0) (h5 : m.length ≤ 5) :
    Calls Tryd.prog 31 #[.slice A m.length c] w fun e w' => RetPO (passTo m.length (fnOf m) (permsFrom m.length m.length []) (permsFrom m.length m.length []).length).1 w e w' := by
  obtain ⟨h8, hn, hall, _⟩ := sqErr_zero h
  have hrow : ∀ i, i < m.length → (m.getD i []).length = m.length := fun i hi => (goodRow_get hall i hi).2
  have HROW := hide hrow
  have HTG := hide (tgood_of h)
  have hlen := hA.len
  have hpk := fun k (hk : k ≤ (permsFrom m.length m.length []).length) => pass_ok hn (tgood_of h) k hk
  have hpg := fun k (hk : k < (permsFrom m.length m.length []).length) => perms_good m.length ((permsFrom m.length m.length []).getD k []) (by rw [getDL_eq _ k hk]; exact List.getElem_mem hk)
  have hpm := fun w' => perms_ok m.length hn h5 w'
  have hpsl := perms_len m.length h5
  generalize permsFrom m.length m.length [] = ps at hpk hpg hpm hpsl ⊢
  have HPK := hide hpk
  have HPG := hide hpg
  have HPM := hide hpm
  clear hall hrow h hpk hpg hpm
  go_enter Tryd.func31, Tryd.ntmps31
  go_wp2_with (fail)
  go_loopw [4, 5] (fun rv iv wr => ∃ i : Nat, i ≤ m.length ∧ iv = .int .i64 i ∧ Hid (∃ hh cp, Build wr w.heap.size rv i m.length hh cp (fnOf m)) ∧ Below w.heap.size w wr) (fun _ iv _ => m.length - (intOf iv).toNat)
  case atStart => exact ⟨0, Nat.zero_le _, rfl, hide ⟨_, _, Build.nil _ _ _ _⟩, Below.refl _ _⟩
  case round =>
    obtain ⟨i, hi, rfl, HBU, hBi⟩ := hrel
    obtain ⟨wi, rfl⟩ : ∃ wi : World, wi = wr := ⟨_, rfl⟩
    obtain ⟨hh, cp, hbu⟩ := HBU.out
    have i0 : (0 : Int) ≤ (i : Int) := Int.natCast_nonneg _
    by_cases hil : i < m.length
    · have i1 : (i : Int) < (m.length : Int) := by omega
      obtain ⟨A6, c6, rfl, hc6, _⟩ := own_shape hbu.spine
      obtain ⟨b, off, A', c', rfl, hb, d1, hle, hI⟩ := (hA.below hBi).at_ i hil
      have hrl := HROW.out i hil
      rw [hrl] at d1
      have HB := hide hbu
      have HI := hide hI
      have HRL := hide hrl
      have HSP := hide (fun w2 (hb : Below wi.heap.size wi w2) => own_below hbu.spine hb)
      have HC3 := hide (show (i + 1) * 24 ≤ 140737488355328 by omega)
      have HC4 := hide (show (([] : List Int).length + m.length) * 8 ≤ 140737488355328 by simp; omega)
      have HSZ := hide hBi.size
      clear hbu hle hI HBU hrl
      go_wp2_with (first
        | (at_builtin; refine wp_app_ints _ rfl _ _ rfl wi.heap.size (.slice none 0 0) [] rfl (nil_own _ _ _ _) A' m.length c' (m.getD i []) rfl HRL.out.symm HI.out HC4.out (Nat.le_refl _) ?_; intro A2 D2 w2 hD2 ho2 hg2 hob2
           simp only [List.nil_append, HRL.out] at hD2 ho2 ⊢
           have b2 : Below wi.heap.size wi w2 := below_of_grown hg2 rfl
           obtain ⟨g2, cap2, eg2, hgb2, hgl2⟩ := ho2.form hn
           injection eg2 with ega egb egc
           subst ega egc
           have HS2 := hide (Nat.le_trans HSZ.out b2.size))
        | (at_builtin; refine wp_app_row _ rfl _ _ rfl w.heap.size (.slice A6 i c6) i _ rfl ((HSP.out w2 b2).alloc _) w2.heap.size 1 (.slice (some ⟨g2, 0, none⟩) m.length D2) rfl rfl (by simp) (by simp) HC3.out (by rw [World.size_alloc]; exact Nat.le_succ_of_le HS2.out) ?_; intro A7 c7 w3 hc7 ho7 hg7 hor7))
      have hb3 : Below w.heap.size w w3 := ((hBi.trans (b2.mono hBi.size)).alloc HS2.out _).grown hg7 (by rw [World.size_alloc]; exact Nat.le_succ_of_le HS2.out) (fun j hj => (HB.out.spine.lt j hj).1)
      have hcc : ∀ j, j < m.length → w2.cell? ⟨g2, j, none⟩ = some (.int .i64 (fnOf m i j)) ∧ w2.frozen? ⟨g2, j, none⟩ = false := fun j hj => by
        have := own_at (k := .i64) ho2 (j : Int) (by omega) (by omega)
        rw [Int.toNat_natCast] at this
        exact this
      have hbu3 := HB.out.more b2 hcc hgb2 hgl2 hD2 HSZ.out ho7 hg7 hor7
      have HB3 := hide hbu3
      clear hbu3 hcc
      go_roundw
      case rel => exact ⟨i + 1, by omega, by go_num, hide ⟨_, _, HB3.out⟩, hb3⟩
      case measure => simp [intOf]; omega
    · obtain rfl : i = m.length := by omega
      obtain ⟨g, cg, rfl, hg, htab⟩ := hbu.tab hn
      have HTAB := hide htab
      have hgl := htab.glt hn
      have hhl := fun j hj => htab.hlt hn j hj
      clear hbu htab HBU hg
      go_wp2_with (go_at_call 47; refine Calls.mono (HPM.out wi) ?_; rintro e wB ⟨AL, cL, rfl, hcL, hrd, bB⟩)
      have hlo : wi.heap.size ≤ wB.heap.size := bB.size
      have HRD := hide hrd
      have hBB := below_trans hBi bB
      clear hrd
      go_loopw [8, 9, 10] (fun pv ov kv wr => ∃ k : Nat, k ≤ ps.length ∧ kv = .int .i64 k ∧ Hid (POSt w wB wi.heap.size g m.length hh cp pv ov (passTo m.length (fnOf m) ps k) wr)) (fun _ _ kv _ => ps.length - (intOf kv).toNat)
      case atStart => exact ⟨0, Nat.zero_le _, rfl, hide ⟨_, _, PSu.nil wB wi.heap.size m.length, HTAB.out.below hn hn bB, hBB⟩⟩
      case round =>
        obtain ⟨k, hk, rfl, HP⟩ := hrel
        obtain ⟨wk, rfl⟩ : ∃ wk : World, wk = wr := ⟨_, rfl⟩
        obtain ⟨pa, px, hpsu, htab, hBk⟩ := HP.out
        obtain ⟨A9, c9, B9, d9, rfl, hc9, hLs, rfl, hd9, hIs⟩ := hpsu.lists
        have k0 : (0 : Int) ≤ (k : Int) := Int.natCast_nonneg _
        by_cases hkl : k < ps.length
        · have k1 : (k : Int) < (ps.length : Int) := by omega
          obtain ⟨hst, ⟨S, hgood⟩, _⟩ := HPK.out k hk
          have hcnt := (steps_count hn HTG.out hst).2
          have hsq : m.length * m.length ≤ 25 := Nat.mul_le_mul h5 h5
          clear hst
          have hperm := HPG.out k hkl
          have hsucc := passTo_succ m.length (fnOf m) ps k hkl
          obtain ⟨b1, o1, Ap, xp, rfl, hxp', hfp⟩ := HRD.out k hkl
          generalize ps.getD k [] = p at hperm hsucc hfp
          have HSUCC := hide hsucc
          clear hsucc HP
          generalize passTo m.length (fnOf m) ps k = st at hpsu htab hgood HSUCC hLs hIs hc9 hd9 hcnt
          obtain ⟨acc, f⟩ := st
          dsimp only at hpsu htab hgood hLs hIs hc9 hd9 hcnt
          have hacc : acc.length ≤ 25 := by omega
          clear hcnt hsq
          have hpl := hperm.len
          obtain ⟨d1, hIp⟩ := hfp wk hpsu.agree
          obtain ⟨bp, op, rfl, hbp, _⟩ := hIp.at_ 0 (by omega)
          have HFP := hide hfp
          have hlr := leastR_eq hgood hperm m.length hn (Nat.le_refl _)
          have hx0 := least_nonneg hn hgood hperm
          have hxle := fun i (hi : i < m.length) => leastTo_le f p m.length i hi
          have HXLE := hide hxle
          have HLR := hide hlr
          have HPS := hide hpsu
          have HT := hide htab
          have HGOOD := hide hgood
          clear hfp hlr hxle hLs hIs hpsu htab hIp d1 hgood
          go_wp2_with (fail)
          go_loopw [11, 12] (fun lv iv wr => ∃ i : Nat, i ≤ m.length ∧ iv = .int .i64 i ∧ lv = .int .i64 (leastR f p i) ∧ Below wk.heap.size wk wr) (fun _ iv _ => m.length - (intOf iv).toNat)
          case atStart => exact ⟨0, Nat.zero_le _, rfl, rfl, Below.refl _ _⟩
          case round =>
            obtain ⟨i, hi, rfl, rfl, hBq⟩ := hrel
            obtain ⟨wq, rfl⟩ : ∃ wq : World, wq = wr := ⟨_, rfl⟩
            have i0 : (0 : Int) ≤ (i : Int) := Int.natCast_nonneg _
            by_cases hil : i < m.length
            · have i1 : (i : Int) < (m.length : Int) := by omega
              obtain ⟨za, zb⟩ := hperm.at_ i hil
              have htq := HT.out.below hn hn hBq
              obtain ⟨d1, hIq⟩ := HFP.out wq (HPS.out.below hBq).agree
              obtain ⟨bq, oq, eq1, hbq, pcr⟩ := hIq.at_ i (by omega)
              injection eq1 with eq1
              injection eq1 with eqa eqb _
              subst eqa eqb
              have fci := (htq.inner i hil (p.getD i 0).toNat (by omega)).1
              have qi := (htq.outer i hil).1
              have hls : leastR f p (i + 1) = if f i (p.getD i 0).toNat < leastR f p i then f i (p.getD i 0).toNat else leastR f p i := rfl
              clear htq hIq
              generalize p.getD i 0 = xi at za zb pcr fci hls
              generalize f i xi.toNat = y at fci hls
              generalize leastR f p i = l1 at hls
              by_cases hc : y < l1
              · rw [if_pos hc] at hls
                have HLS := hide hls
                clear hls
                go_wp2_with (fail)
                go_quiet (fail)
                go_wp2_with (fail)
                go_quiet (fail)
                go_wp2_with (fail)
                go_roundw
                case rel => exact ⟨i + 1, by omega, by go_num, by rw [HLS.out], by first | exact below_drewN' hBq _ | exact below_drewN' (below_drewN' hBq _) _⟩
                case measure => simp [intOf]; omega
              · rw [if_neg hc] at hls
                have hc' : decide (y < l1) = false := decide_eq_false hc
                have HLS := hide hls
                clear hls
                go_wp2_with (fail)
                go_quiet (fail)
                go_wp2_with (fail)
                go_roundw
                case rel => exact ⟨i + 1, by omega, by go_num, by rw [HLS.out], by first | exact below_drewN' hBq _ | exact below_drewN' (below_drewN' hBq _) _⟩
                case measure => simp [intOf]; omega
            · obtain rfl : i = m.length := by omega
              rw [HLR.out]
              have hpsq := HPS.out.below hBq
              have htq := HT.out.below hn hn hBq
              have hBQ := below_trans hBk hBq
              by_cases hx : leastTo f p m.length = 0
              · have hb0 : (leastTo f p m.length == 0) = true := by rw [beq_iff_eq]; exact hx
                have HNX := hide (show POSt w wB wi.heap.size g m.length hh cp (.slice A9 acc.length c9) (.slice B9 acc.length d9) (passTo m.length (fnOf m) ps (k + 1)) wq by
                  rw [HSUCC.out, passStep, if_pos hx]
                  exact ⟨pa, px, hpsq, htq, hBQ⟩)
                generalize leastTo f p m.length = x at hb0 hx0
                clear hpsq htq hx
                go_wp2_with (fail)
                go_roundw
                case rel => exact ⟨k + 1, by omega, by go_num, HNX⟩
                case measure => simp [intOf]; omega
              · have hb0 : (leastTo f p m.length == 0) = false := by rw [beq_eq_false_iff_ne]; exact hx
                have hsn : passStep m.length (acc, f) p = (acc ++ [(p, leastTo f p m.length)], decT f p (leastTo f p m.length)) := if_neg hx
                have HSN := hide hsn
                have HPQ := hide (And.intro (htq.congr (f' := fun s t => if s < 0 then decT f p (leastTo f p m.length) s t else f s t) (fun s _ t _ => by rw [if_neg (Nat.not_lt_zero _)])) hpsq)
                generalize hxe : leastTo f p m.length = x at hb0 hx0 hx HXLE HSN HPQ
                have hxp : 0 < x := by omega
                have hx4 : x ≤ 4096 := by
                  have ha := hperm.at_ 0 hn
                  have h1 := HXLE.out 0 hn
                  have h2 := HGOOD.out.cell 0 (p.getD 0 0).toNat hn (by omega)
                  omega
                clear hpsq htq hx hsn hxe
                go_wp2_with (fail)
                go_loopw [13] (fun v wr => ∃ r : Nat, r ≤ m.length ∧ v = .int .i64 r ∧ Hid (Tab2 wr w.heap.size g hh cp m.length m.length (fun s t => if s < r then decT f p x s t else f s t) ∧ PSu wr wB wi.heap.size m.length (.slice A9 acc.length c9) (.slice B9 acc.length d9) acc pa px) ∧ Below w.heap.size w wr) (fun v _ => m.length - (intOf v).toNat)
                case atStart => exact ⟨0, Nat.zero_le _, rfl, HPQ, hBQ⟩
                case round =>
                  obtain ⟨r, hr, rfl, HR, hBr⟩ := hrel
                  obtain ⟨wl, rfl⟩ : ∃ wl : World, wl = wr := ⟨_, rfl⟩
                  have r0 : (0 : Int) ≤ (r : Int) := Int.natCast_nonneg _
                  obtain ⟨htl, hpl2⟩ := HR.out
                  obtain ⟨d1, hIl⟩ := HFP.out wl hpl2.agree
                  by_cases hrl : r < m.length
                  · have r1 : (r : Int) < (m.length : Int) := by omega
                    obtain ⟨za, zb⟩ := hperm.at_ r hrl
                    obtain ⟨fci, ffi⟩ := htl.inner r hrl (p.getD r 0).toNat (by omega)
                    have qr := (htl.outer r hrl).1
                    simp only [Nat.lt_irrefl, if_false] at fci
                    have hcel := HGOOD.out.cell r (p.getD r 0).toNat hrl (by omega)
                    have hlx := HXLE.out r hrl
                    obtain ⟨bq, oq, eq1, hbq, pcr⟩ := hIl.at_ r (by omega)
                    injection eq1 with eq1
                    injection eq1 with eqa eqb _
                    subst eqa eqb
                    have hdec : ∀ v, f r (p.getD r 0).toNat - x = v → ∀ s, s < m.length → ∀ t, t < m.length → (if s = r ∧ t = (p.getD r 0).toNat then v else if s < r then decT f p x s t else f s t) = if s < r + 1 then decT f p x s t else f s t := fun v hv s hs t ht => by
                      by_cases e : s = r
                      · subst e
                        by_cases e2 : t = (p.getD s 0).toNat
                        · rw [if_pos ⟨rfl, e2⟩, if_pos (by omega), ← hv, e2]
                          unfold decT
                          rw [if_pos (by omega)]
                        · rw [if_neg (fun q => e2 q.2), if_neg (by omega), if_pos (by omega)]
                          unfold decT
                          rw [if_neg (by omega)]
                      · rw [if_neg (fun q => e q.1)]
                        by_cases e3 : s < r
                        · rw [if_pos e3, if_pos (by omega)]
                        · rw [if_neg e3, if_neg (by omega)]
                    have HDEC := hide hdec
                    have HBASE := hide (htl.base r hrl)
                    have hhr := hhl r hrl
                    clear hdec hIl
                    generalize p.getD r 0 = xr at za zb fci ffi hcel hlx pcr HDEC
                    generalize f r xr.toNat = y at fci hcel hlx HDEC
                    have HW := hide (IntWalk.i64_in (y - x) (by omega) : IntKind.i64.wrap (y - x) = y - x)
                    go_wp2_with (fail)
                    refine wp_region_still_tail 27 (by kernel_rfl) (by kernel_rfl) ?_
                    change wpStill _ _ (World.drew wl) (fun a' => wpList _ _ _ _ a' (World.drew wl)) _ _
                    have hbd : Below wl.heap.size wl (World.drew wl) := (Below.refl _ _).drew
                    have HT7 := hide (htl.below hn hn hbd)
                    have HP7 := hide (hpl2.below hbd)
                    have hkd := below_trans hBr hbd
                    have e1 : (World.drew wl).cell? ⟨b1, o1 + k, none⟩ = some (.slice (some ⟨bp, op, none⟩) m.length xp) := d1
                    have e3 : (World.drew wl).cell? ⟨bp, op + r, none⟩ = some (.int .i64 xr) := pcr
                    have e4 : (World.drew wl).cell? ⟨hh r, xr.toNat, none⟩ = some (.int .i64 y) := fci
                    have e5 : (World.drew wl).frozen? ⟨hh r, xr.toNat, none⟩ = false := ffi
                    have e6 : (World.drew wl).cell? ⟨g, r, none⟩ = some (.slice (some ⟨hh r, 0, none⟩) m.length (cp r)) := qr
                    clear htl hpl2 d1 pcr fci ffi qr HR hbd
                    generalize World.drew wl = wd at HT7 HP7 hkd e1 e3 e4 e5 e6 ⊢
                    have hw := HW.out
                    simp only [List.take_succ_cons, List.take_zero, List.drop_succ_cons, List.drop_zero]
                    repeat still_step
                    refine wpStill_nil ?_
                    go_wp2_with (fail)
                    clear hw
                    have HT6 := hide (And.intro ((HT7.out.set r xr.toNat hrl (y - x)).congr (HDEC.out _ rfl)) (HP7.out.set hlo (hh r) xr.toNat hhr (.int .i64 (y - x))))
                    have hb6' := hkd.setCell (p := ⟨hh r, xr.toNat, none⟩) HBASE.out (.int .i64 (y - x))
                    go_roundw
                    case rel => exact ⟨r + 1, by omega, by go_num, HT6, hb6'⟩
                    case measure => simp [intOf]; omega
                  · obtain rfl : r = m.length := by omega
                    have ht2 : Tab2 wl w.heap.size g hh cp m.length m.length (decT f p x) := htl.congr (fun s hs t _ => by rw [if_pos hs])
                    have HC3 := hide (show (acc.length + 1) * 24 ≤ 140737488355328 by omega)
                    have HC4 := hide (show ((acc.map Prod.snd).length + 1) * 8 ≤ 140737488355328 by rw [List.length_map]; omega)
                    have HPO := hide hpl2.po
                    have HSZ := hide hpl2.size
                    have hoo := fun (w7 : World) (o : Obj) (hg7 : (wl.alloc o).grownBy w7 (Value.slice A9 acc.length c9).ownBlock) => (own_list (own_same hpl2.oo (fun b e => by
                      have hb := (hpl2.oo.lt b e).2
                      rw [hg7.block b (by rw [World.size_alloc]; omega) (fun q => hpl2.ne b q.symm e), alloc_old _ _ _ hb])) : w7.ownsRow wB.heap.size 3 1 (.slice B9 acc.length d9) (acc.map Prod.snd).length (intCells (acc.map Prod.snd)))
                    have hwB : w.heap.size ≤ wB.heap.size := Nat.le_trans hBi.size hlo
                    have hbe := fun (w7 w8 : World) (o o2 : Obj) (hg7 : (wl.alloc o).grownBy w7 (Value.slice A9 acc.length c9).ownBlock) (hg8 : (w7.alloc o2).grownBy w8 (Value.slice B9 acc.length d9).ownBlock) => (by
                      have e1 : Below w.heap.size w w7 := (hBr.alloc hBr.size o).grown hg7 (by rw [World.size_alloc]; exact Nat.le_succ_of_le hBr.size) (fun j hj => Nat.le_trans hwB (hpl2.po.lt j hj).1)
                      exact (e1.alloc e1.size o2).grown hg8 (by rw [World.size_alloc]; exact Nat.le_succ_of_le e1.size) (fun j hj => Nat.le_trans hwB (hpl2.oo.lt j hj).1) : Below w.heap.size w w8)
                    have hs7 := fun (w7 : World) (o : Obj) (hg7 : (wl.alloc o).grownBy w7 (Value.slice A9 acc.length c9).ownBlock) => (by
                      have e1 := hg7.size
                      rw [World.size_alloc] at e1
                      have := hpl2.size
                      omega : wB.heap.size ≤ w7.heap.size)
                    have HOO := hide hoo
                    have HBE := hide hbe
                    have HS7 := hide hs7
                    clear hoo hbe hs7 HR htl
                    go_wp2_with (first
                      | (at_builtin; refine wp_app_row _ rfl _ _ rfl wB.heap.size (.slice A9 acc.length c9) acc.length _ rfl (HPO.out.alloc _) wl.heap.size 1 (.slice (some ⟨bp, op, none⟩) m.length xp) rfl rfl (by simp) (by simp) HC3.out (by rw [World.size_alloc]; exact Nat.le_succ_of_le HSZ.out) ?_; intro A7 c7 w7 hc7 ho7 hg7 hor7)
                      | (at_builtin; refine wp_app_ints _ rfl _ _ rfl wB.heap.size (.slice B9 acc.length d9) (acc.map Prod.snd) rfl ((HOO.out w7 _ hg7).alloc _) _ 1 1 [x] rfl rfl (ints_one (b := w7.heap.size) (by simp) (by simp)) HC4.out (by rw [World.size_alloc]; exact Nat.le_succ_of_le (HS7.out w7 _ hg7)) ?_; intro A8 c8 w8 hc8 ho8 hg8 hor8))
                    simp only [List.length_append, List.length_map, List.length_cons, List.length_nil, Nat.zero_add] at ho8 hor8 hc8
                    obtain ⟨hps8, hkeep⟩ := hpl2.more (fun W' hW => (HFP.out W' hW).2) hpl hxp' ho7 hg7 hor7 ho8 hg8 hor8
                    have ht8 := ht2.same (hkeep g (by omega)) (fun j hj => hkeep _ (by have := hhl j hj; omega))
                    have hb8 := HBE.out w7 w8 _ _ hg7 hg8
                    have HNX := hide (show POSt w wB wi.heap.size g m.length hh cp (.slice A7 (acc.length + 1) c7) (.slice A8 (acc.length + 1) c8) (passTo m.length (fnOf m) ps (k + 1)) w8 by
                      rw [HSUCC.out, HSN.out]
                      exact ⟨_, _, hps8, ht8, hb8⟩)
                    clear hps8 ht8 hkeep hpl2 ht2
                    go_roundw
                    case rel => exact ⟨k + 1, by omega, by go_num, by simpa using HNX⟩
                    case measure => simp [intOf]; omega
        · obtain rfl : k = ps.length := by omega
          go_wp2_with (fail)
          go_ret2
          exact ⟨A9, c9, B9, d9, rfl, hLs, hIs, hc9, hd9, hBk⟩
end Go.Proofs.YtcnecmcbjpehcaaDoor

/- The walk of the law OrderParts. Condition: the variables read as laid; the argument is of modest bulk. -/
namespace Go.Proofs.YtcnecmcbjpehcaaDoor
open Go.RowKit Go.Deep Go.Proofs.YtcnecmcbjpehcaaDoorW.PrintWords

theorem rdP_nat (l : List (List Int)) (i : Nat) : POrderParts.rd_L1 l (i : Int) = l.getD i [] := rfl
theorem same_step (a b : List Int) (h : a.length = b.length) (i : Nat) (hi : i < a.length) (hp : a.take i = b.take i) : (a.getD i 0 = b.getD i 0 → a.take (i + 1) = b.take (i + 1)) ∧ (a.getD i 0 ≠ b.getD i 0 → a ≠ b) :=
  ⟨fun e => by rw [take_at a i hi, take_at b i (by omega), hp, e], fun e h2 => e (by rw [h2])⟩
theorem sameInts_l0 (a b : List Int) (hab : a.length = b.length) (hl : a.length ≤ 2000000) : ∀ (d i k : Nat), i + d = a.length → d < k → a.take i = b.take i → POrderParts.demonref1_SameInts.l0 k a b (i : Int) = some (decide (a = b)) := by
  intro d
  induction d with
  | zero =>
    intro i k hi hk hp
    obtain ⟨k, rfl⟩ : ∃ m, k = m + 1 := ⟨k - 1, by omega⟩
    obtain rfl : i = a.length := by omega
    simp only [POrderParts.demonref1_SameInts.l0]
    rw [List.take_length, hab, List.take_length] at hp
    rw [if_neg (by omega), decide_eq_true hp]
  | succ d ih =>
    intro i k hi hk hp
    obtain ⟨k, rfl⟩ : ∃ m, k = m + 1 := ⟨k - 1, by omega⟩
    have hil : i < a.length := by omega
    obtain ⟨s1, s2⟩ := same_step a b hab i hil hp
    simp only [POrderParts.demonref1_SameInts.l0]
    rw [if_pos (by omega), if_pos (by omega), if_pos (by omega), rd_nat, rd_nat, wrap_up i (by omega)]
    by_cases e : a.getD i 0 = b.getD i 0
    · rw [if_pos e]; exact ih (i + 1) k (by omega) (by omega) (s1 e)
    · rw [if_neg e, decide_eq_false (s2 e)]
theorem sameInts_f (a b : List Int) (hl : a.length ≤ 2000000) (k : Nat) (hk : a.length < k) : POrderParts.demonref1_SameInts.f k a b = some (decide (a = b)) := by
  unfold POrderParts.demonref1_SameInts.f
  by_cases h : a.length = b.length
  · rw [if_pos (by omega)]; exact sameInts_l0 a b h hl a.length 0 _ (by omega) hk (by simp)
  · rw [if_neg (by omega), decide_eq_false (fun e => h (by rw [e]))]
theorem sameLists_l0 (a b : List (List Int)) (hab : a.length = b.length) (hl : a.length ≤ 2000000) (hf : a.flatten.length ≤ 2000000) : ∀ (d i k : Nat), i + d = a.length → d + a.flatten.length < k → a.take i = b.take i → POrderParts.demonref1_SameLists.l0 k a b (i : Int) = some (decide (a = b)) := by
  intro d
  induction d with
  | zero =>
    intro i k hi hk hp
    obtain ⟨k, rfl⟩ : ∃ m, k = m + 1 := ⟨k - 1, by omega⟩
    obtain rfl : i = a.length := by omega
    simp only [POrderParts.demonref1_SameLists.l0]
    rw [List.take_length, hab, List.take_length] at hp
    rw [if_neg (by omega), decide_eq_true hp]
  | succ d ih =>
    intro i k hi hk hp
    obtain ⟨k, rfl⟩ : ∃ m, k = m + 1 := ⟨k - 1, by omega⟩
    have hil : i < a.length := by omega
    have h2 := row_le a i
    simp only [POrderParts.demonref1_SameLists.l0]
    rw [if_pos (by omega), if_pos (by omega), if_pos (by omega), rdP_nat, rdP_nat, sameInts_f _ _ (by omega) k (by omega), Option.bind_some, wrap_up i (by omega)]
    by_cases e : a.getD i [] = b.getD i []
    · rw [decide_eq_true e, if_pos rfl]
      exact ih (i + 1) k (by omega) (by omega) (by rw [takeL_at a i hil, takeL_at b i (by omega), hp, e])
    · rw [decide_eq_false e, decide_eq_false (fun h3 => e (by rw [h3]))]
      rfl
theorem sameLists_f (a b : List (List Int)) (hl : a.length ≤ 2000000) (hf : a.flatten.length ≤ 2000000) : POrderParts.demonref1_SameLists.f (a.length + a.flatten.length + 1) a b = some (decide (a = b)) := by
  unfold POrderParts.demonref1_SameLists.f
  by_cases h : a.length = b.length
  · rw [if_pos (by omega)]; exact sameLists_l0 a b h hl hf a.length 0 _ (by omega) (by omega) (by simp)
  · rw [if_neg (by omega), decide_eq_false (fun e => h (by rw [e]))]
theorem sameListsP_ok (A B : Option Addr) (t u : List (List Int)) (c d : Nat) (w : World) (hA : Lists w A t) (hB : Lists w B u) (hc : t.length ≤ c) (hd : u.length ≤ d) (hl : t.length ≤ 2000000) (hf : t.flatten.length ≤ 2000000) :
    Calls Tryd.prog 32 #[.slice A t.length c, .slice B u.length d] w fun e w' => e = .returned (.bool (decide (t = u))) ∧ Below w.heap.size w w' := by
  refine (POrderParts.demonref1_SameLists.calls _ A c t B d u _ w hA.toC hc hB.toC hd (sameLists_f t u hl hf)).mono ?_
  rintro e w' ⟨rfl, h⟩
  exact ⟨rfl, drawn_below h⟩
theorem sameP_self (A B : Option Addr) (t : List (List Int)) (n c d : Nat) (w : World) (hA : Lists w A t) (hB : Lists w B t) (hn : t.length = n) (hc : n ≤ c) (hd : n ≤ d) (hl : t.length ≤ 2000000) (hf : t.flatten.length ≤ 2000000) :
    Calls Tryd.prog 32 #[.slice A n c, .slice B n d] w fun e w' => e = .returned (.bool true) ∧ Below w.heap.size w w' := by
  subst hn
  have h := sameListsP_ok A B t t c d w hA hB hc hd hl hf
  rw [decide_eq_true rfl] at h
  exact h
theorem sameI_self (A B : Option Addr) (t : List Int) (n c d : Nat) (w : World) (hA : Ints w A t) (hB : Ints w B t) (hn : t.length = n) :
    Calls Tryd.prog 25 #[.slice A n c, .slice B n d] w fun e w' => e = .returned (.bool true) ∧ Below w.heap.size w w' := by
  subst hn
  have h := same_any A B t t c d w hA hB
  rw [decide_eq_true rfl] at h
  exact h

set_option maxRecDepth 100000 in
set_option maxHeartbeats 4000000 in
theorem law_parts (A : Option Addr) (m : List (List Int)) (c : Nat) (w : World) (a : Nat → Addr) (hS : Sent codes w a) (hH : Handle w) (hA : Lists w A m) (hc : m.length ≤ c) (hm : m.length ≤ 2000000) (hf : m.flatten.length ≤ 2000000) :
    Calls Tryd.prog 7 #[.slice A m.length c] w fun e w' => e = .returned (.bool true) ∧ Below w.heap.size w w' := by
  have HE : Hid (∀ w', Below w.heap.size w w' → Env [2, 3] w' a) := hide fun w' hb => (hS.toEnv.sub (fun c h => sub23 h)).below hb
  have HUN := hide (fun w' (hb : Below w.heap.size w w') => unlike_any w' a (HE.out w' hb))
  have hfw := fun w' (hb : Below w.heap.size w w') => fewS_ok A m c w' (hA.below hb) hc hm hf
  have hrows : ∀ r, r ∈ m → r.length ≤ 2000000 := fun r hr => Nat.le_trans (List.Sublist.length_le (List.sublist_flatten_of_mem hr)) hf
  have hse := fun w' (hb : Below w.heap.size w w') => squareError_ok A m c w' (hA.below hb) hc hrows
  have HCL := hide (fun w' (hb : Below w.heap.size w w') => listsS_ok A m c w' (hA.below hb) hc hm hf)
  have hlen := hA.len
  cases hq : fewS m with
  | false =>
    rw [hq] at hfw
    have HF := hide hfw
    clear hfw hse hq
    go_enter Tryd.func7, Tryd.ntmps7
    go_wp2_with (first
      | (go_at_call 10; refine Calls.mono (HUN.out _ (Below.refl _ _)) ?_; rintro e w1 ⟨rfl, hB1⟩)
      | (go_at_call 11; refine Calls.mono (HF.out w1 hB1) ?_; rintro e w2 ⟨rfl, b2⟩; have hB2 := below_trans hB1 b2))
    go_ret
    exact ⟨rfl, hB2⟩
  | true =>
    rw [hq] at hfw
    have HF := hide hfw
    by_cases h0 : sqErr m = 0
    · rw [h0] at hse
      have HSE := hide hse
      by_cases h5 : 5 < (m.length : Int)
      · clear hfw hse hq h0
        go_enter Tryd.func7, Tryd.ntmps7
        go_wp2_with (first
          | (go_at_call 10; refine Calls.mono (HUN.out _ (Below.refl _ _)) ?_; rintro e w1 ⟨rfl, hB1⟩)
          | (go_at_call 11; refine Calls.mono (HF.out w1 hB1) ?_; rintro e w2 ⟨rfl, b2⟩; have hB2 := below_trans hB1 b2)
          | (go_at_call 26; refine Calls.mono (HSE.out w2 hB2) ?_; rintro e w3 ⟨rfl, b3⟩; have hB3 := below_trans hB2 b3))
        go_ret
        exact ⟨rfl, hB3⟩
      · obtain ⟨_, hn, _, _⟩ := sqErr_zero h0
        have htg := tgood_of h0
        have hpo := fun w' (hb : Below w.heap.size w w') => partsOf_ok A m c w' (hA.below hb) h0 (by omega)
        have hst := (pass_ok hn htg (permsFrom m.length m.length []).length (Nat.le_refl _)).steps
        have hend := pass_end hn htg
        have HPA := hide (fun (A' : Option Addr) (x : Nat) w' (g1 : Lists w' A' m) (hb : Below w.heap.size w w') => parts_ok A' m x w' a (HE.out w' hb) g1 h0)
        have HCD := hide (fun w' (hb : Below w.heap.size w w') => coded_any w' a (hS.below hb) (hH.below hb) 0 (by decide) 0)
        generalize passTo m.length (fnOf m) (permsFrom m.length m.length []) (permsFrom m.length m.length []).length = st at hpo hst hend
        obtain ⟨accR, fR⟩ := st
        dsimp only at hpo hst hend
        have hcnt := (steps_count hn htg hst).2
        have hsq : m.length * m.length ≤ 25 := Nat.mul_le_mul (show m.length ≤ 5 by omega) (show m.length ≤ 5 by omega)
        have hal : accR.length ≤ 25 := by omega
        have hfl : (accR.map Prod.fst).flatten.length ≤ 2000000 := by
          rw [flatten_const _ m.length (fun r hr => by
            obtain ⟨q, hq, rfl⟩ := List.mem_map.1 hr
            obtain ⟨j, hj, e⟩ := List.getElem_of_mem hq
            have := ((hst.facts hn htg).2.2 j hj).perm.len
            rw [← this]
            simp [List.getD_eq_getElem?_getD, hj, e]), List.length_map]
          exact Nat.le_trans (Nat.mul_le_mul (show m.length ≤ 5 by omega) hal) (by decide)
        have HEQ := hide (fun acc f (h1 : Steps m.length (fnOf m) acc f) (h2 : TGood m.length 0 f) => steps_same hn h1 hst h2 hend)
        have HSL := hide (fun (X Y : Option Addr) (x y : Nat) w' (g1 : Lists w' X (accR.map Prod.fst)) (g2 : Lists w' Y (accR.map Prod.fst)) (g3 : accR.length ≤ x) (g4 : accR.length ≤ y) => sameP_self X Y (accR.map Prod.fst) accR.length x y w' g1 g2 (by simp) g3 g4 (by simp; omega) hfl)
        have HSI := hide (fun (X Y : Option Addr) (x y : Nat) w' (g1 : Ints w' X (accR.map Prod.snd)) (g2 : Ints w' Y (accR.map Prod.snd)) => sameI_self X Y (accR.map Prod.snd) accR.length x y w' g1 g2 (by simp))
        have HPO := hide hpo
        clear hfw hse hq h0 hpo hst hend hcnt hfl htg
        go_enter Tryd.func7, Tryd.ntmps7
        go_wp2_with (first
          | (go_at_call 10; refine Calls.mono (HUN.out _ (Below.refl _ _)) ?_; rintro e w1 ⟨rfl, hB1⟩)
          | (go_at_call 11; refine Calls.mono (HF.out w1 hB1) ?_; rintro e w2 ⟨rfl, b2⟩; have hB2 := below_trans hB1 b2)
          | (go_at_call 26; refine Calls.mono (HSE.out w2 hB2) ?_; rintro e w3 ⟨rfl, b3⟩; have hB3 := below_trans hB2 b3)
          | (go_at_call 31; refine Calls.mono (HPO.out w3 hB3) ?_; rintro e w4 ⟨RA, rc, RB, rd, rfl, hRL, hRI, hrc, hrd, b4⟩; have hB4 := below_trans hB3 b4)
          | (go_at_call 13; refine Calls.mono (HCL.out w4 hB4) ?_; rintro e w5 ⟨A5, c5, rfl, hI5, hc5, b5⟩; have hB5 := below_trans hB4 b5)
          | (go_at_call 12; refine Calls.mono (HPA.out A5 c5 w5 hI5 hB5) ?_
             rintro e w6 ⟨PA, pc, OA, oc, acc, fN, rfl, hst, hgN, _, hPL, hOI, hpc, hoc, b6⟩
             have hB6 := below_trans hB5 b6
             obtain rfl := HEQ.out acc fN hst hgN)
          | (go_at_call 19; refine Calls.mono (HCD.out w6 hB6) ?_; rintro e w7 ⟨rfl, b7⟩; have hB7 := below_trans hB6 b7)
          | (go_at_call 32; refine Calls.mono (HSL.out PA RA pc rc w7 (hPL.below b7) (hRL.below (below_trans b5 (below_trans b6 b7))) hpc hrc) ?_; rintro e w8 ⟨rfl, b8⟩; have hB8 := below_trans hB7 b8)
          | (go_at_call 25; refine Calls.mono (HSI.out OA RB oc rd w8 (hOI.below (below_trans b7 b8)) (hRI.below (below_trans b5 (below_trans b6 (below_trans b7 b8))))) ?_; rintro e w9 ⟨rfl, b9⟩; have hB9 := below_trans hB8 b9))
        go_ret
        exact ⟨rfl, hB9⟩
    · obtain ⟨cc, hc', hc8⟩ := sqErr_nat m
      have hc0 : 0 < cc := by
        rcases Nat.eq_zero_or_pos cc with h | h
        · subst h; exact absurd hc' h0
        · exact h
      have hpe := fun (A' : Option Addr) (x : Nat) w' (g1 : Lists w' A' m) (hb : Below w.heap.size w w') => parts_err A' m x w' a (HE.out w' hb) g1 h0
      have hcd := fun w' (hb : Below w.heap.size w w') => coded_any w' a (hS.below hb) (hH.below hb) cc hc8 cc
      rw [hc'] at hpe hse
      rw [decide_eq_true rfl] at hcd
      have he : errC a (cc : Int) = .iface 155 (.pointer (some (a cc))) := errC_pos' a (by omega)
      rw [he] at hpe hcd
      have HSE := hide hse
      have HPE := hide hpe
      have HCD := hide hcd
      have HNL := hide (fun w' => sameP_self none none [] 0 0 0 w' (Lists.nil w' _) (Lists.nil w' _) rfl (Nat.le_refl _) (Nat.le_refl _) (by simp) (by simp))
      have HNI := hide (fun w' => same_nil w')
      have hcn : ((cc : Int) == 0) = false := by rw [beq_eq_false_iff_ne]; omega
      clear hse hpe hcd he hc' h0 hfw hq hc0
      go_enter Tryd.func7, Tryd.ntmps7
      go_wp2_with (first
        | (go_at_call 10; refine Calls.mono (HUN.out _ (Below.refl _ _)) ?_; rintro e w1 ⟨rfl, hB1⟩)
        | (go_at_call 11; refine Calls.mono (HF.out w1 hB1) ?_; rintro e w2 ⟨rfl, b2⟩; have hB2 := below_trans hB1 b2)
        | (go_at_call 26; refine Calls.mono (HSE.out w2 hB2) ?_; rintro e w4 ⟨rfl, b3⟩; have hB4 := below_trans hB2 b3)
        | (go_at_call 13; refine Calls.mono (HCL.out w4 hB4) ?_; rintro e w5 ⟨A5, c5, rfl, hI5, hc5, b5⟩; have hB5 := below_trans hB4 b5)
        | (go_at_call 12; refine Calls.mono (HPE.out A5 c5 w5 hI5 hB5) ?_; rintro e w6 ⟨rfl, b6⟩; have hB6 := below_trans hB5 b6)
        | (go_at_call 19; refine Calls.mono (HCD.out w6 hB6) ?_; rintro e w7 ⟨rfl, b7⟩; have hB7 := below_trans hB6 b7)
        | (go_at_call 32; refine Calls.mono (HNL.out w7) ?_; rintro e w8 ⟨rfl, b8⟩; have hB8 := below_trans hB7 b8)
        | (go_at_call 25; refine Calls.mono (HNI.out w8) ?_; rintro e w9 ⟨rfl, b9⟩; have hB9 := below_trans hB8 b9))
      go_ret
      exact ⟨rfl, hB9⟩
end Go.Proofs.YtcnecmcbjpehcaaDoor

/- A law's arguments opened where they are of modest bulk: how long the lists can be. Condition: the bulk's bound. -/
namespace Go.Proofs.YtcnecmcbjpehcaaDoor
open Go.ChangeShapes Go.WideShapes Go.RowKit Go.Deep Go.Joins

theorem bulk_pos {H : Type} (d : DataW H) : 1 ≤ Rows.uptoBulk d := by
  cases d with
  | lit l => cases l <;> simp [Rows.uptoBulk]
  | nil => simp [Rows.uptoBulk]
  | ptr d => simp [Rows.uptoBulk]
  | slice elems spare => simp [Rows.uptoBulk]
  | agg parts => simp [Rows.uptoBulk]
  | iface t d => simp [Rows.uptoBulk]
  | map entries => simp [Rows.uptoBulk]
  | held h => simp [Rows.uptoBulk]
theorem bulk_len {H : Type} (l : List (DataW H)) : l.length ≤ Rows.uptoBulkAll l := by
  induction l with
  | nil => simp [Rows.uptoBulkAll]
  | cons x r ih => have := bulk_pos x; simp only [Rows.uptoBulkAll, List.length_cons]; omega
theorem bulk_append {H : Type} (l r : List (DataW H)) : Rows.uptoBulkAll (l ++ r) = Rows.uptoBulkAll l + Rows.uptoBulkAll r := by
  induction l with
  | nil => simp [Rows.uptoBulkAll]
  | cons x l ih => simp only [List.cons_append, Rows.uptoBulkAll, ih]; omega
theorem bulk_bound {H : Type} {l : List (DataW H)} (hk : Rows.uptoSmall H l = true) : Rows.uptoBulkAll l ≤ 1048576 := of_decide_eq_true hk
section
variable {H : Type} {enc : TypeId × Value → H} {W : World} {base : Nat} {held : Bool}
theorem open_ints_bulk {fuel : Nat} {v : Value} {y : DataW H × List MemPlace} (h : DataW.trod enc Tryd.prog W base (fun _ => true) held fuel 25 [v] = some y) :
    ∃ A l cap, v = .slice A l.length cap ∧ Ints W A l ∧ l.length ≤ cap ∧ (∀ x, x ∈ l → -9223372036854775808 ≤ x ∧ x ≤ 9223372036854775807) ∧ l.length + 1 ≤ Rows.uptoBulk y.1 := by
  have c3 : Tryd.prog.cellsOf 3 = 1 := by kernel_rfl
  obtain ⟨A, l, cap, e, hI, hc, hr⟩ := open_ints_arg h
  refine ⟨A, l, cap, e, hI, hc, hr, ?_⟩
  rcases open_ints Tryd.underlying25 Tryd.underlying3 c3 h with ⟨hcs, hx⟩ | ⟨a, len, cap', zs, hcs, hb, hl, hm, hz, hx, hcell, hwz⟩
  · rw [e] at hcs
    injection hcs with hcs
    injection hcs with _ h1 _
    rw [h1, hx]
    simp [Rows.uptoBulk]
  · rw [e] at hcs
    injection hcs with hcs
    injection hcs with _ h1 _
    simp only [if_true] at hz
    rw [h1, hx]
    have h2 := bulk_len (H := H) (lits .i64 (zs.take len))
    have h3 : (lits (H := H) .i64 (zs.take len)).length = len := by simp [lits, List.length_take]; omega
    simp only [Rows.uptoBulk]
    omega
theorem bulk_rows (D : Nat → DataW H) (f : Nat → List Int) : ∀ n, (∀ i, i < n → (f i).length + 1 ≤ Rows.uptoBulk (D i)) → ((List.range n).map f).flatten.length + n ≤ Rows.uptoBulkAll ((List.range n).map D) := by
  intro n
  induction n with
  | zero => intro _; simp
  | succ n ih =>
    intro hn
    have h1 := ih fun i hi => hn i (by omega)
    have h2 := hn n (by omega)
    rw [List.range_succ, List.map_append, List.map_append, bulk_append, List.flatten_append, List.length_append]
    simp only [List.map_cons, List.map_nil, List.flatten_cons, List.flatten_nil, List.append_nil, Rows.uptoBulkAll]
    omega
theorem open_lists_bulk {fuel : Nat} {v : Value} {y : DataW H × List MemPlace} (h : DataW.trod enc Tryd.prog W base (fun _ => true) held fuel 22 [v] = some y) :
    ∃ A l cap, v = .slice A l.length cap ∧ Lists W A l ∧ l.length ≤ cap ∧ (∀ r, r ∈ l → ∀ x, x ∈ r → -9223372036854775808 ≤ x ∧ x ≤ 9223372036854775807) ∧ l.flatten.length + l.length + 1 ≤ Rows.uptoBulk y.1 := by
  have c1 : Tryd.prog.cellsOf 25 = 1 := by kernel_rfl
  rcases open_slice1 Tryd.underlying22 c1 h with ⟨hcs, hxx⟩ | ⟨a, len, cap, m, n, V, D, Pl, hcs, hb, hl, hm, hmm, hxx, hx⟩
  · exact ⟨none, [], 0, by simpa using hcs, Lists.nil _ _, Nat.le_refl _, by simp, by rw [hxx]; simp [Rows.uptoBulk]⟩
  · simp only [if_true] at hmm
    subst hmm
    have each : ∀ i, i < len → ∃ q : Option Addr × List Int × Nat, W.cell? (a.add i) = some (.slice q.1 q.2.1.length q.2.2) ∧ q.2.1.length ≤ q.2.2 ∧ Ints W q.1 q.2.1 ∧ (∀ x, x ∈ q.2.1 → -9223372036854775808 ≤ x ∧ x ≤ 9223372036854775807) ∧ q.2.1.length + 1 ≤ Rows.uptoBulk (D i) := by
      intro i hi
      obtain ⟨hc, ht⟩ := hx i (by omega)
      obtain ⟨A, l, c, e, h1, h2, h3, h4⟩ := open_ints_bulk ht
      exact ⟨(A, l, c), by rw [hc, e], h2, h1, h3, h4⟩
    obtain ⟨f, hf⟩ := choose_lt each
    have hlen : ((List.range len).map fun i => (f i).2.1).length = len := by simp
    refine ⟨some a, (List.range len).map fun i => (f i).2.1, m, by rw [hlen]; simpa using hcs, ⟨by rw [hlen]; simp only [maxLen] at hm; omega, fun i hi => ?_⟩, by rw [hlen]; exact hl, fun r hr => ?_, ?_⟩
    · rw [hlen] at hi
      obtain ⟨g0, g1, g2, _⟩ := hf i hi
      have hs := spot_none (hf 0 (by omega)).1
      rw [hs, addr_add] at g0
      have e : ((List.range len).map fun i => (f i).2.1).getD i [] = (f i).2.1 := by simp [List.getD_eq_getElem?_getD, hi]
      rw [e]
      exact ⟨a.block, a.off, (f i).1, (f i).2.2, by rw [← hs], World.block_lt_of_cell? W ⟨a.block, a.off + i, none⟩ g0, g0, g1, g2⟩
    · obtain ⟨i, hi, rfl⟩ := List.mem_map.1 hr
      exact (hf i (List.mem_range.1 hi)).2.2.2.1
    · rw [hxx, hlen]
      have hb := bulk_rows D (fun i => (f i).2.1) len fun i hi => (hf i hi).2.2.2.2
      simp only [Rows.uptoBulk]
      omega
end
end Go.Proofs.YtcnecmcbjpehcaaDoor
