-- PRINTED BY print.sh 35421559b90ae4d0a3588c463048766b98c2df88dd9212a6774a882060cdf62d: not written by this session
import Derived.Test.YtehheklbibocjaaDoorPZeroValidx0
namespace Go.Proofs.YtehheklbibocjaaDoor.PZeroValid
open Go.RowKit Go.Proofs.YtehheklbibocjaaDoorW.PrintWords Go.Proofs.YtehheklbibocjaaDoorW.PrintLast Go.Proofs.YtehheklbibocjaaDoorW.PrintMore
attribute [local go_sem] max2_int min2_int max_two min_two max_three min_three max_four min_four   -- for this text's walks alone
set_option linter.unusedVariables false
set_option linter.unusedSimpArgs false

/-! ### demonref3_ChannelError: function 21 -/
mutual
def demonref3_ChannelError.l0 : Nat → List (List Int) → Int → Option (Int)
  | 0, _, _ => none
  | k + 1, x0, x3 => if x3 < (x0.length : Int) then (if 0 ≤ x3 then (if ((rd_L1 x0 x3).length : Int) > 16 then (some 2) else (demonref3_ChannelError.l0 k x0 (wrap64 (x3 + 1)))) else (none)) else (if (x0.length : Int) = 0 then (some 3) else (demonref3_ChannelError.l1 k x0 false 0))
def demonref3_ChannelError.l1 : Nat → List (List Int) → Bool → Int → Option (Int)
  | 0, _, _, _ => none
  | k + 1, x0, x4, x5 => if x5 < (x0.length : Int) then (if 0 ≤ x5 then (if 0 < (x0.length : Int) then (if ((rd_L1 x0 x5).length : Int) = ((rd_L1 x0 0).length : Int) then (demonref3_ChannelError.l2 k x0 x4 x5 false 0 0) else (some 3)) else (none)) else (none)) else (if x4 = true then (some 2) else (some 0))
def demonref3_ChannelError.l2 : Nat → List (List Int) → Bool → Int → Bool → Int → Int → Option (Int)
  | 0, _, _, _, _, _, _ => none
  | k + 1, x0, x4, x5, x6, x7, x8 => if 0 ≤ x5 then (if x5 < (x0.length : Int) then (if x8 < ((rd_L1 x0 x5).length : Int) then (if 0 ≤ x8 then (if (rd (rd_L1 x0 x5) x8) < 0 then (some 3) else (if x6 = true then (if x4 = true then (demonref3_ChannelError.l2 k x0 true x5 true x7 (wrap64 (x8 + 1))) else (if ((rd (rd_L1 x0 x5) x8) > 256) then (demonref3_ChannelError.l2 k x0 (decide ((rd (rd_L1 x0 x5) x8) > 256)) x5 true x7 (wrap64 (x8 + 1))) else (demonref3_ChannelError.l2 k x0 (decide ((rd (rd_L1 x0 x5) x8) > 256)) x5 true (wrap64 (x7 + (rd (rd_L1 x0 x5) x8))) (wrap64 (x8 + 1))))) else (if x4 = true then (demonref3_ChannelError.l2 k x0 true x5 (decide ((rd (rd_L1 x0 x5) x8) > 0)) x7 (wrap64 (x8 + 1))) else (if ((rd (rd_L1 x0 x5) x8) > 256) then (demonref3_ChannelError.l2 k x0 (decide ((rd (rd_L1 x0 x5) x8) > 256)) x5 (decide ((rd (rd_L1 x0 x5) x8) > 0)) x7 (wrap64 (x8 + 1))) else (demonref3_ChannelError.l2 k x0 (decide ((rd (rd_L1 x0 x5) x8) > 256)) x5 (decide ((rd (rd_L1 x0 x5) x8) > 0)) (wrap64 (x7 + (rd (rd_L1 x0 x5) x8))) (wrap64 (x8 + 1))))))) else (none)) else (if x6 = true then (if x4 = true then (demonref3_ChannelError.l1 k x0 true (wrap64 (x5 + 1))) else (demonref3_ChannelError.l1 k x0 (decide (x7 > 256)) (wrap64 (x5 + 1)))) else (some 3))) else (none)) else (none)
end
def demonref3_ChannelError.f (k : Nat) (l0 : List (List Int)) : Option (Int) := if (l0.length : Int) > 16 then (some 2) else (demonref3_ChannelError.l0 k l0 0)
theorem demonref3_ChannelError.mono_l : ∀ k, (∀ y0 y1, LeO (demonref3_ChannelError.l0 k y0 y1) (demonref3_ChannelError.l0 (k + 1) y0 y1)) ∧ (∀ y0 y1 y2, LeO (demonref3_ChannelError.l1 k y0 y1 y2) (demonref3_ChannelError.l1 (k + 1) y0 y1 y2)) ∧ (∀ y0 y1 y2 y3 y4 y5, LeO (demonref3_ChannelError.l2 k y0 y1 y2 y3 y4 y5) (demonref3_ChannelError.l2 (k + 1) y0 y1 y2 y3 y4 y5))
  | 0 => ⟨fun _ _ r h => by simp [demonref3_ChannelError.l0] at h, fun _ _ _ r h => by simp [demonref3_ChannelError.l1] at h, fun _ _ _ _ _ _ r h => by simp [demonref3_ChannelError.l2] at h⟩
  | k + 1 => by
    obtain ⟨ih0, ih1, ih2⟩ := demonref3_ChannelError.mono_l k
    refine ⟨?_, ?_, ?_⟩
    · intro y0 y1
      unfold demonref3_ChannelError.l0
      repeat' first
      | (with_reducible exact ih0 _ _)
      | (with_reducible exact ih1 _ _ _)
      | (with_reducible exact ih2 _ _ _ _ _ _)
      | (with_reducible exact LeO.refl _)
      | (with_reducible exact LeO.none _)
      | (with_reducible refine LeO.ite ?_ ?_)
      | (with_reducible refine LeO.bind ?_ (fun _ => ?_))
      | exact ih0 _ _
      | exact ih1 _ _ _
      | exact ih2 _ _ _ _ _ _
      | exact LeO.none _
      | refine LeO.ite ?_ ?_
      | refine LeO.bind ?_ (fun _ => ?_)
    · intro y0 y1 y2
      unfold demonref3_ChannelError.l1
      repeat' first
      | (with_reducible exact ih0 _ _)
      | (with_reducible exact ih1 _ _ _)
      | (with_reducible exact ih2 _ _ _ _ _ _)
      | (with_reducible exact LeO.refl _)
      | (with_reducible exact LeO.none _)
      | (with_reducible refine LeO.ite ?_ ?_)
      | (with_reducible refine LeO.bind ?_ (fun _ => ?_))
      | exact ih0 _ _
      | exact ih1 _ _ _
      | exact ih2 _ _ _ _ _ _
      | exact LeO.none _
      | refine LeO.ite ?_ ?_
      | refine LeO.bind ?_ (fun _ => ?_)
    · intro y0 y1 y2 y3 y4 y5
      unfold demonref3_ChannelError.l2
      repeat' first
      | (with_reducible exact ih0 _ _)
      | (with_reducible exact ih1 _ _ _)
      | (with_reducible exact ih2 _ _ _ _ _ _)
      | (with_reducible exact LeO.refl _)
      | (with_reducible exact LeO.none _)
      | (with_reducible refine LeO.ite ?_ ?_)
      | (with_reducible refine LeO.bind ?_ (fun _ => ?_))
      | exact ih0 _ _
      | exact ih1 _ _ _
      | exact ih2 _ _ _ _ _ _
      | exact LeO.none _
      | refine LeO.ite ?_ ?_
      | refine LeO.bind ?_ (fun _ => ?_)
theorem demonref3_ChannelError.mono : ∀ a0 k, LeO (demonref3_ChannelError.f k a0) (demonref3_ChannelError.f (k + 1) a0) := by
  intro a0 k
  obtain ⟨ih0, ih1, ih2⟩ := demonref3_ChannelError.mono_l k
  unfold demonref3_ChannelError.f
  repeat' first
      | (with_reducible exact ih0 _ _)
      | (with_reducible exact ih1 _ _ _)
      | (with_reducible exact ih2 _ _ _ _ _ _)
      | (with_reducible exact LeO.refl _)
      | (with_reducible exact LeO.none _)
      | (with_reducible refine LeO.ite ?_ ?_)
      | (with_reducible refine LeO.bind ?_ (fun _ => ?_))
      | exact ih0 _ _
      | exact ih1 _ _ _
      | exact ih2 _ _ _ _ _ _
      | exact LeO.none _
      | refine LeO.ite ?_ ?_
      | refine LeO.bind ?_ (fun _ => ?_)
set_option maxHeartbeats 8000000 in
set_option maxRecDepth 100000 in
theorem demonref3_ChannelError.calls (k : Nat) (A0 : Option Addr) (c0 : Nat) (l0 : List (List Int)) (r : Int) (w : World) (hr0 : Kd.C (Kd.slice 3 (Kd.int .i64)) w A0 l0.length l0) (hc0 : l0.length ≤ c0) (h : demonref3_ChannelError.f k l0 = some r) :
    Calls Tryd.prog 21 #[.slice A0 l0.length c0] w fun e w' => e = .returned (.int .i64 r) ∧ Drawn0 w w' := by
  have HR0 := Aside0.mk hr0
  have HC0 := Aside0.mk hc0
  clear hr0 hc0
  have H : (if (l0.length : Int) > 16 then (some 2) else (demonref3_ChannelError.l0 k l0 0)) = some r := h
  clear h
  by_cases c2 : (l0.length : Int) > 16
  · rw [if_pos c2] at H
    have c2b0 : decide (16 < (l0.length : Int)) = true := decide_eq_true c2
    have c2b1 : decide (16 < l0.length) = true := decide_eq_true (by omega)
    clear c2
    obtain rfl := Option.some.inj H
    go_enter Tryd.func21, Tryd.ntmps21
    go_wp2
    repeat (go_quiet (fail); try go_wp2)
    go_ret
    exact ⟨by first | rfl | (simp; done) | (simp [*]; done), by repeat (first | exact Drawn0.refl _ | apply Drawn0.step)⟩
  · rw [if_neg c2] at H
    have c2b0 : decide (16 < (l0.length : Int)) = false := decide_eq_false c2
    have c2b1 : decide (16 < l0.length) = false := decide_eq_false (by omega)
    clear c2
    have H' := Aside0.mk H
    clear H
    go_enter Tryd.func21, Tryd.ntmps21
    go_wp2
    repeat (go_quiet (fail); try go_wp2)
    go_loopg [3] k (fun kq v3 w' => ∃ (x3_1 : Int), v3 = .int .i64 x3_1 ∧ Aside0 (demonref3_ChannelError.l0 kq l0 x3_1 = some r) ∧ Aside0 (kq ≤ k) ∧ Drawn0 w w')
    case atStart => exact ⟨(0), (by first | rfl | (simp; done) | (simp [*]; done)), H', ⟨Nat.le_refl _⟩, by repeat (first | exact Drawn0.refl _ | apply Drawn0.step)⟩
    case round =>
      clear H'
      try clear c2
      try clear c2b0
      try clear c2b1
      try clear p2
      obtain ⟨x3_1, rfl, HA, HK1, ⟨m1, rfl⟩⟩ := hrel
      cases gk with
      | zero => exact absurd HA.out (by simp [demonref3_ChannelError.l0])
      | succ k1 =>
        have H := HA.out
        clear HA
        simp only [demonref3_ChannelError.l0] at H
        by_cases c3 : x3_1 < (l0.length : Int)
        · rw [if_pos c3] at H
          have c3b0 : decide (x3_1 < (l0.length : Int)) = true := decide_eq_true c3
          clear c3
          by_cases c4 : 0 ≤ x3_1
          · rw [if_pos c4] at H
            have c4b0 : decide (0 ≤ x3_1) = true := decide_eq_true c4
            clear c4
            by_cases c5 : ((rd_L1 l0 x3_1).length : Int) > 16
            · rw [if_pos c5] at H
              have c5b0 : decide (16 < ((rd_L1 l0 x3_1).length : Int)) = true := decide_eq_true c5
              have c5b1 : decide (16 < (rd_L1 l0 x3_1).length) = true := decide_eq_true (by omega)
              clear c5
              obtain rfl := Option.some.inj H
              have p118 : 0 ≤ (x3_1 : Int) := of_decide_eq_true (by first | (with_reducible assumption) | assumption)
              have q118 : x3_1 < (l0.length : Int) := of_decide_eq_true (by first | (with_reducible assumption) | assumption)
              obtain ⟨ad118, A118_0, c118_0, e118, hx118_0, hl118_0, hi118_0⟩ := at_L1 HR0.out x3_1 p118 q118
              cases e118
              have HR118_0 := Aside0.mk hi118_0
              have HC118_0 := Aside0.mk hl118_0
              clear hi118_0 hl118_0
              replace p118 := eq_true p118
              replace q118 := eq_true q118
              go_wp2
              repeat (go_quiet (fail); try go_wp2)
              go_ret
              exact ⟨by first | rfl | (simp; done) | (simp [*]; done), by repeat (first | exact Drawn0.refl _ | apply Drawn0.step)⟩
            · rw [if_neg c5] at H
              have c5b0 : decide (16 < ((rd_L1 l0 x3_1).length : Int)) = false := decide_eq_false c5
              have c5b1 : decide (16 < (rd_L1 l0 x3_1).length) = false := decide_eq_false (by omega)
              clear c5
              have H' := Aside0.mk H
              clear H
              have p118 : 0 ≤ (x3_1 : Int) := of_decide_eq_true (by first | (with_reducible assumption) | assumption)
              have q118 : x3_1 < (l0.length : Int) := of_decide_eq_true (by first | (with_reducible assumption) | assumption)
              obtain ⟨ad118, A118_0, c118_0, e118, hx118_0, hl118_0, hi118_0⟩ := at_L1 HR0.out x3_1 p118 q118
              cases e118
              have HR118_0 := Aside0.mk hi118_0
              have HC118_0 := Aside0.mk hl118_0
              clear hi118_0 hl118_0
              replace p118 := eq_true p118
              replace q118 := eq_true q118
              go_wp2
              repeat (go_quiet (fail); try go_wp2)
              go_roundg k1
              case measure => have := HK1.out; omega
              case rel => exact ⟨(wrap64 (x3_1 + 1)), (by first | rfl | (simp; done) | (simp [*]; done)), H', ⟨by have := HK1.out; omega⟩, by repeat (first | exact Drawn0.refl _ | apply Drawn0.step)⟩
          · rw [if_neg c4] at H
            exact absurd H (by simp)
        · rw [if_neg c3] at H
          have c3b0 : decide (x3_1 < (l0.length : Int)) = false := decide_eq_false c3
          clear c3
          by_cases c6 : (l0.length : Int) = 0
          · rw [if_pos c6] at H
            have c6b0 : ((l0.length : Int) == 0) = true := beq_iff_eq.mpr c6
            have c6b1 : ((l0.length : Int) != 0) = false := bne_eq_false_iff_eq.mpr c6
            clear c6
            obtain rfl := Option.some.inj H
            go_wp2
            repeat (go_quiet (fail); try go_wp2)
            go_ret
            exact ⟨by first | rfl | (simp; done) | (simp [*]; done), by repeat (first | exact Drawn0.refl _ | apply Drawn0.step)⟩
          · rw [if_neg c6] at H
            have c6b0 : ((l0.length : Int) == 0) = false := beq_eq_false_iff_ne.mpr c6
            have c6b1 : ((l0.length : Int) != 0) = true := bne_iff_ne.mpr c6
            have c6b2 : ¬ (l0 = []) := fun h_ => c6 (by rw [h_]; rfl)
            have H' := Aside0.mk H
            clear H
            go_wp2
            repeat (go_quiet (fail); try go_wp2)
            go_loopg [4, 5] k1 (fun kq v4 v5 w' => ∃ (x4_2 : Bool) (x5_2 : Int), v4 = .bool x4_2 ∧ v5 = .int .i64 x5_2 ∧ Aside0 (demonref3_ChannelError.l1 kq l0 x4_2 x5_2 = some r) ∧ Aside0 (kq ≤ k1) ∧ Drawn0 w w')
            case atStart => exact ⟨(false), (0), (by first | rfl | (simp; done) | (simp [*]; done)), (by first | rfl | (simp; done) | (simp [*]; done)), H', ⟨Nat.le_refl _⟩, by repeat (first | exact Drawn0.refl _ | apply Drawn0.step)⟩
            case round =>
              clear H'
              try clear c1
              try clear p1
              try clear q1
              try clear hx1
              try clear c2
              try clear c2b0
              try clear c2b1
              try clear p2
              try clear c3
              try clear c3b0
              try clear c4
              try clear c4b0
              try clear c5
              try clear c5b0
              try clear c5b1
              try clear c6
              try clear c6b0
              try clear c6b1
              try clear c6b2
              try clear p6
              try clear hx118_0
              try clear p118
              try clear p2
              try clear q118
              obtain ⟨x4_2, x5_2, rfl, rfl, HA, HK2, ⟨m2, rfl⟩⟩ := hrel
              cases gk with
              | zero => exact absurd HA.out (by simp [demonref3_ChannelError.l1])
              | succ k2 =>
                have H := HA.out
                clear HA
                simp only [demonref3_ChannelError.l1] at H
                by_cases c7 : x5_2 < (l0.length : Int)
                · rw [if_pos c7] at H
                  have c7b0 : decide (x5_2 < (l0.length : Int)) = true := decide_eq_true c7
                  clear c7
                  by_cases c8 : 0 ≤ x5_2
                  · rw [if_pos c8] at H
                    have c8b0 : decide (0 ≤ x5_2) = true := decide_eq_true c8
                    clear c8
                    by_cases c9 : 0 < (l0.length : Int)
                    · rw [if_pos c9] at H
                      have c9b0 : decide (0 < (l0.length : Int)) = true := decide_eq_true c9
                      have c9b1 : decide (0 < l0.length) = true := decide_eq_true (by omega)
                      clear c9
                      by_cases c10 : ((rd_L1 l0 x5_2).length : Int) = ((rd_L1 l0 0).length : Int)
                      · rw [if_pos c10] at H
                        have c10b0 : (((rd_L1 l0 x5_2).length : Int) == ((rd_L1 l0 0).length : Int)) = true := beq_iff_eq.mpr c10
                        have c10b1 : (((rd_L1 l0 x5_2).length : Int) != ((rd_L1 l0 0).length : Int)) = false := bne_eq_false_iff_eq.mpr c10
                        have c10b2 : ((rd_L1 l0 x5_2).length == (rd_L1 l0 0).length) = true := by first | simpa using c10 | (simp at c10 ⊢; omega)
                        clear c10
                        have H' := Aside0.mk H
                        clear H
                        have p119 : 0 ≤ (x5_2 : Int) := of_decide_eq_true (by first | (with_reducible assumption) | assumption)
                        have q119 : x5_2 < (l0.length : Int) := of_decide_eq_true (by first | (with_reducible assumption) | assumption)
                        obtain ⟨ad119, A119_0, c119_0, e119, hx119_0, hl119_0, hi119_0⟩ := at_L1 HR0.out x5_2 p119 q119
                        cases e119
                        have HR119_0 := Aside0.mk hi119_0
                        have HC119_0 := Aside0.mk hl119_0
                        clear hi119_0 hl119_0
                        replace p119 := eq_true p119
                        replace q119 := eq_true q119
                        have p120 : 0 ≤ (0 : Int) := (by omega)
                        have q120 : 0 < (l0.length : Int) := of_decide_eq_true (by first | (with_reducible assumption) | assumption)
                        obtain ⟨ad120, A120_0, c120_0, e120, hx120_0, hl120_0, hi120_0⟩ := at_L1 HR0.out 0 p120 q120
                        obtain rfl : ad119 = ad120 := (by injection e120)
                        have qi120 : (0 < l0.length) = True := eq_true (by omega)
                        (try rw [show ((0 : Int)).toNat = 0 from rfl] at hx120_0)
                        (try rw [Addr.add_zero'] at hx120_0)
                        have HR120_0 := Aside0.mk hi120_0
                        have HC120_0 := Aside0.mk hl120_0
                        clear hi120_0 hl120_0
                        replace p120 := eq_true p120
                        replace q120 := eq_true q120
                        go_wp2
                        repeat (go_quiet (fail); try go_wp2)
                        go_loopg [4, 6, 7, 8] k2 (fun kq v4 v6 v7 v8 w' => ∃ (x4_3 : Bool) (x6_3 : Bool) (x7_3 : Int) (x8_3 : Int), v4 = .bool x4_3 ∧ v6 = .bool x6_3 ∧ v7 = .int .i64 x7_3 ∧ v8 = .int .i64 x8_3 ∧ Aside0 (demonref3_ChannelError.l2 kq l0 x4_3 x5_2 x6_3 x7_3 x8_3 = some r) ∧ Aside0 (kq ≤ k2) ∧ Drawn0 w w')
                        case atStart => exact ⟨(x4_2), (false), (0), (0), (by first | rfl | (simp; done) | (simp [*]; done)), (by first | rfl | (simp; done) | (simp [*]; done)), (by first | rfl | (simp; done) | (simp [*]; done)), (by first | rfl | (simp; done) | (simp [*]; done)), H', ⟨Nat.le_refl _⟩, by repeat (first | exact Drawn0.refl _ | apply Drawn0.step)⟩
                        case round =>
                          clear H'
                          try clear c1
                          try clear p1
                          try clear q1
                          try clear hx1
                          try clear qi1
                          try clear c2
                          try clear c2b0
                          try clear c2b1
                          try clear p2
                          try clear c3
                          try clear c3b0
                          try clear c4
                          try clear c4b0
                          try clear c5
                          try clear c5b0
                          try clear c5b1
                          try clear c6
                          try clear c6b0
                          try clear c6b1
                          try clear c6b2
                          try clear p6
                          try clear c7
                          try clear c7b0
                          try clear c8
                          try clear c8b0
                          try clear c9
                          try clear c9b0
                          try clear c9b1
                          try clear c10
                          try clear c10b0
                          try clear c10b1
                          try clear c10b2
                          try clear hx118_0
                          try clear hx119_0
                          try clear hx120_0
                          try clear p1
                          try clear p118
                          try clear p119
                          try clear p120
                          try clear p2
                          try clear p6
                          try clear q1
                          try clear q118
                          try clear q119
                          try clear q120
                          obtain ⟨x4_3, x6_3, x7_3, x8_3, rfl, rfl, rfl, rfl, HA, HK3, ⟨m3, rfl⟩⟩ := hrel
                          cases gk with
                          | zero => exact absurd HA.out (by simp [demonref3_ChannelError.l2])
                          | succ k3 =>
                            have H := HA.out
                            clear HA
                            simp only [demonref3_ChannelError.l2] at H
                            by_cases c11 : 0 ≤ x5_2
                            · rw [if_pos c11] at H
                              have c11b0 : decide (0 ≤ x5_2) = true := decide_eq_true c11
                              clear c11
                              by_cases c12 : x5_2 < (l0.length : Int)
                              · rw [if_pos c12] at H
                                have c12b0 : decide (x5_2 < (l0.length : Int)) = true := decide_eq_true c12
                                clear c12
                                by_cases c13 : x8_3 < ((rd_L1 l0 x5_2).length : Int)
                                · rw [if_pos c13] at H
                                  have c13b0 : decide (x8_3 < ((rd_L1 l0 x5_2).length : Int)) = true := decide_eq_true c13
                                  clear c13
                                  by_cases c14 : 0 ≤ x8_3
                                  · rw [if_pos c14] at H
                                    have c14b0 : decide (0 ≤ x8_3) = true := decide_eq_true c14
                                    clear c14
                                    by_cases c15 : (rd (rd_L1 l0 x5_2) x8_3) < 0
                                    · rw [if_pos c15] at H
                                      have c15b0 : decide ((rd (rd_L1 l0 x5_2) x8_3) < 0) = true := decide_eq_true c15
                                      clear c15
                                      obtain rfl := Option.some.inj H
                                      have p121 : 0 ≤ (x5_2 : Int) := of_decide_eq_true (by first | (with_reducible assumption) | assumption)
                                      have q121 : x5_2 < (l0.length : Int) := of_decide_eq_true (by first | (with_reducible assumption) | assumption)
                                      obtain ⟨ad121, A121_0, c121_0, e121, hx121_0, hl121_0, hi121_0⟩ := at_L1 HR0.out x5_2 p121 q121
                                      obtain rfl : ad119 = ad121 := (by injection e121)
                                      have HR121_0 := Aside0.mk hi121_0
                                      have HC121_0 := Aside0.mk hl121_0
                                      clear hi121_0 hl121_0
                                      replace p121 := eq_true p121
                                      replace q121 := eq_true q121
                                      have p122 : 0 ≤ (x5_2 : Int) := of_decide_eq_true (by first | (with_reducible assumption) | assumption)
                                      have q122 : x5_2 < (l0.length : Int) := of_decide_eq_true (by first | (with_reducible assumption) | assumption)
                                      obtain ⟨ad122, A122_0, c122_0, e122, hx122_0, hl122_0, hi122_0⟩ := at_L1 HR0.out x5_2 p122 q122
                                      obtain rfl : ad119 = ad122 := (by injection e122)
                                      have HR122_0 := Aside0.mk hi122_0
                                      have HC122_0 := Aside0.mk hl122_0
                                      clear hi122_0 hl122_0
                                      replace p122 := eq_true p122
                                      replace q122 := eq_true q122
                                      have ea_ := Option.some.inj (hx121_0.symm.trans hx122_0)
                                      injection ea_ with ea_ en_ ec_
                                      subst ea_
                                      subst ec_
                                      clear en_
                                      have p123 : 0 ≤ (x8_3 : Int) := of_decide_eq_true (by first | (with_reducible assumption) | assumption)
                                      have q123 : x8_3 < ((rd_L1 l0 x5_2).length : Int) := of_decide_eq_true (by first | (with_reducible assumption) | assumption)
                                      obtain ⟨ad123, e123, hx123_0⟩ := Kd.at_int HR122_0.out x8_3 p123 q123
                                      cases e123
                                      replace p123 := eq_true p123
                                      replace q123 := eq_true q123
                                      go_wp2
                                      repeat (go_quiet (fail); try go_wp2)
                                      go_ret
                                      exact ⟨by first | rfl | (simp; done) | (simp [*]; done), by repeat (first | exact Drawn0.refl _ | apply Drawn0.step)⟩
                                    · rw [if_neg c15] at H
                                      have c15b0 : decide ((rd (rd_L1 l0 x5_2) x8_3) < 0) = false := decide_eq_false c15
                                      clear c15
                                      by_cases c16 : x6_3 = true
                                      · subst c16
                                        have H1 : (if x4_3 = true then (demonref3_ChannelError.l2 k3 l0 true x5_2 true x7_3 (wrap64 (x8_3 + 1))) else (if ((rd (rd_L1 l0 x5_2) x8_3) > 256) then (demonref3_ChannelError.l2 k3 l0 (decide ((rd (rd_L1 l0 x5_2) x8_3) > 256)) x5_2 true x7_3 (wrap64 (x8_3 + 1))) else (demonref3_ChannelError.l2 k3 l0 (decide ((rd (rd_L1 l0 x5_2) x8_3) > 256)) x5_2 true (wrap64 (x7_3 + (rd (rd_L1 l0 x5_2) x8_3))) (wrap64 (x8_3 + 1))))) = some r := by rw [if_pos rfl] at H; exact H
                                        clear H
                                        have H := H1
                                        clear H1
                                        by_cases c17 : x4_3 = true
                                        · subst c17
                                          have H1 : (demonref3_ChannelError.l2 k3 l0 true x5_2 true x7_3 (wrap64 (x8_3 + 1))) = some r := by rw [if_pos rfl] at H; exact H
                                          clear H
                                          have H := H1
                                          clear H1
                                          have H' := Aside0.mk H
                                          clear H
                                          have p121 : 0 ≤ (x5_2 : Int) := of_decide_eq_true (by first | (with_reducible assumption) | assumption)
                                          have q121 : x5_2 < (l0.length : Int) := of_decide_eq_true (by first | (with_reducible assumption) | assumption)
                                          obtain ⟨ad121, A121_0, c121_0, e121, hx121_0, hl121_0, hi121_0⟩ := at_L1 HR0.out x5_2 p121 q121
                                          obtain rfl : ad119 = ad121 := (by injection e121)
                                          have HR121_0 := Aside0.mk hi121_0
                                          have HC121_0 := Aside0.mk hl121_0
                                          clear hi121_0 hl121_0
                                          replace p121 := eq_true p121
                                          replace q121 := eq_true q121
                                          have p122 : 0 ≤ (x5_2 : Int) := of_decide_eq_true (by first | (with_reducible assumption) | assumption)
                                          have q122 : x5_2 < (l0.length : Int) := of_decide_eq_true (by first | (with_reducible assumption) | assumption)
                                          obtain ⟨ad122, A122_0, c122_0, e122, hx122_0, hl122_0, hi122_0⟩ := at_L1 HR0.out x5_2 p122 q122
                                          obtain rfl : ad119 = ad122 := (by injection e122)
                                          have HR122_0 := Aside0.mk hi122_0
                                          have HC122_0 := Aside0.mk hl122_0
                                          clear hi122_0 hl122_0
                                          replace p122 := eq_true p122
                                          replace q122 := eq_true q122
                                          have ea_ := Option.some.inj (hx121_0.symm.trans hx122_0)
                                          injection ea_ with ea_ en_ ec_
                                          subst ea_
                                          subst ec_
                                          clear en_
                                          have p123 : 0 ≤ (x8_3 : Int) := of_decide_eq_true (by first | (with_reducible assumption) | assumption)
                                          have q123 : x8_3 < ((rd_L1 l0 x5_2).length : Int) := of_decide_eq_true (by first | (with_reducible assumption) | assumption)
                                          obtain ⟨ad123, e123, hx123_0⟩ := Kd.at_int HR122_0.out x8_3 p123 q123
                                          cases e123
                                          replace p123 := eq_true p123
                                          replace q123 := eq_true q123
                                          go_wp2
                                          repeat (go_quiet (fail); try go_wp2)
                                          go_roundg k3
                                          case measure => have := HK1.out; have := HK2.out; have := HK3.out; omega
                                          case rel => exact ⟨(true), (true), (x7_3), (wrap64 (x8_3 + 1)), (by first | rfl | (simp; done) | (simp [*]; done)), (by first | rfl | (simp; done) | (simp [*]; done)), (by first | rfl | (simp; done) | (simp [*]; done)), (by first | rfl | (simp; done) | (simp [*]; done)), H', ⟨by have := HK1.out; have := HK2.out; have := HK3.out; omega⟩, by repeat (first | exact Drawn0.refl _ | apply Drawn0.step)⟩
                                        · replace c17 := Bool.eq_false_iff.mpr c17
                                          subst c17
                                          have H1 : (if ((rd (rd_L1 l0 x5_2) x8_3) > 256) then (demonref3_ChannelError.l2 k3 l0 (decide ((rd (rd_L1 l0 x5_2) x8_3) > 256)) x5_2 true x7_3 (wrap64 (x8_3 + 1))) else (demonref3_ChannelError.l2 k3 l0 (decide ((rd (rd_L1 l0 x5_2) x8_3) > 256)) x5_2 true (wrap64 (x7_3 + (rd (rd_L1 l0 x5_2) x8_3))) (wrap64 (x8_3 + 1)))) = some r := by rw [if_neg (show ¬ (false = true) by decide)] at H; exact H
                                          clear H
                                          have H := H1
                                          clear H1
                                          by_cases c18 : ((rd (rd_L1 l0 x5_2) x8_3) > 256)
                                          · rw [if_pos c18] at H
                                            have c18b0 : decide (256 < (rd (rd_L1 l0 x5_2) x8_3)) = true := decide_eq_true c18
                                            clear c18
                                            have H' := Aside0.mk H
                                            clear H
                                            have p121 : 0 ≤ (x5_2 : Int) := of_decide_eq_true (by first | (with_reducible assumption) | assumption)
                                            have q121 : x5_2 < (l0.length : Int) := of_decide_eq_true (by first | (with_reducible assumption) | assumption)
                                            obtain ⟨ad121, A121_0, c121_0, e121, hx121_0, hl121_0, hi121_0⟩ := at_L1 HR0.out x5_2 p121 q121
                                            obtain rfl : ad119 = ad121 := (by injection e121)
                                            have HR121_0 := Aside0.mk hi121_0
                                            have HC121_0 := Aside0.mk hl121_0
                                            clear hi121_0 hl121_0
                                            replace p121 := eq_true p121
                                            replace q121 := eq_true q121
                                            have p122 : 0 ≤ (x5_2 : Int) := of_decide_eq_true (by first | (with_reducible assumption) | assumption)
                                            have q122 : x5_2 < (l0.length : Int) := of_decide_eq_true (by first | (with_reducible assumption) | assumption)
                                            obtain ⟨ad122, A122_0, c122_0, e122, hx122_0, hl122_0, hi122_0⟩ := at_L1 HR0.out x5_2 p122 q122
                                            obtain rfl : ad119 = ad122 := (by injection e122)
                                            have HR122_0 := Aside0.mk hi122_0
                                            have HC122_0 := Aside0.mk hl122_0
                                            clear hi122_0 hl122_0
                                            replace p122 := eq_true p122
                                            replace q122 := eq_true q122
                                            have ea_ := Option.some.inj (hx121_0.symm.trans hx122_0)
                                            injection ea_ with ea_ en_ ec_
                                            subst ea_
                                            subst ec_
                                            clear en_
                                            have p123 : 0 ≤ (x8_3 : Int) := of_decide_eq_true (by first | (with_reducible assumption) | assumption)
                                            have q123 : x8_3 < ((rd_L1 l0 x5_2).length : Int) := of_decide_eq_true (by first | (with_reducible assumption) | assumption)
                                            obtain ⟨ad123, e123, hx123_0⟩ := Kd.at_int HR122_0.out x8_3 p123 q123
                                            cases e123
                                            replace p123 := eq_true p123
                                            replace q123 := eq_true q123
                                            have p124 : 0 ≤ (x5_2 : Int) := of_decide_eq_true (by first | (with_reducible assumption) | assumption)
                                            have q124 : x5_2 < (l0.length : Int) := of_decide_eq_true (by first | (with_reducible assumption) | assumption)
                                            obtain ⟨ad124, A124_0, c124_0, e124, hx124_0, hl124_0, hi124_0⟩ := at_L1 HR0.out x5_2 p124 q124
                                            obtain rfl : ad119 = ad124 := (by injection e124)
                                            have HR124_0 := Aside0.mk hi124_0
                                            have HC124_0 := Aside0.mk hl124_0
                                            clear hi124_0 hl124_0
                                            replace p124 := eq_true p124
                                            replace q124 := eq_true q124
                                            have ea_ := Option.some.inj (hx121_0.symm.trans hx124_0)
                                            injection ea_ with ea_ en_ ec_
                                            subst ea_
                                            subst ec_
                                            clear en_
                                            have p125 : 0 ≤ (x8_3 : Int) := of_decide_eq_true (by first | (with_reducible assumption) | assumption)
                                            have q125 : x8_3 < ((rd_L1 l0 x5_2).length : Int) := of_decide_eq_true (by first | (with_reducible assumption) | assumption)
                                            obtain ⟨ad125, e125, hx125_0⟩ := Kd.at_int HR124_0.out x8_3 p125 q125
                                            cases e125
                                            replace p125 := eq_true p125
                                            replace q125 := eq_true q125
                                            go_wp2
                                            repeat (go_quiet (fail); try go_wp2)
                                            go_roundg k3
                                            case measure => have := HK1.out; have := HK2.out; have := HK3.out; omega
                                            case rel => exact ⟨(decide ((rd (rd_L1 l0 x5_2) x8_3) > 256)), (true), (x7_3), (wrap64 (x8_3 + 1)), (by first | rfl | (simp; done) | (simp [*]; done)), (by first | rfl | (simp; done) | (simp [*]; done)), (by first | rfl | (simp; done) | (simp [*]; done)), (by first | rfl | (simp; done) | (simp [*]; done)), H', ⟨by have := HK1.out; have := HK2.out; have := HK3.out; omega⟩, by repeat (first | exact Drawn0.refl _ | apply Drawn0.step)⟩
                                          · rw [if_neg c18] at H
                                            have c18b0 : decide (256 < (rd (rd_L1 l0 x5_2) x8_3)) = false := decide_eq_false c18
                                            clear c18
                                            have H' := Aside0.mk H
                                            clear H
                                            have p121 : 0 ≤ (x5_2 : Int) := of_decide_eq_true (by first | (with_reducible assumption) | assumption)
                                            have q121 : x5_2 < (l0.length : Int) := of_decide_eq_true (by first | (with_reducible assumption) | assumption)
                                            obtain ⟨ad121, A121_0, c121_0, e121, hx121_0, hl121_0, hi121_0⟩ := at_L1 HR0.out x5_2 p121 q121
                                            obtain rfl : ad119 = ad121 := (by injection e121)
                                            have HR121_0 := Aside0.mk hi121_0
                                            have HC121_0 := Aside0.mk hl121_0
                                            clear hi121_0 hl121_0
                                            replace p121 := eq_true p121
                                            replace q121 := eq_true q121
                                            have p122 : 0 ≤ (x5_2 : Int) := of_decide_eq_true (by first | (with_reducible assumption) | assumption)
                                            have q122 : x5_2 < (l0.length : Int) := of_decide_eq_true (by first | (with_reducible assumption) | assumption)
                                            obtain ⟨ad122, A122_0, c122_0, e122, hx122_0, hl122_0, hi122_0⟩ := at_L1 HR0.out x5_2 p122 q122
                                            obtain rfl : ad119 = ad122 := (by injection e122)
                                            have HR122_0 := Aside0.mk hi122_0
                                            have HC122_0 := Aside0.mk hl122_0
                                            clear hi122_0 hl122_0
                                            replace p122 := eq_true p122
                                            replace q122 := eq_true q122
                                            have ea_ := Option.some.inj (hx121_0.symm.trans hx122_0)
                                            injection ea_ with ea_ en_ ec_
                                            subst ea_
                                            subst ec_
                                            clear en_
                                            have p123 : 0 ≤ (x8_3 : Int) := of_decide_eq_true (by first | (with_reducible assumption) | assumption)
                                            have q123 : x8_3 < ((rd_L1 l0 x5_2).length : Int) := of_decide_eq_true (by first | (with_reducible assumption) | assumption)
                                            obtain ⟨ad123, e123, hx123_0⟩ := Kd.at_int HR122_0.out x8_3 p123 q123
                                            cases e123
                                            replace p123 := eq_true p123
                                            replace q123 := eq_true q123
                                            have p124 : 0 ≤ (x5_2 : Int) := of_decide_eq_true (by first | (with_reducible assumption) | assumption)
                                            have q124 : x5_2 < (l0.length : Int) := of_decide_eq_true (by first | (with_reducible assumption) | assumption)
                                            obtain ⟨ad124, A124_0, c124_0, e124, hx124_0, hl124_0, hi124_0⟩ := at_L1 HR0.out x5_2 p124 q124
                                            obtain rfl : ad119 = ad124 := (by injection e124)
                                            have HR124_0 := Aside0.mk hi124_0
                                            have HC124_0 := Aside0.mk hl124_0
                                            clear hi124_0 hl124_0
                                            replace p124 := eq_true p124
                                            replace q124 := eq_true q124
                                            have ea_ := Option.some.inj (hx121_0.symm.trans hx124_0)
                                            injection ea_ with ea_ en_ ec_
                                            subst ea_
                                            subst ec_
                                            clear en_
                                            have p125 : 0 ≤ (x8_3 : Int) := of_decide_eq_true (by first | (with_reducible assumption) | assumption)
                                            have q125 : x8_3 < ((rd_L1 l0 x5_2).length : Int) := of_decide_eq_true (by first | (with_reducible assumption) | assumption)
                                            obtain ⟨ad125, e125, hx125_0⟩ := Kd.at_int HR124_0.out x8_3 p125 q125
                                            cases e125
                                            replace p125 := eq_true p125
                                            replace q125 := eq_true q125
                                            have p126 : 0 ≤ (x5_2 : Int) := of_decide_eq_true (by first | (with_reducible assumption) | assumption)
                                            have q126 : x5_2 < (l0.length : Int) := of_decide_eq_true (by first | (with_reducible assumption) | assumption)
                                            obtain ⟨ad126, A126_0, c126_0, e126, hx126_0, hl126_0, hi126_0⟩ := at_L1 HR0.out x5_2 p126 q126
                                            obtain rfl : ad119 = ad126 := (by injection e126)
                                            have HR126_0 := Aside0.mk hi126_0
                                            have HC126_0 := Aside0.mk hl126_0
                                            clear hi126_0 hl126_0
                                            replace p126 := eq_true p126
                                            replace q126 := eq_true q126
                                            have ea_ := Option.some.inj (hx121_0.symm.trans hx126_0)
                                            injection ea_ with ea_ en_ ec_
                                            subst ea_
                                            subst ec_
                                            clear en_
                                            have p127 : 0 ≤ (x8_3 : Int) := of_decide_eq_true (by first | (with_reducible assumption) | assumption)
                                            have q127 : x8_3 < ((rd_L1 l0 x5_2).length : Int) := of_decide_eq_true (by first | (with_reducible assumption) | assumption)
                                            obtain ⟨ad127, e127, hx127_0⟩ := Kd.at_int HR126_0.out x8_3 p127 q127
                                            cases e127
                                            replace p127 := eq_true p127
                                            replace q127 := eq_true q127
                                            go_wp2
                                            repeat (go_quiet (fail); try go_wp2)
                                            go_roundg k3
                                            case measure => have := HK1.out; have := HK2.out; have := HK3.out; omega
                                            case rel => exact ⟨(decide ((rd (rd_L1 l0 x5_2) x8_3) > 256)), (true), (wrap64 (x7_3 + (rd (rd_L1 l0 x5_2) x8_3))), (wrap64 (x8_3 + 1)), (by first | rfl | (simp; done) | (simp [*]; done)), (by first | rfl | (simp; done) | (simp [*]; done)), (by first | rfl | (simp; done) | (simp [*]; done)), (by first | rfl | (simp; done) | (simp [*]; done)), H', ⟨by have := HK1.out; have := HK2.out; have := HK3.out; omega⟩, by repeat (first | exact Drawn0.refl _ | apply Drawn0.step)⟩
                                      · replace c16 := Bool.eq_false_iff.mpr c16
                                        subst c16
                                        have H1 : (if x4_3 = true then (demonref3_ChannelError.l2 k3 l0 true x5_2 (decide ((rd (rd_L1 l0 x5_2) x8_3) > 0)) x7_3 (wrap64 (x8_3 + 1))) else (if ((rd (rd_L1 l0 x5_2) x8_3) > 256) then (demonref3_ChannelError.l2 k3 l0 (decide ((rd (rd_L1 l0 x5_2) x8_3) > 256)) x5_2 (decide ((rd (rd_L1 l0 x5_2) x8_3) > 0)) x7_3 (wrap64 (x8_3 + 1))) else (demonref3_ChannelError.l2 k3 l0 (decide ((rd (rd_L1 l0 x5_2) x8_3) > 256)) x5_2 (decide ((rd (rd_L1 l0 x5_2) x8_3) > 0)) (wrap64 (x7_3 + (rd (rd_L1 l0 x5_2) x8_3))) (wrap64 (x8_3 + 1))))) = some r := by rw [if_neg (show ¬ (false = true) by decide)] at H; exact H
                                        clear H
                                        have H := H1
                                        clear H1
                                        by_cases c19 : x4_3 = true
                                        · subst c19
                                          have H1 : (demonref3_ChannelError.l2 k3 l0 true x5_2 (decide ((rd (rd_L1 l0 x5_2) x8_3) > 0)) x7_3 (wrap64 (x8_3 + 1))) = some r := by rw [if_pos rfl] at H; exact H
                                          clear H
                                          have H := H1
                                          clear H1
                                          have H' := Aside0.mk H
                                          clear H
                                          have p121 : 0 ≤ (x5_2 : Int) := of_decide_eq_true (by first | (with_reducible assumption) | assumption)
                                          have q121 : x5_2 < (l0.length : Int) := of_decide_eq_true (by first | (with_reducible assumption) | assumption)
                                          obtain ⟨ad121, A121_0, c121_0, e121, hx121_0, hl121_0, hi121_0⟩ := at_L1 HR0.out x5_2 p121 q121
                                          obtain rfl : ad119 = ad121 := (by injection e121)
                                          have HR121_0 := Aside0.mk hi121_0
                                          have HC121_0 := Aside0.mk hl121_0
                                          clear hi121_0 hl121_0
                                          replace p121 := eq_true p121
                                          replace q121 := eq_true q121
                                          have p122 : 0 ≤ (x5_2 : Int) := of_decide_eq_true (by first | (with_reducible assumption) | assumption)
                                          have q122 : x5_2 < (l0.length : Int) := of_decide_eq_true (by first | (with_reducible assumption) | assumption)
                                          obtain ⟨ad122, A122_0, c122_0, e122, hx122_0, hl122_0, hi122_0⟩ := at_L1 HR0.out x5_2 p122 q122
                                          obtain rfl : ad119 = ad122 := (by injection e122)
                                          have HR122_0 := Aside0.mk hi122_0
                                          have HC122_0 := Aside0.mk hl122_0
                                          clear hi122_0 hl122_0
                                          replace p122 := eq_true p122
                                          replace q122 := eq_true q122
                                          have ea_ := Option.some.inj (hx121_0.symm.trans hx122_0)
                                          injection ea_ with ea_ en_ ec_
                                          subst ea_
                                          subst ec_
                                          clear en_
                                          have p123 : 0 ≤ (x8_3 : Int) := of_decide_eq_true (by first | (with_reducible assumption) | assumption)
                                          have q123 : x8_3 < ((rd_L1 l0 x5_2).length : Int) := of_decide_eq_true (by first | (with_reducible assumption) | assumption)
                                          obtain ⟨ad123, e123, hx123_0⟩ := Kd.at_int HR122_0.out x8_3 p123 q123
                                          cases e123
                                          replace p123 := eq_true p123
                                          replace q123 := eq_true q123
                                          have p128 : 0 ≤ (x5_2 : Int) := of_decide_eq_true (by first | (with_reducible assumption) | assumption)
                                          have q128 : x5_2 < (l0.length : Int) := of_decide_eq_true (by first | (with_reducible assumption) | assumption)
                                          obtain ⟨ad128, A128_0, c128_0, e128, hx128_0, hl128_0, hi128_0⟩ := at_L1 HR0.out x5_2 p128 q128
                                          obtain rfl : ad119 = ad128 := (by injection e128)
                                          have HR128_0 := Aside0.mk hi128_0
                                          have HC128_0 := Aside0.mk hl128_0
                                          clear hi128_0 hl128_0
                                          replace p128 := eq_true p128
                                          replace q128 := eq_true q128
                                          have ea_ := Option.some.inj (hx121_0.symm.trans hx128_0)
                                          injection ea_ with ea_ en_ ec_
                                          subst ea_
                                          subst ec_
                                          clear en_
                                          have p129 : 0 ≤ (x8_3 : Int) := of_decide_eq_true (by first | (with_reducible assumption) | assumption)
                                          have q129 : x8_3 < ((rd_L1 l0 x5_2).length : Int) := of_decide_eq_true (by first | (with_reducible assumption) | assumption)
                                          obtain ⟨ad129, e129, hx129_0⟩ := Kd.at_int HR128_0.out x8_3 p129 q129
                                          cases e129
                                          replace p129 := eq_true p129
                                          replace q129 := eq_true q129
                                          go_wp2
                                          repeat (go_quiet (fail); try go_wp2)
                                          go_roundg k3
                                          case measure => have := HK1.out; have := HK2.out; have := HK3.out; omega
                                          case rel => exact ⟨(true), (decide ((rd (rd_L1 l0 x5_2) x8_3) > 0)), (x7_3), (wrap64 (x8_3 + 1)), (by first | rfl | (simp; done) | (simp [*]; done)), (by first | rfl | (simp; done) | (simp [*]; done)), (by first | rfl | (simp; done) | (simp [*]; done)), (by first | rfl | (simp; done) | (simp [*]; done)), H', ⟨by have := HK1.out; have := HK2.out; have := HK3.out; omega⟩, by repeat (first | exact Drawn0.refl _ | apply Drawn0.step)⟩
                                        · replace c19 := Bool.eq_false_iff.mpr c19
                                          subst c19
                                          have H1 : (if ((rd (rd_L1 l0 x5_2) x8_3) > 256) then (demonref3_ChannelError.l2 k3 l0 (decide ((rd (rd_L1 l0 x5_2) x8_3) > 256)) x5_2 (decide ((rd (rd_L1 l0 x5_2) x8_3) > 0)) x7_3 (wrap64 (x8_3 + 1))) else (demonref3_ChannelError.l2 k3 l0 (decide ((rd (rd_L1 l0 x5_2) x8_3) > 256)) x5_2 (decide ((rd (rd_L1 l0 x5_2) x8_3) > 0)) (wrap64 (x7_3 + (rd (rd_L1 l0 x5_2) x8_3))) (wrap64 (x8_3 + 1)))) = some r := by rw [if_neg (show ¬ (false = true) by decide)] at H; exact H
                                          clear H
                                          have H := H1
                                          clear H1
                                          by_cases c20 : ((rd (rd_L1 l0 x5_2) x8_3) > 256)
                                          · rw [if_pos c20] at H
                                            have c20b0 : decide (256 < (rd (rd_L1 l0 x5_2) x8_3)) = true := decide_eq_true c20
                                            clear c20
                                            have H' := Aside0.mk H
                                            clear H
                                            have p121 : 0 ≤ (x5_2 : Int) := of_decide_eq_true (by first | (with_reducible assumption) | assumption)
                                            have q121 : x5_2 < (l0.length : Int) := of_decide_eq_true (by first | (with_reducible assumption) | assumption)
                                            obtain ⟨ad121, A121_0, c121_0, e121, hx121_0, hl121_0, hi121_0⟩ := at_L1 HR0.out x5_2 p121 q121
                                            obtain rfl : ad119 = ad121 := (by injection e121)
                                            have HR121_0 := Aside0.mk hi121_0
                                            have HC121_0 := Aside0.mk hl121_0
                                            clear hi121_0 hl121_0
                                            replace p121 := eq_true p121
                                            replace q121 := eq_true q121
                                            have p122 : 0 ≤ (x5_2 : Int) := of_decide_eq_true (by first | (with_reducible assumption) | assumption)
                                            have q122 : x5_2 < (l0.length : Int) := of_decide_eq_true (by first | (with_reducible assumption) | assumption)
                                            obtain ⟨ad122, A122_0, c122_0, e122, hx122_0, hl122_0, hi122_0⟩ := at_L1 HR0.out x5_2 p122 q122
                                            obtain rfl : ad119 = ad122 := (by injection e122)
                                            have HR122_0 := Aside0.mk hi122_0
                                            have HC122_0 := Aside0.mk hl122_0
                                            clear hi122_0 hl122_0
                                            replace p122 := eq_true p122
                                            replace q122 := eq_true q122
                                            have ea_ := Option.some.inj (hx121_0.symm.trans hx122_0)
                                            injection ea_ with ea_ en_ ec_
                                            subst ea_
                                            subst ec_
                                            clear en_
                                            have p123 : 0 ≤ (x8_3 : Int) := of_decide_eq_true (by first | (with_reducible assumption) | assumption)
                                            have q123 : x8_3 < ((rd_L1 l0 x5_2).length : Int) := of_decide_eq_true (by first | (with_reducible assumption) | assumption)
                                            obtain ⟨ad123, e123, hx123_0⟩ := Kd.at_int HR122_0.out x8_3 p123 q123
                                            cases e123
                                            replace p123 := eq_true p123
                                            replace q123 := eq_true q123
                                            have p128 : 0 ≤ (x5_2 : Int) := of_decide_eq_true (by first | (with_reducible assumption) | assumption)
                                            have q128 : x5_2 < (l0.length : Int) := of_decide_eq_true (by first | (with_reducible assumption) | assumption)
                                            obtain ⟨ad128, A128_0, c128_0, e128, hx128_0, hl128_0, hi128_0⟩ := at_L1 HR0.out x5_2 p128 q128
                                            obtain rfl : ad119 = ad128 := (by injection e128)
                                            have HR128_0 := Aside0.mk hi128_0
                                            have HC128_0 := Aside0.mk hl128_0
                                            clear hi128_0 hl128_0
                                            replace p128 := eq_true p128
                                            replace q128 := eq_true q128
                                            have ea_ := Option.some.inj (hx121_0.symm.trans hx128_0)
                                            injection ea_ with ea_ en_ ec_
                                            subst ea_
                                            subst ec_
                                            clear en_
                                            have p129 : 0 ≤ (x8_3 : Int) := of_decide_eq_true (by first | (with_reducible assumption) | assumption)
                                            have q129 : x8_3 < ((rd_L1 l0 x5_2).length : Int) := of_decide_eq_true (by first | (with_reducible assumption) | assumption)
                                            obtain ⟨ad129, e129, hx129_0⟩ := Kd.at_int HR128_0.out x8_3 p129 q129
                                            cases e129
                                            replace p129 := eq_true p129
                                            replace q129 := eq_true q129
                                            have p130 : 0 ≤ (x5_2 : Int) := of_decide_eq_true (by first | (with_reducible assumption) | assumption)
                                            have q130 : x5_2 < (l0.length : Int) := of_decide_eq_true (by first | (with_reducible assumption) | assumption)
                                            obtain ⟨ad130, A130_0, c130_0, e130, hx130_0, hl130_0, hi130_0⟩ := at_L1 HR0.out x5_2 p130 q130
                                            obtain rfl : ad119 = ad130 := (by injection e130)
                                            have HR130_0 := Aside0.mk hi130_0
                                            have HC130_0 := Aside0.mk hl130_0
                                            clear hi130_0 hl130_0
                                            replace p130 := eq_true p130
                                            replace q130 := eq_true q130
                                            have ea_ := Option.some.inj (hx121_0.symm.trans hx130_0)
                                            injection ea_ with ea_ en_ ec_
                                            subst ea_
                                            subst ec_
                                            clear en_
                                            have p131 : 0 ≤ (x8_3 : Int) := of_decide_eq_true (by first | (with_reducible assumption) | assumption)
                                            have q131 : x8_3 < ((rd_L1 l0 x5_2).length : Int) := of_decide_eq_true (by first | (with_reducible assumption) | assumption)
                                            obtain ⟨ad131, e131, hx131_0⟩ := Kd.at_int HR130_0.out x8_3 p131 q131
                                            cases e131
                                            replace p131 := eq_true p131
                                            replace q131 := eq_true q131
                                            go_wp2
                                            repeat (go_quiet (fail); try go_wp2)
                                            go_roundg k3
                                            case measure => have := HK1.out; have := HK2.out; have := HK3.out; omega
                                            case rel => exact ⟨(decide ((rd (rd_L1 l0 x5_2) x8_3) > 256)), (decide ((rd (rd_L1 l0 x5_2) x8_3) > 0)), (x7_3), (wrap64 (x8_3 + 1)), (by first | rfl | (simp; done) | (simp [*]; done)), (by first | rfl | (simp; done) | (simp [*]; done)), (by first | rfl | (simp; done) | (simp [*]; done)), (by first | rfl | (simp; done) | (simp [*]; done)), H', ⟨by have := HK1.out; have := HK2.out; have := HK3.out; omega⟩, by repeat (first | exact Drawn0.refl _ | apply Drawn0.step)⟩
                                          · rw [if_neg c20] at H
                                            have c20b0 : decide (256 < (rd (rd_L1 l0 x5_2) x8_3)) = false := decide_eq_false c20
                                            clear c20
                                            have H' := Aside0.mk H
                                            clear H
                                            have p121 : 0 ≤ (x5_2 : Int) := of_decide_eq_true (by first | (with_reducible assumption) | assumption)
                                            have q121 : x5_2 < (l0.length : Int) := of_decide_eq_true (by first | (with_reducible assumption) | assumption)
                                            obtain ⟨ad121, A121_0, c121_0, e121, hx121_0, hl121_0, hi121_0⟩ := at_L1 HR0.out x5_2 p121 q121
                                            obtain rfl : ad119 = ad121 := (by injection e121)
                                            have HR121_0 := Aside0.mk hi121_0
                                            have HC121_0 := Aside0.mk hl121_0
                                            clear hi121_0 hl121_0
                                            replace p121 := eq_true p121
                                            replace q121 := eq_true q121
                                            have p122 : 0 ≤ (x5_2 : Int) := of_decide_eq_true (by first | (with_reducible assumption) | assumption)
                                            have q122 : x5_2 < (l0.length : Int) := of_decide_eq_true (by first | (with_reducible assumption) | assumption)
                                            obtain ⟨ad122, A122_0, c122_0, e122, hx122_0, hl122_0, hi122_0⟩ := at_L1 HR0.out x5_2 p122 q122
                                            obtain rfl : ad119 = ad122 := (by injection e122)
                                            have HR122_0 := Aside0.mk hi122_0
                                            have HC122_0 := Aside0.mk hl122_0
                                            clear hi122_0 hl122_0
                                            replace p122 := eq_true p122
                                            replace q122 := eq_true q122
                                            have ea_ := Option.some.inj (hx121_0.symm.trans hx122_0)
                                            injection ea_ with ea_ en_ ec_
                                            subst ea_
                                            subst ec_
                                            clear en_
                                            have p123 : 0 ≤ (x8_3 : Int) := of_decide_eq_true (by first | (with_reducible assumption) | assumption)
                                            have q123 : x8_3 < ((rd_L1 l0 x5_2).length : Int) := of_decide_eq_true (by first | (with_reducible assumption) | assumption)
                                            obtain ⟨ad123, e123, hx123_0⟩ := Kd.at_int HR122_0.out x8_3 p123 q123
                                            cases e123
                                            replace p123 := eq_true p123
                                            replace q123 := eq_true q123
                                            have p128 : 0 ≤ (x5_2 : Int) := of_decide_eq_true (by first | (with_reducible assumption) | assumption)
                                            have q128 : x5_2 < (l0.length : Int) := of_decide_eq_true (by first | (with_reducible assumption) | assumption)
                                            obtain ⟨ad128, A128_0, c128_0, e128, hx128_0, hl128_0, hi128_0⟩ := at_L1 HR0.out x5_2 p128 q128
                                            obtain rfl : ad119 = ad128 := (by injection e128)
                                            have HR128_0 := Aside0.mk hi128_0
                                            have HC128_0 := Aside0.mk hl128_0
                                            clear hi128_0 hl128_0
                                            replace p128 := eq_true p128
                                            replace q128 := eq_true q128
                                            have ea_ := Option.some.inj (hx121_0.symm.trans hx128_0)
                                            injection ea_ with ea_ en_ ec_
                                            subst ea_
                                            subst ec_
                                            clear en_
                                            have p129 : 0 ≤ (x8_3 : Int) := of_decide_eq_true (by first | (with_reducible assumption) | assumption)
                                            have q129 : x8_3 < ((rd_L1 l0 x5_2).length : Int) := of_decide_eq_true (by first | (with_reducible assumption) | assumption)
                                            obtain ⟨ad129, e129, hx129_0⟩ := Kd.at_int HR128_0.out x8_3 p129 q129
                                            cases e129
                                            replace p129 := eq_true p129
                                            replace q129 := eq_true q129
                                            have p130 : 0 ≤ (x5_2 : Int) := of_decide_eq_true (by first | (with_reducible assumption) | assumption)
                                            have q130 : x5_2 < (l0.length : Int) := of_decide_eq_true (by first | (with_reducible assumption) | assumption)
                                            obtain ⟨ad130, A130_0, c130_0, e130, hx130_0, hl130_0, hi130_0⟩ := at_L1 HR0.out x5_2 p130 q130
                                            obtain rfl : ad119 = ad130 := (by injection e130)
                                            have HR130_0 := Aside0.mk hi130_0
                                            have HC130_0 := Aside0.mk hl130_0
                                            clear hi130_0 hl130_0
                                            replace p130 := eq_true p130
                                            replace q130 := eq_true q130
                                            have ea_ := Option.some.inj (hx121_0.symm.trans hx130_0)
                                            injection ea_ with ea_ en_ ec_
                                            subst ea_
                                            subst ec_
                                            clear en_
                                            have p131 : 0 ≤ (x8_3 : Int) := of_decide_eq_true (by first | (with_reducible assumption) | assumption)
                                            have q131 : x8_3 < ((rd_L1 l0 x5_2).length : Int) := of_decide_eq_true (by first | (with_reducible assumption) | assumption)
                                            obtain ⟨ad131, e131, hx131_0⟩ := Kd.at_int HR130_0.out x8_3 p131 q131
                                            cases e131
                                            replace p131 := eq_true p131
                                            replace q131 := eq_true q131
                                            have p132 : 0 ≤ (x5_2 : Int) := of_decide_eq_true (by first | (with_reducible assumption) | assumption)
                                            have q132 : x5_2 < (l0.length : Int) := of_decide_eq_true (by first | (with_reducible assumption) | assumption)
                                            obtain ⟨ad132, A132_0, c132_0, e132, hx132_0, hl132_0, hi132_0⟩ := at_L1 HR0.out x5_2 p132 q132
                                            obtain rfl : ad119 = ad132 := (by injection e132)
                                            have HR132_0 := Aside0.mk hi132_0
                                            have HC132_0 := Aside0.mk hl132_0
                                            clear hi132_0 hl132_0
                                            replace p132 := eq_true p132
                                            replace q132 := eq_true q132
                                            have ea_ := Option.some.inj (hx121_0.symm.trans hx132_0)
                                            injection ea_ with ea_ en_ ec_
                                            subst ea_
                                            subst ec_
                                            clear en_
                                            have p133 : 0 ≤ (x8_3 : Int) := of_decide_eq_true (by first | (with_reducible assumption) | assumption)
                                            have q133 : x8_3 < ((rd_L1 l0 x5_2).length : Int) := of_decide_eq_true (by first | (with_reducible assumption) | assumption)
                                            obtain ⟨ad133, e133, hx133_0⟩ := Kd.at_int HR132_0.out x8_3 p133 q133
                                            cases e133
                                            replace p133 := eq_true p133
                                            replace q133 := eq_true q133
                                            go_wp2
                                            repeat (go_quiet (fail); try go_wp2)
                                            go_roundg k3
                                            case measure => have := HK1.out; have := HK2.out; have := HK3.out; omega
                                            case rel => exact ⟨(decide ((rd (rd_L1 l0 x5_2) x8_3) > 256)), (decide ((rd (rd_L1 l0 x5_2) x8_3) > 0)), (wrap64 (x7_3 + (rd (rd_L1 l0 x5_2) x8_3))), (wrap64 (x8_3 + 1)), (by first | rfl | (simp; done) | (simp [*]; done)), (by first | rfl | (simp; done) | (simp [*]; done)), (by first | rfl | (simp; done) | (simp [*]; done)), (by first | rfl | (simp; done) | (simp [*]; done)), H', ⟨by have := HK1.out; have := HK2.out; have := HK3.out; omega⟩, by repeat (first | exact Drawn0.refl _ | apply Drawn0.step)⟩
                                  · rw [if_neg c14] at H
                                    exact absurd H (by simp)
                                · rw [if_neg c13] at H
                                  have c13b0 : decide (x8_3 < ((rd_L1 l0 x5_2).length : Int)) = false := decide_eq_false c13
                                  clear c13
                                  by_cases c21 : x6_3 = true
                                  · subst c21
                                    have H1 : (if x4_3 = true then (demonref3_ChannelError.l1 k3 l0 true (wrap64 (x5_2 + 1))) else (demonref3_ChannelError.l1 k3 l0 (decide (x7_3 > 256)) (wrap64 (x5_2 + 1)))) = some r := by rw [if_pos rfl] at H; exact H
                                    clear H
                                    have H := H1
                                    clear H1
                                    by_cases c22 : x4_3 = true
                                    · subst c22
                                      have H1 : (demonref3_ChannelError.l1 k3 l0 true (wrap64 (x5_2 + 1))) = some r := by rw [if_pos rfl] at H; exact H
                                      clear H
                                      have H := H1
                                      clear H1
                                      have H' := Aside0.mk H
                                      clear H
                                      have p121 : 0 ≤ (x5_2 : Int) := of_decide_eq_true (by first | (with_reducible assumption) | assumption)
                                      have q121 : x5_2 < (l0.length : Int) := of_decide_eq_true (by first | (with_reducible assumption) | assumption)
                                      obtain ⟨ad121, A121_0, c121_0, e121, hx121_0, hl121_0, hi121_0⟩ := at_L1 HR0.out x5_2 p121 q121
                                      obtain rfl : ad119 = ad121 := (by injection e121)
                                      have HR121_0 := Aside0.mk hi121_0
                                      have HC121_0 := Aside0.mk hl121_0
                                      clear hi121_0 hl121_0
                                      replace p121 := eq_true p121
                                      replace q121 := eq_true q121
                                      go_wp2
                                      repeat (go_quiet (fail); try go_wp2)
                                      go_roundg k3
                                      case measure => have := HK1.out; have := HK2.out; have := HK3.out; omega
                                      case rel => exact ⟨(true), (wrap64 (x5_2 + 1)), (by first | rfl | (simp; done) | (simp [*]; done)), (by first | rfl | (simp; done) | (simp [*]; done)), H', ⟨by have := HK1.out; have := HK2.out; have := HK3.out; omega⟩, by repeat (first | exact Drawn0.refl _ | apply Drawn0.step)⟩
                                    · replace c22 := Bool.eq_false_iff.mpr c22
                                      subst c22
                                      have H1 : (demonref3_ChannelError.l1 k3 l0 (decide (x7_3 > 256)) (wrap64 (x5_2 + 1))) = some r := by rw [if_neg (show ¬ (false = true) by decide)] at H; exact H
                                      clear H
                                      have H := H1
                                      clear H1
                                      have H' := Aside0.mk H
                                      clear H
                                      have p121 : 0 ≤ (x5_2 : Int) := of_decide_eq_true (by first | (with_reducible assumption) | assumption)
                                      have q121 : x5_2 < (l0.length : Int) := of_decide_eq_true (by first | (with_reducible assumption) | assumption)
                                      obtain ⟨ad121, A121_0, c121_0, e121, hx121_0, hl121_0, hi121_0⟩ := at_L1 HR0.out x5_2 p121 q121
                                      obtain rfl : ad119 = ad121 := (by injection e121)
                                      have HR121_0 := Aside0.mk hi121_0
                                      have HC121_0 := Aside0.mk hl121_0
                                      clear hi121_0 hl121_0
                                      replace p121 := eq_true p121
                                      replace q121 := eq_true q121
                                      go_wp2
                                      repeat (go_quiet (fail); try go_wp2)
                                      go_roundg k3
                                      case measure => have := HK1.out; have := HK2.out; have := HK3.out; omega
                                      case rel => exact ⟨(decide (x7_3 > 256)), (wrap64 (x5_2 + 1)), (by first | rfl | (simp; done) | (simp [*]; done)), (by first | rfl | (simp; done) | (simp [*]; done)), H', ⟨by have := HK1.out; have := HK2.out; have := HK3.out; omega⟩, by repeat (first | exact Drawn0.refl _ | apply Drawn0.step)⟩
                                  · replace c21 := Bool.eq_false_iff.mpr c21
                                    subst c21
                                    have H1 : (some 3) = some r := by rw [if_neg (show ¬ (false = true) by decide)] at H; exact H
                                    clear H
                                    have H := H1
                                    clear H1
                                    obtain rfl := Option.some.inj H
                                    have p121 : 0 ≤ (x5_2 : Int) := of_decide_eq_true (by first | (with_reducible assumption) | assumption)
                                    have q121 : x5_2 < (l0.length : Int) := of_decide_eq_true (by first | (with_reducible assumption) | assumption)
                                    obtain ⟨ad121, A121_0, c121_0, e121, hx121_0, hl121_0, hi121_0⟩ := at_L1 HR0.out x5_2 p121 q121
                                    obtain rfl : ad119 = ad121 := (by injection e121)
                                    have HR121_0 := Aside0.mk hi121_0
                                    have HC121_0 := Aside0.mk hl121_0
                                    clear hi121_0 hl121_0
                                    replace p121 := eq_true p121
                                    replace q121 := eq_true q121
                                    go_wp2
                                    repeat (go_quiet (fail); try go_wp2)
                                    go_ret
                                    exact ⟨by first | rfl | (simp; done) | (simp [*]; done), by repeat (first | exact Drawn0.refl _ | apply Drawn0.step)⟩
                              · rw [if_neg c12] at H
                                exact absurd H (by simp)
                            · rw [if_neg c11] at H
                              exact absurd H (by simp)
                      · rw [if_neg c10] at H
                        have c10b0 : (((rd_L1 l0 x5_2).length : Int) == ((rd_L1 l0 0).length : Int)) = false := beq_eq_false_iff_ne.mpr c10
                        have c10b1 : (((rd_L1 l0 x5_2).length : Int) != ((rd_L1 l0 0).length : Int)) = true := bne_iff_ne.mpr c10
                        have c10b2 : ((rd_L1 l0 x5_2).length == (rd_L1 l0 0).length) = false := by first | simpa using c10 | (simp at c10 ⊢; omega)
                        obtain rfl := Option.some.inj H
                        have p119 : 0 ≤ (x5_2 : Int) := of_decide_eq_true (by first | (with_reducible assumption) | assumption)
                        have q119 : x5_2 < (l0.length : Int) := of_decide_eq_true (by first | (with_reducible assumption) | assumption)
                        obtain ⟨ad119, A119_0, c119_0, e119, hx119_0, hl119_0, hi119_0⟩ := at_L1 HR0.out x5_2 p119 q119
                        cases e119
                        have HR119_0 := Aside0.mk hi119_0
                        have HC119_0 := Aside0.mk hl119_0
                        clear hi119_0 hl119_0
                        replace p119 := eq_true p119
                        replace q119 := eq_true q119
                        have p120 : 0 ≤ (0 : Int) := (by omega)
                        have q120 : 0 < (l0.length : Int) := of_decide_eq_true (by first | (with_reducible assumption) | assumption)
                        obtain ⟨ad120, A120_0, c120_0, e120, hx120_0, hl120_0, hi120_0⟩ := at_L1 HR0.out 0 p120 q120
                        obtain rfl : ad119 = ad120 := (by injection e120)
                        have qi120 : (0 < l0.length) = True := eq_true (by omega)
                        (try rw [show ((0 : Int)).toNat = 0 from rfl] at hx120_0)
                        (try rw [Addr.add_zero'] at hx120_0)
                        have HR120_0 := Aside0.mk hi120_0
                        have HC120_0 := Aside0.mk hl120_0
                        clear hi120_0 hl120_0
                        replace p120 := eq_true p120
                        replace q120 := eq_true q120
                        go_wp2
                        repeat (go_quiet (fail); try go_wp2)
                        go_ret
                        exact ⟨by first | rfl | (simp; done) | (simp [*]; done), by repeat (first | exact Drawn0.refl _ | apply Drawn0.step)⟩
                    · rw [if_neg c9] at H
                      exact absurd H (by simp)
                  · rw [if_neg c8] at H
                    exact absurd H (by simp)
                · rw [if_neg c7] at H
                  have c7b0 : decide (x5_2 < (l0.length : Int)) = false := decide_eq_false c7
                  clear c7
                  by_cases c23 : x4_2 = true
                  · subst c23
                    have H1 : (some 2) = some r := by rw [if_pos rfl] at H; exact H
                    clear H
                    have H := H1
                    clear H1
                    obtain rfl := Option.some.inj H
                    go_wp2
                    repeat (go_quiet (fail); try go_wp2)
                    go_ret
                    exact ⟨by first | rfl | (simp; done) | (simp [*]; done), by repeat (first | exact Drawn0.refl _ | apply Drawn0.step)⟩
                  · replace c23 := Bool.eq_false_iff.mpr c23
                    subst c23
                    have H1 : (some 0) = some r := by rw [if_neg (show ¬ (false = true) by decide)] at H; exact H
                    clear H
                    have H := H1
                    clear H1
                    obtain rfl := Option.some.inj H
                    go_wp2
                    repeat (go_quiet (fail); try go_wp2)
                    go_ret
                    exact ⟨by first | rfl | (simp; done) | (simp [*]; done), by repeat (first | exact Drawn0.refl _ | apply Drawn0.step)⟩

end Go.Proofs.YtehheklbibocjaaDoor.PZeroValid
