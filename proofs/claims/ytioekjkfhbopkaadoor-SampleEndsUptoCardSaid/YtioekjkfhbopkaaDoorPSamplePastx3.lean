-- PRINTED BY print.sh 35421559b90ae4d0a3588c463048766b98c2df88dd9212a6774a882060cdf62d: not written by this session
import Derived.Test.YtioekjkfhbopkaaDoorPSamplePastx0
namespace Go.Proofs.YtioekjkfhbopkaaDoor.PSamplePast
open Go.RowKit Go.Proofs.YtioekjkfhbopkaaDoorW.PrintWords Go.Proofs.YtioekjkfhbopkaaDoorW.PrintLast Go.Proofs.YtioekjkfhbopkaaDoorW.PrintMore
attribute [local go_sem] max2_int min2_int max_two min_two max_three min_three max_four min_four   -- for this text's walks alone
set_option linter.unusedVariables false
set_option linter.unusedSimpArgs false

/-! ### demonref4_RulesError: function 25 -/
mutual
def demonref4_RulesError.l0 : Nat → List (List Int) → Int → Option (Int)
  | 0, _, _ => none
  | k + 1, x0, x3 => if x3 < (x0.length : Int) then (if 0 ≤ x3 then (if ((rd_L1 x0 x3).length : Int) > 16 then (some 2) else (demonref4_RulesError.l0 k x0 (wrap64 (x3 + 1)))) else (none)) else (if (x0.length : Int) = 0 then (some 3) else (demonref4_RulesError.l1 k x0 false 0))
def demonref4_RulesError.l1 : Nat → List (List Int) → Bool → Int → Option (Int)
  | 0, _, _, _ => none
  | k + 1, x0, x4, x5 => if x5 < (x0.length : Int) then (if 0 ≤ x5 then (if ((rd_L1 x0 x5).length : Int) = 0 then (demonref4_RulesError.j2 k x0 x4 x5 true) else (if 0 < (x0.length : Int) then (demonref4_RulesError.j2 k x0 x4 x5 (((rd_L1 x0 x5).length : Int) != ((rd_L1 x0 0).length : Int))) else (none))) else (none)) else (if x4 = true then (some 7) else (some 0))
def demonref4_RulesError.j2 : Nat → List (List Int) → Bool → Int → Bool → Option (Int)
  | 0, _, _, _, _ => none
  | k + 1, x0, x4, x5, x48 => if x48 = true then (some 3) else (demonref4_RulesError.l2 k x0 x4 x5 0)
def demonref4_RulesError.l2 : Nat → List (List Int) → Bool → Int → Int → Option (Int)
  | 0, _, _, _, _ => none
  | k + 1, x0, x4, x5, x6 => if 0 ≤ x5 then (if x5 < (x0.length : Int) then (if x6 < ((rd_L1 x0 x5).length : Int) then (if 0 ≤ x6 then (if (rd (rd_L1 x0 x5) x6) < 0 then (some 3) else (if (rd (rd_L1 x0 x5) x6) ≥ ((rd_L1 x0 x5).length : Int) then (some 3) else (if x4 = true then (demonref4_RulesError.l2 k x0 true x5 (wrap64 (x6 + 1))) else (if x6 > 0 then (if 0 ≤ (wrap64 (x6 - 1)) then (if (wrap64 (x6 - 1)) < ((rd_L1 x0 x5).length : Int) then (demonref4_RulesError.l2 k x0 (decide ((rd (rd_L1 x0 x5) (wrap64 (x6 - 1))) > (rd (rd_L1 x0 x5) x6))) x5 (wrap64 (x6 + 1))) else (none)) else (none)) else (demonref4_RulesError.l2 k x0 false x5 (wrap64 (x6 + 1))))))) else (none)) else (demonref4_RulesError.l1 k x0 x4 (wrap64 (x5 + 1)))) else (none)) else (none)
end
def demonref4_RulesError.f (k : Nat) (l0 : List (List Int)) : Option (Int) := if (l0.length : Int) > 16 then (some 2) else (demonref4_RulesError.l0 k l0 0)
theorem demonref4_RulesError.mono_l : ∀ k, (∀ y0 y1, LeO (demonref4_RulesError.l0 k y0 y1) (demonref4_RulesError.l0 (k + 1) y0 y1)) ∧ (∀ y0 y1 y2, LeO (demonref4_RulesError.l1 k y0 y1 y2) (demonref4_RulesError.l1 (k + 1) y0 y1 y2)) ∧ (∀ y0 y1 y2 y3, LeO (demonref4_RulesError.j2 k y0 y1 y2 y3) (demonref4_RulesError.j2 (k + 1) y0 y1 y2 y3)) ∧ (∀ y0 y1 y2 y3, LeO (demonref4_RulesError.l2 k y0 y1 y2 y3) (demonref4_RulesError.l2 (k + 1) y0 y1 y2 y3))
  | 0 => ⟨fun _ _ r h => by simp [demonref4_RulesError.l0] at h, fun _ _ _ r h => by simp [demonref4_RulesError.l1] at h, fun _ _ _ _ r h => by simp [demonref4_RulesError.j2] at h, fun _ _ _ _ r h => by simp [demonref4_RulesError.l2] at h⟩
  | k + 1 => by
    obtain ⟨ih0, ih1, ih2, ih3⟩ := demonref4_RulesError.mono_l k
    refine ⟨?_, ?_, ?_, ?_⟩
    · intro y0 y1
      unfold demonref4_RulesError.l0
      repeat' first
      | (with_reducible exact ih0 _ _)
      | (with_reducible exact ih1 _ _ _)
      | (with_reducible exact ih2 _ _ _ _)
      | (with_reducible exact ih3 _ _ _ _)
      | (with_reducible exact LeO.refl _)
      | (with_reducible exact LeO.none _)
      | (with_reducible refine LeO.ite ?_ ?_)
      | (with_reducible refine LeO.bind ?_ (fun _ => ?_))
      | exact ih0 _ _
      | exact ih1 _ _ _
      | exact ih2 _ _ _ _
      | exact ih3 _ _ _ _
      | exact LeO.none _
      | refine LeO.ite ?_ ?_
      | refine LeO.bind ?_ (fun _ => ?_)
    · intro y0 y1 y2
      unfold demonref4_RulesError.l1
      repeat' first
      | (with_reducible exact ih0 _ _)
      | (with_reducible exact ih1 _ _ _)
      | (with_reducible exact ih2 _ _ _ _)
      | (with_reducible exact ih3 _ _ _ _)
      | (with_reducible exact LeO.refl _)
      | (with_reducible exact LeO.none _)
      | (with_reducible refine LeO.ite ?_ ?_)
      | (with_reducible refine LeO.bind ?_ (fun _ => ?_))
      | exact ih0 _ _
      | exact ih1 _ _ _
      | exact ih2 _ _ _ _
      | exact ih3 _ _ _ _
      | exact LeO.none _
      | refine LeO.ite ?_ ?_
      | refine LeO.bind ?_ (fun _ => ?_)
    · intro y0 y1 y2 y3
      unfold demonref4_RulesError.j2
      repeat' first
      | (with_reducible exact ih0 _ _)
      | (with_reducible exact ih1 _ _ _)
      | (with_reducible exact ih2 _ _ _ _)
      | (with_reducible exact ih3 _ _ _ _)
      | (with_reducible exact LeO.refl _)
      | (with_reducible exact LeO.none _)
      | (with_reducible refine LeO.ite ?_ ?_)
      | (with_reducible refine LeO.bind ?_ (fun _ => ?_))
      | exact ih0 _ _
      | exact ih1 _ _ _
      | exact ih2 _ _ _ _
      | exact ih3 _ _ _ _
      | exact LeO.none _
      | refine LeO.ite ?_ ?_
      | refine LeO.bind ?_ (fun _ => ?_)
    · intro y0 y1 y2 y3
      unfold demonref4_RulesError.l2
      repeat' first
      | (with_reducible exact ih0 _ _)
      | (with_reducible exact ih1 _ _ _)
      | (with_reducible exact ih2 _ _ _ _)
      | (with_reducible exact ih3 _ _ _ _)
      | (with_reducible exact LeO.refl _)
      | (with_reducible exact LeO.none _)
      | (with_reducible refine LeO.ite ?_ ?_)
      | (with_reducible refine LeO.bind ?_ (fun _ => ?_))
      | exact ih0 _ _
      | exact ih1 _ _ _
      | exact ih2 _ _ _ _
      | exact ih3 _ _ _ _
      | exact LeO.none _
      | refine LeO.ite ?_ ?_
      | refine LeO.bind ?_ (fun _ => ?_)
theorem demonref4_RulesError.mono : ∀ a0 k, LeO (demonref4_RulesError.f k a0) (demonref4_RulesError.f (k + 1) a0) := by
  intro a0 k
  obtain ⟨ih0, ih1, ih2, ih3⟩ := demonref4_RulesError.mono_l k
  unfold demonref4_RulesError.f
  repeat' first
      | (with_reducible exact ih0 _ _)
      | (with_reducible exact ih1 _ _ _)
      | (with_reducible exact ih2 _ _ _ _)
      | (with_reducible exact ih3 _ _ _ _)
      | (with_reducible exact LeO.refl _)
      | (with_reducible exact LeO.none _)
      | (with_reducible refine LeO.ite ?_ ?_)
      | (with_reducible refine LeO.bind ?_ (fun _ => ?_))
      | exact ih0 _ _
      | exact ih1 _ _ _
      | exact ih2 _ _ _ _
      | exact ih3 _ _ _ _
      | exact LeO.none _
      | refine LeO.ite ?_ ?_
      | refine LeO.bind ?_ (fun _ => ?_)
set_option maxHeartbeats 8000000 in
set_option maxRecDepth 100000 in
theorem demonref4_RulesError.calls (k : Nat) (A0 : Option Addr) (c0 : Nat) (l0 : List (List Int)) (r : Int) (w : World) (hr0 : Kd.C (Kd.slice 3 (Kd.int .i64)) w A0 l0.length l0) (hc0 : l0.length ≤ c0) (h : demonref4_RulesError.f k l0 = some r) :
    Calls Tryd.prog 25 #[.slice A0 l0.length c0] w fun e w' => e = .returned (.int .i64 r) ∧ Drawn0 w w' := by
  have HR0 := Aside0.mk hr0
  have HC0 := Aside0.mk hc0
  clear hr0 hc0
  have H : (if (l0.length : Int) > 16 then (some 2) else (demonref4_RulesError.l0 k l0 0)) = some r := h
  clear h
  by_cases c2 : (l0.length : Int) > 16
  · rw [if_pos c2] at H
    have c2b0 : decide (16 < (l0.length : Int)) = true := decide_eq_true c2
    have c2b1 : decide (16 < l0.length) = true := decide_eq_true (by omega)
    clear c2
    obtain rfl := Option.some.inj H
    go_enter Tryd.func25, Tryd.ntmps25
    go_wp2
    repeat (go_quiet (fail); try go_wp2)
    go_ret
    exact ⟨by first | rfl | (simp; done) | (simp [*]; done), by repeat (first | exact Drawn0.refl _ | apply Drawn0.step)⟩
  · rw [if_neg c2] at H
    have c2b0 : decide (16 < (l0.length : Int)) = false := decide_eq_false c2
    have c2b1 : decide (16 < l0.length) = false := decide_eq_false (by omega)
    clear c2
    have H' := Aside0.mk H
    clear H
    go_enter Tryd.func25, Tryd.ntmps25
    go_wp2
    repeat (go_quiet (fail); try go_wp2)
    go_loopg [3] k (fun kq v3 w' => ∃ (x3_1 : Int), v3 = .int .i64 x3_1 ∧ Aside0 (demonref4_RulesError.l0 kq l0 x3_1 = some r) ∧ Aside0 (kq ≤ k) ∧ Drawn0 w w')
    case atStart => exact ⟨(0), (by first | rfl | (simp; done) | (simp [*]; done)), H', ⟨Nat.le_refl _⟩, by repeat (first | exact Drawn0.refl _ | apply Drawn0.step)⟩
    case round =>
      clear H'
      try clear c2
      try clear c2b0
      try clear c2b1
      try clear p2
      obtain ⟨x3_1, rfl, HA, HK1, ⟨m1, rfl⟩⟩ := hrel
      cases gk with
      | zero => exact absurd HA.out (by simp [demonref4_RulesError.l0])
      | succ k1 =>
        have H := HA.out
        clear HA
        simp only [demonref4_RulesError.l0] at H
        by_cases c3 : x3_1 < (l0.length : Int)
        · rw [if_pos c3] at H
          have c3b0 : decide (x3_1 < (l0.length : Int)) = true := decide_eq_true c3
          clear c3
          by_cases c4 : 0 ≤ x3_1
          · rw [if_pos c4] at H
            have c4b0 : decide (0 ≤ x3_1) = true := decide_eq_true c4
            clear c4
            by_cases c5 : ((rd_L1 l0 x3_1).length : Int) > 16
            · rw [if_pos c5] at H
              have c5b0 : decide (16 < ((rd_L1 l0 x3_1).length : Int)) = true := decide_eq_true c5
              have c5b1 : decide (16 < (rd_L1 l0 x3_1).length) = true := decide_eq_true (by omega)
              clear c5
              obtain rfl := Option.some.inj H
              have p134 : 0 ≤ (x3_1 : Int) := of_decide_eq_true (by first | (with_reducible assumption) | assumption)
              have q134 : x3_1 < (l0.length : Int) := of_decide_eq_true (by first | (with_reducible assumption) | assumption)
              obtain ⟨ad134, A134_0, c134_0, e134, hx134_0, hl134_0, hi134_0⟩ := at_L1 HR0.out x3_1 p134 q134
              cases e134
              have HR134_0 := Aside0.mk hi134_0
              have HC134_0 := Aside0.mk hl134_0
              clear hi134_0 hl134_0
              replace p134 := eq_true p134
              replace q134 := eq_true q134
              go_wp2
              repeat (go_quiet (fail); try go_wp2)
              go_ret
              exact ⟨by first | rfl | (simp; done) | (simp [*]; done), by repeat (first | exact Drawn0.refl _ | apply Drawn0.step)⟩
            · rw [if_neg c5] at H
              have c5b0 : decide (16 < ((rd_L1 l0 x3_1).length : Int)) = false := decide_eq_false c5
              have c5b1 : decide (16 < (rd_L1 l0 x3_1).length) = false := decide_eq_false (by omega)
              clear c5
              have H' := Aside0.mk H
              clear H
              have p134 : 0 ≤ (x3_1 : Int) := of_decide_eq_true (by first | (with_reducible assumption) | assumption)
              have q134 : x3_1 < (l0.length : Int) := of_decide_eq_true (by first | (with_reducible assumption) | assumption)
              obtain ⟨ad134, A134_0, c134_0, e134, hx134_0, hl134_0, hi134_0⟩ := at_L1 HR0.out x3_1 p134 q134
              cases e134
              have HR134_0 := Aside0.mk hi134_0
              have HC134_0 := Aside0.mk hl134_0
              clear hi134_0 hl134_0
              replace p134 := eq_true p134
              replace q134 := eq_true q134
              go_wp2
              repeat (go_quiet (fail); try go_wp2)
              go_roundg k1
              case measure => have := HK1.out; omega
              case rel => exact ⟨(wrap64 (x3_1 + 1)), (by first | rfl | (simp; done) | (simp [*]; done)), H', ⟨by have := HK1.out; omega⟩, by repeat (first | exact Drawn0.refl _ | apply Drawn0.step)⟩
          · rw [if_neg c4] at H
            exact absurd H (by simp)
        · rw [if_neg c3] at H
          have c3b0 : decide (x3_1 < (l0.length : Int)) = false := decide_eq_false c3
          clear c3
          by_cases c6 : (l0.length : Int) = 0
          · rw [if_pos c6] at H
            have c6b0 : ((l0.length : Int) == 0) = true := beq_iff_eq.mpr c6
            have c6b1 : ((l0.length : Int) != 0) = false := bne_eq_false_iff_eq.mpr c6
            clear c6
            obtain rfl := Option.some.inj H
            go_wp2
            repeat (go_quiet (fail); try go_wp2)
            go_ret
            exact ⟨by first | rfl | (simp; done) | (simp [*]; done), by repeat (first | exact Drawn0.refl _ | apply Drawn0.step)⟩
          · rw [if_neg c6] at H
            have c6b0 : ((l0.length : Int) == 0) = false := beq_eq_false_iff_ne.mpr c6
            have c6b1 : ((l0.length : Int) != 0) = true := bne_iff_ne.mpr c6
            have c6b2 : ¬ (l0 = []) := fun h_ => c6 (by rw [h_]; rfl)
            have H' := Aside0.mk H
            clear H
            go_wp2
            repeat (go_quiet (fail); try go_wp2)
            go_loopg [4, 5] k1 (fun kq v4 v5 w' => ∃ (x4_2 : Bool) (x5_2 : Int), v4 = .bool x4_2 ∧ v5 = .int .i64 x5_2 ∧ Aside0 (demonref4_RulesError.l1 kq l0 x4_2 x5_2 = some r) ∧ Aside0 (kq ≤ k1) ∧ Drawn0 w w')
            case atStart => exact ⟨(false), (0), (by first | rfl | (simp; done) | (simp [*]; done)), (by first | rfl | (simp; done) | (simp [*]; done)), H', ⟨Nat.le_refl _⟩, by repeat (first | exact Drawn0.refl _ | apply Drawn0.step)⟩
            case round =>
              clear H'
              try clear c1
              try clear p1
              try clear q1
              try clear hx1
              try clear c2
              try clear c2b0
              try clear c2b1
              try clear p2
              try clear c3
              try clear c3b0
              try clear c4
              try clear c4b0
              try clear c5
              try clear c5b0
              try clear c5b1
              try clear c6
              try clear c6b0
              try clear c6b1
              try clear c6b2
              try clear p6
              try clear hx134_0
              try clear p134
              try clear p2
              try clear q134
              obtain ⟨x4_2, x5_2, rfl, rfl, HA, HK2, ⟨m2, rfl⟩⟩ := hrel
              cases gk with
              | zero => exact absurd HA.out (by simp [demonref4_RulesError.l1])
              | succ k2 =>
                have H := HA.out
                clear HA
                simp only [demonref4_RulesError.l1] at H
                by_cases c7 : x5_2 < (l0.length : Int)
                · rw [if_pos c7] at H
                  have c7b0 : decide (x5_2 < (l0.length : Int)) = true := decide_eq_true c7
                  clear c7
                  have HC8 := Aside0.mk H
                  clear H
                  go_upto_region 14 with (fail)
                  repeat (go_quiet (fail); go_upto_region 14 with (fail))
                  go_cut [48] (fun v48 wc => ∃ (kq : Nat) (x48_7 : Bool), v48 = .bool x48_7 ∧ Aside0 (demonref4_RulesError.j2 kq l0 x4_2 x5_2 x48_7 = some r) ∧ Aside0 (kq ≤ k2) ∧ Drawn0 w wc)
                  case first =>
                    have H := HC8.out
                    clear HC8
                    by_cases c9 : 0 ≤ x5_2
                    · rw [if_pos c9] at H
                      have c9b0 : decide (0 ≤ x5_2) = true := decide_eq_true c9
                      clear c9
                      (first | rw [c9b0] | (simp only [i64_w, i32_w]; rw [c9b0]) | skip)
                      by_cases c10 : ((rd_L1 l0 x5_2).length : Int) = 0
                      · rw [if_pos c10] at H
                        have c10b0 : (((rd_L1 l0 x5_2).length : Int) == 0) = true := beq_iff_eq.mpr c10
                        have c10b1 : (((rd_L1 l0 x5_2).length : Int) != 0) = false := bne_eq_false_iff_eq.mpr c10
                        clear c10
                        have H' := Aside0.mk H
                        clear H
                        have p135 : 0 ≤ (x5_2 : Int) := of_decide_eq_true (by first | (with_reducible assumption) | assumption)
                        have q135 : x5_2 < (l0.length : Int) := of_decide_eq_true (by first | (with_reducible assumption) | assumption)
                        obtain ⟨ad135, A135_0, c135_0, e135, hx135_0, hl135_0, hi135_0⟩ := at_L1 HR0.out x5_2 p135 q135
                        cases e135
                        have HR135_0 := Aside0.mk hi135_0
                        have HC135_0 := Aside0.mk hl135_0
                        clear hi135_0 hl135_0
                        replace p135 := eq_true p135
                        replace q135 := eq_true q135
                        go_wp2
                        repeat (go_quiet (fail); try go_wp2)
                        go_meet
                        case rel => exact ⟨_, (true), (by first | rfl | (simp; done) | (simp [*]; done)), H', ⟨by have := HK1.out; have := HK2.out; first | omega | exact Nat.le_refl _⟩, by repeat (first | exact Drawn0.refl _ | apply Drawn0.step)⟩
                      · rw [if_neg c10] at H
                        have c10b0 : (((rd_L1 l0 x5_2).length : Int) == 0) = false := beq_eq_false_iff_ne.mpr c10
                        have c10b1 : (((rd_L1 l0 x5_2).length : Int) != 0) = true := bne_iff_ne.mpr c10
                        have c10b2 : ¬ ((rd_L1 l0 x5_2) = []) := fun h_ => c10 (by rw [h_]; rfl)
                        by_cases c11 : 0 < (l0.length : Int)
                        · rw [if_pos c11] at H
                          have c11b0 : decide (0 < (l0.length : Int)) = true := decide_eq_true c11
                          have c11b1 : decide (0 < l0.length) = true := decide_eq_true (by omega)
                          clear c11
                          have H' := Aside0.mk H
                          clear H
                          have p135 : 0 ≤ (x5_2 : Int) := of_decide_eq_true (by first | (with_reducible assumption) | assumption)
                          have q135 : x5_2 < (l0.length : Int) := of_decide_eq_true (by first | (with_reducible assumption) | assumption)
                          obtain ⟨ad135, A135_0, c135_0, e135, hx135_0, hl135_0, hi135_0⟩ := at_L1 HR0.out x5_2 p135 q135
                          cases e135
                          have HR135_0 := Aside0.mk hi135_0
                          have HC135_0 := Aside0.mk hl135_0
                          clear hi135_0 hl135_0
                          replace p135 := eq_true p135
                          replace q135 := eq_true q135
                          have p136 : 0 ≤ (x5_2 : Int) := of_decide_eq_true (by first | (with_reducible assumption) | assumption)
                          have q136 : x5_2 < (l0.length : Int) := of_decide_eq_true (by first | (with_reducible assumption) | assumption)
                          obtain ⟨ad136, A136_0, c136_0, e136, hx136_0, hl136_0, hi136_0⟩ := at_L1 HR0.out x5_2 p136 q136
                          obtain rfl : ad135 = ad136 := (by injection e136)
                          have HR136_0 := Aside0.mk hi136_0
                          have HC136_0 := Aside0.mk hl136_0
                          clear hi136_0 hl136_0
                          replace p136 := eq_true p136
                          replace q136 := eq_true q136
                          have ea_ := Option.some.inj (hx135_0.symm.trans hx136_0)
                          injection ea_ with ea_ en_ ec_
                          subst ea_
                          subst ec_
                          clear en_
                          have p137 : 0 ≤ (0 : Int) := (by omega)
                          have q137 : 0 < (l0.length : Int) := of_decide_eq_true (by first | (with_reducible assumption) | assumption)
                          obtain ⟨ad137, A137_0, c137_0, e137, hx137_0, hl137_0, hi137_0⟩ := at_L1 HR0.out 0 p137 q137
                          obtain rfl : ad135 = ad137 := (by injection e137)
                          have qi137 : (0 < l0.length) = True := eq_true (by omega)
                          (try rw [show ((0 : Int)).toNat = 0 from rfl] at hx137_0)
                          (try rw [Addr.add_zero'] at hx137_0)
                          have HR137_0 := Aside0.mk hi137_0
                          have HC137_0 := Aside0.mk hl137_0
                          clear hi137_0 hl137_0
                          replace p137 := eq_true p137
                          replace q137 := eq_true q137
                          go_wp2
                          repeat (go_quiet (fail); try go_wp2)
                          go_meet
                          case rel => exact ⟨_, ((((rd_L1 l0 x5_2).length : Int) != ((rd_L1 l0 0).length : Int))), (by first | rfl | (simp; done) | (simp [*]; done)), H', ⟨by have := HK1.out; have := HK2.out; first | omega | exact Nat.le_refl _⟩, by repeat (first | exact Drawn0.refl _ | apply Drawn0.step)⟩
                        · rw [if_neg c11] at H
                          exact absurd H (by simp)
                    · rw [if_neg c9] at H
                      exact absurd H (by simp)
                  case rest =>
                    clear HC8
                    try clear c1
                    try clear p1
                    try clear q1
                    try clear hx1
                    try clear qi1
                    try clear c2
                    try clear c2b0
                    try clear c2b1
                    try clear p2
                    try clear c3
                    try clear c3b0
                    try clear c4
                    try clear c4b0
                    try clear c5
                    try clear c5b0
                    try clear c5b1
                    try clear c6
                    try clear c6b0
                    try clear c6b1
                    try clear c6b2
                    try clear p6
                    try clear c7
                    try clear c7b0
                    try clear c9
                    try clear c9b0
                    try clear c10
                    try clear c10b0
                    try clear c10b1
                    try clear c10b2
                    try clear c11
                    try clear c11b0
                    try clear c11b1
                    try clear hx134_0
                    try clear hx135_0
                    try clear hx136_0
                    try clear hx137_0
                    try clear p1
                    try clear p134
                    try clear p135
                    try clear p136
                    try clear p137
                    try clear p2
                    try clear p6
                    try clear q1
                    try clear q134
                    try clear q135
                    try clear q136
                    try clear q137
                    obtain ⟨kq, x48_7, rfl, HA, HJ7, ⟨mc7, rfl⟩⟩ := hcut
                    cases kq with
                    | zero => exact absurd HA.out (by simp [demonref4_RulesError.j2])
                    | succ kj7 =>
                      have H := HA.out
                      clear HA
                      simp only [demonref4_RulesError.j2] at H
                      by_cases c12 : x48_7 = true
                      · subst c12
                        have H1 : (some 3) = some r := by rw [if_pos rfl] at H; exact H
                        clear H
                        have H := H1
                        clear H1
                        obtain rfl := Option.some.inj H
                        go_wp2
                        repeat (go_quiet (fail); try go_wp2)
                        go_ret
                        exact ⟨by first | rfl | (simp; done) | (simp [*]; done), by repeat (first | exact Drawn0.refl _ | apply Drawn0.step)⟩
                      · replace c12 := Bool.eq_false_iff.mpr c12
                        subst c12
                        have H1 : (demonref4_RulesError.l2 kj7 l0 x4_2 x5_2 0) = some r := by rw [if_neg (show ¬ (false = true) by decide)] at H; exact H
                        clear H
                        have H := H1
                        clear H1
                        have H' := Aside0.mk H
                        clear H
                        go_wp2
                        repeat (go_quiet (fail); try go_wp2)
                        go_loopg [4, 6] kj7 (fun kq v4 v6 w' => ∃ (x4_4 : Bool) (x6_4 : Int), v4 = .bool x4_4 ∧ v6 = .int .i64 x6_4 ∧ Aside0 (demonref4_RulesError.l2 kq l0 x4_4 x5_2 x6_4 = some r) ∧ Aside0 (kq ≤ kj7) ∧ Drawn0 w w')
                        case atStart => exact ⟨(x4_2), (0), (by first | rfl | (simp; done) | (simp [*]; done)), (by first | rfl | (simp; done) | (simp [*]; done)), H', ⟨Nat.le_refl _⟩, by repeat (first | exact Drawn0.refl _ | apply Drawn0.step)⟩
                        case round =>
                          clear H'
                          try clear c1
                          try clear p1
                          try clear q1
                          try clear hx1
                          try clear qi1
                          try clear c2
                          try clear c2b0
                          try clear c2b1
                          try clear p2
                          try clear c3
                          try clear c3b0
                          try clear c4
                          try clear c4b0
                          try clear c5
                          try clear c5b0
                          try clear c5b1
                          try clear c6
                          try clear c6b0
                          try clear c6b1
                          try clear c6b2
                          try clear p6
                          try clear c7
                          try clear c7b0
                          try clear c9
                          try clear c9b0
                          try clear c10
                          try clear c10b0
                          try clear c10b1
                          try clear c10b2
                          try clear c11
                          try clear c11b0
                          try clear c11b1
                          try clear c12
                          try clear hx134_0
                          try clear hx135_0
                          try clear hx136_0
                          try clear hx137_0
                          try clear p1
                          try clear p134
                          try clear p135
                          try clear p136
                          try clear p137
                          try clear p2
                          try clear p6
                          try clear q1
                          try clear q134
                          try clear q135
                          try clear q136
                          try clear q137
                          obtain ⟨x4_4, x6_4, rfl, rfl, HA, HK4, ⟨m4, rfl⟩⟩ := hrel
                          cases gk with
                          | zero => exact absurd HA.out (by simp [demonref4_RulesError.l2])
                          | succ k4 =>
                            have H := HA.out
                            clear HA
                            simp only [demonref4_RulesError.l2] at H
                            by_cases c13 : 0 ≤ x5_2
                            · rw [if_pos c13] at H
                              have c13b0 : decide (0 ≤ x5_2) = true := decide_eq_true c13
                              clear c13
                              by_cases c14 : x5_2 < (l0.length : Int)
                              · rw [if_pos c14] at H
                                have c14b0 : decide (x5_2 < (l0.length : Int)) = true := decide_eq_true c14
                                clear c14
                                by_cases c15 : x6_4 < ((rd_L1 l0 x5_2).length : Int)
                                · rw [if_pos c15] at H
                                  have c15b0 : decide (x6_4 < ((rd_L1 l0 x5_2).length : Int)) = true := decide_eq_true c15
                                  clear c15
                                  by_cases c16 : 0 ≤ x6_4
                                  · rw [if_pos c16] at H
                                    have c16b0 : decide (0 ≤ x6_4) = true := decide_eq_true c16
                                    clear c16
                                    by_cases c17 : (rd (rd_L1 l0 x5_2) x6_4) < 0
                                    · rw [if_pos c17] at H
                                      have c17b0 : decide ((rd (rd_L1 l0 x5_2) x6_4) < 0) = true := decide_eq_true c17
                                      clear c17
                                      obtain rfl := Option.some.inj H
                                      have p138 : 0 ≤ (x5_2 : Int) := of_decide_eq_true (by first | (with_reducible assumption) | assumption)
                                      have q138 : x5_2 < (l0.length : Int) := of_decide_eq_true (by first | (with_reducible assumption) | assumption)
                                      obtain ⟨ad138, A138_0, c138_0, e138, hx138_0, hl138_0, hi138_0⟩ := at_L1 HR0.out x5_2 p138 q138
                                      cases e138
                                      have HR138_0 := Aside0.mk hi138_0
                                      have HC138_0 := Aside0.mk hl138_0
                                      clear hi138_0 hl138_0
                                      replace p138 := eq_true p138
                                      replace q138 := eq_true q138
                                      have p139 : 0 ≤ (x5_2 : Int) := of_decide_eq_true (by first | (with_reducible assumption) | assumption)
                                      have q139 : x5_2 < (l0.length : Int) := of_decide_eq_true (by first | (with_reducible assumption) | assumption)
                                      obtain ⟨ad139, A139_0, c139_0, e139, hx139_0, hl139_0, hi139_0⟩ := at_L1 HR0.out x5_2 p139 q139
                                      obtain rfl : ad138 = ad139 := (by injection e139)
                                      have HR139_0 := Aside0.mk hi139_0
                                      have HC139_0 := Aside0.mk hl139_0
                                      clear hi139_0 hl139_0
                                      replace p139 := eq_true p139
                                      replace q139 := eq_true q139
                                      have ea_ := Option.some.inj (hx138_0.symm.trans hx139_0)
                                      injection ea_ with ea_ en_ ec_
                                      subst ea_
                                      subst ec_
                                      clear en_
                                      have p140 : 0 ≤ (x6_4 : Int) := of_decide_eq_true (by first | (with_reducible assumption) | assumption)
                                      have q140 : x6_4 < ((rd_L1 l0 x5_2).length : Int) := of_decide_eq_true (by first | (with_reducible assumption) | assumption)
                                      obtain ⟨ad140, e140, hx140_0⟩ := Kd.at_int HR139_0.out x6_4 p140 q140
                                      cases e140
                                      replace p140 := eq_true p140
                                      replace q140 := eq_true q140
                                      go_wp2
                                      repeat (go_quiet (fail); try go_wp2)
                                      go_ret
                                      exact ⟨by first | rfl | (simp; done) | (simp [*]; done), by repeat (first | exact Drawn0.refl _ | apply Drawn0.step)⟩
                                    · rw [if_neg c17] at H
                                      have c17b0 : decide ((rd (rd_L1 l0 x5_2) x6_4) < 0) = false := decide_eq_false c17
                                      clear c17
                                      by_cases c18 : (rd (rd_L1 l0 x5_2) x6_4) ≥ ((rd_L1 l0 x5_2).length : Int)
                                      · rw [if_pos c18] at H
                                        have c18b0 : decide (((rd_L1 l0 x5_2).length : Int) ≤ (rd (rd_L1 l0 x5_2) x6_4)) = true := decide_eq_true c18
                                        clear c18
                                        obtain rfl := Option.some.inj H
                                        have p138 : 0 ≤ (x5_2 : Int) := of_decide_eq_true (by first | (with_reducible assumption) | assumption)
                                        have q138 : x5_2 < (l0.length : Int) := of_decide_eq_true (by first | (with_reducible assumption) | assumption)
                                        obtain ⟨ad138, A138_0, c138_0, e138, hx138_0, hl138_0, hi138_0⟩ := at_L1 HR0.out x5_2 p138 q138
                                        cases e138
                                        have HR138_0 := Aside0.mk hi138_0
                                        have HC138_0 := Aside0.mk hl138_0
                                        clear hi138_0 hl138_0
                                        replace p138 := eq_true p138
                                        replace q138 := eq_true q138
                                        have p139 : 0 ≤ (x5_2 : Int) := of_decide_eq_true (by first | (with_reducible assumption) | assumption)
                                        have q139 : x5_2 < (l0.length : Int) := of_decide_eq_true (by first | (with_reducible assumption) | assumption)
                                        obtain ⟨ad139, A139_0, c139_0, e139, hx139_0, hl139_0, hi139_0⟩ := at_L1 HR0.out x5_2 p139 q139
                                        obtain rfl : ad138 = ad139 := (by injection e139)
                                        have HR139_0 := Aside0.mk hi139_0
                                        have HC139_0 := Aside0.mk hl139_0
                                        clear hi139_0 hl139_0
                                        replace p139 := eq_true p139
                                        replace q139 := eq_true q139
                                        have ea_ := Option.some.inj (hx138_0.symm.trans hx139_0)
                                        injection ea_ with ea_ en_ ec_
                                        subst ea_
                                        subst ec_
                                        clear en_
                                        have p140 : 0 ≤ (x6_4 : Int) := of_decide_eq_true (by first | (with_reducible assumption) | assumption)
                                        have q140 : x6_4 < ((rd_L1 l0 x5_2).length : Int) := of_decide_eq_true (by first | (with_reducible assumption) | assumption)
                                        obtain ⟨ad140, e140, hx140_0⟩ := Kd.at_int HR139_0.out x6_4 p140 q140
                                        cases e140
                                        replace p140 := eq_true p140
                                        replace q140 := eq_true q140
                                        have p141 : 0 ≤ (x5_2 : Int) := of_decide_eq_true (by first | (with_reducible assumption) | assumption)
                                        have q141 : x5_2 < (l0.length : Int) := of_decide_eq_true (by first | (with_reducible assumption) | assumption)
                                        obtain ⟨ad141, A141_0, c141_0, e141, hx141_0, hl141_0, hi141_0⟩ := at_L1 HR0.out x5_2 p141 q141
                                        obtain rfl : ad138 = ad141 := (by injection e141)
                                        have HR141_0 := Aside0.mk hi141_0
                                        have HC141_0 := Aside0.mk hl141_0
                                        clear hi141_0 hl141_0
                                        replace p141 := eq_true p141
                                        replace q141 := eq_true q141
                                        have ea_ := Option.some.inj (hx138_0.symm.trans hx141_0)
                                        injection ea_ with ea_ en_ ec_
                                        subst ea_
                                        subst ec_
                                        clear en_
                                        have p142 : 0 ≤ (x6_4 : Int) := of_decide_eq_true (by first | (with_reducible assumption) | assumption)
                                        have q142 : x6_4 < ((rd_L1 l0 x5_2).length : Int) := of_decide_eq_true (by first | (with_reducible assumption) | assumption)
                                        obtain ⟨ad142, e142, hx142_0⟩ := Kd.at_int HR141_0.out x6_4 p142 q142
                                        cases e142
                                        replace p142 := eq_true p142
                                        replace q142 := eq_true q142
                                        have p143 : 0 ≤ (x5_2 : Int) := of_decide_eq_true (by first | (with_reducible assumption) | assumption)
                                        have q143 : x5_2 < (l0.length : Int) := of_decide_eq_true (by first | (with_reducible assumption) | assumption)
                                        obtain ⟨ad143, A143_0, c143_0, e143, hx143_0, hl143_0, hi143_0⟩ := at_L1 HR0.out x5_2 p143 q143
                                        obtain rfl : ad138 = ad143 := (by injection e143)
                                        have HR143_0 := Aside0.mk hi143_0
                                        have HC143_0 := Aside0.mk hl143_0
                                        clear hi143_0 hl143_0
                                        replace p143 := eq_true p143
                                        replace q143 := eq_true q143
                                        have ea_ := Option.some.inj (hx138_0.symm.trans hx143_0)
                                        injection ea_ with ea_ en_ ec_
                                        subst ea_
                                        subst ec_
                                        clear en_
                                        go_wp2
                                        repeat (go_quiet (fail); try go_wp2)
                                        go_ret
                                        exact ⟨by first | rfl | (simp; done) | (simp [*]; done), by repeat (first | exact Drawn0.refl _ | apply Drawn0.step)⟩
                                      · rw [if_neg c18] at H
                                        have c18b0 : decide (((rd_L1 l0 x5_2).length : Int) ≤ (rd (rd_L1 l0 x5_2) x6_4)) = false := decide_eq_false c18
                                        clear c18
                                        by_cases c19 : x4_4 = true
                                        · subst c19
                                          have H1 : (demonref4_RulesError.l2 k4 l0 true x5_2 (wrap64 (x6_4 + 1))) = some r := by rw [if_pos rfl] at H; exact H
                                          clear H
                                          have H := H1
                                          clear H1
                                          have H' := Aside0.mk H
                                          clear H
                                          have p138 : 0 ≤ (x5_2 : Int) := of_decide_eq_true (by first | (with_reducible assumption) | assumption)
                                          have q138 : x5_2 < (l0.length : Int) := of_decide_eq_true (by first | (with_reducible assumption) | assumption)
                                          obtain ⟨ad138, A138_0, c138_0, e138, hx138_0, hl138_0, hi138_0⟩ := at_L1 HR0.out x5_2 p138 q138
                                          cases e138
                                          have HR138_0 := Aside0.mk hi138_0
                                          have HC138_0 := Aside0.mk hl138_0
                                          clear hi138_0 hl138_0
                                          replace p138 := eq_true p138
                                          replace q138 := eq_true q138
                                          have p139 : 0 ≤ (x5_2 : Int) := of_decide_eq_true (by first | (with_reducible assumption) | assumption)
                                          have q139 : x5_2 < (l0.length : Int) := of_decide_eq_true (by first | (with_reducible assumption) | assumption)
                                          obtain ⟨ad139, A139_0, c139_0, e139, hx139_0, hl139_0, hi139_0⟩ := at_L1 HR0.out x5_2 p139 q139
                                          obtain rfl : ad138 = ad139 := (by injection e139)
                                          have HR139_0 := Aside0.mk hi139_0
                                          have HC139_0 := Aside0.mk hl139_0
                                          clear hi139_0 hl139_0
                                          replace p139 := eq_true p139
                                          replace q139 := eq_true q139
                                          have ea_ := Option.some.inj (hx138_0.symm.trans hx139_0)
                                          injection ea_ with ea_ en_ ec_
                                          subst ea_
                                          subst ec_
                                          clear en_
                                          have p140 : 0 ≤ (x6_4 : Int) := of_decide_eq_true (by first | (with_reducible assumption) | assumption)
                                          have q140 : x6_4 < ((rd_L1 l0 x5_2).length : Int) := of_decide_eq_true (by first | (with_reducible assumption) | assumption)
                                          obtain ⟨ad140, e140, hx140_0⟩ := Kd.at_int HR139_0.out x6_4 p140 q140
                                          cases e140
                                          replace p140 := eq_true p140
                                          replace q140 := eq_true q140
                                          have p141 : 0 ≤ (x5_2 : Int) := of_decide_eq_true (by first | (with_reducible assumption) | assumption)
                                          have q141 : x5_2 < (l0.length : Int) := of_decide_eq_true (by first | (with_reducible assumption) | assumption)
                                          obtain ⟨ad141, A141_0, c141_0, e141, hx141_0, hl141_0, hi141_0⟩ := at_L1 HR0.out x5_2 p141 q141
                                          obtain rfl : ad138 = ad141 := (by injection e141)
                                          have HR141_0 := Aside0.mk hi141_0
                                          have HC141_0 := Aside0.mk hl141_0
                                          clear hi141_0 hl141_0
                                          replace p141 := eq_true p141
                                          replace q141 := eq_true q141
                                          have ea_ := Option.some.inj (hx138_0.symm.trans hx141_0)
                                          injection ea_ with ea_ en_ ec_
                                          subst ea_
                                          subst ec_
                                          clear en_
                                          have p142 : 0 ≤ (x6_4 : Int) := of_decide_eq_true (by first | (with_reducible assumption) | assumption)
                                          have q142 : x6_4 < ((rd_L1 l0 x5_2).length : Int) := of_decide_eq_true (by first | (with_reducible assumption) | assumption)
                                          obtain ⟨ad142, e142, hx142_0⟩ := Kd.at_int HR141_0.out x6_4 p142 q142
                                          cases e142
                                          replace p142 := eq_true p142
                                          replace q142 := eq_true q142
                                          have p143 : 0 ≤ (x5_2 : Int) := of_decide_eq_true (by first | (with_reducible assumption) | assumption)
                                          have q143 : x5_2 < (l0.length : Int) := of_decide_eq_true (by first | (with_reducible assumption) | assumption)
                                          obtain ⟨ad143, A143_0, c143_0, e143, hx143_0, hl143_0, hi143_0⟩ := at_L1 HR0.out x5_2 p143 q143
                                          obtain rfl : ad138 = ad143 := (by injection e143)
                                          have HR143_0 := Aside0.mk hi143_0
                                          have HC143_0 := Aside0.mk hl143_0
                                          clear hi143_0 hl143_0
                                          replace p143 := eq_true p143
                                          replace q143 := eq_true q143
                                          have ea_ := Option.some.inj (hx138_0.symm.trans hx143_0)
                                          injection ea_ with ea_ en_ ec_
                                          subst ea_
                                          subst ec_
                                          clear en_
                                          go_wp2
                                          repeat (go_quiet (fail); try go_wp2)
                                          go_roundg k4
                                          case measure => have := HK1.out; have := HK2.out; have := HJ7.out; have := HK4.out; omega
                                          case rel => exact ⟨(true), (wrap64 (x6_4 + 1)), (by first | rfl | (simp; done) | (simp [*]; done)), (by first | rfl | (simp; done) | (simp [*]; done)), H', ⟨by have := HK1.out; have := HK2.out; have := HJ7.out; have := HK4.out; omega⟩, by repeat (first | exact Drawn0.refl _ | apply Drawn0.step)⟩
                                        · replace c19 := Bool.eq_false_iff.mpr c19
                                          subst c19
                                          have H1 : (if x6_4 > 0 then (if 0 ≤ (wrap64 (x6_4 - 1)) then (if (wrap64 (x6_4 - 1)) < ((rd_L1 l0 x5_2).length : Int) then (demonref4_RulesError.l2 k4 l0 (decide ((rd (rd_L1 l0 x5_2) (wrap64 (x6_4 - 1))) > (rd (rd_L1 l0 x5_2) x6_4))) x5_2 (wrap64 (x6_4 + 1))) else (none)) else (none)) else (demonref4_RulesError.l2 k4 l0 false x5_2 (wrap64 (x6_4 + 1)))) = some r := by rw [if_neg (show ¬ (false = true) by decide)] at H; exact H
                                          clear H
                                          have H := H1
                                          clear H1
                                          by_cases c20 : x6_4 > 0
                                          · rw [if_pos c20] at H
                                            have c20b0 : decide (0 < x6_4) = true := decide_eq_true c20
                                            clear c20
                                            obtain ⟨ji21, hji21⟩ : ∃ j_ : Int, (wrap64 (x6_4 - 1)) = j_ := ⟨_, rfl⟩
                                            replace H : (if 0 ≤ (ji21) then (if (ji21) < ((rd_L1 l0 x5_2).length : Int) then (demonref4_RulesError.l2 k4 l0 (decide ((rd (rd_L1 l0 x5_2) (ji21)) > (rd (rd_L1 l0 x5_2) x6_4))) x5_2 (wrap64 (x6_4 + 1))) else (none)) else (none)) = some r := by first | (rw [hji21] at H; exact H) | (simp only [hji21] at H ⊢; exact H)
                                            have hji21w : (IntKind.i64.wrap (x6_4 - 1)) = ji21 := (i64_w _).trans hji21
                                            by_cases c22 : 0 ≤ (ji21)
                                            · rw [if_pos c22] at H
                                              have c22b0 : decide (0 ≤ (ji21)) = true := decide_eq_true c22
                                              clear c22
                                              by_cases c23 : (ji21) < ((rd_L1 l0 x5_2).length : Int)
                                              · rw [if_pos c23] at H
                                                have c23b0 : decide ((ji21) < ((rd_L1 l0 x5_2).length : Int)) = true := decide_eq_true c23
                                                clear c23
                                                have H' := Aside0.mk H
                                                clear H
                                                have p138 : 0 ≤ (x5_2 : Int) := of_decide_eq_true (by first | (with_reducible assumption) | assumption)
                                                have q138 : x5_2 < (l0.length : Int) := of_decide_eq_true (by first | (with_reducible assumption) | assumption)
                                                obtain ⟨ad138, A138_0, c138_0, e138, hx138_0, hl138_0, hi138_0⟩ := at_L1 HR0.out x5_2 p138 q138
                                                cases e138
                                                have HR138_0 := Aside0.mk hi138_0
                                                have HC138_0 := Aside0.mk hl138_0
                                                clear hi138_0 hl138_0
                                                replace p138 := eq_true p138
                                                replace q138 := eq_true q138
                                                have p139 : 0 ≤ (x5_2 : Int) := of_decide_eq_true (by first | (with_reducible assumption) | assumption)
                                                have q139 : x5_2 < (l0.length : Int) := of_decide_eq_true (by first | (with_reducible assumption) | assumption)
                                                obtain ⟨ad139, A139_0, c139_0, e139, hx139_0, hl139_0, hi139_0⟩ := at_L1 HR0.out x5_2 p139 q139
                                                obtain rfl : ad138 = ad139 := (by injection e139)
                                                have HR139_0 := Aside0.mk hi139_0
                                                have HC139_0 := Aside0.mk hl139_0
                                                clear hi139_0 hl139_0
                                                replace p139 := eq_true p139
                                                replace q139 := eq_true q139
                                                have ea_ := Option.some.inj (hx138_0.symm.trans hx139_0)
                                                injection ea_ with ea_ en_ ec_
                                                subst ea_
                                                subst ec_
                                                clear en_
                                                have p140 : 0 ≤ (x6_4 : Int) := of_decide_eq_true (by first | (with_reducible assumption) | assumption)
                                                have q140 : x6_4 < ((rd_L1 l0 x5_2).length : Int) := of_decide_eq_true (by first | (with_reducible assumption) | assumption)
                                                obtain ⟨ad140, e140, hx140_0⟩ := Kd.at_int HR139_0.out x6_4 p140 q140
                                                cases e140
                                                replace p140 := eq_true p140
                                                replace q140 := eq_true q140
                                                have p141 : 0 ≤ (x5_2 : Int) := of_decide_eq_true (by first | (with_reducible assumption) | assumption)
                                                have q141 : x5_2 < (l0.length : Int) := of_decide_eq_true (by first | (with_reducible assumption) | assumption)
                                                obtain ⟨ad141, A141_0, c141_0, e141, hx141_0, hl141_0, hi141_0⟩ := at_L1 HR0.out x5_2 p141 q141
                                                obtain rfl : ad138 = ad141 := (by injection e141)
                                                have HR141_0 := Aside0.mk hi141_0
                                                have HC141_0 := Aside0.mk hl141_0
                                                clear hi141_0 hl141_0
                                                replace p141 := eq_true p141
                                                replace q141 := eq_true q141
                                                have ea_ := Option.some.inj (hx138_0.symm.trans hx141_0)
                                                injection ea_ with ea_ en_ ec_
                                                subst ea_
                                                subst ec_
                                                clear en_
                                                have p142 : 0 ≤ (x6_4 : Int) := of_decide_eq_true (by first | (with_reducible assumption) | assumption)
                                                have q142 : x6_4 < ((rd_L1 l0 x5_2).length : Int) := of_decide_eq_true (by first | (with_reducible assumption) | assumption)
                                                obtain ⟨ad142, e142, hx142_0⟩ := Kd.at_int HR141_0.out x6_4 p142 q142
                                                cases e142
                                                replace p142 := eq_true p142
                                                replace q142 := eq_true q142
                                                have p143 : 0 ≤ (x5_2 : Int) := of_decide_eq_true (by first | (with_reducible assumption) | assumption)
                                                have q143 : x5_2 < (l0.length : Int) := of_decide_eq_true (by first | (with_reducible assumption) | assumption)
                                                obtain ⟨ad143, A143_0, c143_0, e143, hx143_0, hl143_0, hi143_0⟩ := at_L1 HR0.out x5_2 p143 q143
                                                obtain rfl : ad138 = ad143 := (by injection e143)
                                                have HR143_0 := Aside0.mk hi143_0
                                                have HC143_0 := Aside0.mk hl143_0
                                                clear hi143_0 hl143_0
                                                replace p143 := eq_true p143
                                                replace q143 := eq_true q143
                                                have ea_ := Option.some.inj (hx138_0.symm.trans hx143_0)
                                                injection ea_ with ea_ en_ ec_
                                                subst ea_
                                                subst ec_
                                                clear en_
                                                have p144 : 0 ≤ (x5_2 : Int) := of_decide_eq_true (by first | (with_reducible assumption) | assumption)
                                                have q144 : x5_2 < (l0.length : Int) := of_decide_eq_true (by first | (with_reducible assumption) | assumption)
                                                obtain ⟨ad144, A144_0, c144_0, e144, hx144_0, hl144_0, hi144_0⟩ := at_L1 HR0.out x5_2 p144 q144
                                                obtain rfl : ad138 = ad144 := (by injection e144)
                                                have HR144_0 := Aside0.mk hi144_0
                                                have HC144_0 := Aside0.mk hl144_0
                                                clear hi144_0 hl144_0
                                                replace p144 := eq_true p144
                                                replace q144 := eq_true q144
                                                have ea_ := Option.some.inj (hx138_0.symm.trans hx144_0)
                                                injection ea_ with ea_ en_ ec_
                                                subst ea_
                                                subst ec_
                                                clear en_
                                                have p145 : 0 ≤ ((ji21) : Int) := of_decide_eq_true (by first | (with_reducible assumption) | assumption)
                                                have q145 : (ji21) < ((rd_L1 l0 x5_2).length : Int) := of_decide_eq_true (by first | (with_reducible assumption) | assumption)
                                                obtain ⟨ad145, e145, hx145_0⟩ := Kd.at_int HR144_0.out (ji21) p145 q145
                                                cases e145
                                                replace p145 := eq_true p145
                                                replace q145 := eq_true q145
                                                have p146 : 0 ≤ (x5_2 : Int) := of_decide_eq_true (by first | (with_reducible assumption) | assumption)
                                                have q146 : x5_2 < (l0.length : Int) := of_decide_eq_true (by first | (with_reducible assumption) | assumption)
                                                obtain ⟨ad146, A146_0, c146_0, e146, hx146_0, hl146_0, hi146_0⟩ := at_L1 HR0.out x5_2 p146 q146
                                                obtain rfl : ad138 = ad146 := (by injection e146)
                                                have HR146_0 := Aside0.mk hi146_0
                                                have HC146_0 := Aside0.mk hl146_0
                                                clear hi146_0 hl146_0
                                                replace p146 := eq_true p146
                                                replace q146 := eq_true q146
                                                have ea_ := Option.some.inj (hx138_0.symm.trans hx146_0)
                                                injection ea_ with ea_ en_ ec_
                                                subst ea_
                                                subst ec_
                                                clear en_
                                                have p147 : 0 ≤ (x6_4 : Int) := of_decide_eq_true (by first | (with_reducible assumption) | assumption)
                                                have q147 : x6_4 < ((rd_L1 l0 x5_2).length : Int) := of_decide_eq_true (by first | (with_reducible assumption) | assumption)
                                                obtain ⟨ad147, e147, hx147_0⟩ := Kd.at_int HR146_0.out x6_4 p147 q147
                                                cases e147
                                                replace p147 := eq_true p147
                                                replace q147 := eq_true q147
                                                go_wp2
                                                repeat (go_quiet (fail); try go_wp2)
                                                go_roundg k4
                                                case measure => have := HK1.out; have := HK2.out; have := HJ7.out; have := HK4.out; omega
                                                case rel => exact ⟨(decide ((rd (rd_L1 l0 x5_2) (ji21)) > (rd (rd_L1 l0 x5_2) x6_4))), (wrap64 (x6_4 + 1)), (by first | rfl | (simp; done) | (simp only [← hji21] <;> (first | rfl | simp)) | (simp [*]; done)), (by first | rfl | (simp; done) | (simp [*]; done)), H', ⟨by have := HK1.out; have := HK2.out; have := HJ7.out; have := HK4.out; omega⟩, by repeat (first | exact Drawn0.refl _ | apply Drawn0.step)⟩
                                              · rw [if_neg c23] at H
                                                exact absurd H (by simp)
                                            · rw [if_neg c22] at H
                                              exact absurd H (by simp)
                                          · rw [if_neg c20] at H
                                            have c20b0 : decide (0 < x6_4) = false := decide_eq_false c20
                                            clear c20
                                            have H' := Aside0.mk H
                                            clear H
                                            have p138 : 0 ≤ (x5_2 : Int) := of_decide_eq_true (by first | (with_reducible assumption) | assumption)
                                            have q138 : x5_2 < (l0.length : Int) := of_decide_eq_true (by first | (with_reducible assumption) | assumption)
                                            obtain ⟨ad138, A138_0, c138_0, e138, hx138_0, hl138_0, hi138_0⟩ := at_L1 HR0.out x5_2 p138 q138
                                            cases e138
                                            have HR138_0 := Aside0.mk hi138_0
                                            have HC138_0 := Aside0.mk hl138_0
                                            clear hi138_0 hl138_0
                                            replace p138 := eq_true p138
                                            replace q138 := eq_true q138
                                            have p139 : 0 ≤ (x5_2 : Int) := of_decide_eq_true (by first | (with_reducible assumption) | assumption)
                                            have q139 : x5_2 < (l0.length : Int) := of_decide_eq_true (by first | (with_reducible assumption) | assumption)
                                            obtain ⟨ad139, A139_0, c139_0, e139, hx139_0, hl139_0, hi139_0⟩ := at_L1 HR0.out x5_2 p139 q139
                                            obtain rfl : ad138 = ad139 := (by injection e139)
                                            have HR139_0 := Aside0.mk hi139_0
                                            have HC139_0 := Aside0.mk hl139_0
                                            clear hi139_0 hl139_0
                                            replace p139 := eq_true p139
                                            replace q139 := eq_true q139
                                            have ea_ := Option.some.inj (hx138_0.symm.trans hx139_0)
                                            injection ea_ with ea_ en_ ec_
                                            subst ea_
                                            subst ec_
                                            clear en_
                                            have p140 : 0 ≤ (x6_4 : Int) := of_decide_eq_true (by first | (with_reducible assumption) | assumption)
                                            have q140 : x6_4 < ((rd_L1 l0 x5_2).length : Int) := of_decide_eq_true (by first | (with_reducible assumption) | assumption)
                                            obtain ⟨ad140, e140, hx140_0⟩ := Kd.at_int HR139_0.out x6_4 p140 q140
                                            cases e140
                                            replace p140 := eq_true p140
                                            replace q140 := eq_true q140
                                            have p141 : 0 ≤ (x5_2 : Int) := of_decide_eq_true (by first | (with_reducible assumption) | assumption)
                                            have q141 : x5_2 < (l0.length : Int) := of_decide_eq_true (by first | (with_reducible assumption) | assumption)
                                            obtain ⟨ad141, A141_0, c141_0, e141, hx141_0, hl141_0, hi141_0⟩ := at_L1 HR0.out x5_2 p141 q141
                                            obtain rfl : ad138 = ad141 := (by injection e141)
                                            have HR141_0 := Aside0.mk hi141_0
                                            have HC141_0 := Aside0.mk hl141_0
                                            clear hi141_0 hl141_0
                                            replace p141 := eq_true p141
                                            replace q141 := eq_true q141
                                            have ea_ := Option.some.inj (hx138_0.symm.trans hx141_0)
                                            injection ea_ with ea_ en_ ec_
                                            subst ea_
                                            subst ec_
                                            clear en_
                                            have p142 : 0 ≤ (x6_4 : Int) := of_decide_eq_true (by first | (with_reducible assumption) | assumption)
                                            have q142 : x6_4 < ((rd_L1 l0 x5_2).length : Int) := of_decide_eq_true (by first | (with_reducible assumption) | assumption)
                                            obtain ⟨ad142, e142, hx142_0⟩ := Kd.at_int HR141_0.out x6_4 p142 q142
                                            cases e142
                                            replace p142 := eq_true p142
                                            replace q142 := eq_true q142
                                            have p143 : 0 ≤ (x5_2 : Int) := of_decide_eq_true (by first | (with_reducible assumption) | assumption)
                                            have q143 : x5_2 < (l0.length : Int) := of_decide_eq_true (by first | (with_reducible assumption) | assumption)
                                            obtain ⟨ad143, A143_0, c143_0, e143, hx143_0, hl143_0, hi143_0⟩ := at_L1 HR0.out x5_2 p143 q143
                                            obtain rfl : ad138 = ad143 := (by injection e143)
                                            have HR143_0 := Aside0.mk hi143_0
                                            have HC143_0 := Aside0.mk hl143_0
                                            clear hi143_0 hl143_0
                                            replace p143 := eq_true p143
                                            replace q143 := eq_true q143
                                            have ea_ := Option.some.inj (hx138_0.symm.trans hx143_0)
                                            injection ea_ with ea_ en_ ec_
                                            subst ea_
                                            subst ec_
                                            clear en_
                                            go_wp2
                                            repeat (go_quiet (fail); try go_wp2)
                                            go_roundg k4
                                            case measure => have := HK1.out; have := HK2.out; have := HJ7.out; have := HK4.out; omega
                                            case rel => exact ⟨(false), (wrap64 (x6_4 + 1)), (by first | rfl | (simp; done) | (simp [*]; done)), (by first | rfl | (simp; done) | (simp [*]; done)), H', ⟨by have := HK1.out; have := HK2.out; have := HJ7.out; have := HK4.out; omega⟩, by repeat (first | exact Drawn0.refl _ | apply Drawn0.step)⟩
                                  · rw [if_neg c16] at H
                                    exact absurd H (by simp)
                                · rw [if_neg c15] at H
                                  have c15b0 : decide (x6_4 < ((rd_L1 l0 x5_2).length : Int)) = false := decide_eq_false c15
                                  clear c15
                                  have H' := Aside0.mk H
                                  clear H
                                  have p138 : 0 ≤ (x5_2 : Int) := of_decide_eq_true (by first | (with_reducible assumption) | assumption)
                                  have q138 : x5_2 < (l0.length : Int) := of_decide_eq_true (by first | (with_reducible assumption) | assumption)
                                  obtain ⟨ad138, A138_0, c138_0, e138, hx138_0, hl138_0, hi138_0⟩ := at_L1 HR0.out x5_2 p138 q138
                                  cases e138
                                  have HR138_0 := Aside0.mk hi138_0
                                  have HC138_0 := Aside0.mk hl138_0
                                  clear hi138_0 hl138_0
                                  replace p138 := eq_true p138
                                  replace q138 := eq_true q138
                                  go_wp2
                                  repeat (go_quiet (fail); try go_wp2)
                                  go_roundg k4
                                  case measure => have := HK1.out; have := HK2.out; have := HJ7.out; have := HK4.out; omega
                                  case rel => exact ⟨(x4_4), (wrap64 (x5_2 + 1)), (by first | rfl | (simp; done) | (simp [*]; done)), (by first | rfl | (simp; done) | (simp [*]; done)), H', ⟨by have := HK1.out; have := HK2.out; have := HJ7.out; have := HK4.out; omega⟩, by repeat (first | exact Drawn0.refl _ | apply Drawn0.step)⟩
                              · rw [if_neg c14] at H
                                exact absurd H (by simp)
                            · rw [if_neg c13] at H
                              exact absurd H (by simp)
                · rw [if_neg c7] at H
                  have c7b0 : decide (x5_2 < (l0.length : Int)) = false := decide_eq_false c7
                  clear c7
                  by_cases c24 : x4_2 = true
                  · subst c24
                    have H1 : (some 7) = some r := by rw [if_pos rfl] at H; exact H
                    clear H
                    have H := H1
                    clear H1
                    obtain rfl := Option.some.inj H
                    go_wp2
                    repeat (go_quiet (fail); try go_wp2)
                    go_ret
                    exact ⟨by first | rfl | (simp; done) | (simp [*]; done), by repeat (first | exact Drawn0.refl _ | apply Drawn0.step)⟩
                  · replace c24 := Bool.eq_false_iff.mpr c24
                    subst c24
                    have H1 : (some 0) = some r := by rw [if_neg (show ¬ (false = true) by decide)] at H; exact H
                    clear H
                    have H := H1
                    clear H1
                    obtain rfl := Option.some.inj H
                    go_wp2
                    repeat (go_quiet (fail); try go_wp2)
                    go_ret
                    exact ⟨by first | rfl | (simp; done) | (simp [*]; done), by repeat (first | exact Drawn0.refl _ | apply Drawn0.step)⟩

end Go.Proofs.YtioekjkfhbopkaaDoor.PSamplePast
