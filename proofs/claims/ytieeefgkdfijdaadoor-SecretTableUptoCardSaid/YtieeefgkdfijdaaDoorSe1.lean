/- The walks of slices.Max, dist.list, dist.Valid. No condition. -/
import Derived.Test.YtieeefgkdfijdaaDoorSeR
import Derived.Test.YtieeefgkdfijdaaDoorWMore
namespace Go.Proofs.YtieeefgkdfijdaaDoor
open Go.RowKit Go.Deep Go.Proofs.YtieeefgkdfijdaaDoorW.PrintMore
attribute [local go_sem] max2_int min2_int max_two min_two

theorem topOf_max (l : List Int) : ∀ x t, topOf l (if x > t then x else t) = if topOf l x > t then topOf l x else t := by
  induction l with
  | nil => intro x t; rfl
  | cons y r ih =>
    intro x t
    show topOf r (if y > (if x > t then x else t) then y else (if x > t then x else t)) = if topOf r (if y > x then y else x) > t then topOf r (if y > x then y else x) else t
    rw [← ih (if y > x then y else x) t]
    congr 1
    by_cases h1 : x > t <;> by_cases h2 : y > x <;> by_cases h3 : y > t <;> simp only [h1, h2, h3, if_true, if_false] <;> first | rfl | omega | (split <;> omega)
/-- the greatest of numbers -/
def greatest (l : List Int) : Int := topOf (l.drop 1) (l.getD 0 0)
theorem greatest_top (l : List Int) (h : 0 < l.length) (t : Int) : (if t < greatest l then greatest l else t) = topOf l t := by
  cases l with
  | nil => simp at h
  | cons x r =>
    show (if t < topOf r x then topOf r x else t) = topOf r (if x > t then x else t)
    rw [topOf_max]
theorem greatest_step (l : List Int) (k : Nat) (h0 : 1 ≤ k) (hk : k < l.length) : topOf ((l.drop 1).take k) (l.getD 0 0) = if topOf ((l.drop 1).take (k - 1)) (l.getD 0 0) < l.getD k 0 then l.getD k 0 else topOf ((l.drop 1).take (k - 1)) (l.getD 0 0) := by
  have h1 := topOf_take (l.drop 1) (k - 1) (by simp; omega) (l.getD 0 0)
  rw [Nat.sub_add_cancel h0] at h1
  rw [h1]
  have e : (l.drop 1).getD (k - 1) 0 = l.getD k 0 := by
    rw [List.getD_eq_getElem?_getD, List.getD_eq_getElem?_getD, List.getElem?_drop]
    congr 2
    omega
  rw [e]

set_option maxHeartbeats 1000000 in
theorem max_ok (A : Option Addr) (l : List Int) (c : Nat) (w : World) (hA : Ints w A l) (hl : 0 < l.length) :
    Calls Tryd.prog 75 #[.slice A l.length c] w fun e w' => e = .returned (.int .i64 (greatest l)) ∧ Below w.heap.size w w' := by
  have hlen := hA.len
  obtain ⟨b, off, rfl, hb, d0⟩ := hA.at_ 0 hl
  obtain ⟨x0, hx0⟩ : ∃ x0, x0 = l.getD 0 0 := ⟨_, rfl⟩
  have d0' : w.cell? ⟨b, off, none⟩ = some (.int .i64 x0) := by rw [hx0]; exact d0
  have HX := hide hx0
  clear d0 hx0
  go_enter Tryd.func75, Tryd.ntmps75
  go_wp2_with (fail)
  go_loopw [3, 4] (fun m i wr => ∃ k : Nat, 1 ≤ k ∧ k ≤ l.length ∧ i = .int .i64 k ∧ m = .int .i64 (topOf ((l.drop 1).take (k - 1)) x0) ∧ Below w.heap.size w wr) (fun _ i _ => l.length - (intOf i).toNat)
  case atStart => exact ⟨1, Nat.le_refl _, hl, rfl, rfl, Below.refl _ _⟩
  case round =>
    obtain ⟨k, hk0, hk, rfl, rfl, hB⟩ := hrel
    by_cases hlt : k < l.length
    · obtain ⟨b', off', e, _, dk⟩ := (hA.below hB).at_ k hlt
      injection e with e
      injection e with e1 e2 _
      subst e1 e2
      have hst := greatest_step l k hk0 hlt
      rw [← HX.out] at hst
      have HST := hide hst
      clear hst
      have k0 : (0 : Int) ≤ (k : Int) := Int.natCast_nonneg _
      have k1 : (k : Int) < (l.length : Int) := by omega
      change Hid (_ = if topOf ((l.drop 1).take (k - 1)) x0 < l.getD k 0 then l.getD k 0 else topOf ((l.drop 1).take (k - 1)) x0) at HST
      generalize l.getD k 0 = x at dk HST
      generalize topOf ((l.drop 1).take (k - 1)) x0 = m at HST ⊢
      by_cases hmx : m < x
      · go_wp2_with (fail)
        go_roundw
        case rel => exact ⟨k + 1, by omega, by omega, by go_num, by rw [Nat.add_sub_cancel, HST.out, if_pos hmx], hB⟩
        case measure => simp [intOf]; omega
      · go_wp2_with (fail)
        go_roundw
        case rel => exact ⟨k + 1, by omega, by omega, by go_num, by rw [Nat.add_sub_cancel, HST.out, if_neg hmx], hB⟩
        case measure => simp [intOf]; omega
    · obtain rfl : k = l.length := by omega
      go_wp2_with (fail)
      go_ret
      refine ⟨?_, hB⟩
      unfold greatest
      rw [List.take_of_length_le (by simp), HX.out]
      rfl

/-- a sum that stands still beyond a bound -/
def sat (most t : Int) : Int := if most + 1 < t then most + 1 else t

set_option maxHeartbeats 2000000 in
theorem list_any (A : Option Addr) (l : List Int) (c : Nat) (most : Int) (hm : 0 ≤ most) (hm2 : most ≤ 1000000) (w : World) (a : Nat → Addr) (hE : Env [2, 3] w a) (hA : Ints w A l) :
    Calls Tryd.prog 78 #[.slice A l.length c, .int .i64 most] w fun e w' => e = .returned (errC a (wcode most l)) ∧ Below w.heap.size w w' := by
  have hlen := hA.len
  have x3 : w.cell? ⟨1, 0, none⟩ = some (.iface 161 (.pointer (some (a 3)))) := hE.cell 3 (by simp)
  have x2 : w.cell? ⟨0, 0, none⟩ = some (.iface 161 (.pointer (some (a 2)))) := hE.cell 2 (by simp)
  go_enter Tryd.func78, Tryd.ntmps78
  go_wp2_with (fail)
  go_loopw [5, 6, 11] (fun s t i wr => ∃ k : Nat, k ≤ l.length ∧ i = .int .i64 k ∧ s = .bool (anyPos (l.take k)) ∧ t = .int .i64 (sat most (l.take k).sum) ∧ Hid (anyNeg (l.take k) = false) ∧ Below w.heap.size w wr) (fun _ _ i _ => l.length - (intOf i).toNat)
  case atStart => exact ⟨0, Nat.zero_le _, rfl, rfl, by unfold sat; rw [List.take_zero, List.sum_nil, if_neg (by omega)], hide rfl, Below.refl _ _⟩
  case round =>
    obtain ⟨k, hk, rfl, rfl, rfl, HN, hB⟩ := hrel
    have y3 : wr.cell? ⟨1, 0, none⟩ = some (.iface 161 (.pointer (some (a 3)))) := (hB.cell (p := ⟨1, 0, none⟩) (hE.lt (c := 3) (by simp))).trans x3
    have y2 : wr.cell? ⟨0, 0, none⟩ = some (.iface 161 (.pointer (some (a 2)))) := (hB.cell (p := ⟨0, 0, none⟩) (hE.lt (c := 2) (by simp))).trans x2
    have h0 := sum_nonneg _ HN.out
    by_cases hlt : k < l.length
    · obtain ⟨b, off, rfl, _, dk⟩ := (hA.below hB).at_ k hlt
      have k0 : (0 : Int) ≤ (k : Int) := Int.natCast_nonneg _
      have k1 : (k : Int) < (l.length : Int) := by omega
      have hneg := fun h => wcode_neg most l k hlt h
      have hp' : anyPos (l.take (k + 1)) = (anyPos (l.take k) || decide (0 < l.getD k 0)) := any_take _ l k hlt
      have hn' : anyNeg (l.take (k + 1)) = (anyNeg (l.take k) || decide (l.getD k 0 < 0)) := any_take _ l k hlt
      have hs' := sum_take l k hlt
      rw [HN.out, Bool.false_or] at hn'
      generalize l.getD k 0 = x at dk hneg hp' hn' hs'
      have HNEG := hide hneg
      have HP := hide hp'
      have HN' := hide hn'
      have HS := hide hs'
      clear hneg hp' hn' hs'
      by_cases hx : x < 0
      · go_wp2_with (fail)
        go_ret
        exact ⟨by rw [HNEG.out hx]; rfl, hB⟩
      · have hsat : 0 ≤ sat most (l.take k).sum ∧ sat most (l.take k).sum ≤ most + 1 := by unfold sat; split <;> omega
        have hst : sat most ((l.take k).sum + x) = if most + 1 < sat most (l.take k).sum + (if most + 1 < x then most + 1 else x) then most + 1 else sat most (l.take k).sum + (if most + 1 < x then most + 1 else x) := by
          unfold sat
          by_cases e1 : most + 1 < (l.take k).sum <;> by_cases e2 : most + 1 < x <;> simp only [e1, e2, if_true, if_false] <;> (split <;> split <;> omega)
        have HST := hide hst
        clear hst
        generalize sat most (l.take k).sum = t0 at hsat HST ⊢
        generalize anyPos (l.take k) = s0 at HP ⊢
        have hsl := hsat.1
        have hsr := hsat.2
        clear hsat h0
        by_cases hpos : 0 < x
        · by_cases e2 : most + 1 < x
          · by_cases e3 : most + 1 < t0 + (most + 1)
            · cases s0
              all_goals
                go_wp2_with (fail)
                go_roundw
                case rel => exact ⟨k + 1, by omega, by go_num, by rw [HP.out, decide_eq_true hpos]; rfl, by rw [HS.out, HST.out, if_pos e2, if_pos e3], hide (by rw [HN'.out, decide_eq_false hx]), hB⟩
                case measure => simp [intOf]; omega
            · cases s0
              all_goals
                go_wp2_with (fail)
                go_roundw
                case rel => exact ⟨k + 1, by omega, by go_num, by rw [HP.out, decide_eq_true hpos]; rfl, by rw [HS.out, HST.out, if_pos e2, if_neg e3], hide (by rw [HN'.out, decide_eq_false hx]), hB⟩
                case measure => simp [intOf]; omega
          · by_cases e3 : most + 1 < t0 + x
            · cases s0
              all_goals
                go_wp2_with (fail)
                go_roundw
                case rel => exact ⟨k + 1, by omega, by go_num, by rw [HP.out, decide_eq_true hpos]; rfl, by rw [HS.out, HST.out, if_neg e2, if_pos e3], hide (by rw [HN'.out, decide_eq_false hx]), hB⟩
                case measure => simp [intOf]; omega
            · cases s0
              all_goals
                go_wp2_with (fail)
                go_roundw
                case rel => exact ⟨k + 1, by omega, by go_num, by rw [HP.out, decide_eq_true hpos]; rfl, by rw [HS.out, HST.out, if_neg e2, if_neg e3], hide (by rw [HN'.out, decide_eq_false hx]), hB⟩
                case measure => simp [intOf]; omega
        · obtain rfl : x = 0 := by omega
          have e2 : ¬ most + 1 < 0 := by omega
          have e3 : ¬ most + 1 < t0 + 0 := by omega
          have e4 : ¬ most + 1 < t0 := by omega
          cases s0
          all_goals
            go_wp2_with (fail)
            go_roundw
            case rel => exact ⟨k + 1, by omega, by go_num, by rw [HP.out]; rfl, by rw [HS.out, HST.out, if_neg e2, if_neg e3]; first | rfl | rw [Int.add_zero], hide (by rw [HN'.out]; rfl), hB⟩
            case measure => simp [intOf]; omega
    · obtain rfl : k = l.length := by omega
      have hend := wcode_end most l (anyPos l) (decide (most < l.sum)) (anyNeg_false l HN.out) rfl rfl
      rw [List.take_length] at h0 ⊢
      have hcmp : (most < sat most l.sum) = (most < l.sum) := by
        unfold sat
        split <;> simp <;> omega
      have HC := hide hcmp
      have HE := hide hend
      clear hend hcmp
      by_cases hpos : anyPos l = true
      · by_cases hgr : most < sat most l.sum
        · go_wp2_with (fail)
          go_ret
          rw [HE.out, hpos, decide_eq_true (by rw [← HC.out]; exact hgr)]
          exact ⟨rfl, hB⟩
        · go_wp2_with (fail)
          go_ret
          rw [HE.out, hpos, decide_eq_false (by rw [← HC.out]; omega)]
          exact ⟨rfl, hB⟩
      · have hpos' : anyPos l = false := by simpa using hpos
        go_wp2_with (fail)
        go_ret
        rw [HE.out, hpos']
        exact ⟨rfl, hB⟩

theorem distValid_any (A : Option Addr) (l : List Int) (c : Nat) (w : World) (a : Nat → Addr) (hE : Env [2, 3] w a) (hA : Ints w A l) :
    Calls Tryd.prog 56 #[.slice A l.length c] w fun e w' => e = .returned (errC a (wErr l)) ∧ Below w.heap.size w w' := by
  have hlen := hA.len
  have x2 : w.cell? ⟨0, 0, none⟩ = some (.iface 161 (.pointer (some (a 2)))) := hE.cell 2 (by simp)
  unfold wErr
  by_cases h : 16 < l.length
  · rw [if_pos h]
    go_enter Tryd.func56, Tryd.ntmps56
    go_wp2_with (fail)
    go_ret
    exact ⟨rfl, Below.refl _ _⟩
  · rw [if_neg h]
    have HL := hide (list_any A l c 4096 (by decide) (by decide) w a hE hA)
    go_enter Tryd.func56, Tryd.ntmps56
    go_wp2_with (go_at_call 78; refine HL.out.mono ?_; rintro e w1 ⟨rfl, hb1⟩)
    go_ret
    exact ⟨rfl, hb1⟩
end Go.Proofs.YtieeefgkdfijdaaDoor
