/- The walk of dist.Table. No condition but modest size. -/
import Derived.Test.YtieeefgkdfijdaaDoorSe5
import Derived.Deep.RegionHeld3
namespace Go.Proofs.YtieeefgkdfijdaaDoor
open Go.RowKit Go.Deep Go.Proofs.YtieeefgkdfijdaaDoorW.PrintWords

theorem tErr_big {t : List (List Int)} (h : 16 < t.length) : tErr t = 2 := if_pos h
theorem tErr_wide {t : List (List Int)} {i : Nat} (hi : i < t.length) (h : 16 < (t.getD i []).length) : tErr t = 2 := by
  unfold tErr
  by_cases h1 : 16 < t.length
  · rw [if_pos h1]
  · rw [if_neg h1, if_pos]
    rw [List.any_eq_true]
    rw [getD_eq t i [] hi] at h
    exact ⟨t[i], List.getElem_mem hi, decide_eq_true h⟩
/-- the rows ahead of place i are narrow -/
structure Narrow (t : List (List Int)) (i : Nat) : Prop where
  out : ∀ j, j < i → (t.getD j []).length ≤ 16
structure Even (t : List (List Int)) (i : Nat) : Prop where
  out : ∀ j, j < i → (t.getD j []).length = (t.getD 0 []).length
theorem Narrow.any {t : List (List Int)} (h : Narrow t t.length) : t.any (fun r => decide (16 < r.length)) = false := by
  rw [List.any_eq_false]
  intro r hr
  obtain ⟨i, hi, rfl⟩ := List.getElem_of_mem hr
  have := h.out i hi
  rw [getD_eq t i [] hi] at this
  simp
  omega
theorem Even.any {t : List (List Int)} (h : Even t t.length) : t.any (fun r => decide (r.length ≠ (t.getD 0 []).length)) = false := by
  rw [List.any_eq_false]
  intro r hr
  obtain ⟨i, hi, rfl⟩ := List.getElem_of_mem hr
  have := h.out i hi
  rw [getD_eq t i [] hi] at this
  simp only [decide_eq_true_eq]
  exact fun h => h this
theorem tErr_uneven {t : List (List Int)} (h0 : t.length ≤ 16) (hn : Narrow t t.length) {i : Nat} (hi : i < t.length) (h : (t.getD i []).length ≠ (t.getD 0 []).length) : tErr t = 3 := by
  unfold tErr
  rw [if_neg (by omega), hn.any, if_neg (by simp), if_pos]
  rw [List.any_eq_true]
  rw [getD_eq t i [] hi] at h
  exact ⟨t[i], List.getElem_mem hi, decide_eq_true h⟩
theorem tErr_list {t : List (List Int)} (h0 : t.length ≤ 16) (hn : Narrow t t.length) (he : Even t t.length) : tErr t = wcode 4096 t.flatten := by
  unfold tErr
  rw [if_neg (by omega), hn.any, if_neg (by simp), he.any, if_neg (by simp)]

set_option maxRecDepth 100000 in
set_option maxHeartbeats 4000000 in
theorem distTable_any (A : Option Addr) (t : List (List Int)) (c : Nat) (w : World) (a : Nat → Addr) (hE : Env [2, 3] w a) (hA : Lists w A t) (htc : t.length ≤ c) (hf : t.flatten.length ≤ 2000000) :
    Calls Tryd.prog 60 #[.slice A t.length c] w fun e w' => e = .returned (errC a (tErr t)) ∧ Below w.heap.size w w' := by
  have hlen := hA.len
  have x3 : w.cell? ⟨1, 0, none⟩ = some (.iface 161 (.pointer (some (a 3)))) := hE.cell 3 (by simp)
  have x2 : w.cell? ⟨0, 0, none⟩ = some (.iface 161 (.pointer (some (a 2)))) := hE.cell 2 (by simp)
  by_cases h16 : 16 < t.length
  · rw [tErr_big h16]
    go_enter Tryd.func60, Tryd.ntmps60
    go_wp2_with (fail)
    go_ret
    exact ⟨rfl, Below.refl _ _⟩
  · have h16' : t.length ≤ 16 := by omega
    go_enter Tryd.func60, Tryd.ntmps60
    go_wp2_with (fail)
    go_loop [13] (fun i => ∃ k : Nat, k ≤ t.length ∧ Hid (Narrow t k) ∧ i = .int .i64 k) (fun i => t.length - (intOf i).toNat)
    case atStart => exact ⟨0, Nat.zero_le _, hide ⟨fun j h => absurd h (by omega)⟩, rfl⟩
    case round =>
      obtain ⟨i, hi, HN, rfl⟩ := hrel
      have i0 : (0 : Int) ≤ (i : Int) := Int.natCast_nonneg _
      by_cases hil : i < t.length
      · obtain ⟨b, off, A', c', rfl, hb, d1, hle, hI⟩ := hA.at_ i hil
        have i1 : (i : Int) < (t.length : Int) := by omega
        have hwd := fun h => tErr_wide hil h
        have hnx : (t.getD i []).length ≤ 16 → Narrow t (i + 1) := fun h => ⟨fun j hj => by
          by_cases e : j = i
          · rw [e]; exact h
          · exact HN.out.out j (by omega)⟩
        have HWD := hide hwd
        have HNX := hide hnx
        clear hwd hnx hI
        generalize (t.getD i []).length = n at d1 hle HWD HNX
        by_cases hw : 16 < n
        · go_wp2_with (fail)
          go_ret
          exact ⟨by rw [HWD.out hw]; rfl, Below.refl _ _⟩
        · go_wp2_with (fail)
          go_round
          case rel => exact ⟨i + 1, by omega, hide (HNX.out (by omega)), by go_num⟩
          case measure => simp [intOf]; omega
      · obtain rfl : i = t.length := by omega
        have HUE := hide (fun (j : Nat) (hj : j < t.length) h => tErr_uneven h16' HN.out hj h)
        have HNN := hide HN.out
        clear HN
        go_wp2_with (fail)
        go_loop [24] (fun i => ∃ k : Nat, k ≤ t.length ∧ Hid (Even t k) ∧ i = .int .i64 k) (fun i => t.length - (intOf i).toNat)
        case atStart => exact ⟨0, Nat.zero_le _, hide ⟨fun j h => absurd h (by omega)⟩, rfl⟩
        case round =>
          obtain ⟨i, hi, HEV, rfl⟩ := hrel
          have i0 : (0 : Int) ≤ (i : Int) := Int.natCast_nonneg _
          by_cases hil : i < t.length
          · obtain ⟨b, off, A', c', rfl, hb, d1, hle, hI⟩ := hA.at_ i hil
            obtain ⟨b0, off0, A0, c0, e0, _, d0, hle0, hI0⟩ := hA.at_ 0 (by omega)
            injection e0 with e0
            injection e0 with e1 e2 _
            subst e1 e2
            have d0' : w.cell? ⟨b, off, none⟩ = some (.slice A0 (t.getD 0 []).length c0) := d0
            have i1 : (i : Int) < (t.length : Int) := by omega
            have i2 : 0 < t.length := by omega
            have hue := HUE.out i hil
            have hnx : (t.getD i []).length = (t.getD 0 []).length → Even t (i + 1) := fun h => ⟨fun j hj => by
              by_cases e : j = i
              · rw [e]; exact h
              · exact HEV.out.out j (by omega)⟩
            have HU := hide hue
            have HNX := hide hnx
            clear hue hnx hI hI0 d0
            generalize (t.getD i []).length = n at d1 hle HU HNX
            generalize (t.getD 0 []).length = n0 at d0' hle0 HU HNX
            by_cases hw : n = n0
            · subst hw
              go_wp2_with (fail)
              go_round
              case rel => exact ⟨i + 1, by omega, hide (HNX.out rfl), by go_num⟩
              case measure => simp [intOf]; omega
            · have hw' : ((n : Int) != (n0 : Int)) = true := by rw [bne_iff_ne]; omega
              have HNE := hide hw
              clear hw
              go_wp2_with (fail)
              go_ret
              exact ⟨by rw [HU.out HNE.out]; rfl, Below.refl _ _⟩
          · obtain rfl : i = t.length := by omega
            have htl := tErr_list h16' HNN.out HEV.out
            have hall := PSecretTable.dist_all.calls (t.length + 1) A c t t.flatten w hA.toC htc (all_f t (by omega) hf)
            generalize t.flatten = fl at htl hall
            have HTL := hide htl
            have HALL := hide hall
            clear htl hall
            go_wp2_with (first
              | (go_at_call 79
                 refine Calls.mono HALL.out ?_
                 rintro e w1 ⟨v0, rfl, hR1, hb1⟩
                 obtain ⟨A1, c1, rfl, hI1, hc1⟩ := Ints.ofR hR1)
              | (go_at_call 78
                 refine Calls.mono (list_any A1 fl c1 4096 (by decide) (by decide) w1 a (hE.below hb1) hI1) ?_
                 rintro e w2 ⟨rfl, hb2⟩))
            go_ret
            exact ⟨by rw [HTL.out]; rfl, below_trans hb1 hb2⟩
end Go.Proofs.YtieeefgkdfijdaaDoor
