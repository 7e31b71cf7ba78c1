/- The walk of the law IsingValid. Condition: the variables read as laid. -/
import Derived.Test.YtngogonepjicpaaDoorIs5
import Derived.Deep.RegionHeld3
namespace Go.Proofs.YtngogonepjicpaaDoor
open Go.RowKit Go.Deep

theorem sub23 {c : Nat} (h : c ∈ [2, 3]) : c ∈ codes := by
  simp at h
  rcases h with rfl | rfl <;> decide
theorem vcode_nat (n : Int) (l : List (Int × Int)) : ∃ c : Nat, vcode n l = (c : Int) ∧ c ≤ 8 := by
  rcases vcode_cases n l with h | h | h <;> rw [h]
  · exact ⟨0, rfl, by omega⟩
  · exact ⟨2, rfl, by omega⟩
  · exact ⟨3, rfl, by omega⟩

set_option maxHeartbeats 2000000 in
theorem law_valid (n : Int) (A : Option Addr) (l : List (Int × Int)) (cap : Nat) (w : World) (a : Nat → Addr) (hS : Sent codes w a) (hH : Handle w) (hP : Pairs w A l) :
    Calls Tryd.prog 5 #[.agg #[.int .i64 n, .slice A l.length cap]] w fun e w' => e = .returned (.bool true) ∧ Below w.heap.size w w' := by
  have hlen := hP.len
  have hbond := bond_any (w.alloc (.cells #[.int .i64 n, .slice A l.length cap] 24)) a ((hS.toEnv.sub (fun c h => sub23 h)).below (below_alloc' (Below.refl _ _) _))
  have HBO := hide hbond
  clear hbond
  by_cases hl : l.length ≤ 200
  · have ht := decide_eq_true hl
    go_enter Tryd.func5, Tryd.ntmps5
    go_wp2_with
      (first
       | (go_at_call 11; refine HBO.out.mono ?_; rintro e w1 ⟨rfl, hb1⟩; obtain ⟨k1, k2⟩ := below_cells hb1; have hz1 : w.heap.size < w1.heap.size := by have := hb1.size; simp at this; omega)
       | (go_at_call 12; refine (tiny_any n A l.length cap _ hlen).mono ?_; rintro e w2 ⟨rfl, hb2⟩))
    have x0 : w2.cell? ⟨w.heap.size, 0, none⟩ = some (.int .i64 n) := by rw [hb2.cell (p := ⟨w.heap.size, 0, none⟩) hz1, k1 _ _ (by simp)]; simp
    have x1 : w2.cell? ⟨w.heap.size, 1, none⟩ = some (.slice A l.length cap) := by rw [hb2.cell (p := ⟨w.heap.size, 1, none⟩) hz1, k1 _ _ (by simp)]; simp
    have hB2 : Below w.heap.size w w2 := below_trans (below_trans (below_alloc' (Below.refl _ _) _) hb1) hb2
    have hz2 : w.heap.size < w2.heap.size := by have := hb2.size; omega
    clear k1 k2 hb1 hb2 hz1
    obtain ⟨c, hc, hc8⟩ := vcode_nat n l
    have HC := hide hc
    clear hc
    go_region_held3 (fun w' => w'.cell? ⟨w.heap.size, 0, none⟩ = some (.int .i64 n) ∧ w'.cell? ⟨w.heap.size, 1, none⟩ = some (.slice A l.length cap))
      (first | go_keep | exact ⟨‹_›, ‹_›⟩)
      ((first
        | (go_at_call 15
           refine (system_any n A l cap w2.drew (hP.below (below_drewN' hB2 1)) (by omega)).mono ?_
           rintro e w3 ⟨A3, c3, rfl, hP3, hc3, hb3⟩
           have hB3 : Below w.heap.size w w3 := below_trans (below_drewN' hB2 1) hb3
           have y0 : w3.cell? ⟨w.heap.size, 0, none⟩ = some (.int .i64 n) := (hb3.cell (p := ⟨w.heap.size, 0, none⟩) hz2).trans x0
           have y1 : w3.cell? ⟨w.heap.size, 1, none⟩ = some (.slice A l.length cap) := (hb3.cell (p := ⟨w.heap.size, 1, none⟩) hz2).trans x1
           have hz3 : w.heap.size < w3.heap.size := Nat.lt_of_lt_of_le hz2 hb3.size)
        | (go_at_call 28
           refine (valid_any n A3 l c3 w3 a ((hS.toEnv.sub (fun c h => sub23 h)).below hB3) hP3).mono ?_
           rintro e w4 ⟨rfl, hb4⟩
           have hB4 : Below w.heap.size w w4 := below_trans hB3 hb4
           have z0 : w4.cell? ⟨w.heap.size, 0, none⟩ = some (.int .i64 n) := (hb4.cell (p := ⟨w.heap.size, 0, none⟩) hz3).trans y0
           have z1 : w4.cell? ⟨w.heap.size, 1, none⟩ = some (.slice A l.length cap) := (hb4.cell (p := ⟨w.heap.size, 1, none⟩) hz3).trans y1
           have hz4 : w.heap.size < w4.heap.size := Nat.lt_of_lt_of_le hz3 hb4.size)
        | (go_at_call 13
           refine (sysErr_any n A l cap w4 (hP.below hB4)).mono ?_
           rintro e w5 ⟨rfl, hb5⟩
           have hB5 : Below w.heap.size w w5 := below_trans hB4 hb5
           have v0 : w5.cell? ⟨w.heap.size, 0, none⟩ = some (.int .i64 n) := (hb5.cell (p := ⟨w.heap.size, 0, none⟩) hz4).trans z0
           have v1 : w5.cell? ⟨w.heap.size, 1, none⟩ = some (.slice A l.length cap) := (hb5.cell (p := ⟨w.heap.size, 1, none⟩) hz4).trans z1
           have hz5 : w.heap.size < w5.heap.size := Nat.lt_of_lt_of_le hz4 hb5.size)
        | (go_at_call 27
           rw [HC.out]
           refine (coded_any w5 a (hS.below hB5) (hH.below hB5) c hc8 c).mono ?_
           rintro e w6 ⟨rfl, hb6⟩
           have u0 : w6.cell? ⟨w.heap.size, 0, none⟩ = some (.int .i64 n) := (hb6.cell (p := ⟨w.heap.size, 0, none⟩) hz5).trans v0
           have u1 : w6.cell? ⟨w.heap.size, 1, none⟩ = some (.slice A l.length cap) := (hb6.cell (p := ⟨w.heap.size, 1, none⟩) hz5).trans v1)))
    go_wp2
    go_ret
    exact ⟨by simp, below_trans hB5 hb6⟩
  · have ht := decide_eq_false hl
    clear hl
    go_enter Tryd.func5, Tryd.ntmps5
    go_wp2_with
      (first
       | (go_at_call 11; refine HBO.out.mono ?_; rintro e w1 ⟨rfl, hb1⟩; obtain ⟨k1, k2⟩ := below_cells hb1; have hz1 : w.heap.size < w1.heap.size := by have := hb1.size; simp at this; omega)
       | (go_at_call 12; refine (tiny_any n A l.length cap _ hlen).mono ?_; rintro e w2 ⟨rfl, hb2⟩))
    go_ret
    exact ⟨rfl, below_trans (below_trans (below_alloc' (Below.refl _ _) _) hb1) hb2⟩
end Go.Proofs.YtngogonepjicpaaDoor
