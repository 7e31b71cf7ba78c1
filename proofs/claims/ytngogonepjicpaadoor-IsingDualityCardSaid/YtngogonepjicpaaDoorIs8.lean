/- The walk of the law IsingStates. Condition: the variables read as laid. -/
import Derived.Test.YtngogonepjicpaaDoorIs7
namespace Go.Proofs.YtngogonepjicpaaDoor
open Go.RowKit Go.Deep

theorem errC_some (a : Nat → Addr) (c : Int) (h : c ≠ 0) : errC a c = .iface 127 (.pointer (some (a c.toNat))) := by unfold errC; rw [if_neg h]; rfl
theorem nil_ints (w : World) : Ints w none [] := Ints.nil w none

set_option maxHeartbeats 4000000 in
theorem law_states (n : Int) (A : Option Addr) (l : List (Int × Int)) (cap : Nat) (w : World) (a : Nat → Addr) (hS : Sent codes w a) (hH : Handle w) (hP : Pairs w A l) :
    Calls Tryd.prog 6 #[.agg #[.int .i64 n, .slice A l.length cap]] w fun e w' => e = .returned (.bool true) ∧ Below w.heap.size w w' := by
  have hlen := hP.len
  have hbond := bond_any (w.alloc (.cells #[.int .i64 n, .slice A l.length cap] 24)) a ((hS.toEnv.sub (fun c h => sub23 h)).below (below_alloc' (Below.refl _ _) _))
  have HBO := hide hbond
  clear hbond
  by_cases hl : l.length ≤ 200
  · have ht := decide_eq_true hl
    by_cases hv : vcode n l = 0
    · obtain ⟨h0, h14, hl30, hg⟩ := vcode_zero hv
      obtain ⟨n, rfl⟩ := Int.eq_ofNat_of_zero_le h0
      by_cases h10 : 10 < n
      · have HV := hide hv
        clear hv
        go_enter Tryd.func6, Tryd.ntmps6
        go_wp2_with
          (first
           | (go_at_call 11; refine HBO.out.mono ?_; rintro e w1 ⟨rfl, hb1⟩; obtain ⟨k1, k2⟩ := below_cells hb1; have hz1 : w.heap.size < w1.heap.size := by have := hb1.size; simp at this; omega)
           | (go_at_call 12; refine (tiny_any n A l.length cap _ hlen).mono ?_; rintro e w2 ⟨rfl, hb2⟩; obtain ⟨k3, k4⟩ := below_cells hb2; have hz2 : w.heap.size < w2.heap.size := by (have := hb2.size; omega))
           | (go_at_call 13
              refine (sysErr_any n A l cap w2 (hP.below (below_trans (below_trans (below_alloc' (Below.refl _ _) _) hb1) hb2))).mono ?_
              rw [HV.out]
              rintro e w3 ⟨rfl, hb3⟩
              obtain ⟨k5, k6⟩ := below_cells hb3))
        go_ret
        exact ⟨rfl, below_trans (below_trans (below_trans (below_alloc' (Below.refl _ _) _) hb1) hb2) hb3⟩
      · have HV := hide hv
        clear hv
        have h10' : n ≤ 10 := by omega
        clear h10
        go_enter Tryd.func6, Tryd.ntmps6
        go_wp2_with
          (first
           | (go_at_call 11; refine HBO.out.mono ?_; rintro e w1 ⟨rfl, hb1⟩; obtain ⟨k1, k2⟩ := below_cells hb1; have hz1 : w.heap.size < w1.heap.size := by have := hb1.size; simp at this; omega)
           | (go_at_call 12; refine (tiny_any n A l.length cap _ hlen).mono ?_; rintro e w2 ⟨rfl, hb2⟩; obtain ⟨k3, k4⟩ := below_cells hb2; have hz2 : w.heap.size < w2.heap.size := by (have := hb2.size; omega))
           | (go_at_call 13
              refine (sysErr_any n A l cap w2 (hP.below (below_trans (below_trans (below_alloc' (Below.refl _ _) _) hb1) hb2))).mono ?_
              rw [HV.out]
              rintro e w3 ⟨rfl, hb3⟩
              obtain ⟨k5, k6⟩ := below_cells hb3
              have hz3 : w.heap.size < w3.heap.size := by (have := hb3.size; omega)
              have hB3 : Below w.heap.size w w3 := below_trans (below_trans (below_trans (below_alloc' (Below.refl _ _) _) hb1) hb2) hb3)
           | (go_at_call 29
              refine (unlikeOf_ok n A l cap w3 (hP.below hB3) (by omega) hl30 hg).mono ?_
              rintro e w4 ⟨A4, c4, rfl, hI4, hc4, hb4⟩
              obtain ⟨k7, k8⟩ := below_cells hb4
              have hz4 : w.heap.size < w4.heap.size := by (have := hb4.size; omega)
              have hB4 : Below w.heap.size w w4 := below_trans hB3 hb4)
           | (go_at_call 15
              refine (system_any n A l cap w4 (hP.below hB4) (by omega)).mono ?_
              rintro e w5 ⟨A5, c5, rfl, hP5, hc5, hb5⟩
              have hB5 : Below w.heap.size w w5 := below_trans hB4 hb5)
           | (go_at_call 14
              refine (states_ok n A5 l c5 w5 a ((hS.toEnv.sub (fun c h => sub23 h)).below hB5) hP5 (by omega) hl30 hg).mono ?_
              rintro e w6 ⟨A6, c6, rfl, hI6, hc6, hb6⟩
              have hB6 : Below w.heap.size w w6 := below_trans hB5 hb6)
           | (go_at_call 27
              refine (coded_any w6 a (hS.below hB6) (hH.below hB6) 0 (by omega) 0).mono ?_
              rintro e w7 ⟨rfl, hb7⟩
              have hB7 : Below w.heap.size w w7 := below_trans hB6 hb7)
           | (go_at_call 30
              refine (same_any A6 A4 (statesOf n l) (statesOf n l) c6 c4 w7 (hI6.below hb7) (hI4.below (below_trans (below_trans hb5 hb6) hb7))).mono ?_
              rintro e w8 ⟨rfl, hb8⟩))
        go_ret
        exact ⟨by simp, below_trans hB7 hb8⟩
    · obtain ⟨c, hc, hc8⟩ := vcode_nat n l
      have hc0 : 0 < c := by
        rcases Nat.eq_zero_or_pos c with h | h
        · subst h; exact absurd hc hv
        · exact h
      have he := errC_some a (vcode n l) hv
      have HV := hide hv
      have HC := hide hc
      have HE := hide he
      clear hv hc he
      go_enter Tryd.func6, Tryd.ntmps6
      go_wp2_with
        (first
         | (go_at_call 11; refine HBO.out.mono ?_; rintro e w1 ⟨rfl, hb1⟩; obtain ⟨k1, k2⟩ := below_cells hb1; have hz1 : w.heap.size < w1.heap.size := by have := hb1.size; simp at this; omega)
         | (go_at_call 12; refine (tiny_any n A l.length cap _ hlen).mono ?_; rintro e w2 ⟨rfl, hb2⟩; obtain ⟨k3, k4⟩ := below_cells hb2; have hz2 : w.heap.size < w2.heap.size := by (have := hb2.size; omega))
         | (go_at_call 13
            refine (sysErr_any n A l cap w2 (hP.below (below_trans (below_trans (below_alloc' (Below.refl _ _) _) hb1) hb2))).mono ?_
            rw [HC.out]
            rintro e w3 ⟨rfl, hb3⟩
            obtain ⟨k5, k6⟩ := below_cells hb3
            have hz3 : w.heap.size < w3.heap.size := by (have := hb3.size; omega)
            have hB3 : Below w.heap.size w w3 := below_trans (below_trans (below_trans (below_alloc' (Below.refl _ _) _) hb1) hb2) hb3)
         | (go_at_call 15
            refine (system_any n A l cap w3 (hP.below hB3) (by omega)).mono ?_
            rintro e w5 ⟨A5, c5, rfl, hP5, hc5, hb5⟩
            have hB5 : Below w.heap.size w w5 := below_trans hB3 hb5)
         | (go_at_call 14
            refine (states_err n A5 l c5 w5 a ((hS.toEnv.sub (fun c h => sub23 h)).below hB5) hP5 HV.out).mono ?_
            rw [HC.out]
            rintro e w6 ⟨rfl, hb6⟩
            have hB6 : Below w.heap.size w w6 := below_trans hB5 hb6)
         | (go_at_call 27
            refine (coded_any w6 a (hS.below hB6) (hH.below hB6) c hc8 c).mono ?_
            rw [decide_eq_true rfl]
            rintro e w7 ⟨rfl, hb7⟩
            have hB7 : Below w.heap.size w w7 := below_trans hB6 hb7)
         | (go_at_call 30
            refine (same_any none none [] [] 0 0 w7 (nil_ints _) (nil_ints _)).mono ?_
            rintro e w8 ⟨rfl, hb8⟩))
      go_ret
      exact ⟨by simp, below_trans hB7 hb8⟩
  · have ht := decide_eq_false hl
    clear hl
    go_enter Tryd.func6, Tryd.ntmps6
    go_wp2_with
      (first
       | (go_at_call 11; refine HBO.out.mono ?_; rintro e w1 ⟨rfl, hb1⟩; obtain ⟨k1, k2⟩ := below_cells hb1; have hz1 : w.heap.size < w1.heap.size := by have := hb1.size; simp at this; omega)
       | (go_at_call 12; refine (tiny_any n A l.length cap _ hlen).mono ?_; rintro e w2 ⟨rfl, hb2⟩))
    go_ret
    exact ⟨rfl, below_trans (below_trans (below_alloc' (Below.refl _ _) _) hb1) hb2⟩
end Go.Proofs.YtngogonepjicpaaDoor
