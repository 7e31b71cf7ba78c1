/- The walks of the laws IsingGrid and IsingFaces. Condition: the variables read as laid. -/
import Derived.Test.YtngogonepjicpaaDoorGr6
import Derived.Test.YtngogonepjicpaaDoorGr2
namespace Go.Proofs.YtngogonepjicpaaDoor
open Go.RowKit Go.Deep

theorem coded_two (w : World) (a : Nat → Addr) (hS : Sent codes w a) (hH : Handle w) :
    Calls Tryd.prog 27 #[.iface 127 (.pointer (some (a 2))), .int .i64 2] w fun e w' => e = .returned (.bool true) ∧ Below w.heap.size w w' := by
  have h := coded_any w a hS hH 2 (by omega) 2
  rw [show decide (((2 : Nat) : Int) = 2) = true from rfl] at h
  exact h

set_option maxHeartbeats 4000000 in
theorem law_faces (h L : Int) (w : World) (a : Nat → Addr) (hS : Sent codes w a) (hH : Handle w) :
    Calls Tryd.prog 9 #[.int .i64 h, .int .i64 L] w fun e w' => e = .returned (.bool true) ∧ Below w.heap.size w w' := by
  have hbond := bond_any w a (hS.toEnv.sub (fun c h => sub23 h))
  have HBO := hide hbond
  have hEb : ∀ w', Below w.heap.size w w' → Env [2, 3] w' a := fun w' hb => (hS.toEnv.sub (fun c h => sub23 h)).below hb
  have HEB := hide hEb
  clear hbond hEb
  by_cases hbad : badSides h L
  · have HBAD := hide hbad
    clear hbad
    go_enter Tryd.func9, Tryd.ntmps9
    go_wp2_with (first
      | (go_at_call 11; refine HBO.out.mono ?_; rintro e w1 ⟨rfl, hb1⟩; have hz1 : w.heap.size ≤ w1.heap.size := hb1.size)
      | (go_at_call 32; refine (sidesErr_bad h L w1 HBAD.out).mono ?_; rintro e w2 ⟨rfl, rfl⟩)
      | (go_at_call 26
         refine Calls.mono (faces_bad h L _ a (HEB.out _ (hb1.alloc hz1 _)) HBAD.out) ?_
         rintro e w3 ⟨rfl, hb3⟩
         have hb3' : Below w.heap.size w w3 := (hb1.alloc hz1 _).trans (hb3.mono (by simp; omega))
         have hz3 : w.heap.size ≤ w3.heap.size := hb3'.size
         unfold errAt)
      | (go_at_call 27
         refine Calls.mono (coded_two (w3.alloc (.cells #[.int .i64 0, .slice none 0 0] 35)) a (hS.below (hb3'.alloc hz3 _)) (hH.below (hb3'.alloc hz3 _))) ?_
         rintro e w4 ⟨rfl, hb4⟩
         obtain ⟨k1, k2⟩ := below_cells hb4
         have hz4 : w3.heap.size < w4.heap.size := by have := hb4.size; simp at this; omega))
    go_ret
    exact ⟨rfl, (hb3'.alloc hz3 _).trans (hb4.mono (by simp; omega))⟩
  · have hb := hbad
    unfold badSides at hb
    obtain ⟨h, rfl⟩ := Int.eq_ofNat_of_zero_le (show 0 ≤ h by omega)
    obtain ⟨L, rfl⟩ := Int.eq_ofNat_of_zero_le (show 0 ≤ L by omega)
    have g0 : 2 ≤ h := by omega
    have g1 : h ≤ 4 := by omega
    have g2 : 2 ≤ L := by omega
    have g3 : L ≤ 12 := by omega
    have HBAD := hide hbad
    clear hbad hb
    have hmk := fun w' hE => faces_ok h L w' a hE HBAD.out
    have href := fun w' => faceBonds_ok h L w' (by omega) (by omega) (by omega) (by omega)
    obtain ⟨q, hq, hq'⟩ := prod_small (a := (h : Int) - 1) (b := (L : Int) - 1) (m := 3) (n := 11) (by omega) (by omega) (by omega) (by omega)
    unfold faceList at href
    rw [hq] at hmk
    generalize hll : upto (faceAt h L) h L 0 = l at hmk href
    clear hll
    have Hfaces := hide hmk
    have HRF := hide href
    clear hmk href
    by_cases hv : vcode ((q : Int) + 1) l = 0
    · have HV := hide hv
      clear hv
      go_enter Tryd.func9, Tryd.ntmps9
      go_wp2_with (first
        | (go_at_call 11; refine HBO.out.mono ?_; rintro e w1 ⟨rfl, hb1⟩; have hz1 : w.heap.size ≤ w1.heap.size := hb1.size)
        | (go_at_call 32; refine (sidesErr_good h L w1 HBAD.out).mono ?_; rintro e w2 ⟨rfl, rfl⟩)
        | (go_at_call 35
           refine Calls.mono (HRF.out (w1.alloc (.cells #[.int .i64 0, .slice none 0 0] 24))) ?_
           intro e w2 hpost
           obtain ⟨A2, c2, rfl, hP2, hc2, hb2, hF2⟩ := hpost
           have hb2' : Below w.heap.size w w2 := (hb1.alloc hz1 _).trans (hb2.mono (by simp; omega))
           have hz2 : w1.heap.size < w2.heap.size := by have := hb2.size; simp at this; omega
           obtain ⟨k3, k4⟩ := below_cells hb2
           have t0 : w2.cell? ⟨w1.heap.size, 0, none⟩ = some (.int .i64 0) := by rw [k3 _ _ (by simp)]; go_simp
           have t1 : w2.cell? ⟨w1.heap.size, 1, none⟩ = some (.slice none 0 0) := by rw [k3 _ _ (by simp)]; go_simp
           have t2 : w2.frozen? ⟨w1.heap.size, 0, none⟩ = false := by rw [k4 _ _ (by simp)]; go_simp
           have t3 : w2.frozen? ⟨w1.heap.size, 1, none⟩ = false := by rw [k4 _ _ (by simp)]; go_simp
           clear k3 k4)
        | (go_at_call 13
           obtain ⟨W3, hW3⟩ : ∃ W3 : World, W3 = (w2.setCell ⟨w1.heap.size, 0, none⟩ (.int .i64 ((q : Int) + 1))).setCell ⟨w1.heap.size, 1, none⟩ (.slice A2 l.length c2) := ⟨_, rfl⟩
           have hP3 : Pairs W3 A2 l := by rw [hW3]; exact (hP2.setOther (fun k hk => by have := hF2 k hk; simp at this; omega) _ _).setOther (fun k hk => by have := hF2 k hk; simp at this; omega) _ _
           have hb3 : Below w.heap.size w W3 := by rw [hW3]; exact (hb2'.setCell hz1 _).setCell hz1 _
           have hz3 : w1.heap.size < W3.heap.size := by rw [hW3, nblk_setCell, nblk_setCell]; exact hz2
           have u0 : W3.cell? ⟨w1.heap.size, 0, none⟩ = some (.int .i64 ((q : Int) + 1)) := by rw [hW3, World.cell?_setCell_other _ _ _ _ (by simp)]; exact World.cell?_setCell_same _ _ _ t0
           have u1 : W3.cell? ⟨w1.heap.size, 1, none⟩ = some (.slice A2 l.length c2) := by rw [hW3]; exact World.cell?_setCell_same _ _ _ ((World.cell?_setCell_other _ _ _ _ (by simp)).trans t1)
           rw [← hW3]
           refine Calls.mono (sysErr_any ((q : Int) + 1) A2 l c2 W3 hP3) ?_
           rw [HV.out]
           rintro e w4 ⟨rfl, hb4⟩
           have hb4' : Below w.heap.size w w4 := hb3.trans (hb4.mono hb3.size)
           have hP4 := hP3.below hb4
           obtain ⟨k5, k6⟩ := below_cells hb4
           have v0 : w4.cell? ⟨w1.heap.size, 0, none⟩ = some (.int .i64 ((q : Int) + 1)) := by rw [k5 _ _ hz3]; exact u0
           have v1 : w4.cell? ⟨w1.heap.size, 1, none⟩ = some (.slice A2 l.length c2) := by rw [k5 _ _ hz3]; exact u1
           have hz4 : w1.heap.size < w4.heap.size := Nat.lt_of_lt_of_le hz3 hb4.size
           clear k5 k6 t0 t1 t2 t3 u0 u1)
        | (go_at_call 26
           refine Calls.mono (Hfaces.out w4 (HEB.out w4 hb4')) ?_
           intro e w5 hpost
           obtain ⟨hb5, hpost⟩ := hpost
           have hpost' := hpost.resolve_right (fun hx => hx.1 HV.out)
           obtain ⟨_, A5, c5, rfl, hP5, hc5⟩ := hpost'
           have hb5' : Below w.heap.size w w5 := hb4'.trans (hb5.mono hb4'.size)
           have hP45 := hP4.below hb5
           obtain ⟨k7, k8⟩ := below_cells hb5
           have w0' : w5.cell? ⟨w1.heap.size, 0, none⟩ = some (.int .i64 ((q : Int) + 1)) := by rw [k7 _ _ hz4]; exact v0
           have w1' : w5.cell? ⟨w1.heap.size, 1, none⟩ = some (.slice A2 l.length c2) := by rw [k7 _ _ hz4]; exact v1
           have hz5 : w1.heap.size < w5.heap.size := Nat.lt_of_lt_of_le hz4 hb5.size
           have hz5' : w.heap.size ≤ w5.heap.size := hb5'.size
           clear k7 k8 v0 v1 hpost)
        | (go_at_call 34
           refine Calls.mono (sameBonds_ok A5 A2 l c5 c2 (w5.alloc (.cells #[.int .i64 ((q : Int) + 1), .slice A5 l.length c5] 35)) (hP5.below (below_alloc' (Below.refl _ _) _)) (hP45.below (below_alloc' (Below.refl _ _) _))) ?_
           rintro e w6 ⟨rfl, hb6⟩))
      go_ret
      exact ⟨rfl, (hb5'.alloc hz5' _).trans (hb6.mono (by simp; omega))⟩
    · obtain ⟨cd, hcd, hc8⟩ := vcode_nat ((q : Int) + 1) l
      have hc0 : 0 < cd := by
        rcases Nat.eq_zero_or_pos cd with h | h
        · subst h; exact absurd hcd hv
        · exact h
      have HV := hide hv
      have HCD := hide hcd
      clear hv hcd
      go_enter Tryd.func9, Tryd.ntmps9
      go_wp2_with (first
        | (go_at_call 11; refine HBO.out.mono ?_; rintro e w1 ⟨rfl, hb1⟩; have hz1 : w.heap.size ≤ w1.heap.size := hb1.size)
        | (go_at_call 32; refine (sidesErr_good h L w1 HBAD.out).mono ?_; rintro e w2 ⟨rfl, rfl⟩)
        | (go_at_call 35
           refine Calls.mono (HRF.out (w1.alloc (.cells #[.int .i64 0, .slice none 0 0] 24))) ?_
           intro e w2 hpost
           obtain ⟨A2, c2, rfl, hP2, hc2, hb2, hF2⟩ := hpost
           have hb2' : Below w.heap.size w w2 := (hb1.alloc hz1 _).trans (hb2.mono (by simp; omega))
           have hz2 : w1.heap.size < w2.heap.size := by have := hb2.size; simp at this; omega
           obtain ⟨k3, k4⟩ := below_cells hb2
           have t0 : w2.cell? ⟨w1.heap.size, 0, none⟩ = some (.int .i64 0) := by rw [k3 _ _ (by simp)]; go_simp
           have t1 : w2.cell? ⟨w1.heap.size, 1, none⟩ = some (.slice none 0 0) := by rw [k3 _ _ (by simp)]; go_simp
           have t2 : w2.frozen? ⟨w1.heap.size, 0, none⟩ = false := by rw [k4 _ _ (by simp)]; go_simp
           have t3 : w2.frozen? ⟨w1.heap.size, 1, none⟩ = false := by rw [k4 _ _ (by simp)]; go_simp
           clear k3 k4)
        | (go_at_call 13
           obtain ⟨W3, hW3⟩ : ∃ W3 : World, W3 = (w2.setCell ⟨w1.heap.size, 0, none⟩ (.int .i64 ((q : Int) + 1))).setCell ⟨w1.heap.size, 1, none⟩ (.slice A2 l.length c2) := ⟨_, rfl⟩
           have hP3 : Pairs W3 A2 l := by rw [hW3]; exact (hP2.setOther (fun k hk => by have := hF2 k hk; simp at this; omega) _ _).setOther (fun k hk => by have := hF2 k hk; simp at this; omega) _ _
           have hb3 : Below w.heap.size w W3 := by rw [hW3]; exact (hb2'.setCell hz1 _).setCell hz1 _
           have hz3 : w1.heap.size < W3.heap.size := by rw [hW3, nblk_setCell, nblk_setCell]; exact hz2
           have u0 : W3.cell? ⟨w1.heap.size, 0, none⟩ = some (.int .i64 ((q : Int) + 1)) := by rw [hW3, World.cell?_setCell_other _ _ _ _ (by simp)]; exact World.cell?_setCell_same _ _ _ t0
           have u1 : W3.cell? ⟨w1.heap.size, 1, none⟩ = some (.slice A2 l.length c2) := by rw [hW3]; exact World.cell?_setCell_same _ _ _ ((World.cell?_setCell_other _ _ _ _ (by simp)).trans t1)
           rw [← hW3]
           refine Calls.mono (sysErr_any ((q : Int) + 1) A2 l c2 W3 hP3) ?_
           rw [HCD.out]
           rintro e w4 ⟨rfl, hb4⟩
           have hb4' : Below w.heap.size w w4 := hb3.trans (hb4.mono hb3.size)
           have hP4 := hP3.below hb4
           obtain ⟨k5, k6⟩ := below_cells hb4
           have hz4 : w1.heap.size < w4.heap.size := Nat.lt_of_lt_of_le hz3 hb4.size
           clear k5 k6 t0 t1 t2 t3 u0 u1)
        | (go_at_call 26
           refine Calls.mono (Hfaces.out w4 (HEB.out w4 hb4')) ?_
           intro e w5 hpost
           obtain ⟨hb5, hpost⟩ := hpost
           have hpost' := hpost.resolve_left (fun hx => HV.out hx.1)
           obtain ⟨_, rfl⟩ := hpost'
           have hb3' : Below w.heap.size w w5 := hb4'.trans (hb5.mono hb4'.size)
           have hz3' : w.heap.size ≤ w5.heap.size := hb3'.size
           unfold errAt
           clear hpost)
        | (go_at_call 27
           refine Calls.mono (coded_two (w5.alloc (.cells #[.int .i64 0, .slice none 0 0] 35)) a (hS.below (hb3'.alloc hz3' _)) (hH.below (hb3'.alloc hz3' _))) ?_
           rintro e w6 ⟨rfl, hb6⟩
           obtain ⟨k1, k2⟩ := below_cells hb6
           have hz6 : w5.heap.size < w6.heap.size := by have := hb6.size; simp at this; omega))
      go_ret
      exact ⟨rfl, (hb3'.alloc hz3' _).trans (hb6.mono (by simp; omega))⟩

set_option maxHeartbeats 4000000 in
theorem law_grid (h L : Int) (w : World) (a : Nat → Addr) (hS : Sent codes w a) (hH : Handle w) :
    Calls Tryd.prog 8 #[.int .i64 h, .int .i64 L] w fun e w' => e = .returned (.bool true) ∧ Below w.heap.size w w' := by
  have hbond := bond_any w a (hS.toEnv.sub (fun c h => sub23 h))
  have HBO := hide hbond
  have hEb : ∀ w', Below w.heap.size w w' → Env [2, 3] w' a := fun w' hb => (hS.toEnv.sub (fun c h => sub23 h)).below hb
  have HEB := hide hEb
  clear hbond hEb
  by_cases hbad : badSides h L
  · have HBAD := hide hbad
    clear hbad
    go_enter Tryd.func8, Tryd.ntmps8
    go_wp2_with (first
      | (go_at_call 11; refine HBO.out.mono ?_; rintro e w1 ⟨rfl, hb1⟩; have hz1 : w.heap.size ≤ w1.heap.size := hb1.size)
      | (go_at_call 32; refine (sidesErr_bad h L w1 HBAD.out).mono ?_; rintro e w2 ⟨rfl, rfl⟩)
      | (go_at_call 25
         refine Calls.mono (grid_bad h L _ a (HEB.out _ (hb1.alloc hz1 _)) HBAD.out) ?_
         rintro e w3 ⟨rfl, hb3⟩
         have hb3' : Below w.heap.size w w3 := (hb1.alloc hz1 _).trans (hb3.mono (by simp; omega))
         have hz3 : w.heap.size ≤ w3.heap.size := hb3'.size
         unfold errAt)
      | (go_at_call 27
         refine Calls.mono (coded_two (w3.alloc (.cells #[.int .i64 0, .slice none 0 0] 35)) a (hS.below (hb3'.alloc hz3 _)) (hH.below (hb3'.alloc hz3 _))) ?_
         rintro e w4 ⟨rfl, hb4⟩
         obtain ⟨k1, k2⟩ := below_cells hb4
         have hz4 : w3.heap.size < w4.heap.size := by have := hb4.size; simp at this; omega))
    go_ret
    exact ⟨rfl, (hb3'.alloc hz3 _).trans (hb4.mono (by simp; omega))⟩
  · have hb := hbad
    unfold badSides at hb
    obtain ⟨h, rfl⟩ := Int.eq_ofNat_of_zero_le (show 0 ≤ h by omega)
    obtain ⟨L, rfl⟩ := Int.eq_ofNat_of_zero_le (show 0 ≤ L by omega)
    have g0 : 2 ≤ h := by omega
    have g1 : h ≤ 4 := by omega
    have g2 : 2 ≤ L := by omega
    have g3 : L ≤ 12 := by omega
    have HBAD := hide hbad
    clear hbad hb
    have hmk := fun w' hE => grid_ok h L w' a hE HBAD.out
    have href := fun w' => strip_ok h L false w' (by omega) (by omega)
    obtain ⟨q, hq, hq'⟩ := prod_small (a := (h : Int)) (b := (L : Int)) (m := 4) (n := 12) (by omega) (by omega) (by omega) (by omega)
    rw [stripOf_grid] at href
    rw [hq] at hmk
    generalize hll : upto (gridAt h L) h L 0 = l at hmk href
    clear hll
    have Hgrid := hide hmk
    have HRF := hide href
    clear hmk href
    by_cases hv : vcode ((q : Int)) l = 0
    · have HV := hide hv
      clear hv
      go_enter Tryd.func8, Tryd.ntmps8
      go_wp2_with (first
        | (go_at_call 11; refine HBO.out.mono ?_; rintro e w1 ⟨rfl, hb1⟩; have hz1 : w.heap.size ≤ w1.heap.size := hb1.size)
        | (go_at_call 32; refine (sidesErr_good h L w1 HBAD.out).mono ?_; rintro e w2 ⟨rfl, rfl⟩)
        | (go_at_call 33
           refine Calls.mono (HRF.out (w1.alloc (.cells #[.int .i64 0, .slice none 0 0] 24))) ?_
           intro e w2 hpost
           obtain ⟨A2, c2, rfl, hP2, hc2, hb2, hF2⟩ := hpost
           have hb2' : Below w.heap.size w w2 := (hb1.alloc hz1 _).trans (hb2.mono (by simp; omega))
           have hz2 : w1.heap.size < w2.heap.size := by have := hb2.size; simp at this; omega
           obtain ⟨k3, k4⟩ := below_cells hb2
           have t0 : w2.cell? ⟨w1.heap.size, 0, none⟩ = some (.int .i64 0) := by rw [k3 _ _ (by simp)]; go_simp
           have t1 : w2.cell? ⟨w1.heap.size, 1, none⟩ = some (.slice none 0 0) := by rw [k3 _ _ (by simp)]; go_simp
           have t2 : w2.frozen? ⟨w1.heap.size, 0, none⟩ = false := by rw [k4 _ _ (by simp)]; go_simp
           have t3 : w2.frozen? ⟨w1.heap.size, 1, none⟩ = false := by rw [k4 _ _ (by simp)]; go_simp
           clear k3 k4)
        | (go_at_call 13
           obtain ⟨W3, hW3⟩ : ∃ W3 : World, W3 = (w2.setCell ⟨w1.heap.size, 0, none⟩ (.int .i64 ((q : Int)))).setCell ⟨w1.heap.size, 1, none⟩ (.slice A2 l.length c2) := ⟨_, rfl⟩
           have hP3 : Pairs W3 A2 l := by rw [hW3]; exact (hP2.setOther (fun k hk => by have := hF2 k hk; simp at this; omega) _ _).setOther (fun k hk => by have := hF2 k hk; simp at this; omega) _ _
           have hb3 : Below w.heap.size w W3 := by rw [hW3]; exact (hb2'.setCell hz1 _).setCell hz1 _
           have hz3 : w1.heap.size < W3.heap.size := by rw [hW3, nblk_setCell, nblk_setCell]; exact hz2
           have u0 : W3.cell? ⟨w1.heap.size, 0, none⟩ = some (.int .i64 ((q : Int))) := by rw [hW3, World.cell?_setCell_other _ _ _ _ (by simp)]; exact World.cell?_setCell_same _ _ _ t0
           have u1 : W3.cell? ⟨w1.heap.size, 1, none⟩ = some (.slice A2 l.length c2) := by rw [hW3]; exact World.cell?_setCell_same _ _ _ ((World.cell?_setCell_other _ _ _ _ (by simp)).trans t1)
           rw [← hW3]
           refine Calls.mono (sysErr_any ((q : Int)) A2 l c2 W3 hP3) ?_
           rw [HV.out]
           rintro e w4 ⟨rfl, hb4⟩
           have hb4' : Below w.heap.size w w4 := hb3.trans (hb4.mono hb3.size)
           have hP4 := hP3.below hb4
           obtain ⟨k5, k6⟩ := below_cells hb4
           have v0 : w4.cell? ⟨w1.heap.size, 0, none⟩ = some (.int .i64 ((q : Int))) := by rw [k5 _ _ hz3]; exact u0
           have v1 : w4.cell? ⟨w1.heap.size, 1, none⟩ = some (.slice A2 l.length c2) := by rw [k5 _ _ hz3]; exact u1
           have hz4 : w1.heap.size < w4.heap.size := Nat.lt_of_lt_of_le hz3 hb4.size
           clear k5 k6 t0 t1 t2 t3 u0 u1)
        | (go_at_call 25
           refine Calls.mono (Hgrid.out w4 (HEB.out w4 hb4')) ?_
           intro e w5 hpost
           obtain ⟨hb5, hpost⟩ := hpost
           have hpost' := hpost.resolve_right (fun hx => hx.1 HV.out)
           obtain ⟨_, A5, c5, rfl, hP5, hc5⟩ := hpost'
           have hb5' : Below w.heap.size w w5 := hb4'.trans (hb5.mono hb4'.size)
           have hP45 := hP4.below hb5
           obtain ⟨k7, k8⟩ := below_cells hb5
           have w0' : w5.cell? ⟨w1.heap.size, 0, none⟩ = some (.int .i64 ((q : Int))) := by rw [k7 _ _ hz4]; exact v0
           have w1' : w5.cell? ⟨w1.heap.size, 1, none⟩ = some (.slice A2 l.length c2) := by rw [k7 _ _ hz4]; exact v1
           have hz5 : w1.heap.size < w5.heap.size := Nat.lt_of_lt_of_le hz4 hb5.size
           have hz5' : w.heap.size ≤ w5.heap.size := hb5'.size
           clear k7 k8 v0 v1 hpost)
        | (go_at_call 34
           refine Calls.mono (sameBonds_ok A5 A2 l c5 c2 (w5.alloc (.cells #[.int .i64 ((q : Int)), .slice A5 l.length c5] 35)) (hP5.below (below_alloc' (Below.refl _ _) _)) (hP45.below (below_alloc' (Below.refl _ _) _))) ?_
           rintro e w6 ⟨rfl, hb6⟩))
      go_ret
      exact ⟨rfl, (hb5'.alloc hz5' _).trans (hb6.mono (by simp; omega))⟩
    · obtain ⟨cd, hcd, hc8⟩ := vcode_nat ((q : Int)) l
      have hc0 : 0 < cd := by
        rcases Nat.eq_zero_or_pos cd with h | h
        · subst h; exact absurd hcd hv
        · exact h
      have HV := hide hv
      have HCD := hide hcd
      clear hv hcd
      go_enter Tryd.func8, Tryd.ntmps8
      go_wp2_with (first
        | (go_at_call 11; refine HBO.out.mono ?_; rintro e w1 ⟨rfl, hb1⟩; have hz1 : w.heap.size ≤ w1.heap.size := hb1.size)
        | (go_at_call 32; refine (sidesErr_good h L w1 HBAD.out).mono ?_; rintro e w2 ⟨rfl, rfl⟩)
        | (go_at_call 33
           refine Calls.mono (HRF.out (w1.alloc (.cells #[.int .i64 0, .slice none 0 0] 24))) ?_
           intro e w2 hpost
           obtain ⟨A2, c2, rfl, hP2, hc2, hb2, hF2⟩ := hpost
           have hb2' : Below w.heap.size w w2 := (hb1.alloc hz1 _).trans (hb2.mono (by simp; omega))
           have hz2 : w1.heap.size < w2.heap.size := by have := hb2.size; simp at this; omega
           obtain ⟨k3, k4⟩ := below_cells hb2
           have t0 : w2.cell? ⟨w1.heap.size, 0, none⟩ = some (.int .i64 0) := by rw [k3 _ _ (by simp)]; go_simp
           have t1 : w2.cell? ⟨w1.heap.size, 1, none⟩ = some (.slice none 0 0) := by rw [k3 _ _ (by simp)]; go_simp
           have t2 : w2.frozen? ⟨w1.heap.size, 0, none⟩ = false := by rw [k4 _ _ (by simp)]; go_simp
           have t3 : w2.frozen? ⟨w1.heap.size, 1, none⟩ = false := by rw [k4 _ _ (by simp)]; go_simp
           clear k3 k4)
        | (go_at_call 13
           obtain ⟨W3, hW3⟩ : ∃ W3 : World, W3 = (w2.setCell ⟨w1.heap.size, 0, none⟩ (.int .i64 ((q : Int)))).setCell ⟨w1.heap.size, 1, none⟩ (.slice A2 l.length c2) := ⟨_, rfl⟩
           have hP3 : Pairs W3 A2 l := by rw [hW3]; exact (hP2.setOther (fun k hk => by have := hF2 k hk; simp at this; omega) _ _).setOther (fun k hk => by have := hF2 k hk; simp at this; omega) _ _
           have hb3 : Below w.heap.size w W3 := by rw [hW3]; exact (hb2'.setCell hz1 _).setCell hz1 _
           have hz3 : w1.heap.size < W3.heap.size := by rw [hW3, nblk_setCell, nblk_setCell]; exact hz2
           have u0 : W3.cell? ⟨w1.heap.size, 0, none⟩ = some (.int .i64 ((q : Int))) := by rw [hW3, World.cell?_setCell_other _ _ _ _ (by simp)]; exact World.cell?_setCell_same _ _ _ t0
           have u1 : W3.cell? ⟨w1.heap.size, 1, none⟩ = some (.slice A2 l.length c2) := by rw [hW3]; exact World.cell?_setCell_same _ _ _ ((World.cell?_setCell_other _ _ _ _ (by simp)).trans t1)
           rw [← hW3]
           refine Calls.mono (sysErr_any ((q : Int)) A2 l c2 W3 hP3) ?_
           rw [HCD.out]
           rintro e w4 ⟨rfl, hb4⟩
           have hb4' : Below w.heap.size w w4 := hb3.trans (hb4.mono hb3.size)
           have hP4 := hP3.below hb4
           obtain ⟨k5, k6⟩ := below_cells hb4
           have hz4 : w1.heap.size < w4.heap.size := Nat.lt_of_lt_of_le hz3 hb4.size
           clear k5 k6 t0 t1 t2 t3 u0 u1)
        | (go_at_call 25
           refine Calls.mono (Hgrid.out w4 (HEB.out w4 hb4')) ?_
           intro e w5 hpost
           obtain ⟨hb5, hpost⟩ := hpost
           have hpost' := hpost.resolve_left (fun hx => HV.out hx.1)
           obtain ⟨_, rfl⟩ := hpost'
           have hb3' : Below w.heap.size w w5 := hb4'.trans (hb5.mono hb4'.size)
           have hz3' : w.heap.size ≤ w5.heap.size := hb3'.size
           unfold errAt
           clear hpost)
        | (go_at_call 27
           refine Calls.mono (coded_two (w5.alloc (.cells #[.int .i64 0, .slice none 0 0] 35)) a (hS.below (hb3'.alloc hz3' _)) (hH.below (hb3'.alloc hz3' _))) ?_
           rintro e w6 ⟨rfl, hb6⟩
           obtain ⟨k1, k2⟩ := below_cells hb6
           have hz6 : w5.heap.size < w6.heap.size := by have := hb6.size; simp at this; omega))
      go_ret
      exact ⟨rfl, (hb3'.alloc hz3' _).trans (hb6.mono (by simp; omega))⟩
end Go.Proofs.YtngogonepjicpaaDoor
