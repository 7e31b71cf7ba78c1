/- The walks of ising.Grid and ising.Faces. No condition. -/
import Derived.Test.YtngogonepjicpaaDoorGr5
import Derived.Test.YtngogonepjicpaaDoorIs8
namespace Go.Proofs.YtngogonepjicpaaDoor
open Go.RowKit Go.Deep

theorem Pairs.setOther {w : World} {A : Option Addr} {l : List (Int × Int)} {n c B : Nat} (h : Pairs w A l) (hB : ∀ k, (Value.slice A n c).ownBlock = some k → k ≠ B) (o : Nat) (v : Value) : Pairs (w.setCell ⟨B, o, none⟩ v) A l :=
  ⟨h.len, fun i hi => by
    obtain ⟨b, off, rfl, h1, h2, h3⟩ := h.at_ i hi
    have hne : b ≠ B := hB b rfl
    exact ⟨b, off, rfl, by rw [nblk_setCell]; exact h1, (World.cell?_setCell_far _ _ _ _ (by show B ≠ b; omega)).trans h2, (World.cell?_setCell_far _ _ _ _ (by show B ≠ b; omega)).trans h3⟩⟩
theorem grown_cells2 {w w' : World} {g : Nat} (hg : w.grownBy w' (some g)) : (∀ b o, b < w.heap.size → b ≠ g → w'.cell? ⟨b, o, none⟩ = w.cell? ⟨b, o, none⟩) ∧ (∀ b o, b < w.heap.size → b ≠ g → w'.frozen? ⟨b, o, none⟩ = w.frozen? ⟨b, o, none⟩) :=
  ⟨fun b o h hne => World.cell?_of_block (hg.block b h (by simp [hne])), fun b o h hne => World.frozen?_of_block (hg.block b h (by simp [hne]))⟩

/-- what the maker hands back where there is no system -/
theorem grid_bad (h L : Int) (w : World) (a : Nat → Addr) (hE : Env [2, 3] w a) (hb : badSides h L) :
    Calls Tryd.prog 25 #[.int .i64 h, .int .i64 L] w fun e w' => e = .returned (.tuple #[.agg #[.int .i64 0, .slice none 0 0], errAt (a 2)]) ∧ Below w.heap.size w w' := by
  have hs := sides_bad h L (w.alloc (.cells #[.int .i64 0, .slice none 0 0] 35)) a (hE.below (below_alloc' (Below.refl _ _) _)) hb
  have HS := hide hs
  clear hs hb
  unfold errAt at *
  generalize a 2 = a2 at *
  go_enter Tryd.func25, Tryd.ntmps25
  go_wp2_with (go_at_call 47; refine HS.out.mono ?_; rintro e w1 ⟨rfl, rfl⟩)
  refine bodyPost_ret (v := .tuple #[.agg #[.int .i64 0, .slice none 0 0], .iface 127 (.pointer (some a2))]) (by simp [results, Tryd.results25, go_sem]) rfl ?_
  exact ⟨rfl, below_alloc' (Below.refl _ _) _⟩
set_option maxHeartbeats 1000000 in
theorem grid_ok (h L : Nat) (w : World) (a : Nat → Addr) (hE : Env [2, 3] w a) (hb : ¬ badSides h L) :
    Calls Tryd.prog 25 #[.int .i64 h, .int .i64 L] w fun e w' => Below w.heap.size w w' ∧ ((vcode ((h : Int) * L) (upto (gridAt h L) h L 0) = 0 ∧ ∃ A c, e = .returned (.tuple #[.agg #[.int .i64 ((h : Int) * L), .slice A (upto (gridAt h L) h L 0).length c], .nilIface]) ∧ Pairs w' A (upto (gridAt h L) h L 0) ∧ (upto (gridAt h L) h L 0).length ≤ c) ∨ (vcode ((h : Int) * L) (upto (gridAt h L) h L 0) ≠ 0 ∧ e = .returned (.tuple #[.agg #[.int .i64 0, .slice none 0 0], errAt (a 2)]))) := by
  have hs := sides_good h L (w.alloc (.cells #[.int .i64 0, .slice none 0 0] 35)) hb
  have HS := hide hs
  unfold badSides at hb
  have g0 : 2 ≤ h := by omega
  have g1 : h ≤ 4 := by omega
  have g2 : 2 ≤ L := by omega
  have g3 : L ≤ 12 := by omega
  clear hs hb
  have hmf : ∀ (fn : Fn) (first cap : Array Value) (w : World), (Instr.makeFunc fn first cap).run Tryd.prog w = .ok (.func fn first cap) w := fun _ _ _ _ => rfl
  obtain ⟨q, hq, hq'⟩ := prod_small (a := (h : Int)) (b := (L : Int)) (m := 4) (n := 12) (by omega) (by omega) (by omega) (by omega)
  rw [hq]
  have hBO := bondsGrid_ok h L
  generalize upto (gridAt h L) h L 0 = l at *
  have HBO := hBO ((w.alloc (.cells #[.int .i64 0, .slice none 0 0] 35)).alloc (.cells #[.int .i64 ((q : Int)), .slice none 0 0] 35)) (w.heap.size + 1) ((q : Int)) (by
    have := heap_alloc_new (w.alloc (.cells #[.int .i64 0, .slice none 0 0] 35)) (.cells #[.int .i64 ((q : Int)), .slice none 0 0] 35)
    simpa using this) (by omega) (by omega) (by omega) (by omega)
  have HB := hide HBO
  clear HBO hBO
  have hEb : ∀ w', Below w.heap.size w w' → Env [2, 3] w' a := fun w' hb => hE.below hb
  have HEB := hide hEb
  clear hEb
  by_cases hv : vcode ((q : Int)) l = 0
  · have HV := hide hv
    clear hv
    go_enter Tryd.func25, Tryd.ntmps25
    go_wp2_with (first
      | (go_at_call 47; refine HS.out.mono ?_; rintro e w1 ⟨rfl, rfl⟩)
      | (go_at_call 48
         refine Calls.mono HB.out ?_
         intro e w2 hpost
         obtain ⟨rfl, A, c, hB2, hP2, hc2, hG2, hF2⟩ := hpost
         obtain ⟨y0, y1, y2, y3⟩ := two_cells hB2
         obtain ⟨k1, k2⟩ := grown_cells2 hG2
         have hz2 : w.heap.size + 1 < w2.heap.size := by have := hG2.size; simp at this; omega
         have hz2' : w.heap.size < w2.heap.size := by omega
         have hb2 : Below w.heap.size w w2 := (below_alloc' (below_alloc' (Below.refl _ _) _) _).grown hG2 (by simp; omega) (fun k hk => by injection hk; omega)
         have z0 : w2.frozen? ⟨w.heap.size, 0, none⟩ = false := by rw [k2 _ _ (by simp; omega) (by omega)]; go_simp
         have z1 : w2.frozen? ⟨w.heap.size, 1, none⟩ = false := by rw [k2 _ _ (by simp; omega) (by omega)]; go_simp
         have z2 : w2.cell? ⟨w.heap.size, 0, none⟩ = some (.int .i64 0) := by rw [k1 _ _ (by simp; omega) (by omega)]; go_simp
         have z3 : w2.cell? ⟨w.heap.size, 1, none⟩ = some (.slice none 0 0) := by rw [k1 _ _ (by simp; omega) (by omega)]; go_simp
         clear k1 k2)
      | (go_at_call 28
         have hv := valid_any ((q : Int)) A l c w2 a (HEB.out w2 hb2) hP2
         rw [HV.out, errC_zero] at hv
         refine hv.mono ?_
         rintro e w3 ⟨rfl, hb3⟩
         obtain ⟨k3, k4⟩ := below_cells hb3))
    have t0 : w3.cell? ⟨w.heap.size, 0, none⟩ = some (.int .i64 0) := by rw [k3 _ _ hz2']; exact z2
    have t1 : w3.cell? ⟨w.heap.size, 1, none⟩ = some (.slice none 0 0) := by rw [k3 _ _ hz2']; exact z3
    have u0 : (w3.setCell ⟨w.heap.size, 0, none⟩ (.int .i64 ((q : Int)))).cell? ⟨w.heap.size, 0, none⟩ = some (.int .i64 ((q : Int))) := World.cell?_setCell_same _ _ _ t0
    have u1 : ((w3.setCell ⟨w.heap.size, 0, none⟩ (.int .i64 ((q : Int)))).setCell ⟨w.heap.size, 1, none⟩ (.slice A l.length c)).cell? ⟨w.heap.size, 1, none⟩ = some (.slice A l.length c) := World.cell?_setCell_same _ _ _ ((World.cell?_setCell_other _ _ _ _ (by simp)).trans t1)
    refine bodyPost_ret (v := .tuple #[.agg #[.int .i64 ((q : Int)), .slice A l.length c], .nilIface]) (by simp [results, Tryd.results25, go_sem, u0, u1]) rfl ?_
    have hb3' : Below w.heap.size w w3 := hb2.trans (hb3.mono (by omega))
    refine ⟨(hb3'.setCell (Nat.le_refl _) _).setCell (Nat.le_refl _) _, .inl ⟨HV.out, A, c, rfl, ?_, hc2⟩⟩
    exact ((hP2.below hb3).setOther (fun k hk => by have := hF2 k hk; simp at this; omega) _ _).setOther (fun k hk => by have := hF2 k hk; simp at this; omega) _ _
  · have hve := errC_some a _ hv
    have HV := hide hve
    have HVN := hide hv
    clear hv hve
    unfold errAt
    have x2 : w.cell? ⟨0, 0, none⟩ = some (.iface 127 (.pointer (some (a 2)))) := hE.cell 2 (by simp)
    have hgl := hE.lt (c := 2) (by simp)
    have hgl' : 0 < w.heap.size := hgl
    clear hgl
    go_enter Tryd.func25, Tryd.ntmps25
    go_wp2_with (first
      | (go_at_call 47; refine HS.out.mono ?_; rintro e w1 ⟨rfl, rfl⟩)
      | (go_at_call 48
         refine Calls.mono HB.out ?_
         intro e w2 hpost
         obtain ⟨rfl, A, c, hB2, hP2, hc2, hG2, hF2⟩ := hpost
         obtain ⟨y0, y1, y2, y3⟩ := two_cells hB2
         obtain ⟨k1, k2⟩ := grown_cells2 hG2
         have hz2 : w.heap.size + 1 < w2.heap.size := by have := hG2.size; simp at this; omega
         have hz2' : w.heap.size < w2.heap.size := by omega
         have hb2 : Below w.heap.size w w2 := (below_alloc' (below_alloc' (Below.refl _ _) _) _).grown hG2 (by simp; omega) (fun k hk => by injection hk; omega)
         have z0 : w2.frozen? ⟨w.heap.size, 0, none⟩ = false := by rw [k2 _ _ (by simp; omega) (by omega)]; go_simp
         have z1 : w2.frozen? ⟨w.heap.size, 1, none⟩ = false := by rw [k2 _ _ (by simp; omega) (by omega)]; go_simp
         have z2 : w2.cell? ⟨w.heap.size, 0, none⟩ = some (.int .i64 0) := by rw [k1 _ _ (by simp; omega) (by omega)]; go_simp
         have z3 : w2.cell? ⟨w.heap.size, 1, none⟩ = some (.slice none 0 0) := by rw [k1 _ _ (by simp; omega) (by omega)]; go_simp
         have z4 : w2.cell? ⟨0, 0, none⟩ = some (.iface 127 (.pointer (some (a 2)))) := (hb2.cell (p := ⟨0, 0, none⟩) hgl').trans x2
         have hgl2 : 0 < w2.heap.size := by omega
         clear k1 k2)
      | (go_at_call 28
         have hv := valid_any ((q : Int)) A l c w2 a (HEB.out w2 hb2) hP2
         rw [HV.out] at hv
         refine hv.mono ?_
         rintro e w3 ⟨rfl, hb3⟩
         obtain ⟨k3, k4⟩ := below_cells hb3))
    have t0 : w3.cell? ⟨w.heap.size, 0, none⟩ = some (.int .i64 0) := by rw [k3 _ _ hz2']; exact z2
    have t1 : w3.cell? ⟨w.heap.size, 1, none⟩ = some (.slice none 0 0) := by rw [k3 _ _ hz2']; exact z3
    have t2 : w3.frozen? ⟨w.heap.size, 0, none⟩ = false := by rw [k4 _ _ hz2']; exact z0
    have t3 : w3.frozen? ⟨w.heap.size, 1, none⟩ = false := by rw [k4 _ _ hz2']; exact z1
    have t4 : w3.cell? ⟨0, 0, none⟩ = some (.iface 127 (.pointer (some (a 2)))) := by rw [k3 _ _ hgl2]; exact z4
    have hb3' : Below w.heap.size w w3 := hb2.trans (hb3.mono (by omega))
    clear k3 k4
    go_region
    go_wp2_with (fail)
    have u0 : (w3.setCell ⟨w.heap.size, 0, none⟩ (.int .i64 0)).cell? ⟨w.heap.size, 0, none⟩ = some (.int .i64 0) := World.cell?_setCell_same _ _ _ t0
    have u1 : ((w3.setCell ⟨w.heap.size, 0, none⟩ (.int .i64 0)).setCell ⟨w.heap.size, 1, none⟩ (.slice none 0 0)).cell? ⟨w.heap.size, 1, none⟩ = some (.slice none 0 0) := World.cell?_setCell_same _ _ _ ((World.cell?_setCell_other _ _ _ _ (by simp)).trans t1)
    refine bodyPost_ret (v := .tuple #[.agg #[.int .i64 0, .slice none 0 0], .iface 127 (.pointer (some (a 2)))]) (by simp [results, Tryd.results25, go_sem, u0, u1]) rfl ?_
    exact ⟨below_drewN' ((hb3'.setCell (Nat.le_refl _) _).setCell (Nat.le_refl _) _) 1, .inr ⟨HVN.out, rfl⟩⟩

/-- what the maker hands back where there is no system -/
theorem faces_bad (h L : Int) (w : World) (a : Nat → Addr) (hE : Env [2, 3] w a) (hb : badSides h L) :
    Calls Tryd.prog 26 #[.int .i64 h, .int .i64 L] w fun e w' => e = .returned (.tuple #[.agg #[.int .i64 0, .slice none 0 0], errAt (a 2)]) ∧ Below w.heap.size w w' := by
  have hs := sides_bad h L (w.alloc (.cells #[.int .i64 0, .slice none 0 0] 35)) a (hE.below (below_alloc' (Below.refl _ _) _)) hb
  have HS := hide hs
  clear hs hb
  unfold errAt at *
  generalize a 2 = a2 at *
  go_enter Tryd.func26, Tryd.ntmps26
  go_wp2_with (go_at_call 47; refine HS.out.mono ?_; rintro e w1 ⟨rfl, rfl⟩)
  refine bodyPost_ret (v := .tuple #[.agg #[.int .i64 0, .slice none 0 0], .iface 127 (.pointer (some a2))]) (by simp [results, Tryd.results26, go_sem]) rfl ?_
  exact ⟨rfl, below_alloc' (Below.refl _ _) _⟩
set_option maxHeartbeats 1000000 in
theorem faces_ok (h L : Nat) (w : World) (a : Nat → Addr) (hE : Env [2, 3] w a) (hb : ¬ badSides h L) :
    Calls Tryd.prog 26 #[.int .i64 h, .int .i64 L] w fun e w' => Below w.heap.size w w' ∧ ((vcode (((h : Int) - 1) * ((L : Int) - 1) + 1) (upto (faceAt h L) h L 0) = 0 ∧ ∃ A c, e = .returned (.tuple #[.agg #[.int .i64 (((h : Int) - 1) * ((L : Int) - 1) + 1), .slice A (upto (faceAt h L) h L 0).length c], .nilIface]) ∧ Pairs w' A (upto (faceAt h L) h L 0) ∧ (upto (faceAt h L) h L 0).length ≤ c) ∨ (vcode (((h : Int) - 1) * ((L : Int) - 1) + 1) (upto (faceAt h L) h L 0) ≠ 0 ∧ e = .returned (.tuple #[.agg #[.int .i64 0, .slice none 0 0], errAt (a 2)]))) := by
  have hs := sides_good h L (w.alloc (.cells #[.int .i64 0, .slice none 0 0] 35)) hb
  have HS := hide hs
  unfold badSides at hb
  have g0 : 2 ≤ h := by omega
  have g1 : h ≤ 4 := by omega
  have g2 : 2 ≤ L := by omega
  have g3 : L ≤ 12 := by omega
  clear hs hb
  have hmf : ∀ (fn : Fn) (first cap : Array Value) (w : World), (Instr.makeFunc fn first cap).run Tryd.prog w = .ok (.func fn first cap) w := fun _ _ _ _ => rfl
  obtain ⟨q, hq, hq'⟩ := prod_small (a := (h : Int) - 1) (b := (L : Int) - 1) (m := 3) (n := 11) (by omega) (by omega) (by omega) (by omega)
  rw [hq]
  have hBO := bondsFaces_ok h L
  generalize upto (faceAt h L) h L 0 = l at *
  have HBO := hBO ((w.alloc (.cells #[.int .i64 0, .slice none 0 0] 35)).alloc (.cells #[.int .i64 ((q : Int) + 1), .slice none 0 0] 35)) (w.heap.size + 1) ((q : Int) + 1) (by
    have := heap_alloc_new (w.alloc (.cells #[.int .i64 0, .slice none 0 0] 35)) (.cells #[.int .i64 ((q : Int) + 1), .slice none 0 0] 35)
    simpa using this) (by omega) (by omega) (by omega) (by omega)
  have HB := hide HBO
  clear HBO hBO
  have hEb : ∀ w', Below w.heap.size w w' → Env [2, 3] w' a := fun w' hb => hE.below hb
  have HEB := hide hEb
  clear hEb
  by_cases hv : vcode ((q : Int) + 1) l = 0
  · have HV := hide hv
    clear hv
    go_enter Tryd.func26, Tryd.ntmps26
    go_wp2_with (first
      | (go_at_call 47; refine HS.out.mono ?_; rintro e w1 ⟨rfl, rfl⟩)
      | (go_at_call 48
         refine Calls.mono HB.out ?_
         intro e w2 hpost
         obtain ⟨rfl, A, c, hB2, hP2, hc2, hG2, hF2⟩ := hpost
         obtain ⟨y0, y1, y2, y3⟩ := two_cells hB2
         obtain ⟨k1, k2⟩ := grown_cells2 hG2
         have hz2 : w.heap.size + 1 < w2.heap.size := by have := hG2.size; simp at this; omega
         have hz2' : w.heap.size < w2.heap.size := by omega
         have hb2 : Below w.heap.size w w2 := (below_alloc' (below_alloc' (Below.refl _ _) _) _).grown hG2 (by simp; omega) (fun k hk => by injection hk; omega)
         have z0 : w2.frozen? ⟨w.heap.size, 0, none⟩ = false := by rw [k2 _ _ (by simp; omega) (by omega)]; go_simp
         have z1 : w2.frozen? ⟨w.heap.size, 1, none⟩ = false := by rw [k2 _ _ (by simp; omega) (by omega)]; go_simp
         have z2 : w2.cell? ⟨w.heap.size, 0, none⟩ = some (.int .i64 0) := by rw [k1 _ _ (by simp; omega) (by omega)]; go_simp
         have z3 : w2.cell? ⟨w.heap.size, 1, none⟩ = some (.slice none 0 0) := by rw [k1 _ _ (by simp; omega) (by omega)]; go_simp
         clear k1 k2)
      | (go_at_call 28
         have hv := valid_any ((q : Int) + 1) A l c w2 a (HEB.out w2 hb2) hP2
         rw [HV.out, errC_zero] at hv
         refine hv.mono ?_
         rintro e w3 ⟨rfl, hb3⟩
         obtain ⟨k3, k4⟩ := below_cells hb3))
    have t0 : w3.cell? ⟨w.heap.size, 0, none⟩ = some (.int .i64 0) := by rw [k3 _ _ hz2']; exact z2
    have t1 : w3.cell? ⟨w.heap.size, 1, none⟩ = some (.slice none 0 0) := by rw [k3 _ _ hz2']; exact z3
    have u0 : (w3.setCell ⟨w.heap.size, 0, none⟩ (.int .i64 ((q : Int) + 1))).cell? ⟨w.heap.size, 0, none⟩ = some (.int .i64 ((q : Int) + 1)) := World.cell?_setCell_same _ _ _ t0
    have u1 : ((w3.setCell ⟨w.heap.size, 0, none⟩ (.int .i64 ((q : Int) + 1))).setCell ⟨w.heap.size, 1, none⟩ (.slice A l.length c)).cell? ⟨w.heap.size, 1, none⟩ = some (.slice A l.length c) := World.cell?_setCell_same _ _ _ ((World.cell?_setCell_other _ _ _ _ (by simp)).trans t1)
    refine bodyPost_ret (v := .tuple #[.agg #[.int .i64 ((q : Int) + 1), .slice A l.length c], .nilIface]) (by simp [results, Tryd.results26, go_sem, u0, u1]) rfl ?_
    have hb3' : Below w.heap.size w w3 := hb2.trans (hb3.mono (by omega))
    refine ⟨(hb3'.setCell (Nat.le_refl _) _).setCell (Nat.le_refl _) _, .inl ⟨HV.out, A, c, rfl, ?_, hc2⟩⟩
    exact ((hP2.below hb3).setOther (fun k hk => by have := hF2 k hk; simp at this; omega) _ _).setOther (fun k hk => by have := hF2 k hk; simp at this; omega) _ _
  · have hve := errC_some a _ hv
    have HV := hide hve
    have HVN := hide hv
    clear hv hve
    unfold errAt
    have x2 : w.cell? ⟨0, 0, none⟩ = some (.iface 127 (.pointer (some (a 2)))) := hE.cell 2 (by simp)
    have hgl := hE.lt (c := 2) (by simp)
    have hgl' : 0 < w.heap.size := hgl
    clear hgl
    go_enter Tryd.func26, Tryd.ntmps26
    go_wp2_with (first
      | (go_at_call 47; refine HS.out.mono ?_; rintro e w1 ⟨rfl, rfl⟩)
      | (go_at_call 48
         refine Calls.mono HB.out ?_
         intro e w2 hpost
         obtain ⟨rfl, A, c, hB2, hP2, hc2, hG2, hF2⟩ := hpost
         obtain ⟨y0, y1, y2, y3⟩ := two_cells hB2
         obtain ⟨k1, k2⟩ := grown_cells2 hG2
         have hz2 : w.heap.size + 1 < w2.heap.size := by have := hG2.size; simp at this; omega
         have hz2' : w.heap.size < w2.heap.size := by omega
         have hb2 : Below w.heap.size w w2 := (below_alloc' (below_alloc' (Below.refl _ _) _) _).grown hG2 (by simp; omega) (fun k hk => by injection hk; omega)
         have z0 : w2.frozen? ⟨w.heap.size, 0, none⟩ = false := by rw [k2 _ _ (by simp; omega) (by omega)]; go_simp
         have z1 : w2.frozen? ⟨w.heap.size, 1, none⟩ = false := by rw [k2 _ _ (by simp; omega) (by omega)]; go_simp
         have z2 : w2.cell? ⟨w.heap.size, 0, none⟩ = some (.int .i64 0) := by rw [k1 _ _ (by simp; omega) (by omega)]; go_simp
         have z3 : w2.cell? ⟨w.heap.size, 1, none⟩ = some (.slice none 0 0) := by rw [k1 _ _ (by simp; omega) (by omega)]; go_simp
         have z4 : w2.cell? ⟨0, 0, none⟩ = some (.iface 127 (.pointer (some (a 2)))) := (hb2.cell (p := ⟨0, 0, none⟩) hgl').trans x2
         have hgl2 : 0 < w2.heap.size := by omega
         clear k1 k2)
      | (go_at_call 28
         have hv := valid_any ((q : Int) + 1) A l c w2 a (HEB.out w2 hb2) hP2
         rw [HV.out] at hv
         refine hv.mono ?_
         rintro e w3 ⟨rfl, hb3⟩
         obtain ⟨k3, k4⟩ := below_cells hb3))
    have t0 : w3.cell? ⟨w.heap.size, 0, none⟩ = some (.int .i64 0) := by rw [k3 _ _ hz2']; exact z2
    have t1 : w3.cell? ⟨w.heap.size, 1, none⟩ = some (.slice none 0 0) := by rw [k3 _ _ hz2']; exact z3
    have t2 : w3.frozen? ⟨w.heap.size, 0, none⟩ = false := by rw [k4 _ _ hz2']; exact z0
    have t3 : w3.frozen? ⟨w.heap.size, 1, none⟩ = false := by rw [k4 _ _ hz2']; exact z1
    have t4 : w3.cell? ⟨0, 0, none⟩ = some (.iface 127 (.pointer (some (a 2)))) := by rw [k3 _ _ hgl2]; exact z4
    have hb3' : Below w.heap.size w w3 := hb2.trans (hb3.mono (by omega))
    clear k3 k4
    go_region
    go_wp2_with (fail)
    have u0 : (w3.setCell ⟨w.heap.size, 0, none⟩ (.int .i64 0)).cell? ⟨w.heap.size, 0, none⟩ = some (.int .i64 0) := World.cell?_setCell_same _ _ _ t0
    have u1 : ((w3.setCell ⟨w.heap.size, 0, none⟩ (.int .i64 0)).setCell ⟨w.heap.size, 1, none⟩ (.slice none 0 0)).cell? ⟨w.heap.size, 1, none⟩ = some (.slice none 0 0) := World.cell?_setCell_same _ _ _ ((World.cell?_setCell_other _ _ _ _ (by simp)).trans t1)
    refine bodyPost_ret (v := .tuple #[.agg #[.int .i64 0, .slice none 0 0], .iface 127 (.pointer (some (a 2)))]) (by simp [results, Tryd.results26, go_sem, u0, u1]) rfl ?_
    exact ⟨below_drewN' ((hb3'.setCell (Nat.le_refl _) _).setCell (Nat.le_refl _) _) 1, .inr ⟨HVN.out, rfl⟩⟩
end Go.Proofs.YtngogonepjicpaaDoor
