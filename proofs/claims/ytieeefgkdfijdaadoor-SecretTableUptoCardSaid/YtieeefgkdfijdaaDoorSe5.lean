/- The walks of secret.Perfect and the closed fact pad. No condition. -/
import Derived.Test.YtieeefgkdfijdaaDoorSe4
import Derived.Test.YtieeefgkdfijdaaDoorCode
namespace Go.Proofs.YtieeefgkdfijdaaDoor
open Go.RowKit Go.Deep

/-- are all rows like the first one? -/
def isPerfect (t : List (List Int)) : Bool := t.all fun r => decide (r = t.getD 0 [])
theorem top_nat {K : List Int} {L : List (List Int)} (hg : GoodCipher K L) : ∃ N : Nat, (N : Int) = topOf L.flatten 0 := ⟨(topOf L.flatten 0).toNat, by have := hg.top; omega⟩
theorem signs_lists {K : List Int} {L : List (List Int)} (N : Nat) (hN : (N : Int) = topOf L.flatten 0) :
    ((List.range (L.getD 0 []).length).map fun j => (List.range (N + 1)).map fun i => sgn K L j (i : Nat) L.length) = signsOf K L := by
  unfold signsOf signTab signRow
  rw [← hN]
  rfl
theorem signs_row (K : List Int) (L : List (List Int)) (N : Nat) (hN : (N : Int) = topOf L.flatten 0) (m : Nat) (hm : m < (L.getD 0 []).length) : (signsOf K L).getD m [] = (List.range (N + 1)).map fun i => sgn K L m (i : Nat) L.length := by
  rw [← signs_lists N hN, getD_eq _ _ _ (by simpa using hm), List.getElem_map, List.getElem_range]
theorem signsOf_len (K : List Int) (L : List (List Int)) : (signsOf K L).length = (L.getD 0 []).length := by simp [signsOf, signTab]

set_option maxRecDepth 100000 in
set_option maxHeartbeats 4000000 in
theorem perfect_err (Ka La : Option Addr) (K : List Int) (L : List (List Int)) (kc lc : Nat) (w : World) (a : Nat → Addr) (hE : Env [2, 3] w a) (hK : Ints w Ka K) (hL : Lists w La L) (h : ccode K L ≠ 0) :
    Calls Tryd.prog 22 #[.agg #[.slice Ka K.length kc, .slice La L.length lc]] w fun e w' => e = .returned (.tuple #[.bool false, errC a (ccode K L)]) ∧ Below w.heap.size w w' := by
  have hv := fun w' (hb : Below w.heap.size w w') => secValid_any Ka La K L kc lc w' a (hE.below hb) (hK.below hb) (hL.below hb)
  rw [errC_pos a _ h] at hv ⊢
  have HV := hide hv
  clear hv h
  generalize a (ccode K L).toNat = a0 at HV ⊢
  go_enter Tryd.func22, Tryd.ntmps22
  go_wp2_with (go_at_call 25; refine Calls.mono (HV.out _ (by first | exact Below.refl _ _ | exact below_alloc' (Below.refl _ _) _)) ?_; rintro e w1 ⟨rfl, hb1⟩)
  go_ret2
  exact ⟨rfl, below_trans (below_alloc' (Below.refl _ _) _) hb1⟩

set_option maxRecDepth 100000 in
set_option maxHeartbeats 4000000 in
theorem perfect_ok (Ka La : Option Addr) (K : List Int) (L : List (List Int)) (kc lc : Nat) (w : World) (a : Nat → Addr) (hE : Env [2, 3] w a) (hK : Ints w Ka K) (hL : Lists w La L) (hg : GoodCipher K L) (h0 : ccode K L = 0) :
    Calls Tryd.prog 22 #[.agg #[.slice Ka K.length kc, .slice La L.length lc]] w fun e w' => e = .returned (.tuple #[.bool (isPerfect (signsOf K L)), .nilIface]) ∧ Below w.heap.size w w' := by
  obtain ⟨N, hN⟩ := top_nat hg
  have hv := fun w' (hb : Below w.heap.size w w') => secValid_any Ka La K L kc lc w' a (hE.below hb) (hK.below hb) (hL.below hb)
  rw [h0, errC_zero] at hv
  have HV := hide hv
  have hsi := fun w' (hb : Below w.heap.size w w') => signs_ok Ka La K L kc lc w' (hK.below hb) (hL.below hb) hg N hN
  have hM0 := (hg.row 0 (by have := (keys_good hg.keys).2.2.2; have := hg.len; omega)).pos
  have hM16 := (hg.row 0 (by have := (keys_good hg.keys).2.2.2; have := hg.len; omega)).most
  have hT15 := hg.top
  rw [← hN] at hT15
  have hrows := fun m hm => signs_row K L N hN m hm
  have htl := signsOf_len K L
  generalize (L.getD 0 []).length = M at hsi hM0 hM16 hrows htl
  have HSI := hide hsi
  have HROWS := hide hrows
  have HTL := hide htl
  clear hv hsi hrows htl
  have HN := hide hN
  clear h0 hg hN
  go_enter Tryd.func22, Tryd.ntmps22
  go_wp2_with (first
    | (go_at_call 25; refine Calls.mono (HV.out _ (by first | exact Below.refl _ _ | exact below_alloc' (Below.refl _ _) _)) ?_; rintro e w1 ⟨rfl, hb1⟩; obtain ⟨k1, k2⟩ := below_cells hb1
       have hz1 : w.heap.size < w1.heap.size := by (have := hb1.size; simp at this; omega)
       have y0 : w1.cell? ⟨w.heap.size, 0, none⟩ = some (.slice Ka K.length kc) := by rw [k1 _ _ (by simp)]; simp
       have y1 : w1.cell? ⟨w.heap.size, 1, none⟩ = some (.slice La L.length lc) := by rw [k1 _ _ (by simp)]; simp
       have hB1 : Below w.heap.size w w1 := below_trans (below_alloc' (Below.refl _ _) _) hb1
       clear k1 k2)
    | (go_at_call 53; refine Calls.mono (HSI.out w1 hB1) ?_; intro e w2 hpost; obtain ⟨B, rfl, hB, hT, hb2⟩ := hpost))
  have hB2 : Below w.heap.size w w2 := below_trans hB1 hb2
  have hc0 : w2.cell? ⟨B, 0, none⟩ = some (.slice (some ⟨B + 1, 0, none⟩) (N + 1) (N + 1)) := hT.outer.cell hM0
  go_loopw [17] (fun v wr => ∃ i : Nat, i ≤ M ∧ v = .int .i64 i ∧ Hid (∀ j, j < i → (signsOf K L).getD j [] = (signsOf K L).getD 0 []) ∧ Below w2.heap.size w2 wr) (fun v _ => M - (intOf v).toNat)
  case atStart => exact ⟨0, Nat.zero_le _, rfl, hide (fun j h => absurd h (by omega)), Below.refl _ _⟩
  case round =>
    obtain ⟨i, hi, rfl, HE, hBi⟩ := hrel
    obtain ⟨wi, rfl⟩ : ∃ wi : World, wi = wr := ⟨_, rfl⟩
    have i0 : (0 : Int) ≤ (i : Int) := Int.natCast_nonneg _
    have hTi : Tab wi B M (N + 1) (fun m s => sgn K L m (s : Nat) L.length) := hT.below hBi hT.lt
    by_cases hiM : i < M
    · have c1 : wi.cell? ⟨B, i, none⟩ = some (.slice (some ⟨B + 1 + i, 0, none⟩) (N + 1) (N + 1)) := hTi.outer.cell hiM
      have c2 : wi.cell? ⟨B, 0, none⟩ = some (.slice (some ⟨B + 1, 0, none⟩) (N + 1) (N + 1)) := hTi.outer.cell hM0
      have hIi := Ints.ofRow (f := fun s => sgn K L i (s : Nat) L.length) (hTi.inner i hiM) (by omega)
      have hI0 := Ints.ofRow (f := fun s => sgn K L 0 (s : Nat) L.length) (hTi.inner 0 hM0) (by omega)
      have hRi := HROWS.out i hiM
      have hR0 := HROWS.out 0 hM0
      have hli : ((List.range (N + 1)).map fun s => sgn K L i (s : Nat) L.length).length = N + 1 := by simp
      have hl0 : ((List.range (N + 1)).map fun s => sgn K L 0 (s : Nat) L.length).length = N + 1 := by simp
      have hcall := PSecretTable.slices_Equal_int_int.calls (N + 1 + 1) (some ⟨B + 1 + i, 0, none⟩) (N + 1) ((List.range (N + 1)).map fun s => sgn K L i (s : Nat) L.length) (some ⟨B + 1, 0, none⟩) (N + 1) ((List.range (N + 1)).map fun s => sgn K L 0 (s : Nat) L.length) _ wi hIi.toC (by rw [hli]; exact Nat.le_refl _) (by simpa using hI0.toC) (by rw [hl0]; exact Nat.le_refl _) (by have := equal_f ((List.range (N + 1)).map fun s => sgn K L i (s : Nat) L.length) ((List.range (N + 1)).map fun s => sgn K L 0 (s : Nat) L.length) (by rw [hli]; omega); rw [hli] at this; exact this)
      rw [hli, hl0, ← hRi, ← hR0] at hcall
      have HCALL := hide hcall
      clear hcall hIi hI0 hRi hR0 hli hl0
      have i1 : (i : Int) < (M : Int) := by omega
      have m0 : (0 : Int) < (M : Int) := by omega
      by_cases he : (signsOf K L).getD i [] = (signsOf K L).getD 0 []
      · rw [decide_eq_true he] at HCALL
        have HEQ := hide he
        clear he
        go_wp2_with (go_at_call 54; refine Calls.mono HCALL.out ?_; rintro e w4 ⟨rfl, hd4⟩; have hb4 := drawn_below hd4)
        go_roundw
        case rel => exact ⟨i + 1, by omega, by go_num, hide (fun j hj => by
          by_cases e : j = i
          · rw [e]; exact HEQ.out
          · exact HE.out j (by omega)), hBi.trans (hb4.mono hBi.size)⟩
        case measure => simp [intOf]; omega
      · rw [decide_eq_false he] at HCALL
        have hnot : isPerfect (signsOf K L) = false := by
          unfold isPerfect
          rw [Bool.eq_false_iff]
          intro h
          rw [List.all_eq_true] at h
          have hlt : i < (signsOf K L).length := by rw [HTL.out]; exact hiM
          have h2 := h _ (List.getElem_mem hlt)
          rw [decide_eq_true_eq] at h2
          exact he (by rw [getD_eq _ i _ hlt]; exact h2)
        have HNOT := hide hnot
        clear he hnot
        go_wp2_with (go_at_call 54; refine Calls.mono HCALL.out ?_; rintro e w4 ⟨rfl, hd4⟩; have hb4 := drawn_below hd4)
        go_ret2
        exact ⟨by rw [HNOT.out]; rfl, hB2.trans ((hBi.trans (hb4.mono hBi.size)).mono hB2.size)⟩
    · obtain rfl : i = M := by omega
      have hyes : isPerfect (signsOf K L) = true := by
        unfold isPerfect
        rw [List.all_eq_true]
        intro r hr
        obtain ⟨j, hj, rfl⟩ := List.getElem_of_mem hr
        rw [decide_eq_true_eq, ← HE.out j (by rw [← HTL.out]; exact hj), getD_eq _ j _ hj]
      have HYES := hide hyes
      clear hyes
      go_wp2_with (fail)
      go_ret2
      exact ⟨by rw [HYES.out]; rfl, hB2.trans (hBi.mono hB2.size)⟩
end Go.Proofs.YtieeefgkdfijdaaDoor
