/- The walks of CipherError and secret.Valid. No condition. -/
import Derived.Test.YtieeefgkdfijdaaDoorSe1
import Derived.Deep.RegionHeld3
namespace Go.Proofs.YtieeefgkdfijdaaDoor
open Go.RowKit Go.Deep

/-- is a row of a cipher bad? n: the first row's length -/
def badSign (r : List Int) (k : Nat) : Bool := (r.take k).contains (r.getD k 0) || decide (r.getD k 0 < 0) || decide (15 < r.getD k 0)
def badRow (n : Nat) (r : List Int) : Bool := decide (r.length = 0) || decide (16 < r.length) || decide (r.length ≠ n) || (List.range r.length).any (badSign r)
/-- the code of a cipher's error -/
def ccode (K : List Int) (L : List (List Int)) : Int := if wErr K ≠ 0 then wErr K else if L.length ≠ K.length then 3 else if L.any (badRow (L.getD 0 []).length) then 3 else 0
theorem badRow_of {n : Nat} {r : List Int} (h : r.length = 0 ∨ 16 < r.length ∨ r.length ≠ n) : badRow n r = true := by
  unfold badRow
  rcases h with h | h | h
  · rw [decide_eq_true h]; simp
  · rw [decide_eq_true h]; simp
  · rw [decide_eq_true h]; simp
theorem badRow_sign {n : Nat} {r : List Int} {k : Nat} (hk : k < r.length) (h : badSign r k = true) : badRow n r = true := by
  unfold badRow
  rw [show (List.range r.length).any (badSign r) = true from List.any_eq_true.2 ⟨k, List.mem_range.2 hk, h⟩, Bool.or_true]
/-- the signs ahead of place k are right -/
structure SignsOk (r : List Int) (k : Nat) : Prop where
  out : ∀ j, j < k → badSign r j = false
theorem SignsOk.zero (r : List Int) : SignsOk r 0 := ⟨fun _ h => absurd h (by omega)⟩
theorem SignsOk.succ {r : List Int} {k : Nat} (h : SignsOk r k) (hk : badSign r k = false) : SignsOk r (k + 1) := ⟨fun j hj => by
  by_cases e : j = k
  · rw [e]; exact hk
  · exact h.out j (by omega)⟩
theorem badRow_good {n : Nat} {r : List Int} (h0 : r.length ≠ 0) (h1 : r.length ≤ 16) (h2 : r.length = n) (h : SignsOk r r.length) : badRow n r = false := by
  unfold badRow
  rw [decide_eq_false h0, decide_eq_false (by omega), decide_eq_false (by omega)]
  simp only [Bool.false_or]
  exact List.any_eq_false.2 fun k hk => by rw [h.out k (List.mem_range.1 hk)]; simp
/-- the rows ahead of place i are right -/
structure RowsOk (L : List (List Int)) (i : Nat) : Prop where
  out : ∀ j, j < i → badRow (L.getD 0 []).length (L.getD j []) = false
theorem RowsOk.zero (L : List (List Int)) : RowsOk L 0 := ⟨fun _ h => absurd h (by omega)⟩
theorem RowsOk.succ {L : List (List Int)} {i : Nat} (h : RowsOk L i) (hi : badRow (L.getD 0 []).length (L.getD i []) = false) : RowsOk L (i + 1) := ⟨fun j hj => by
  by_cases e : j = i
  · rw [e]; exact hi
  · exact h.out j (by omega)⟩
theorem ccode_keys {K : List Int} {L : List (List Int)} (h : wErr K ≠ 0) : ccode K L = wErr K := if_pos h
theorem ccode_len {K : List Int} {L : List (List Int)} (h : wErr K = 0) (hl : L.length ≠ K.length) : ccode K L = 3 := by unfold ccode; rw [if_neg (by omega), if_pos hl]
theorem ccode_bad {K : List Int} {L : List (List Int)} (h : wErr K = 0) (hl : L.length = K.length) {i : Nat} (hi : i < L.length) (hb : badRow (L.getD 0 []).length (L.getD i []) = true) : ccode K L = 3 := by
  unfold ccode
  rw [if_neg (by omega), if_neg (by omega), if_pos]
  rw [List.any_eq_true]
  rw [getD_eq L i [] hi] at hb
  exact ⟨L[i], List.getElem_mem hi, hb⟩
theorem ccode_good {K : List Int} {L : List (List Int)} (h : wErr K = 0) (hl : L.length = K.length) (hr : RowsOk L L.length) : ccode K L = 0 := by
  unfold ccode
  rw [if_neg (by omega), if_neg (by omega), if_neg]
  rw [List.any_eq_true]
  rintro ⟨r, hr', hb⟩
  obtain ⟨i, hi, rfl⟩ := List.getElem_of_mem hr'
  have := hr.out i hi
  rw [getD_eq L i [] hi, hb] at this
  cases this
theorem ccode_zero {K : List Int} {L : List (List Int)} (h : ccode K L = 0) : GoodCipher K L := by
  unfold ccode at h
  by_cases h1 : wErr K ≠ 0
  · rw [if_pos h1] at h; exact absurd h h1
  · rw [if_neg h1] at h
    by_cases h2 : L.length ≠ K.length
    · rw [if_pos h2] at h; cases h
    · rw [if_neg h2] at h
      by_cases h3 : L.any (badRow (L.getD 0 []).length) = true
      · rw [if_pos h3] at h; cases h
      · refine ⟨by omega, by omega, fun i hi => ?_⟩
        have hb : badRow (L.getD 0 []).length (L.getD i []) = false := by
          cases e : badRow (L.getD 0 []).length (L.getD i [])
          · rfl
          · rw [getD_eq L i [] hi] at e
            exact absurd (List.any_eq_true.2 ⟨L[i], List.getElem_mem hi, e⟩) h3
        unfold badRow at hb
        simp only [Bool.or_eq_false_iff, decide_eq_false_iff_not, List.any_eq_false, List.mem_range] at hb
        obtain ⟨⟨⟨b0, b1⟩, b2⟩, b3⟩ := hb
        have hs : ∀ k, k < (L.getD i []).length → badSign (L.getD i []) k = false := fun k hk => by simpa using b3 k hk
        refine ⟨by omega, by omega, by omega, fun k hk => ?_, fun k hk => ?_⟩
        · have := hs k hk
          unfold badSign at this
          simp only [Bool.or_eq_false_iff, decide_eq_false_iff_not] at this
          omega
        · have := hs k hk
          unfold badSign at this
          simp only [Bool.or_eq_false_iff, decide_eq_false_iff_not] at this
          exact this.1.1
theorem wErr_cases (K : List Int) : wErr K = 0 ∨ wErr K = 2 ∨ wErr K = 3 := by
  unfold wErr wcode
  split
  · exact .inr (.inl rfl)
  · split
    · exact .inr (.inr rfl)
    · split
      · split
        · exact .inr (.inl rfl)
        · exact .inl rfl
      · exact .inr (.inr rfl)
theorem ccode_cases (K : List Int) (L : List (List Int)) : ccode K L = 0 ∨ ccode K L = 2 ∨ ccode K L = 3 := by
  unfold ccode
  split
  · exact wErr_cases K
  · split
    · exact .inr (.inr rfl)
    · split
      · exact .inr (.inr rfl)
      · exact .inl rfl
theorem Ints.take {w : World} {A : Option Addr} {l : List Int} (h : Ints w A l) (k : Nat) : Ints w A (l.take k) :=
  ⟨by have := h.len; rw [List.length_take]; omega, fun i hi => by
    rw [List.length_take] at hi
    obtain ⟨b, off, e, hb, hc⟩ := h.at_ i (by omega)
    refine ⟨b, off, e, hb, ?_⟩
    rw [hc, List.getD_eq_getElem?_getD, List.getD_eq_getElem?_getD, List.getElem?_take_of_lt (by omega)]⟩

set_option maxRecDepth 100000 in
set_option maxHeartbeats 4000000 in
theorem cipherError_any (Ka La : Option Addr) (K : List Int) (L : List (List Int)) (kc lc : Nat) (w : World) (hK : Ints w Ka K) (hL : Lists w La L) (hkc : K.length ≤ kc) (_hlc : L.length ≤ lc) (hK2 : K.length ≤ 2000000) :
    Calls Tryd.prog 19 #[.agg #[.slice Ka K.length kc, .slice La L.length lc]] w fun e w' => e = .returned (.int .i64 (ccode K L)) ∧ Below w.heap.size w w' := by
  have hKl := hK.len
  have hLl := hL.len
  have hwe := fun w' (h : Below w.heap.size w w') => PSecretTable.demonref1_WeightsError.calls (K.length + 1) Ka kc K (wErr K) w' ((hK.below h).toC) hkc (weightsError_f K hK2)
  have HWE := hide hwe
  clear hwe
  by_cases hk0 : wErr K = 0
  · by_cases hll : L.length = K.length
    · have hll' : K.length = L.length := hll.symm
      rw [hk0, hll'] at HWE
      rw [hll'] at hkc ⊢
      have HLL := hide hll
      clear hll hll'
      go_enter Tryd.func19, Tryd.ntmps19
      go_wp2_with (go_at_call 28; refine Calls.mono (HWE.out _ (below_alloc' (Below.refl _ _) _)) ?_; rintro e w1 ⟨rfl, hd1⟩; have hb1 := drawn_below hd1; obtain ⟨k1, k2⟩ := below_cells hb1; have hz1 : w.heap.size < w1.heap.size := by (have := hb1.size; simp at this; omega)
                   have y0 : w1.cell? ⟨w.heap.size, 0, none⟩ = some (.slice Ka L.length kc) := by rw [k1 _ _ (by simp)]; simp
                   have y1 : w1.cell? ⟨w.heap.size, 1, none⟩ = some (.slice La L.length lc) := by rw [k1 _ _ (by simp)]; simp
                   clear k1 k2 hd1)
      have hB1 : Below w.heap.size w w1 := below_trans (below_alloc' (Below.refl _ _) _) hb1
      go_loopw [4] (fun i wr => ∃ k : Nat, k ≤ L.length ∧ i = .int .i64 k ∧ Hid (RowsOk L k) ∧ Below w1.heap.size w1 wr) (fun i _ => L.length - (intOf i).toNat)
      case atStart => exact ⟨0, Nat.zero_le _, rfl, hide (RowsOk.zero L), Below.refl _ _⟩
      case round =>
        obtain ⟨i, hi, rfl, HR, hBi⟩ := hrel
        obtain ⟨wi, rfl⟩ : ∃ wi : World, wi = wr := ⟨_, rfl⟩
        have z1 : wi.cell? ⟨w.heap.size, 1, none⟩ = some (.slice La L.length lc) := (hBi.cell (p := ⟨w.heap.size, 1, none⟩) hz1).trans y1
        by_cases hil : i < L.length
        · have hLi := hL.below (below_trans hB1 hBi)
          obtain ⟨b, off, A', c', rfl, hb, d1, hle, hI⟩ := hLi.at_ i hil
          obtain ⟨b0, off0, A0, c0, e0, _, d0, _, _⟩ := hLi.at_ 0 (by omega)
          injection e0 with e0
          injection e0 with e1 e2 _
          subst e1 e2
          have d0' : wi.cell? ⟨b, off, none⟩ = some (.slice A0 (L.getD 0 []).length c0) := d0
          have hbad := fun h => ccode_bad hk0 HLL.out hil h
          have hnext := fun h => HR.out.succ (i := i) h
          clear d0 hLi
          generalize L.getD i [] = r at d1 hle hI hbad hnext
          generalize (L.getD 0 []).length = n at d0' hbad hnext
          have HBAD := hide hbad
          have HNEXT := hide hnext
          clear hbad hnext
          have i0 : (0 : Int) ≤ (i : Int) := Int.natCast_nonneg _
          have i1 : (i : Int) < (L.length : Int) := by omega
          have i2 : (0 : Int) < (L.length : Int) := by omega
          by_cases h0 : r.length = 0
          · have hb0 := badRow_of (n := n) (.inl h0)
            have q0 : ((r.length : Int) == 0) = true := by rw [h0]; rfl
            go_wp2_with (fail)
            go_quiet (fail)
            go_wp2_with (fail)
            go_ret
            exact ⟨by rw [HBAD.out hb0]; rfl, below_drewN' (below_trans hB1 hBi) _⟩
          · have q0 : ((r.length : Int) == 0) = false := by rw [beq_eq_false_iff_ne]; omega
            by_cases h1 : 16 < r.length
            · have q1 : decide (16 < (r.length : Int)) = true := decide_eq_true (by omega)
              have hb0 := badRow_of (n := n) (.inr (.inl h1))
              go_wp2_with (fail)
              go_quiet (fail)
              go_wp2_with (fail)
              go_ret
              exact ⟨by rw [HBAD.out hb0]; rfl, below_drewN' (below_trans hB1 hBi) _⟩
            · have q1 : decide (16 < (r.length : Int)) = false := decide_eq_false (by omega)
              by_cases h2 : r.length ≠ n
              · have hb0 := badRow_of (n := n) (.inr (.inr h2))
                have h2' : ((r.length : Int) == (n : Int)) = false := by simpa using fun h => h2 (by omega)
                have h2'' : ((r.length : Int) != (n : Int)) = true := by simpa using fun h => h2 (by omega)
                go_wp2_with (fail)
                go_quiet (fail)
                go_wp2_with (fail)
                go_ret
                exact ⟨by rw [HBAD.out hb0]; rfl, below_drewN' (below_trans hB1 hBi) _⟩
              · have h2' : n = r.length := by omega
                subst h2'
                have h2'' : ((r.length : Int) != (r.length : Int)) = false := by simp
                go_wp2_with (fail)
                go_quiet (fail)
                go_wp2_with (fail)
                have hlen16 : r.length ≤ 16 := by omega
                have hBn : Below w1.heap.size w1 (wi.drewN nq) := below_drewN' hBi _
                have hcon := fun (w' : World) (h : Below wi.heap.size wi w') (j : Nat) => PSecretTable.demonref1_Contains.calls ((r.take j).length + 1) A' c' (r.take j) (r.getD j 0) ((r.take j).contains (r.getD j 0)) w' (((hI.below h).take j).toC) (by rw [List.length_take]; omega) (contains_f (r.take j) _ (by rw [List.length_take]; omega))
                have HCON := hide hcon
                have HI := hide hI
                clear hcon hI
                go_loopw [5] (fun v wr => ∃ j : Nat, j ≤ r.length ∧ v = .int .i64 j ∧ Hid (SignsOk r j) ∧ Below wi.heap.size wi wr) (fun v _ => r.length - (intOf v).toNat)
                case atStart => exact ⟨0, Nat.zero_le _, rfl, hide (SignsOk.zero r), below_drewN' (Below.refl _ _) _⟩
                case round =>
                  obtain ⟨j, hj, rfl, HSG, hBj⟩ := hrel
                  obtain ⟨wj, rfl⟩ : ∃ wj : World, wj = wr := ⟨_, rfl⟩
                  have hz2 : w.heap.size < wi.heap.size := Nat.lt_of_lt_of_le hz1 hBi.size
                  have z2 : wj.cell? ⟨w.heap.size, 1, none⟩ = some (.slice (some ⟨b, off, none⟩) L.length lc) := (hBj.cell (p := ⟨w.heap.size, 1, none⟩) hz2).trans z1
                  have d2 : wj.cell? ⟨b, off + i, none⟩ = some (.slice A' r.length c') := (hBj.cell (p := ⟨b, off + i, none⟩) hb).trans d1
                  have j0 : (0 : Int) ≤ (j : Int) := Int.natCast_nonneg _
                  by_cases hjl : j < r.length
                  · obtain ⟨b', off', rfl, _, dj⟩ := (HI.out.below hBj).at_ j hjl
                    have hcj := fun w' h => HCON.out w' h j
                    have htl : (r.take j).length = j := by rw [List.length_take]; omega
                    rw [htl] at hcj
                    have j1 : (j : Int) < (r.length : Int) := by omega
                    have j2 : (j : Int) ≤ (c' : Int) := by omega
                    have j3 : (j : Int) ≤ (r.length : Int) := by omega
                    have hsg : ∀ x, x = badSign r j → x = ((r.take j).contains (r.getD j 0) || decide (r.getD j 0 < 0) || decide (15 < r.getD j 0)) := fun x h => h
                    have hbs := fun h => badRow_sign (n := r.length) hjl h
                    have hns := fun h => HSG.out.succ (k := j) h
                    generalize (r.take j).contains (r.getD j 0) = cn at hcj hsg
                    generalize r.getD j 0 = x at dj hcj hsg
                    have HCJ := hide hcj
                    have HSB := hide hsg
                    have HBS := hide hbs
                    have HNS := hide hns
                    clear hcj hsg hbs hns
                    go_wp2_with (fail)
                    go_region_held3 (fun w' => w'.cell? ⟨w.heap.size, 1, none⟩ = some (.slice (some ⟨b, off, none⟩) L.length lc) ∧ w'.cell? ⟨b, off + i, none⟩ = some (.slice (some ⟨b', off', none⟩) r.length c') ∧ w'.cell? ⟨b', off' + j, none⟩ = some (.int .i64 x))
                      (first | go_keep | exact ⟨‹_›, ‹_›, ‹_›⟩)
                      ((first
                        | (go_at_call 52
                           refine Calls.mono (HCJ.out _ (below_drewN' hBj 1)) ?_
                           rintro e w2 ⟨rfl, hd2⟩
                           obtain ⟨⟨n2, rfl⟩⟩ := hd2)))
                    have u1 : (wj.drewN (1 + n2)).cell? ⟨w.heap.size, 1, none⟩ = some (.slice (some ⟨b, off, none⟩) L.length lc) := z2
                    have u2 : (wj.drewN (1 + n2)).cell? ⟨b, off + i, none⟩ = some (.slice (some ⟨b', off', none⟩) r.length c') := d2
                    have u3 : (wj.drewN (1 + n2)).cell? ⟨b', off' + j, none⟩ = some (.int .i64 x) := dj
                    have hBk : Below wi.heap.size wi (wj.drewN (1 + n2)) := below_drewN' hBj _
                    generalize wj.drewN (1 + n2) = wk at u1 u2 u3 hBk ⊢
                    clear z2 d2 dj
                    cases cn
                    · by_cases x0 : x < 0
                      · go_wp2_with (fail)
                        go_ret
                        exact ⟨by rw [HBAD.out (HBS.out (by rw [HSB.out _ rfl, decide_eq_true x0]; simp))]; rfl, (below_trans hB1 hBi).trans (hBk.mono (by have := hB1.size; have := hBi.size; omega))⟩
                      · by_cases x15 : 15 < x
                        · go_wp2_with (fail)
                          go_ret
                          exact ⟨by rw [HBAD.out (HBS.out (by rw [HSB.out _ rfl, decide_eq_true x15]; simp))]; rfl, (below_trans hB1 hBi).trans (hBk.mono (by have := hB1.size; have := hBi.size; omega))⟩
                        · go_wp2_with (fail)
                          go_roundw
                          case rel => exact ⟨j + 1, by omega, by go_num, hide (HNS.out (by rw [HSB.out _ rfl, decide_eq_false x0, decide_eq_false x15]; rfl)), hBk⟩
                          case measure => simp [intOf]; omega
                    · go_wp2_with (fail)
                      go_ret
                      exact ⟨by rw [HBAD.out (HBS.out (by rw [HSB.out _ rfl]; simp))]; rfl, (below_trans hB1 hBi).trans (hBk.mono (by have := hB1.size; have := hBi.size; omega))⟩
                  · obtain rfl : j = r.length := by omega
                    have hgood := badRow_good (n := r.length) h0 hlen16 rfl HSG.out
                    have HG := hide hgood
                    clear hgood
                    go_wp2_with (fail)
                    go_roundw
                    case rel => exact ⟨i + 1, by omega, by go_num, hide (HNEXT.out HG.out), hBi.trans (hBj.mono hBi.size)⟩
                    case measure => simp [intOf]; omega
        · obtain rfl : i = L.length := by omega
          go_wp2_with (fail)
          go_ret
          exact ⟨by rw [ccode_good hk0 HLL.out HR.out]; rfl, below_trans hB1 hBi⟩
    · rw [ccode_len hk0 hll]
      rw [hk0] at HWE
      go_enter Tryd.func19, Tryd.ntmps19
      go_wp2_with (go_at_call 28; refine Calls.mono (HWE.out _ (below_alloc' (Below.refl _ _) _)) ?_; rintro e w1 ⟨rfl, hd1⟩; have hb1 := drawn_below hd1; obtain ⟨k1, k2⟩ := below_cells hb1; have hz1 : w.heap.size < w1.heap.size := by (have := hb1.size; simp at this; omega)
                   have y0 : w1.cell? ⟨w.heap.size, 0, none⟩ = some (.slice Ka K.length kc) := by rw [k1 _ _ (by simp)]; simp
                   have y1 : w1.cell? ⟨w.heap.size, 1, none⟩ = some (.slice La L.length lc) := by rw [k1 _ _ (by simp)]; simp
                   clear k1 k2 hd1)
      go_ret
      exact ⟨rfl, below_trans (below_alloc' (Below.refl _ _) _) hb1⟩
  · rw [ccode_keys hk0]
    have hpos : 0 < wErr K := by
      rcases wErr_cases K with h | h | h
      · exact absurd h hk0
      · rw [h]; decide
      · rw [h]; decide
    generalize wErr K = z at HWE hk0 hpos ⊢
    go_enter Tryd.func19, Tryd.ntmps19
    go_wp2_with (go_at_call 28; refine Calls.mono (HWE.out _ (below_alloc' (Below.refl _ _) _)) ?_; rintro e w1 ⟨rfl, hd1⟩; have hb1 := drawn_below hd1)
    go_ret
    exact ⟨rfl, below_trans (below_alloc' (Below.refl _ _) _) hb1⟩
end Go.Proofs.YtieeefgkdfijdaaDoor
