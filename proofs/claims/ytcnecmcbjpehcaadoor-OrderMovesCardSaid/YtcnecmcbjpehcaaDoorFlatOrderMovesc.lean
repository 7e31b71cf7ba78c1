/- Words, plain laws and walks behind the law OrderMoves, part 3. No condition. -/
import Derived.Test.YtcnecmcbjpehcaaDoorFlatOrderMovesb
import Derived.Test.YtcnecmcbjpehcaaDoorFlatOrderMovesa
import Derived.StillTailTactics
import Derived.WalkKit

/- The walks of order.square and order.Spread. Condition: the variables read as laid. -/
namespace Go.Proofs.YtcnecmcbjpehcaaDoor
open Go.RowKit Go.Deep Go.Proofs.YtcnecmcbjpehcaaDoorW.PrintWords

theorem totalD_ok (A : Option Addr) (l : List Int) (c : Nat) (w : World) (hA : Ints w A l) (hc : l.length ≤ c) (hs : Small l) :
    Calls Tryd.prog 41 #[.slice A l.length c] w fun e w' => e = .returned (.int .i64 l.sum) ∧ Drawn0 w w' := by
  obtain ⟨k, hk⟩ := (total_f hs).rounds
  exact POrderAbove.dist_Total.calls k A c l l.sum w hA.toC hc hk
theorem ret_err3 (a : Nat → Addr) {r : Int} (h : r = 3) : (Ending.returned (.iface 155 (.pointer (some (a 3))))) = .returned (errC a r) := by subst h; rfl

set_option maxRecDepth 100000 in
set_option maxHeartbeats 4000000 in
theorem square_any (A : Option Addr) (m : List (List Int)) (c : Nat) (w : World) (a : Nat → Addr) (hE : Env [2, 3] w a) (hA : Lists w A m) :
    Calls Tryd.prog 39 #[.slice A m.length c] w fun e w' => e = .returned (errC a (sqErr m)) ∧ Below w.heap.size w w' := by
  have HEN := hide (fun w' (hb : Below w.heap.size w w') => (⟨(hE.below hb).cell 2 (by decide), (hE.below hb).cell 3 (by decide)⟩ : w'.cell? ⟨glob 2, 0, none⟩ = _ ∧ w'.cell? ⟨glob 3, 0, none⟩ = _))
  simp only [glob] at HEN
  obtain ⟨y2, y3⟩ := HEN.out w (Below.refl _ _)
  have hlen := hA.len
  obtain ⟨r, hrr⟩ : ∃ r, sqErr m = r := ⟨_, rfl⟩
  rw [hrr]
  unfold sqErr at hrr
  by_cases c1 : 8 < (m.length : Int)
  · rw [if_pos (by omega)] at hrr
    subst hrr
    go_enter Tryd.func39, Tryd.ntmps39
    go_wp2_with (fail)
    go_ret
    exact ⟨rfl, Below.refl _ _⟩
  rw [if_neg (by omega)] at hrr
  by_cases c2 : m.length = 0
  · rw [if_pos c2] at hrr
    subst hrr
    have b2 : ((m.length : Int) == 0) = true := by rw [beq_iff_eq]; omega
    have C2 := hide c2
    clear c2
    go_enter Tryd.func39, Tryd.ntmps39
    go_wp2_with (fail)
    go_ret
    exact ⟨rfl, Below.refl _ _⟩
  rw [if_neg c2] at hrr
  have b2 : ((m.length : Int) == 0) = false := by rw [beq_eq_false_iff_ne]; omega
  have HR := hide hrr
  clear hrr
  go_enter Tryd.func39, Tryd.ntmps39
  go_wp2_with (fail)
  go_loopw [20] (fun v wr => ∃ i : Nat, i ≤ m.length ∧ v = .int .i64 i ∧ Hid ((m.take i).all (goodRow m.length) = true) ∧ Below w.heap.size w wr) (fun v _ => m.length - (intOf v).toNat)
  case atStart => exact ⟨0, Nat.zero_le _, rfl, hide rfl, Below.refl _ _⟩
  case round =>
    obtain ⟨i, hi, rfl, HT, hBi⟩ := hrel
    obtain ⟨wi, rfl⟩ : ∃ wi : World, wi = wr := ⟨_, rfl⟩
    have i0 : (0 : Int) ≤ (i : Int) := Int.natCast_nonneg _
    by_cases hil : i < m.length
    · have i1 : (i : Int) < (m.length : Int) := by omega
      obtain ⟨b, off, A', c', rfl, hb, d1, hle, hI⟩ := (hA.below hBi).at_ i hil
      obtain ⟨k2, k3⟩ := HEN.out wi hBi
      have hnum := numbers_any A' (m.getD i []) c' wi hI
      have hbad : (numb (m.getD i []) && decide ((m.getD i []).length = m.length)) = false → m.all (goodRow m.length) = false := fun h => goodRow_bad hil h
      have hnx : (numb (m.getD i []) && decide ((m.getD i []).length = m.length)) = true → (m.take (i + 1)).all (goodRow m.length) = true := fun h => takeRow hil HT.out h
      have HB := hide hbad
      have HNX := hide hnx
      clear hbad hnx
      generalize m.getD i [] = ri at d1 hle hI hnum HB HNX
      generalize numb ri = q at hnum HB HNX
      by_cases hl : (ri.length : Int) = m.length
      · have hne : ((ri.length : Int) != (m.length : Int)) = false := by rw [hl]; simp
        have hl' : ri.length = m.length := by omega
        have HL := hide hl'
        have HNUM := hide hnum
        clear hnum hl hl' hI
        generalize ri.length = n1 at d1 hle hne HL HNUM HB HNX
        cases q
        · go_wp2_with (go_at_call 46; refine Calls.mono HNUM.out ?_; rintro e w1 ⟨rfl, hb1⟩; obtain ⟨z2, z3⟩ := HEN.out w1 (below_trans hBi hb1))
          go_ret
          exact ⟨ret_err3 a (by rw [← HR.out, HB.out (by rfl), Bool.false_and]; rfl), below_trans hBi hb1⟩
        · go_wp2_with (go_at_call 46; refine Calls.mono HNUM.out ?_; rintro e w1 ⟨rfl, hb1⟩; obtain ⟨z2, z3⟩ := HEN.out w1 (below_trans hBi hb1))
          go_roundw
          case rel => exact ⟨i + 1, by omega, by go_num, hide (HNX.out (by rw [HL.out]; simp)), below_trans hBi hb1⟩
          case measure => simp [intOf]; omega
      · have hne : ((ri.length : Int) != (m.length : Int)) = true := by rw [bne_iff_ne]; exact hl
        have hl' : ¬ ri.length = m.length := by omega
        have HL := hide hl'
        clear hnum hl hl' hI
        generalize ri.length = n1 at d1 hle hne HL HB HNX
        have hfin : r = 3 := by rw [← HR.out, HB.out (by rw [decide_eq_false HL.out, Bool.and_false]), Bool.false_and]; rfl
        have HFIN := hide hfin
        clear hfin
        go_wp2_with (fail)
        go_ret
        exact ⟨ret_err3 a HFIN.out, hBi⟩
    · obtain rfl : i = m.length := by omega
      have hall := HT.out
      rw [List.take_length] at hall
      have hrr := HR.out
      rw [hall, Bool.true_and] at hrr
      have HALL := hide hall
      have HR2 := hide hrr
      clear hall hrr HT
      go_wp2_with (fail)
      go_loopw [38] (fun v wr => ∃ i : Nat, i ≤ m.length ∧ v = .int .i64 i ∧ Hid ((List.range i).all (goodAt m) = true) ∧ Below w.heap.size w wr) (fun v _ => m.length - (intOf v).toNat)
      case atStart => exact ⟨0, Nat.zero_le _, rfl, hide rfl, hBi⟩
      case round =>
        obtain ⟨i, hi2, rfl, HT, hBi2⟩ := hrel
        obtain ⟨wj, rfl⟩ : ∃ wj : World, wj = wr := ⟨_, rfl⟩
        have i0 : (0 : Int) ≤ (i : Int) := Int.natCast_nonneg _
        by_cases hil : i < m.length
        · have i1 : (i : Int) < (m.length : Int) := by omega
          obtain ⟨b, off, A1, c1', rfl, hb, d1, hle1, hI1⟩ := (hA.below hBi2).at_ i hil
          have g2 := (goodRow_get HALL.out i hil).2
          rw [g2] at d1
          go_wp2_with (fail)
          go_loop [7, 45] (fun dv jv => ∃ j : Nat, j ≤ m.length ∧ jv = .int .i64 j ∧ dv = .int .i64 (colTo m i j)) (fun _ jv => m.length - (intOf jv).toNat)
          case atStart => exact ⟨0, Nat.zero_le _, rfl, rfl⟩
          case round =>
            obtain ⟨j, hj, rfl, rfl⟩ := hrel
            have j0 : (0 : Int) ≤ (j : Int) := Int.natCast_nonneg _
            by_cases hjl : j < m.length
            · have j1 : (j : Int) < (m.length : Int) := by omega
              obtain ⟨b', off', A', c', e0, hb', dd, hle, hI⟩ := (hA.below hBi2).at_ j hjl
              injection e0 with e0
              injection e0 with e1 e2 _
              subst e1 e2
              obtain ⟨g1, g2'⟩ := goodRow_get HALL.out j hjl
              obtain ⟨b2, off2, rfl, hb2, d2⟩ := hI.at_ i (by omega)
              have hx := numb_get g1 i (by omega)
              have hcb := colTo_bound HALL.out i hil j (by omega)
              have hcs := colTo_succ m i j hjl
              rw [g2'] at dd
              generalize (m.getD j []).getD i 0 = x at d2 hx hcs
              generalize colTo m i j = s at hcb hcs
              have HCS := hide hcs
              clear hcs g1 g2' hI hle
              go_wp2_with (fail)
              go_round
              case rel => exact ⟨j + 1, by omega, by go_num, by rw [HCS.out]⟩
              case measure => simp [intOf]; omega
            · obtain rfl : j = m.length := by omega
              have m0 : 0 < m.length := by omega
              have m1 : (0 : Int) < (m.length : Int) := by omega
              obtain ⟨b', off', A0, c0, e0, _, d0, hle0, hI0⟩ := (hA.below hBi2).at_ 0 m0
              injection e0 with e0
              injection e0 with e1 e2 _
              subst e1 e2
              have d0' : wj.cell? ⟨b, off, none⟩ = some (.slice A0 (m.getD 0 []).length c0) := d0
              obtain ⟨g1, _⟩ := goodRow_get HALL.out i hil
              obtain ⟨g3, g4⟩ := goodRow_get HALL.out 0 m0
              have hs1 := fun w' (h : Below wj.heap.size wj w') => totalD_ok A1 (m.getD i []) c1' w' (hI1.below h) hle1 (numb_small g1 (by omega))
              have hs0 := fun w' (h : Below wj.heap.size wj w') => totalD_ok A0 (m.getD 0 []) c0 w' (hI0.below h) hle0 (numb_small g3 (by omega))
              have hnx : (decide ((m.getD i []).sum = (m.getD 0 []).sum) && decide (colTo m i m.length = (m.getD 0 []).sum)) = true → (List.range (i + 1)).all (goodAt m) = true := fun h => rangeAt HT.out h
              have hbd : (decide ((m.getD i []).sum = (m.getD 0 []).sum) && decide (colTo m i m.length = (m.getD 0 []).sum)) = false → r = 3 := fun h => by rw [← HR2.out, if_neg (by rw [goodAt_bad hil h]; decide)]
              rw [g2] at hs1
              rw [g4] at d0' hs0
              have HEJ := hide (fun n => HEN.out (wj.drewN n) (below_drewN' hBi2 _))
              clear d0 hI0 hI1 g1 g2 g3 g4 hle1 hle0
              generalize (m.getD i []).sum = x at hs1 hnx hbd
              generalize (m.getD 0 []).sum = y at hs0 hnx hbd
              generalize colTo m i m.length = z at hnx hbd
              have HNX := hide hnx
              have HBD := hide hbd
              have HS1 := hide hs1
              have HS0 := hide hs0
              clear hnx hbd hs1 hs0
              by_cases hxy : x = y
              · have bxy : (x != y) = false := by rw [hxy]; simp
                by_cases hzy : z = y
                · have bzy : (z != y) = false := by rw [hzy]; simp
                  have hn := HNX.out (by rw [decide_eq_true hxy, decide_eq_true hzy]; rfl)
                  have HN2 := hide hn
                  clear hxy hzy hn
                  go_wp2_with (fail)
                  go_quiet ((first
                    | (go_at_call 41; with_reducible exact quiet_drawn (HS1.out _ (below_drewN' (Below.refl _ _) _)))
                    | (go_at_call 41; with_reducible exact quiet_drawn (HS0.out _ (below_drewN' (Below.refl _ _) _)))))
                  go_wp2_with (fail)
                  go_roundw
                  case rel => exact ⟨i + 1, by omega, by go_num, HN2, below_drewN' hBi2 _⟩
                  case measure => simp [intOf]; omega
                · have bzy : (z != y) = true := by rw [bne_iff_ne]; exact hzy
                  have hn := HBD.out (by rw [decide_eq_false hzy, Bool.and_false])
                  have HN2 := hide hn
                  clear hxy hzy hn
                  go_wp2_with (fail)
                  go_quiet ((first
                    | (go_at_call 41; with_reducible exact quiet_drawn (HS1.out _ (below_drewN' (Below.refl _ _) _)))
                    | (go_at_call 41; with_reducible exact quiet_drawn (HS0.out _ (below_drewN' (Below.refl _ _) _)))))
                  obtain ⟨z2, z3⟩ := HEJ.out nq
                  go_wp2_with (fail)
                  go_ret
                  exact ⟨ret_err3 a HN2.out, below_drewN' hBi2 _⟩
              · have bxy : (x != y) = true := by rw [bne_iff_ne]; exact hxy
                have hn := HBD.out (by rw [decide_eq_false hxy, Bool.false_and])
                have HN2 := hide hn
                clear hn
                go_wp2_with (fail)
                go_quiet ((first
                  | (go_at_call 41; with_reducible exact quiet_drawn (HS1.out _ (below_drewN' (Below.refl _ _) _)))
                  | (go_at_call 41; with_reducible exact quiet_drawn (HS0.out _ (below_drewN' (Below.refl _ _) _)))))
                obtain ⟨z2, z3⟩ := HEJ.out nq
                go_wp2_with (fail)
                go_ret
                exact ⟨ret_err3 a HN2.out, below_drewN' hBi2 _⟩
        · obtain rfl : i = m.length := by omega
          have hfin : r = 0 := by rw [← HR2.out, if_pos HT.out]
          subst hfin
          go_wp2_with (fail)
          go_ret
          exact ⟨rfl, hBi2⟩
end Go.Proofs.YtcnecmcbjpehcaaDoor

/- The walk of order.Spread. Condition: the variables read as laid. -/
namespace Go.Proofs.YtcnecmcbjpehcaaDoor
open Go.RowKit Go.Deep Go.Proofs.YtcnecmcbjpehcaaDoorW.PrintWords

theorem sqErr_zero {m : List (List Int)} (h : sqErr m = 0) : m.length ≤ 8 ∧ 0 < m.length ∧ m.all (goodRow m.length) = true ∧ (List.range m.length).all (goodAt m) = true := by
  unfold sqErr at h
  by_cases c1 : 8 < m.length
  · rw [if_pos c1] at h; cases h
  rw [if_neg c1] at h
  by_cases c2 : m.length = 0
  · rw [if_pos c2] at h; cases h
  rw [if_neg c2] at h
  by_cases c3 : (m.all (goodRow m.length) && (List.range m.length).all (goodAt m)) = true
  · rw [Bool.and_eq_true] at c3
    exact ⟨by omega, by omega, c3.1, c3.2⟩
  · rw [if_neg c3] at h; cases h
theorem sqErr_nat (m : List (List Int)) : ∃ c : Nat, sqErr m = (c : Int) ∧ c ≤ 8 := by
  unfold sqErr
  split
  · exact ⟨2, rfl, by omega⟩
  split
  · exact ⟨3, rfl, by omega⟩
  split
  · exact ⟨0, rfl, by omega⟩
  · exact ⟨3, rfl, by omega⟩
theorem spread_len (m : List (List Int)) (w : List Int) : (spreadOf m w).length = m.length := by unfold spreadOf; rw [List.length_map]
theorem spread_succ {m : List (List Int)} (w : List Int) {i : Nat} (h : i < m.length) : spreadOf (m.take (i + 1)) w = spreadOf (m.take i) w ++ [dotTo (m.getD i []) w w.length] := by
  unfold spreadOf
  rw [takeL_at m i h, List.map_append]
  rfl
theorem spread_takelen {m : List (List Int)} (w : List Int) {i : Nat} (h : i ≤ m.length) : (spreadOf (m.take i) w).length = i := by rw [spread_len, List.length_take]; omega

set_option maxHeartbeats 2000000 in
theorem spread_err1 (A B : Option Addr) (m : List (List Int)) (W : List Int) (c d : Nat) (w : World) (a : Nat → Addr) (hE : Env [2, 3] w a) (hA : Lists w A m) (h : sqErr m ≠ 0) :
    Calls Tryd.prog 29 #[.slice A m.length c, .slice B W.length d] w fun e w' => e = .returned (.tuple #[.slice none 0 0, errC a (sqErr m)]) ∧ Below w.heap.size w w' := by
  have hs := square_any A m c w a hE hA
  have he := errC_pos' a h
  rw [he] at hs ⊢
  generalize a (sqErr m).toNat = x at hs
  have HS := hide hs
  clear hs he h
  go_enter Tryd.func29, Tryd.ntmps29
  go_wp2_with (go_at_call 39; refine Calls.mono HS.out ?_; rintro e w1 ⟨rfl, hb1⟩)
  go_ret2
  exact ⟨rfl, hb1⟩
set_option maxHeartbeats 2000000 in
theorem spread_err3 (A B : Option Addr) (m : List (List Int)) (W : List Int) (c d : Nat) (w : World) (a : Nat → Addr) (hE : Env [2, 3] w a) (hA : Lists w A m) (hB : Ints w B W) (h : sqErr m = 0) (hbad : ¬ (W.length = m.length ∧ numb W = true)) :
    Calls Tryd.prog 29 #[.slice A m.length c, .slice B W.length d] w fun e w' => e = .returned (.tuple #[.slice none 0 0, errC a 3]) ∧ Below w.heap.size w w' := by
  have hs := square_any A m c w a hE hA
  rw [h, errC_zero] at hs
  have HS := hide hs
  have HEN := hide (fun w' (hb : Below w.heap.size w w') => ((hE.below hb).cell 3 (by decide) : w'.cell? ⟨glob 3, 0, none⟩ = _))
  simp only [glob] at HEN
  have hlen := hB.len
  have hlena := hA.len
  by_cases hl : (W.length : Int) = m.length
  · have hne : ((W.length : Int) != (m.length : Int)) = false := by rw [hl]; simp
    have hn : numb W = false := by
      cases hq : numb W with
      | false => rfl
      | true => exact absurd ⟨by omega, hq⟩ hbad
    have hnum := fun w' (hb : Below w.heap.size w w') => numbers_any B W d w' (hB.below hb)
    rw [hn] at hnum
    have HN := hide hnum
    clear hs hnum hn h hbad
    go_enter Tryd.func29, Tryd.ntmps29
    go_wp2_with (first
      | (go_at_call 39; refine Calls.mono HS.out ?_; rintro e w1 ⟨rfl, hb1⟩)
      | (go_at_call 46; refine Calls.mono (HN.out _ hb1) ?_; rintro e w2 ⟨rfl, b2⟩; have hB2 := below_trans hb1 b2))
    have z3 := HEN.out w2 hB2
    go_quiet (fail)
    go_wp2_with (fail)
    go_ret2
    exact ⟨rfl, below_drewN' hB2 _⟩
  · have hne : ((W.length : Int) != (m.length : Int)) = true := by rw [bne_iff_ne]; exact hl
    clear hs h hbad
    go_enter Tryd.func29, Tryd.ntmps29
    go_wp2_with (go_at_call 39; refine Calls.mono HS.out ?_; rintro e w1 ⟨rfl, hb1⟩)
    have z3 := HEN.out w1 hb1
    go_quiet (fail)
    go_wp2_with (fail)
    go_ret2
    exact ⟨rfl, below_drewN' hb1 _⟩

set_option maxRecDepth 100000 in
set_option maxHeartbeats 4000000 in
theorem spread_ok (A B : Option Addr) (m : List (List Int)) (W : List Int) (c d : Nat) (w : World) (a : Nat → Addr) (hE : Env [2, 3] w a) (hA : Lists w A m) (hB : Ints w B W) (h : sqErr m = 0) (hl : W.length = m.length) (hn : numb W = true) :
    Calls Tryd.prog 29 #[.slice A m.length c, .slice B W.length d] w fun e w' => ∃ X x, e = .returned (.tuple #[.slice X (spreadOf m W).length x, .nilIface]) ∧ Ints w' X (spreadOf m W) ∧ (spreadOf m W).length ≤ x ∧ Below w.heap.size w w' := by
  have hs := square_any A m c w a hE hA
  rw [h, errC_zero] at hs
  have HS := hide hs
  have hnum := fun w' (hb : Below w.heap.size w w') => numbers_any B W d w' (hB.below hb)
  rw [hn] at hnum
  have HN := hide hnum
  obtain ⟨h8, h0, hall, _⟩ := sqErr_zero h
  have hne : ((m.length : Int) != (m.length : Int)) = false := by simp
  have HLW := hide hl
  have HNW := hide hn
  have HALL := hide hall
  rw [hl] at HN ⊢
  clear hs hnum hn h hall hl
  go_enter Tryd.func29, Tryd.ntmps29
  go_wp2_with (first
    | (go_at_call 39; refine Calls.mono HS.out ?_; rintro e w1 ⟨rfl, hb1⟩)
    | (go_at_call 46; refine Calls.mono (HN.out _ hb1) ?_; rintro e w2 ⟨rfl, b2⟩; have hB2 := below_trans hb1 b2))
  go_loopw [7, 31] (fun ov iv wr => ∃ i : Nat, i ≤ m.length ∧ iv = .int .i64 i ∧ wr.ownsRow w2.heap.size 3 1 ov i (intCells (spreadOf (m.take i) W)) ∧ Below w2.heap.size w2 wr) (fun _ iv _ => m.length - (intOf iv).toNat)
  case atStart => exact ⟨0, Nat.zero_le _, rfl, nil_own _ _ _ _, Below.refl _ _⟩
  case round =>
    obtain ⟨i, hi, rfl, hown, hBk⟩ := hrel
    obtain ⟨wi, rfl⟩ : ∃ wi : World, wi = wr := ⟨_, rfl⟩
    obtain ⟨A9, c9, rfl, hc9, _⟩ := own_shape hown
    have hBi := below_trans hB2 hBk
    have HO := hide hown
    clear hown
    have i0 : (0 : Int) ≤ (i : Int) := Int.natCast_nonneg _
    by_cases hil : i < m.length
    · have i1 : (i : Int) < (m.length : Int) := by omega
      obtain ⟨b, off, A1, c1', rfl, hb, d1, hle1, hI1⟩ := (hA.below hBi).at_ i hil
      obtain ⟨g1, g2⟩ := goodRow_get HALL.out i hil
      rw [g2] at d1
      go_wp2_with (fail)
      go_loop [10, 37] (fun dv jv => ∃ j : Nat, j ≤ m.length ∧ jv = .int .i64 j ∧ dv = .int .i64 (dotTo (m.getD i []) W j)) (fun _ jv => m.length - (intOf jv).toNat)
      case atStart => exact ⟨0, Nat.zero_le _, rfl, rfl⟩
      case round =>
        obtain ⟨j, hj, rfl, rfl⟩ := hrel
        have j0 : (0 : Int) ≤ (j : Int) := Int.natCast_nonneg _
        have hdb := dotTo_bound g1 HNW.out (by rw [g2, HLW.out]) j (by rw [HLW.out]; exact hj)
        by_cases hjl : j < m.length
        · have j1 : (j : Int) < (m.length : Int) := by omega
          obtain ⟨b1, o1, rfl, hb1', e1⟩ := hI1.at_ j (by omega)
          obtain ⟨b2', o2, rfl, hb2', e2⟩ := (hB.below hBi).at_ j (by rw [HLW.out]; exact hjl)
          have hx := mul_bound (numb_get g1 j (by omega)) (numb_get HNW.out j (by rw [HLW.out]; exact hjl))
          have hds := dotTo_succ (m.getD i []) W j
          generalize hpp : (m.getD i []).getD j 0 * W.getD j 0 = p at hx hds
          have w1' : IntKind.i64.wrap ((m.getD i []).getD j 0 * W.getD j 0) = p := by rw [hpp]; exact IntWalk.i64_in _ (by omega)
          have w2' : IntKind.i64.wrap (dotTo (m.getD i []) W j + p) = dotTo (m.getD i []) W (j + 1) := by rw [hds]; exact IntWalk.i64_in _ (by omega)
          clear hpp hds hx
          generalize (m.getD i []).getD j 0 = x at e1 w1'
          generalize W.getD j 0 = y at e2 w1'
          generalize hq : dotTo (m.getD i []) W (j + 1) = s1 at w2'
          have HQ := hide hq
          clear hq
          generalize dotTo (m.getD i []) W j = s at w2' hdb ⊢
          go_wp2_with (fail)
          go_round
          case rel => exact ⟨j + 1, by omega, by go_num, by rw [HQ.out]⟩
          case measure => simp [intOf]; omega
        · obtain rfl : j = m.length := by omega
          have hss := spread_succ W hil
          rw [HLW.out] at hss
          have hfit : dotTo (m.getD i []) W m.length ≤ 134217728 := by omega
          generalize dotTo (m.getD i []) W m.length = s at hss hfit hdb
          have HSS := hide hss
          have HC3 := hide (show ((spreadOf (m.take i) W).length + 1) * 8 ≤ 140737488355328 by rw [spread_takelen W (by omega)]; omega)
          have HSZ := hide hBk.size
          have HO1 := hide (own_list HO.out)
          clear hss hdb g1 g2 hle1 hI1
          go_wp2_with (at_builtin; refine wp_app_ints _ rfl _ _ rfl w2.heap.size (.slice A9 i c9) _ rfl (HO1.out.alloc _) _ 1 1 [s] rfl rfl (ints_one (b := wi.heap.size) (by simp) (by simp)) HC3.out (by rw [World.size_alloc]; exact Nat.le_succ_of_le HSZ.out) ?_; intro A' c' w5 hc5 ho5 hg5 hob5)
          have hb5 : Below w2.heap.size w2 w5 := (hBk.alloc hBk.size _).grown hg5 (by rw [World.size_alloc]; exact Nat.le_succ_of_le HSZ.out) (fun j hj => (HO.out.lt j hj).1)
          rw [← HSS.out, spread_takelen W (by omega)] at ho5
          go_roundw
          case rel => exact ⟨i + 1, by omega, by go_num, by rw [spread_takelen W (show i ≤ m.length by omega)]; exact ho5, hb5⟩
          case measure => simp [intOf]; omega
    · obtain rfl : i = m.length := by omega
      have hoo := HO.out
      rw [List.take_length] at hoo
      have HIW := hide (show Ints wi A9 (spreadOf m W) from Ints.own (c := c9) (e := 3) (base := w2.heap.size) (by rw [spread_len]; exact hoo))
      clear hoo
      go_wp2_with (fail)
      go_ret2
      exact ⟨A9, c9, by rw [spread_len]; rfl, HIW.out, by rw [spread_len]; exact hc9, hBi⟩
end Go.Proofs.YtcnecmcbjpehcaaDoor

/- The walk of demonref4.ApplyFault. No condition. -/
namespace Go.Proofs.YtcnecmcbjpehcaaDoor
open Go.RowKit Go.Deep Go.Proofs.YtcnecmcbjpehcaaDoorW.PrintWords

/-- what ApplyFault hands back -/
def RetApF (r : List Int × Int × Int) (w : World) (e : Ending) (w' : World) : Prop :=
  ∃ G d, e = .returned (.tuple #[.slice G r.1.length d, .agg #[.int .i64 r.2.1, .int .i64 r.2.2]]) ∧ Ints w' G r.1 ∧ r.1.length ≤ d ∧ Below w.heap.size w w'
theorem alloc_at (w : World) (o : Obj) : (w.alloc o).heap[w.heap.size]? = some o := by
  show (w.heap.push o)[w.heap.size]? = some o
  simp
theorem alloc_old (w : World) (o : Obj) (g : Nat) (h : g < w.heap.size) : (w.alloc o).heap[g]? = w.heap[g]? := by
  show (w.heap.push o)[g]? = _
  rw [Array.getElem?_push_lt h, Array.getElem?_eq_getElem h]
theorem rows_same (W : World) (g i : Nat) (cs : Array Value) (t : TypeId) (v : Value) (h : W.heap[g]? = some (.cells cs t (0, 0))) : (W.setCell ⟨g, i, none⟩ v).heap[g]? = some (.cells (cs.setIfInBounds i v) t (0, 0)) := by
  simp [World.setCell, Array.getElem?_modify, h]
theorem put_two (W : World) (g : Nat) (t : TypeId) (a b x y : Value) (h : W.heap[g]? = some (.cells #[a, b] t (0, 0))) : ((W.setCell ⟨g, 0, none⟩ x).setCell ⟨g, 1, none⟩ y).heap[g]? = some (.cells #[x, y] t (0, 0)) := by
  have h1 := rows_same W g 0 _ t x h
  have h2 := rows_same _ g 1 _ t y h1
  exact h2
theorem cell_of (W : World) (g i : Nat) (t : TypeId) (cs : Array Value) (u : Value) (h : W.heap[g]? = some (.cells cs t (0, 0))) (hu : cs[i]? = some u) : W.cell? ⟨g, i, none⟩ = some u ∧ W.frozen? ⟨g, i, none⟩ = false := by
  constructor
  · simp [World.cell?, h, hu]
  · simp [World.frozen?, h]
theorem fault_info : (Tryd.prog.info? 41).map (·.size) = some 2 := by kernel_rfl
theorem apF_ret {tmps : Array Value} {w' : World} {g : Nat} {G : Option Addr} {n d : Nat} {x y : Int} {R : Ending → World → Prop} (h4 : tmps.getD 4 undef = .slice G n d) (h5 : tmps.getD 5 undef = .pointer (some ⟨g, 0, none⟩))
    (hg : w'.heap[g]? = some (.cells #[.int .i64 x, .int .i64 y] 41 (0, 0))) (hR : R (.returned (.tuple #[.slice G n d, .agg #[.int .i64 x, .int .i64 y]])) w') :
    bodyPost Tryd.prog Tryd.f21 R .ret ⟨tmps, []⟩ w' := by
  have hv : Vals Tryd.prog tmps w' [.tmp 4, .cell 5 41] [tmps.getD 4 undef, .agg #[.int .i64 x, .int .i64 y]] := .tmp (.cell g 41 _ (0, 0) _ h5 hg Tryd.underlying41 rfl (by rw [fault_info]; rfl) .nil)
  rw [h4] at hv
  exact bodyPost_ret (results_list (rs := [.tmp 4, .cell 5 41]) rfl (by simp) hv) rfl hR

set_option maxRecDepth 100000 in
set_option maxHeartbeats 4000000 in
theorem applyFault_ok (A B : Option Addr) (p : List Int) (l : List Mv) (c d : Nat) (w : World) (hA : Ints w A p) (hB : Trips w B l) (hc : p.length ≤ c) (hp : p.length ≤ 2000000) :
    Calls Tryd.prog 21 #[.slice A p.length c, .slice B l.length d] w fun e w' => RetApF (apRes p l) w e w' := by
  have hlen := hA.len
  have hlenb := hB.len
  obtain ⟨r, hr⟩ : ∃ r, apRes p l = r := ⟨_, rfl⟩
  rw [hr]
  unfold apRes at hr
  by_cases c1 : 16 < (p.length : Int)
  · rw [if_pos (.inl (by omega))] at hr
    subst hr
    go_enter Tryd.func21, Tryd.ntmps21
    go_wp2_with (fail)
    refine apF_ret (g := w.heap.size) rfl rfl (alloc_at _ _) ?_
    exact ⟨none, 0, rfl, Ints.nil _ _, Nat.le_refl _, below_alloc' (Below.refl _ _) _⟩
  by_cases c2 : 4000 < (l.length : Int)
  · rw [if_pos (.inr (by omega))] at hr
    subst hr
    go_enter Tryd.func21, Tryd.ntmps21
    go_wp2_with (fail)
    refine apF_ret (g := w.heap.size) rfl rfl (alloc_at _ _) ?_
    exact ⟨none, 0, rfl, Ints.nil _ _, Nat.le_refl _, below_alloc' (Below.refl _ _) _⟩
  rw [if_neg (by omega)] at hr
  have hb0 : Below w.heap.size w (w.alloc (.cells #[.int .i64 0, .int .i64 0] 41)) := below_alloc' (Below.refl _ _) _
  have hnu := fun w' (hb : Below w.heap.size w w') => numbersS_ok A p c w' (hA.below hb) hc hp
  have HB0 := hide hb0
  have HFB := hide (fun w' (h : Below (w.heap.size + 1) (w.alloc (.cells #[.int .i64 0, .int .i64 0] 41)) w') => (h.block w.heap.size (Nat.lt_succ_self _)).trans (show (w.alloc (.cells #[.int .i64 0, .int .i64 0] 41)).heap[w.heap.size]? = some (.cells #[.int .i64 0, .int .i64 0] 41 (0, 0)) from alloc_at _ _))
  by_cases hn : numb p = true
  · rw [if_pos hn] at hr
    rw [hn] at hnu
    have HNU := hide hnu
    have HN := hide hn
    have HC3 := hide (show (([] : List Int).length + p.length) * 8 ≤ 140737488355328 by simp; omega)
    have HAI := hide (fun w' (hb : Below w.heap.size w w') => hA.below hb)
    have HR := hide hr
    clear hnu hn hr
    go_enter Tryd.func21, Tryd.ntmps21
    go_wp2_with (first
      | (go_at_call 27; refine Calls.mono (HNU.out _ HB0.out) ?_; rintro e w2 ⟨rfl, b2⟩; have hB2 := below_trans HB0.out (drawn_below b2))
      | (at_builtin; refine wp_app_ints _ rfl _ _ rfl w2.heap.size (.slice none 0 0) [] rfl (nil_own _ _ _ _) A p.length c p rfl rfl (HAI.out w2 hB2) HC3.out (Nat.le_refl _) ?_; intro G D w5 hc5 ho5 hg5 hob5))
    simp only [List.nil_append] at hc5 ho5 hob5 ⊢
    have hs2 : w.heap.size + 1 ≤ w2.heap.size := by have := (drawn_below b2).size; simp at this; omega
    have hb25 : Below w2.heap.size w2 w5 := below_of_grown hg5 rfl
    have hF2 := fun w' (h : Below w2.heap.size w2 w') => HFB.out w' (((drawn_below b2).mono (by simp)).trans (h.mono hs2))
    have HF2 := hide hF2
    clear hF2 hob5
    go_loopw [8] (fun v wr => ∃ i : Nat, i ≤ l.length ∧ v = .int .i64 i ∧ Hid (∀ j, j < i → okAt p l j = true) ∧ Hid (wr.ownsRow w2.heap.size 3 1 (.slice G p.length D) p.length (intCells (nowAt p l i))) ∧ Below w2.heap.size w2 wr) (fun v _ => l.length - (intOf v).toNat)
    case atStart => exact ⟨0, Nat.zero_le _, rfl, hide (fun j hj => absurd hj (Nat.not_lt_zero _)), hide ho5, hb25⟩
    case round =>
      obtain ⟨i, hi, rfl, HOK, HO, hBk⟩ := hrel
      obtain ⟨wi, rfl⟩ : ∃ wi : World, wi = wr := ⟨_, rfl⟩
      have hBi := below_trans hB2 hBk
      have i0 : (0 : Int) ≤ (i : Int) := Int.natCast_nonneg _
      obtain ⟨y0, q0⟩ := cell_of _ _ 0 _ _ (.int .i64 0) (HF2.out wi hBk) rfl
      obtain ⟨y1, q1⟩ := cell_of _ _ 1 _ _ (.int .i64 0) (HF2.out wi hBk) rfl
      have hlw : w.heap.size < wi.heap.size := by have := hBk.size; omega
      have Y0 := fun o => (World.cell?_alloc_lt wi o ⟨w.heap.size, 0, none⟩ hlw).trans y0
      have Y1 := fun o => (World.cell?_alloc_lt wi o ⟨w.heap.size, 1, none⟩ hlw).trans y1
      have Q0 := fun o => (World.frozen?_alloc_old wi o ⟨w.heap.size, 0, none⟩ (Nat.ne_of_lt hlw)).trans q0
      have Q1 := fun o => (World.frozen?_alloc_old wi o ⟨w.heap.size, 1, none⟩ (Nat.ne_of_lt hlw)).trans q1
      have hwn : w.heap.size ≠ wi.heap.size := Nat.ne_of_lt hlw
      by_cases hil : i < l.length
      · have i1 : (i : Int) < (l.length : Int) := by omega
        obtain ⟨b, off, rfl, hb, e1, e2, e3⟩ := (hB.below hBi).at_ i hil
        have hnn := nowAt_numb HN.out i hi HOK.out
        have hnl := nowAt_len p l i hi
        have hbad : okAt p l i = false → r = ([], 7, (i : Int)) := fun h => by rw [← HR.out, firstBad_at hil HOK.out h]
        have hgo : okAt p l i = true → ∀ j, j < i + 1 → okAt p l j = true := fun h j hj => by
          rcases Nat.lt_or_eq_of_le (Nat.le_of_lt_succ hj) with h1 | h1
          · exact HOK.out j h1
          · subst h1; exact h
        have hsu := nowAt_succ p l i hil
        unfold okAt at hbad hgo
        generalize nowAt p l i = now at HO hnn hnl hbad hgo hsu
        generalize l.getD i (0, 0, 0) = m at e1 e2 e3 hbad hgo hsu
        obtain ⟨f, t, s⟩ := m
        dsimp only at e1 e2 e3
        have HBAD := hide hbad
        have HGO := hide hgo
        have HSU := hide hsu
        clear hbad hgo hsu
        have hfin := fun o => (⟨(alloc_old _ o _ (by simpa using hlw)).trans (put_two _ _ _ (.int .i64 0) (.int .i64 0) (.int .i64 7) (.int .i64 i) (HF2.out wi hBk)), ((hBi.setCell (p := ⟨w.heap.size, 0, none⟩) (Nat.le_refl _) _).setCell (p := ⟨w.heap.size, 1, none⟩) (Nat.le_refl _) _).alloc (by simpa using hBi.size) o⟩ :
          (((wi.setCell ⟨w.heap.size, 0, none⟩ (.int .i64 7)).setCell ⟨w.heap.size, 1, none⟩ (.int .i64 i)).alloc o).heap[w.heap.size]? = some (.cells #[.int .i64 7, .int .i64 i] 41 (0, 0)) ∧ Below w.heap.size w (((wi.setCell ⟨w.heap.size, 0, none⟩ (.int .i64 7)).setCell ⟨w.heap.size, 1, none⟩ (.int .i64 i)).alloc o))
        have HFIN := hide hfin
        clear hfin
        have hfi2 := fun o n => (⟨put_two _ _ _ (.int .i64 0) (.int .i64 0) (.int .i64 7) (.int .i64 i) ((alloc_old wi o _ hlw).trans (HF2.out wi hBk)), (((below_drewN' (hBi.alloc hBi.size o) n).setCell (p := ⟨w.heap.size, 0, none⟩) (Nat.le_refl _) _).setCell (p := ⟨w.heap.size, 1, none⟩) (Nat.le_refl _) _)⟩ :
          (((((wi.alloc o).drewN n).setCell ⟨w.heap.size, 0, none⟩ (.int .i64 7)).setCell ⟨w.heap.size, 1, none⟩ (.int .i64 i))).heap[w.heap.size]? = some (.cells #[.int .i64 7, .int .i64 i] 41 (0, 0)) ∧ Below w.heap.size w (((((wi.alloc o).drewN n).setCell ⟨w.heap.size, 0, none⟩ (.int .i64 7)).setCell ⟨w.heap.size, 1, none⟩ (.int .i64 i))))
        have HFI2 := hide hfi2
        clear hfi2
        by_cases c1 : f < 0
        · have hr := HBAD.out (by unfold mvOk; simp [c1])
          subst hr
          go_wp2_with (fail)
          refine apF_ret (g := w.heap.size) rfl rfl (HFIN.out _).1 ?_
          exact ⟨none, 0, rfl, Ints.nil _ _, Nat.le_refl _, (HFIN.out _).2⟩
        have d1 : decide (f < 0) = false := decide_eq_false c1
        have f0 : 0 ≤ f := by omega
        by_cases c2 : t < 0
        · have hr := HBAD.out (by unfold mvOk; simp [c2])
          subst hr
          go_wp2_with (fail)
          refine apF_ret (g := w.heap.size) rfl rfl (HFIN.out _).1 ?_
          exact ⟨none, 0, rfl, Ints.nil _ _, Nat.le_refl _, (HFIN.out _).2⟩
        have d2 : decide (t < 0) = false := decide_eq_false c2
        have t0 : 0 ≤ t := by omega
        by_cases c3 : (now.length : Int) ≤ f
        · have hr := HBAD.out (by unfold mvOk; simp [c3])
          subst hr
          go_wp2_with (fail)
          refine apF_ret (g := w.heap.size) rfl rfl (HFIN.out _).1 ?_
          exact ⟨none, 0, rfl, Ints.nil _ _, Nat.le_refl _, (HFIN.out _).2⟩
        have d3 : decide ((now.length : Int) ≤ f) = false := decide_eq_false c3
        by_cases c4 : (now.length : Int) ≤ t
        · have hr := HBAD.out (by unfold mvOk; simp [c4])
          subst hr
          go_wp2_with (fail)
          refine apF_ret (g := w.heap.size) rfl rfl (HFIN.out _).1 ?_
          exact ⟨none, 0, rfl, Ints.nil _ _, Nat.le_refl _, (HFIN.out _).2⟩
        have d4 : decide ((now.length : Int) ≤ t) = false := decide_eq_false c4
        by_cases c5 : f = t
        · have hr := HBAD.out (by unfold mvOk; simp [c5])
          subst hr
          have b5 : (f == t) = true := by rw [beq_iff_eq]; exact c5
          go_wp2_with (fail)
          refine apF_ret (g := w.heap.size) rfl rfl (HFIN.out _).1 ?_
          exact ⟨none, 0, rfl, Ints.nil _ _, Nat.le_refl _, (HFIN.out _).2⟩
        have b5 : (f == t) = false := by rw [beq_eq_false_iff_ne]; exact c5
        have f1 : f < (p.length : Int) := by omega
        have t1 : t < (p.length : Int) := by omega
        obtain ⟨g, cap, eg, hgb, hgl⟩ := HO.out.form (by omega)
        injection eg with eg1 eg2 eg3
        subst eg1 eg3
        obtain ⟨x1, x2⟩ := own_at (k := .i64) HO.out f f0 (by omega)
        obtain ⟨y1', y2⟩ := own_at (k := .i64) HO.out t t0 (by omega)
        have hx := numb_get hnn f.toNat (by omega)
        have hy := numb_get hnn t.toNat (by omega)
        change wi.cell? _ = some (.int .i64 (now.getD f.toNat 0)) at x1
        change wi.cell? _ = some (.int .i64 (now.getD t.toNat 0)) at y1'
        generalize hxx : now.getD f.toNat 0 = x at x1 hx
        generalize hyy : now.getD t.toNat 0 = y at y1' hy
        have hw : IntKind.i64.wrap (x - y) = x - y := IntWalk.i64_in _ (by omega)
        have X1 := fun o => (World.cell?_alloc_lt wi o ⟨g, f.toNat, none⟩ hgl).trans x1
        have X2 := fun o => (World.cell?_alloc_lt wi o ⟨g, t.toNat, none⟩ hgl).trans y1'
        by_cases c6 : s < 0
        · have hr := HBAD.out (by unfold mvOk; simp [c6])
          subst hr
          go_wp2_with (fail)
          go_quiet (fail)
          go_wp2_with (fail)
          refine apF_ret (g := w.heap.size) rfl rfl (HFI2.out _ _).1 ?_
          exact ⟨none, 0, rfl, Ints.nil _ _, Nat.le_refl _, (HFI2.out _ _).2⟩
        have d6 : decide (s < 0) = false := decide_eq_false c6
        have s0 : 0 ≤ s := by omega
        by_cases c7 : x - y < s
        · have hr := HBAD.out (by show (!(_ || decide (now.getD f.toNat 0 - now.getD t.toNat 0 < s))) = false; rw [hxx, hyy, decide_eq_true c7, Bool.or_true]; rfl)
          subst hr
          go_wp2_with (fail)
          go_quiet (fail)
          go_wp2_with (fail)
          refine apF_ret (g := w.heap.size) rfl rfl (HFI2.out _ _).1 ?_
          exact ⟨none, 0, rfl, Ints.nil _ _, Nat.le_refl _, (HFI2.out _ _).2⟩
        have d7 : decide (x - y < s) = false := decide_eq_false c7
        go_wp2_with (fail)
        go_quiet (fail)
        go_wp2_with (fail)
        have hw1 : IntKind.i64.wrap (x - s) = x - s := IntWalk.i64_in _ (by omega)
        have hw2 : IntKind.i64.wrap (y + s) = y + s := IntWalk.i64_in _ (by omega)
        generalize hw3 : World.drewN (wi.alloc _) nq = w3
        have hk3 : Below wi.heap.size wi w3 := by rw [← hw3]; exact below_drewN' (below_alloc' (Below.refl _ _) _) nq
        have mc : w3.cell? ⟨wi.heap.size, 0, none⟩ = some (.int .i64 f) ∧ w3.cell? ⟨wi.heap.size, 1, none⟩ = some (.int .i64 t) ∧ w3.cell? ⟨wi.heap.size, 2, none⟩ = some (.int .i64 s) := by rw [← hw3]; exact ⟨by simp, by simp, by simp⟩
        obtain ⟨m0, m1, m2⟩ := mc
        have r1 : w3.cell? ⟨g, f.toNat, none⟩ = some (.int .i64 x) := (hk3.cell (p := ⟨g, f.toNat, none⟩) hgl).trans x1
        have r2 : w3.frozen? ⟨g, f.toNat, none⟩ = false := (hk3.frozen (p := ⟨g, f.toNat, none⟩) hgl).trans x2
        go_region
        have ho3 := own_below HO.out hk3
        obtain ⟨ho4, _⟩ := own_store (k := .i64) ho3 f (x - s)
        generalize hw4 : World.drew (w3.setCell _ _) = w4
        have hsz3 : wi.heap.size ≤ w3.heap.size := hk3.size
        have hb4 : Below w2.heap.size w2 w4 := by rw [← hw4]; exact ((hBk.trans (hk3.mono hBk.size)).setCell (p := ⟨g, f.toNat, none⟩) hgb _).drew
        have ho4' : w4.ownsRow w2.heap.size 3 1 (.slice (some ⟨g, 0, none⟩) p.length D) p.length (nums .i64 (now.set f.toNat (x - s))) := by rw [← hw4]; exact ho4
        have hgn : g ≠ wi.heap.size := Nat.ne_of_lt hgl
        have n1 : w4.cell? ⟨wi.heap.size, 1, none⟩ = some (.int .i64 t) := by rw [← hw4]; exact (World.cell?_setCell_other _ _ _ _ (by simp)).trans m1
        have n2 : w4.cell? ⟨wi.heap.size, 2, none⟩ = some (.int .i64 s) := by rw [← hw4]; exact (World.cell?_setCell_other _ _ _ _ (by simp)).trans m2
        obtain ⟨z1, z2⟩ := own_at (k := .i64) ho4' t t0 (by omega)
        have hz : rd (now.set f.toNat (x - s)) t = y := by
          have hne : f.toNat ≠ t.toNat := by omega
          show (now.set f.toNat (x - s)).getD t.toNat 0 = y
          rw [← hyy, List.getD_eq_getElem?_getD, List.getElem?_set_ne hne, ← List.getD_eq_getElem?_getD]
        rw [hz] at z1
        have hgl4 : g < w4.heap.size := World.block_lt_of_cell? w4 _ z1
        obtain ⟨ho5', _⟩ := own_store (k := .i64) ho4' t (y + s)
        clear hw4 hw3 ho3 ho4 r1 r2 m0 m1 m2 x1 x2 y1' y2 hz HFIN HFI2
        go_wp2_with (fail)
        go_region
        have hb6 := (hb4.setCell (p := ⟨g, t.toNat, none⟩) hgb (.int .i64 (y + s))).drew
        have hnx := HSU.out
        unfold mvDo at hnx
        dsimp only at hnx
        rw [hxx, hyy] at hnx
        have hgo := HGO.out (by unfold mvOk; simp only [hxx, hyy, d1, d2, d3, d4, d6, d7, decide_eq_false c5, Bool.or_false, Bool.not_false])
        have HNX := hide hnx
        have HG2 := hide hgo
        clear hnx hgo hxx hyy
        go_wp2_with (fail)
        go_roundw
        case rel => exact ⟨i + 1, by omega, by go_num, HG2, hide (by rw [HNX.out]; exact ho5'), hb6⟩
        case measure => simp [intOf]; omega
      · obtain rfl : i = l.length := by omega
        have hr := HR.out
        rw [firstBad_none HOK.out] at hr
        subst hr
        have hnl := nowAt_len p l l.length (Nat.le_refl _)
        have HIN := hide (own_ints (ownsRow_setCell_below (ownsRow_setCell_below HO.out (a := ⟨w.heap.size, 0, none⟩) (by show w.heap.size < _; omega) (.int .i64 0)) (a := ⟨w.heap.size, 1, none⟩) (by show w.heap.size < _; omega) (.int .i64 (-1))) hnl)
        go_wp2_with (fail)
        refine apF_ret (g := w.heap.size) rfl rfl (put_two _ _ _ (.int .i64 0) (.int .i64 0) _ _ (HF2.out wi hBk)) ?_
        exact ⟨G, D, by rw [hnl], HIN.out, by rw [hnl]; exact hc5, (hBi.setCell (p := ⟨w.heap.size, 0, none⟩) (Nat.le_refl _) _).setCell (p := ⟨w.heap.size, 1, none⟩) (Nat.le_refl _) _⟩
  · have hn' : numb p = false := by simpa using hn
    rw [if_neg hn] at hr
    subst hr
    rw [hn'] at hnu
    have HNU := hide hnu
    clear hnu hn hn'
    go_enter Tryd.func21, Tryd.ntmps21
    go_wp2_with (go_at_call 27; refine Calls.mono (HNU.out _ HB0.out) ?_; rintro e w2 ⟨rfl, b2⟩; obtain ⟨⟨n2, rfl⟩⟩ := b2)
    refine apF_ret (g := w.heap.size) rfl rfl (put_two _ _ _ (.int .i64 0) (.int .i64 0) _ _ (alloc_at _ _)) ?_
    exact ⟨none, 0, rfl, Ints.nil _ _, Nat.le_refl _, ((below_drewN' HB0.out n2).setCell (p := ⟨w.heap.size, 0, none⟩) (Nat.le_refl _) _).setCell (p := ⟨w.heap.size, 1, none⟩) (Nat.le_refl _) _⟩
end Go.Proofs.YtcnecmcbjpehcaaDoor

/- The walk of order.Apply. Condition: the variables read as laid. -/
namespace Go.Proofs.YtcnecmcbjpehcaaDoor
open Go.RowKit Go.Deep Go.Proofs.YtcnecmcbjpehcaaDoorW.PrintWords

/-- the error value tells this code and this place -/
def FaultErr (w : World) (a : Nat → Addr) (err : Value) (c p : Int) : Prop :=
  (c = 0 ∧ err = .nilIface) ∨ (∃ k : Nat, 1 ≤ k ∧ k ≤ 8 ∧ c = (k : Int) ∧ p = -1 ∧ err = .iface 155 (.pointer (some (a k)))) ∨
  (∃ (k g : Nat), 1 ≤ k ∧ k ≤ 8 ∧ c = (k : Int) ∧ err = .iface 75 (.pointer (some ⟨g, 0, none⟩)) ∧ g < w.heap.size ∧ w.cell? ⟨g, 0, none⟩ = some (.int .i64 p) ∧ w.cell? ⟨g, 1, none⟩ = some (.iface 155 (.pointer (some (a k)))))
/-- what Apply hands back -/
def RetAp (a : Nat → Addr) (r : List Int × Int × Int) (w : World) (e : Ending) (w' : World) : Prop :=
  ∃ G d err, e = .returned (.tuple #[.slice G r.1.length d, err]) ∧ Ints w' G r.1 ∧ r.1.length ≤ d ∧ FaultErr w' a err r.2.1 r.2.2 ∧ Below w.heap.size w w'
theorem clone_any (A : Option Addr) (l : List Int) (c : Nat) (w : World) (hA : Ints w A l) (hl : l.length ≤ 2000000) :
    Calls Tryd.prog 40 #[.slice A l.length c] w fun e w' => ∃ G d, e = .returned (.slice G l.length d) ∧ l.length ≤ d ∧ w'.ownsRow w.heap.size 3 1 (.slice G l.length d) l.length (intCells l) ∧ Below w.heap.size w w' := by
  by_cases h0 : 0 < l.length
  · refine (clone_ok A l c w hA h0 hl).mono ?_
    rintro e w' ⟨g, d, rfl, _, hd, ho, hb⟩
    exact ⟨_, d, rfl, hd, ho, hb⟩
  · obtain rfl : l = [] := by cases l with | nil => rfl | cons => simp at h0
    cases A with
    | none =>
      refine (Tryd.slices_Clone_int_nil 0 c w).mono ?_
      rintro e w' ⟨rfl, rfl⟩
      exact ⟨none, 0, rfl, Nat.le_refl _, nil_own _ _ _ _, Below.refl _ _⟩
    | some ad =>
      refine (Tryd.slices_Clone_int_zero ad c w).mono ?_
      rintro e w' ⟨v', rfl, ho, _, hb⟩
      obtain ⟨A', c', rfl, hc, _⟩ := own_shape ho
      exact ⟨A', c', rfl, hc, ho, hb⟩

set_option maxRecDepth 100000 in
set_option maxHeartbeats 2000000 in
theorem apply_few (A B : Option Addr) (p : List Int) (l : List Mv) (c d : Nat) (w : World) (a : Nat → Addr) (hE : Env [2, 3, 7] w a) (hA : Ints w A p) (hB : Trips w B l) (hp : p.length ≤ 2000000)
    (hbad : 16 < p.length ∨ 4000 < l.length ∨ numb p = false) :
    Calls Tryd.prog 22 #[.slice A p.length c, .slice B l.length d] w fun e w' => RetAp a (apRes p l) w e w' := by
  have hlen := hA.len
  have hlenb := hB.len
  have HEN := hide (fun w' (hb : Below w.heap.size w w') => (⟨(hE.below hb).cell 2 (by decide), (hE.below hb).cell 3 (by decide)⟩ : w'.cell? ⟨glob 2, 0, none⟩ = _ ∧ w'.cell? ⟨glob 3, 0, none⟩ = _))
  simp only [glob] at HEN
  obtain ⟨y2, y3⟩ := HEN.out w (Below.refl _ _)
  obtain ⟨r, hr⟩ : ∃ r, apRes p l = r := ⟨_, rfl⟩
  rw [hr]
  unfold apRes at hr
  by_cases c1 : 16 < (p.length : Int)
  · rw [if_pos (.inl (by omega))] at hr
    subst hr
    go_enter Tryd.func22, Tryd.ntmps22
    go_wp2_with (fail)
    go_quiet (fail)
    go_wp2_with (fail)
    go_ret2
    exact ⟨none, 0, _, rfl, Ints.nil _ _, Nat.le_refl _, .inr (.inl ⟨2, by decide, by decide, rfl, rfl, rfl⟩), below_drewN' (Below.refl _ _) _⟩
  by_cases c2 : 4000 < (l.length : Int)
  · rw [if_pos (.inr (by omega))] at hr
    subst hr
    go_enter Tryd.func22, Tryd.ntmps22
    go_wp2_with (fail)
    go_quiet (fail)
    go_wp2_with (fail)
    go_ret2
    exact ⟨none, 0, _, rfl, Ints.nil _ _, Nat.le_refl _, .inr (.inl ⟨2, by decide, by decide, rfl, rfl, rfl⟩), below_drewN' (Below.refl _ _) _⟩
  rw [if_neg (by omega)] at hr
  have hn : numb p = false := by
    rcases hbad with h | h | h
    · omega
    · omega
    · exact h
  rw [if_neg (by rw [hn]; decide)] at hr
  subst hr
  have hnu := numbers_any A p c w hA
  rw [hn] at hnu
  have HNU := hide hnu
  clear hnu hn hbad
  go_enter Tryd.func22, Tryd.ntmps22
  go_wp2_with (go_at_call 46; refine Calls.mono HNU.out ?_; rintro e w1 ⟨rfl, b1⟩)
  obtain ⟨z2, z3⟩ := HEN.out w1 b1
  go_quiet (fail)
  go_wp2_with (fail)
  go_ret2
  exact ⟨none, 0, _, rfl, Ints.nil _ _, Nat.le_refl _, .inr (.inl ⟨3, by decide, by decide, rfl, rfl, rfl⟩), below_drewN' b1 _⟩

set_option maxRecDepth 100000 in
set_option maxHeartbeats 8000000 in
theorem apply_good (A B : Option Addr) (p : List Int) (l : List Mv) (c d : Nat) (w : World) (a : Nat → Addr) (hE : Env [2, 3, 7] w a) (hA : Ints w A p) (hB : Trips w B l) (hp : p.length ≤ 16) (hl : l.length ≤ 4000) (hn : numb p = true) :
    Calls Tryd.prog 22 #[.slice A p.length c, .slice B l.length d] w fun e w' => RetAp a (apRes p l) w e w' := by
  have hlen := hA.len
  have hlenb := hB.len
  have HEN := hide (fun w' (hb : Below w.heap.size w w') => ((hE.below hb).cell 7 (by decide) : w'.cell? ⟨glob 7, 0, none⟩ = _))
  simp only [glob] at HEN
  obtain ⟨r, hr⟩ : ∃ r, apRes p l = r := ⟨_, rfl⟩
  rw [hr]
  unfold apRes at hr
  rw [if_neg (by omega), if_pos hn] at hr
  have hnu := numbers_any A p c w hA
  rw [hn] at hnu
  have HNU := hide hnu
  have HN := hide hn
  have HCL := hide (fun w' (hb : Below w.heap.size w w') => clone_any A p c w' (hA.below hb) (by omega))
  have HR := hide hr
  have hp' : (p.length : Int) ≤ 16 := by omega
  have hl' : (l.length : Int) ≤ 4000 := by omega
  clear hnu hn hr hp hl
  go_enter Tryd.func22, Tryd.ntmps22
  go_wp2_with (first
    | (go_at_call 46; refine Calls.mono HNU.out ?_; rintro e w1 ⟨rfl, hB1⟩)
    | (go_at_call 40; refine Calls.mono (HCL.out _ hB1) ?_; rintro e w5 ⟨G, D, rfl, hc5, ho5, b5⟩; have hB5 := below_trans hB1 b5))
  go_loopw [26] (fun v wr => ∃ i : Nat, i ≤ l.length ∧ v = .int .i64 i ∧ Hid (∀ j, j < i → okAt p l j = true) ∧ Hid (wr.ownsRow w1.heap.size 3 1 (.slice G p.length D) p.length (intCells (nowAt p l i))) ∧ Below w1.heap.size w1 wr) (fun v _ => l.length - (intOf v).toNat)
  case atStart => exact ⟨0, Nat.zero_le _, rfl, hide (fun j hj => absurd hj (Nat.not_lt_zero _)), hide ho5, b5⟩
  case round =>
    obtain ⟨i, hi, rfl, HOK, HO, hBk⟩ := hrel
    obtain ⟨wi, rfl⟩ : ∃ wi : World, wi = wr := ⟨_, rfl⟩
    have hBi := below_trans hB1 hBk
    have i0 : (0 : Int) ≤ (i : Int) := Int.natCast_nonneg _
    by_cases hil : i < l.length
    · have i1 : (i : Int) < (l.length : Int) := by omega
      obtain ⟨b, off, rfl, hb, e1, e2, e3⟩ := (hB.below hBi).at_ i hil
      have hnn := nowAt_numb HN.out i hi HOK.out
      have hnl := nowAt_len p l i hi
      have hbad : okAt p l i = false → r = ([], 7, (i : Int)) := fun h => by rw [← HR.out, firstBad_at hil HOK.out h]
      have hgo : okAt p l i = true → ∀ j, j < i + 1 → okAt p l j = true := fun h j hj => by
        rcases Nat.lt_or_eq_of_le (Nat.le_of_lt_succ hj) with h1 | h1
        · exact HOK.out j h1
        · subst h1; exact h
      have hsu := nowAt_succ p l i hil
      unfold okAt at hbad hgo
      generalize nowAt p l i = now at HO hnn hnl hbad hgo hsu
      generalize l.getD i (0, 0, 0) = m at e1 e2 e3 hbad hgo hsu
      obtain ⟨f, t, s⟩ := m
      dsimp only at e1 e2 e3
      have HBAD := hide hbad
      have HGO := hide hgo
      have HSU := hide hsu
      clear hbad hgo hsu
      by_cases c1 : f < 0
      · have hr := HBAD.out (by unfold mvOk; simp [c1])
        subst hr
        go_wp2_with (fail)
        go_quiet (fail)
        generalize hw3 : World.drewN (wi.alloc _) nq = w3
        have hb3 : Below w.heap.size w w3 := by rw [← hw3]; exact below_drewN' (hBi.alloc hBi.size _) nq
        have z7 := HEN.out w3 hb3
        clear hw3
        go_wp2_with (fail)
        go_region
        go_wp2_with (fail)
        go_ret2
        exact ⟨none, 0, _, rfl, Ints.nil _ _, Nat.le_refl _, .inr (.inr ⟨7, w3.heap.size, by decide, by decide, rfl, rfl, by simp, by simp, by simp⟩), by first | exact (hb3.alloc hb3.size _).drew | exact (hb3.drew.alloc hb3.size _) | exact below_drewN' (hb3.alloc hb3.size _) _⟩
      have d1 : decide (f < 0) = false := decide_eq_false c1
      have f0 : 0 ≤ f := by omega
      by_cases c2 : t < 0
      · have hr := HBAD.out (by unfold mvOk; simp [c2])
        subst hr
        go_wp2_with (fail)
        go_quiet (fail)
        generalize hw3 : World.drewN (wi.alloc _) nq = w3
        have hb3 : Below w.heap.size w w3 := by rw [← hw3]; exact below_drewN' (hBi.alloc hBi.size _) nq
        have z7 := HEN.out w3 hb3
        clear hw3
        go_wp2_with (fail)
        go_region
        go_wp2_with (fail)
        go_ret2
        exact ⟨none, 0, _, rfl, Ints.nil _ _, Nat.le_refl _, .inr (.inr ⟨7, w3.heap.size, by decide, by decide, rfl, rfl, by simp, by simp, by simp⟩), by first | exact (hb3.alloc hb3.size _).drew | exact (hb3.drew.alloc hb3.size _) | exact below_drewN' (hb3.alloc hb3.size _) _⟩
      have d2 : decide (t < 0) = false := decide_eq_false c2
      have t0 : 0 ≤ t := by omega
      by_cases c3 : (now.length : Int) ≤ f
      · have hr := HBAD.out (by unfold mvOk; simp [c3])
        rw [hnl] at c3
        subst hr
        go_wp2_with (fail)
        go_quiet (fail)
        generalize hw3 : World.drewN (wi.alloc _) nq = w3
        have hb3 : Below w.heap.size w w3 := by rw [← hw3]; exact below_drewN' (hBi.alloc hBi.size _) nq
        have z7 := HEN.out w3 hb3
        clear hw3
        go_wp2_with (fail)
        go_region
        go_wp2_with (fail)
        go_ret2
        exact ⟨none, 0, _, rfl, Ints.nil _ _, Nat.le_refl _, .inr (.inr ⟨7, w3.heap.size, by decide, by decide, rfl, rfl, by simp, by simp, by simp⟩), by first | exact (hb3.alloc hb3.size _).drew | exact (hb3.drew.alloc hb3.size _) | exact below_drewN' (hb3.alloc hb3.size _) _⟩
      have d3 : decide ((now.length : Int) ≤ f) = false := decide_eq_false c3
      have d3' : decide ((p.length : Int) ≤ f) = false := by rw [← hnl]; exact d3
      by_cases c4 : (now.length : Int) ≤ t
      · have hr := HBAD.out (by unfold mvOk; simp [c4])
        rw [hnl] at c4
        subst hr
        go_wp2_with (fail)
        go_quiet (fail)
        generalize hw3 : World.drewN (wi.alloc _) nq = w3
        have hb3 : Below w.heap.size w w3 := by rw [← hw3]; exact below_drewN' (hBi.alloc hBi.size _) nq
        have z7 := HEN.out w3 hb3
        clear hw3
        go_wp2_with (fail)
        go_region
        go_wp2_with (fail)
        go_ret2
        exact ⟨none, 0, _, rfl, Ints.nil _ _, Nat.le_refl _, .inr (.inr ⟨7, w3.heap.size, by decide, by decide, rfl, rfl, by simp, by simp, by simp⟩), by first | exact (hb3.alloc hb3.size _).drew | exact (hb3.drew.alloc hb3.size _) | exact below_drewN' (hb3.alloc hb3.size _) _⟩
      have d4 : decide ((now.length : Int) ≤ t) = false := decide_eq_false c4
      have d4' : decide ((p.length : Int) ≤ t) = false := by rw [← hnl]; exact d4
      by_cases c5 : f = t
      · have hr := HBAD.out (by unfold mvOk; simp [c5])
        have b5 : (f == t) = true := by rw [beq_iff_eq]; exact c5
        subst hr
        go_wp2_with (fail)
        go_quiet (fail)
        generalize hw3 : World.drewN (wi.alloc _) nq = w3
        have hb3 : Below w.heap.size w w3 := by rw [← hw3]; exact below_drewN' (hBi.alloc hBi.size _) nq
        have z7 := HEN.out w3 hb3
        clear hw3
        go_wp2_with (fail)
        go_region
        go_wp2_with (fail)
        go_ret2
        exact ⟨none, 0, _, rfl, Ints.nil _ _, Nat.le_refl _, .inr (.inr ⟨7, w3.heap.size, by decide, by decide, rfl, rfl, by simp, by simp, by simp⟩), by first | exact (hb3.alloc hb3.size _).drew | exact (hb3.drew.alloc hb3.size _) | exact below_drewN' (hb3.alloc hb3.size _) _⟩
      have b5 : (f == t) = false := by rw [beq_eq_false_iff_ne]; exact c5
      have f1 : f < (p.length : Int) := by omega
      have t1 : t < (p.length : Int) := by omega
      obtain ⟨g, cap, eg, hgb, hgl⟩ := HO.out.form (by omega)
      injection eg with eg1 eg2 eg3
      subst eg1 eg3
      obtain ⟨x1, x2⟩ := own_at (k := .i64) HO.out f f0 (by omega)
      obtain ⟨y1', y2⟩ := own_at (k := .i64) HO.out t t0 (by omega)
      have hx := numb_get hnn f.toNat (by omega)
      have hy := numb_get hnn t.toNat (by omega)
      change wi.cell? _ = some (.int .i64 (now.getD f.toNat 0)) at x1
      change wi.cell? _ = some (.int .i64 (now.getD t.toNat 0)) at y1'
      generalize hxx : now.getD f.toNat 0 = x at x1 hx
      generalize hyy : now.getD t.toNat 0 = y at y1' hy
      have hw : IntKind.i64.wrap (x - y) = x - y := IntWalk.i64_in _ (by omega)
      have X1 := fun o => (World.cell?_alloc_lt wi o ⟨g, f.toNat, none⟩ hgl).trans x1
      have X2 := fun o => (World.cell?_alloc_lt wi o ⟨g, t.toNat, none⟩ hgl).trans y1'
      by_cases c6 : s < 0
      · have hr := HBAD.out (by unfold mvOk; simp [c6])
        subst hr
        go_wp2_with (fail)
        go_quiet (fail)
        generalize hw3 : World.drewN (wi.alloc _) nq = w3
        have hb3 : Below w.heap.size w w3 := by rw [← hw3]; exact below_drewN' (hBi.alloc hBi.size _) nq
        have z7 := HEN.out w3 hb3
        clear hw3
        go_wp2_with (fail)
        go_region
        go_wp2_with (fail)
        go_ret2
        exact ⟨none, 0, _, rfl, Ints.nil _ _, Nat.le_refl _, .inr (.inr ⟨7, w3.heap.size, by decide, by decide, rfl, rfl, by simp, by simp, by simp⟩), by first | exact (hb3.alloc hb3.size _).drew | exact (hb3.drew.alloc hb3.size _) | exact below_drewN' (hb3.alloc hb3.size _) _⟩
      have d6 : decide (s < 0) = false := decide_eq_false c6
      have s0 : 0 ≤ s := by omega
      by_cases c7 : x - y < s
      · have hr := HBAD.out (by show (!(_ || decide (now.getD f.toNat 0 - now.getD t.toNat 0 < s))) = false; rw [hxx, hyy, decide_eq_true c7, Bool.or_true]; rfl)
        subst hr
        go_wp2_with (fail)
        go_quiet (fail)
        generalize hw3 : World.drewN (wi.alloc _) nq = w3
        have hb3 : Below w.heap.size w w3 := by rw [← hw3]; exact below_drewN' (hBi.alloc hBi.size _) nq
        have z7 := HEN.out w3 hb3
        clear hw3
        go_wp2_with (fail)
        go_region
        go_wp2_with (fail)
        go_ret2
        exact ⟨none, 0, _, rfl, Ints.nil _ _, Nat.le_refl _, .inr (.inr ⟨7, w3.heap.size, by decide, by decide, rfl, rfl, by simp, by simp, by simp⟩), by first | exact (hb3.alloc hb3.size _).drew | exact (hb3.drew.alloc hb3.size _) | exact below_drewN' (hb3.alloc hb3.size _) _⟩
      have d7 : decide (x - y < s) = false := decide_eq_false c7
      go_wp2_with (fail)
      go_quiet (fail)
      go_wp2_with (fail)
      have hw1 : IntKind.i64.wrap (x - s) = x - s := IntWalk.i64_in _ (by omega)
      have hw2 : IntKind.i64.wrap (y + s) = y + s := IntWalk.i64_in _ (by omega)
      generalize hw3 : World.drewN (wi.alloc _) nq = w3
      have hk3 : Below wi.heap.size wi w3 := by rw [← hw3]; exact below_drewN' (below_alloc' (Below.refl _ _) _) nq
      have mc : w3.cell? ⟨wi.heap.size, 0, none⟩ = some (.int .i64 f) ∧ w3.cell? ⟨wi.heap.size, 1, none⟩ = some (.int .i64 t) ∧ w3.cell? ⟨wi.heap.size, 2, none⟩ = some (.int .i64 s) := by rw [← hw3]; exact ⟨by simp, by simp, by simp⟩
      obtain ⟨m0, m1, m2⟩ := mc
      have r1 : w3.cell? ⟨g, f.toNat, none⟩ = some (.int .i64 x) := (hk3.cell (p := ⟨g, f.toNat, none⟩) hgl).trans x1
      have r2 : w3.frozen? ⟨g, f.toNat, none⟩ = false := (hk3.frozen (p := ⟨g, f.toNat, none⟩) hgl).trans x2
      go_region
      have ho3 := own_below HO.out hk3
      obtain ⟨ho4, _⟩ := own_store (k := .i64) ho3 f (x - s)
      generalize hw4 : World.drew (w3.setCell _ _) = w4
      have hsz3 : wi.heap.size ≤ w3.heap.size := hk3.size
      have hb4 : Below w1.heap.size w1 w4 := by rw [← hw4]; exact ((hBk.trans (hk3.mono hBk.size)).setCell (p := ⟨g, f.toNat, none⟩) hgb _).drew
      have ho4' : w4.ownsRow w1.heap.size 3 1 (.slice (some ⟨g, 0, none⟩) p.length D) p.length (nums .i64 (now.set f.toNat (x - s))) := by rw [← hw4]; exact ho4
      have hgn : g ≠ wi.heap.size := Nat.ne_of_lt hgl
      have n1 : w4.cell? ⟨wi.heap.size, 1, none⟩ = some (.int .i64 t) := by rw [← hw4]; exact (World.cell?_setCell_other _ _ _ _ (by simp)).trans m1
      have n2 : w4.cell? ⟨wi.heap.size, 2, none⟩ = some (.int .i64 s) := by rw [← hw4]; exact (World.cell?_setCell_other _ _ _ _ (by simp)).trans m2
      obtain ⟨z1, z2⟩ := own_at (k := .i64) ho4' t t0 (by omega)
      have hz : rd (now.set f.toNat (x - s)) t = y := by
        have hne : f.toNat ≠ t.toNat := by omega
        show (now.set f.toNat (x - s)).getD t.toNat 0 = y
        rw [← hyy, List.getD_eq_getElem?_getD, List.getElem?_set_ne hne, ← List.getD_eq_getElem?_getD]
      rw [hz] at z1
      have hgl4 : g < w4.heap.size := World.block_lt_of_cell? w4 _ z1
      obtain ⟨ho5', _⟩ := own_store (k := .i64) ho4' t (y + s)
      clear hw4 hw3 ho3 ho4 r1 r2 m0 m1 m2 x1 x2 y1' y2 hz
      go_wp2_with (fail)
      go_region
      have hb6 := (hb4.setCell (p := ⟨g, t.toNat, none⟩) hgb (.int .i64 (y + s))).drew
      have hnx := HSU.out
      unfold mvDo at hnx
      dsimp only at hnx
      rw [hxx, hyy] at hnx
      have hgo := HGO.out (by unfold mvOk; simp only [hxx, hyy, d1, d2, d3, d4, d6, d7, decide_eq_false c5, Bool.or_false, Bool.not_false])
      have HNX := hide hnx
      have HG2 := hide hgo
      clear hnx hgo hxx hyy
      go_wp2_with (fail)
      go_roundw
      case rel => exact ⟨i + 1, by omega, by go_num, HG2, hide (by rw [HNX.out]; exact ho5'), hb6⟩
      case measure => simp [intOf]; omega
    · obtain rfl : i = l.length := by omega
      have hr := HR.out
      rw [firstBad_none HOK.out] at hr
      subst hr
      have hnl := nowAt_len p l l.length (Nat.le_refl _)
      have HIN := hide (own_ints HO.out hnl)
      go_wp2_with (fail)
      go_ret2
      exact ⟨G, D, _, by rw [hnl]; rfl, HIN.out, by rw [hnl]; exact hc5, .inl ⟨rfl, rfl⟩, hBi⟩
theorem apply_ok (A B : Option Addr) (p : List Int) (l : List Mv) (c d : Nat) (w : World) (a : Nat → Addr) (hE : Env [2, 3, 7] w a) (hA : Ints w A p) (hB : Trips w B l) (hp : p.length ≤ 2000000) :
    Calls Tryd.prog 22 #[.slice A p.length c, .slice B l.length d] w fun e w' => RetAp a (apRes p l) w e w' := by
  by_cases h1 : 16 < p.length
  · exact apply_few A B p l c d w a hE hA hB hp (.inl h1)
  by_cases h2 : 4000 < l.length
  · exact apply_few A B p l c d w a hE hA hB hp (.inr (.inl h2))
  by_cases h3 : numb p = true
  · exact apply_good A B p l c d w a hE hA hB (by omega) (by omega) h3
  · exact apply_few A B p l c d w a hE hA hB hp (.inr (.inr (by simpa using h3)))
end Go.Proofs.YtcnecmcbjpehcaaDoor

/- The walk of order.first: the first permutation, in order, whose numbers are not 0. No condition. -/
namespace Go.Proofs.YtcnecmcbjpehcaaDoor
open Go.RowKit Go.Deep Go.Proofs.YtcnecmcbjpehcaaDoorW.PrintWords

def tryFrom (cand : Nat → Option (List Int)) : Nat → Nat → Option (List Int)
  | 0, _ => none
  | c + 1, k => match cand k with
    | some p => some p
    | none => tryFrom cand c (k + 1)
/-- the first permutation behind ahead, d numbers more -/
def firstP (m : List (List Int)) : Nat → List Int → Option (List Int)
  | 0, ahead => some ahead
  | d + 1, ahead => tryFrom (fun k => if (decide ((m.getD ahead.length []).getD k 0 = 0) || ahead.contains (k : Int)) = true then none else firstP m d (ahead ++ [(k : Int)])) m.length 0
def RetFirst (B : Nat) (r : Option (List Int)) (e : Ending) (w' : World) : Prop :=
  match r with
  | none => e = .returned (.slice none 0 0)
  | some p => ∃ g x, e = .returned (.slice (some ⟨g, 0, none⟩) p.length x) ∧ B ≤ g ∧ g < w'.heap.size ∧ Ints w' (some ⟨g, 0, none⟩) p ∧ p.length ≤ x
theorem contains_ok (g : Nat) (l : List Int) (c : Nat) (x : Int) (w : World) (hA : Ints w (some ⟨g, 0, none⟩) l) :
    Calls Tryd.prog 53 #[.slice (some ⟨g, 0, none⟩) l.length c, .int .i64 x] w fun e w' => e = .returned (.bool (l.contains x)) ∧ w = w' := by
  have hlen := hA.len
  refine (Tryd.slices_Contains_int g 0 l.length c l x w (Nat.le_refl _) hlen (fun j hj => ?_)).mono ?_
  · obtain ⟨b, off, e, _, h⟩ := hA.at_ j hj
    injection e with e
    injection e with e1 e2 _
    subst e1 e2
    exact h
  · rintro e w' ⟨rfl, rfl⟩
    rw [List.take_length]
    exact ⟨rfl, rfl⟩

set_option maxRecDepth 100000 in
set_option maxHeartbeats 4000000 in
theorem first_ok (m : List (List Int)) (h16 : m.length ≤ 16) (hm : ∀ i, i < m.length → (m.getD i []).length = m.length) : ∀ (d : Nat) (ahead : List Int) (ga ca c : Nat) (M : Option Addr) (w : World) (B : Nat),
    ahead.length + d = m.length → Lists w M m → Ints w (some ⟨ga, 0, none⟩) ahead → ga < w.heap.size → B ≤ ga → B ≤ w.heap.size → ahead.length ≤ ca →
    Calls Tryd.prog 42 #[.slice M m.length c, .slice (some ⟨ga, 0, none⟩) ahead.length ca] w fun e w' => RetFirst B (firstP m d ahead) e w' ∧ Below w.heap.size w w' := by
  intro d
  induction d with
  | zero =>
    intro ahead ga ca c M w B hl hM hA hga hB hBw hca
    have h1 : ((ahead.length : Int) == (m.length : Int)) = true := by rw [beq_iff_eq]; omega
    have hlen := hM.len
    have hlen2 := hA.len
    have HL := hide hl
    clear hl
    go_enter Tryd.func42, Tryd.ntmps42
    go_wp2_with (fail)
    go_ret
    exact ⟨⟨ga, ca, rfl, hB, hga, hA, hca⟩, Below.refl _ _⟩
  | succ d ih =>
    intro ahead ga ca c M w B hl hM hA hga hB hBw hca
    have h1 : ((ahead.length : Int) == (m.length : Int)) = false := by rw [beq_eq_false_iff_ne]; omega
    have hlen := hM.len
    have hlen2 := hA.len
    have a0 : (0 : Int) ≤ (ahead.length : Int) := Int.natCast_nonneg _
    have a1 : (ahead.length : Int) < (m.length : Int) := by omega
    obtain ⟨b, off, A', c', rfl, hb, d1, hle, hI⟩ := hM.at_ ahead.length (by omega)
    have hrl := hm ahead.length (by omega)
    have HIH := hide ih
    obtain ⟨r, hr⟩ : ∃ r, firstP m (d + 1) ahead = r := ⟨_, rfl⟩
    have hf : firstP m (d + 1) ahead = tryFrom (fun k => if (decide ((m.getD ahead.length []).getD k 0 = 0) || ahead.contains (k : Int)) = true then none else firstP m d (ahead ++ [(k : Int)])) m.length 0 := rfl
    rw [hr]
    rw [hr] at hf
    rw [hrl] at d1
    have HF := hide hf
    have HL := hide hl
    have HCO := hide (fun w' (hb : Below w.heap.size w w') x => contains_ok ga ahead ca x w' (hA.below hb))
    have HCL := hide (fun w' (hb : Below w.heap.size w w') => clone_any (some ⟨ga, 0, none⟩) ahead ca w' (hA.below hb) (by omega))
    clear ih hr hf hl hle
    go_enter Tryd.func42, Tryd.ntmps42
    go_wp2_with (fail)
    go_loopw [21] (fun v wr => ∃ j : Nat, j ≤ m.length ∧ v = .int .i64 j ∧ Hid (r = tryFrom (fun k => if (decide ((m.getD ahead.length []).getD k 0 = 0) || ahead.contains (k : Int)) = true then none else firstP m d (ahead ++ [(k : Int)])) (m.length - j) j) ∧ Below w.heap.size w wr) (fun v _ => m.length - (intOf v).toNat)
    case atStart => exact ⟨0, Nat.zero_le _, rfl, hide HF.out, Below.refl _ _⟩
    case round =>
      obtain ⟨j, hj, rfl, HT, hBj⟩ := hrel
      obtain ⟨wi, rfl⟩ : ∃ wi : World, wi = wr := ⟨_, rfl⟩
      have j0 : (0 : Int) ≤ (j : Int) := Int.natCast_nonneg _
      by_cases hjl : j < m.length
      · have j1 : (j : Int) < (m.length : Int) := by omega
        have ht := HT.out
        rw [show m.length - j = (m.length - (j + 1)) + 1 by omega, tryFrom] at ht
        obtain ⟨b2, o2, rfl, hb2, e2⟩ := (hI.below hBj).at_ j (by omega)
        have HCJ := hide (HCO.out wi hBj (j : Int))
        have hsk : ∀ q, (decide ((m.getD ahead.length []).getD j 0 = 0) || ahead.contains (j : Int)) = q → (if q = true then none else firstP m d (ahead ++ [(j : Int)])) = (if (decide ((m.getD ahead.length []).getD j 0 = 0) || ahead.contains (j : Int)) = true then none else firstP m d (ahead ++ [(j : Int)])) := fun q e => by rw [e]
        generalize hx : (m.getD ahead.length []).getD j 0 = x at e2 ht hsk
        generalize hq : ahead.contains (j : Int) = q at HCJ ht hsk
        by_cases hx0 : x = 0
        · have hb0 : (x == 0) = true := by rw [beq_iff_eq]; exact hx0
          rw [decide_eq_true hx0, Bool.true_or, if_pos rfl] at ht
          have HT2 := hide ht
          clear ht hsk hx hq hx0
          go_wp2_with (fail)
          go_roundw
          case rel => exact ⟨j + 1, by omega, by go_num, HT2, hBj⟩
          case measure => simp [intOf]; omega
        · have hb0 : (x == 0) = false := by rw [beq_eq_false_iff_ne]; exact hx0
          rw [decide_eq_false hx0, Bool.false_or] at ht
          cases q with
          | true =>
            rw [if_pos rfl] at ht
            have HT2 := hide ht
            clear ht hsk hx hq hx0
            go_wp2_with (go_at_call 53; refine Calls.mono HCJ.out ?_; rintro e w1 ⟨rfl, rfl⟩)
            go_roundw
            case rel => exact ⟨j + 1, by omega, by go_num, HT2, hBj⟩
            case measure => simp [intOf]; omega
          | false =>
            rw [if_neg (by decide)] at ht
            have hfi := fun ga' ca' w' (hb' : Below w.heap.size w w') h2 h3 h4 h5 => HIH.out (ahead ++ [(j : Int)]) ga' ca' c (some ⟨b, off, none⟩) w' B (by rw [List.length_append]; have := HL.out; simp; omega) (hM.below hb') h2 h3 h4 (Nat.le_trans hBw hb'.size) h5
            rw [show (ahead ++ [(j : Int)]).length = ahead.length + 1 by simp] at hfi
            have HC3 := hide (show (ahead.length + 1) * 8 ≤ 140737488355328 by omega)
            have HBS := hide hBj.size
            have HBW := hide hBw
            cases hres : firstP m d (ahead ++ [(j : Int)]) with
            | none =>
              rw [hres] at ht hfi
              have HT2 := hide ht
              have HFI := hide hfi
              clear ht hsk hx hq hx0 hfi hres
              go_wp2_with (first
                | (go_at_call 53; refine Calls.mono HCJ.out ?_; rintro e w1 ⟨rfl, rfl⟩)
                | (go_at_call 40; refine Calls.mono (HCL.out wi hBj) ?_; rintro e w2 ⟨G, D, rfl, hD, ho2, b2⟩; have hB2 := below_trans hBj b2; have HS2 := hide b2.size)
                | (at_builtin; refine wp_app_ints _ rfl _ _ rfl wi.heap.size (.slice G ahead.length D) _ rfl (ho2.alloc _) _ 1 1 [(j : Int)] rfl rfl (ints_one (b := w2.heap.size) (by simp) (by simp)) HC3.out (by rw [World.size_alloc]; exact Nat.le_succ_of_le HS2.out) ?_; intro G3 D3 w3 hc3 ho3 hg3 hob3
                   have hb3 : Below wi.heap.size wi w3 := (b2.alloc HS2.out _).grown hg3 (by rw [World.size_alloc]; exact Nat.le_succ_of_le HS2.out) (fun j hj => (ho2.lt j hj).1)
                   have hB3 := below_trans hBj hb3
                   have hI3 := Ints.own ho3
                   obtain ⟨g3, cap3, eg, hgb, hgl⟩ := ho3.form (by simp)
                   injection eg with eg1 eg2 eg3
                   subst eg1 eg3
                   have hc3' : ahead.length + 1 ≤ D3 := by simpa using hc3
                   have hgB : B ≤ g3 := Nat.le_trans HBW.out (Nat.le_trans HBS.out hgb))
                | (go_at_call 42; refine Calls.mono (HFI.out g3 D3 w3 hB3 hI3 hgl hgB hc3') ?_; rintro e w4 ⟨rfl, b4⟩; have hB4 := below_trans hB3 b4))
              go_roundw
              case rel => exact ⟨j + 1, by omega, by go_num, HT2, hB4⟩
              case measure => simp [intOf]; omega
            | some p =>
              rw [hres] at ht hfi
              subst ht
              have HFI := hide hfi
              clear hsk hx hq hx0 hfi hres HT HF
              go_wp2_with (first
                | (go_at_call 53; refine Calls.mono HCJ.out ?_; rintro e w1 ⟨rfl, rfl⟩)
                | (go_at_call 40; refine Calls.mono (HCL.out wi hBj) ?_; rintro e w2 ⟨G, D, rfl, hD, ho2, b2⟩; have hB2 := below_trans hBj b2; have HS2 := hide b2.size)
                | (at_builtin; refine wp_app_ints _ rfl _ _ rfl wi.heap.size (.slice G ahead.length D) _ rfl (ho2.alloc _) _ 1 1 [(j : Int)] rfl rfl (ints_one (b := w2.heap.size) (by simp) (by simp)) HC3.out (by rw [World.size_alloc]; exact Nat.le_succ_of_le HS2.out) ?_; intro G3 D3 w3 hc3 ho3 hg3 hob3
                   have hb3 : Below wi.heap.size wi w3 := (b2.alloc HS2.out _).grown hg3 (by rw [World.size_alloc]; exact Nat.le_succ_of_le HS2.out) (fun j hj => (ho2.lt j hj).1)
                   have hB3 := below_trans hBj hb3
                   have hI3 := Ints.own ho3
                   obtain ⟨g3, cap3, eg, hgb, hgl⟩ := ho3.form (by simp)
                   injection eg with eg1 eg2 eg3
                   subst eg1 eg3
                   have hc3' : ahead.length + 1 ≤ D3 := by simpa using hc3
                   have hgB : B ≤ g3 := Nat.le_trans HBW.out (Nat.le_trans HBS.out hgb))
                | (go_at_call 42; refine Calls.mono (HFI.out g3 D3 w3 hB3 hI3 hgl hgB hc3') ?_; rintro e w4 ⟨⟨g4, x4, rfl, hg4, hl4, hI4, hx4⟩, b4⟩; have hB4 := below_trans hB3 b4))
              go_ret
              exact ⟨⟨g4, x4, rfl, hg4, hl4, hI4, hx4⟩, hB4⟩
      · obtain rfl : j = m.length := by omega
        have ht := HT.out
        rw [Nat.sub_self, tryFrom] at ht
        subst ht
        go_wp2_with (fail)
        go_ret
        exact ⟨rfl, hBj⟩
end Go.Proofs.YtcnecmcbjpehcaaDoor

/- What a table whose rows and columns have one sum makes of weights is majorized by the weights, times that sum. No condition. -/
namespace Go.Proofs.YtcnecmcbjpehcaaDoor
open Go Go.RowKit

/-- the sum of the first n values -/
def sumN (n : Nat) (f : Nat → Int) : Int := ((List.range n).map f).sum
theorem sumN_succ (n : Nat) (f : Nat → Int) : sumN (n + 1) f = sumN n f + f n := by
  unfold sumN
  rw [List.range_succ, List.map_append, List.sum_append]
  simp
theorem sumN_congr {n : Nat} {f g : Nat → Int} (h : ∀ i, i < n → f i = g i) : sumN n f = sumN n g := by
  induction n with
  | zero => rfl
  | succ n ih => rw [sumN_succ, sumN_succ, ih (fun i hi => h i (by omega)), h n (by omega)]
theorem sumN_le {n : Nat} {f g : Nat → Int} (h : ∀ i, i < n → f i ≤ g i) : sumN n f ≤ sumN n g := by
  induction n with
  | zero => exact Int.le_refl _
  | succ n ih =>
    rw [sumN_succ, sumN_succ]
    have := ih (fun i hi => h i (by omega))
    have := h n (by omega)
    omega
theorem sumN_add (n : Nat) (f g : Nat → Int) : sumN n (fun i => f i + g i) = sumN n f + sumN n g := by
  induction n with
  | zero => rfl
  | succ n ih => rw [sumN_succ, sumN_succ, sumN_succ, ih]; omega
theorem sumN_zero (n : Nat) : sumN n (fun _ => 0) = 0 := by
  induction n with
  | zero => rfl
  | succ n ih => rw [sumN_succ, ih]; rfl
theorem sumN_mulR (n : Nat) (f : Nat → Int) (c : Int) : sumN n (fun i => f i * c) = sumN n f * c := by
  induction n with
  | zero => simp [sumN]
  | succ n ih => rw [sumN_succ, sumN_succ, ih, Int.add_mul]
theorem sumN_swap (n k : Nat) (f : Nat → Nat → Int) : sumN n (fun i => sumN k fun j => f i j) = sumN k (fun j => sumN n fun i => f i j) := by
  induction n with
  | zero => rw [show (fun j => sumN 0 fun i => f i j) = fun _ => (0 : Int) from rfl, sumN_zero]; rfl
  | succ n ih =>
    rw [sumN_succ, ih, show (fun j => sumN (n + 1) fun i => f i j) = fun j => sumN n (fun i => f i j) + f n j from funext fun j => sumN_succ n _, sumN_add]
theorem map_sumN {α : Type} (l : List α) (d : α) (f : α → Int) : (l.map f).sum = sumN l.length fun i => f (l.getD i d) := by
  induction l with
  | nil => rfl
  | cons x l ih =>
    unfold sumN at *
    rw [List.map_cons, List.sum_cons, ih, List.length_cons, List.range_succ_eq_map, List.map_cons, List.sum_cons, List.map_map]
    rfl
theorem perm_sum {a b : List Int} (h : a.Perm b) : a.sum = b.sum := by
  induction h with
  | nil => rfl
  | cons x _ ih => simp only [List.sum_cons, ih]
  | swap x y l => simp only [List.sum_cons]; omega
  | trans _ _ h1 h2 => exact h1.trans h2

/-- how much the numbers exceed t, together -/
def over (t : Int) (l : List Int) : Int := (l.map fun x => max (x - t) 0).sum
theorem over_cons (t x : Int) (l : List Int) : over t (x :: l) = max (x - t) 0 + over t l := rfl
theorem over_append (t : Int) (a b : List Int) : over t (a ++ b) = over t a + over t b := by unfold over; rw [List.map_append, List.sum_append]
theorem over_nonneg (t : Int) : ∀ l, 0 ≤ over t l
  | [] => Int.le_refl _
  | x :: l => by
    have := over_nonneg t l
    rw [over_cons]
    omega
theorem over_perm (t : Int) {a b : List Int} (h : a.Perm b) : over t a = over t b := perm_sum (h.map _)
theorem take_le_over (t : Int) : ∀ (l : List Int) (k : Nat), k ≤ l.length → (l.take k).sum ≤ (k : Int) * t + over t l
  | l, 0, _ => by have := over_nonneg t l; simp; omega
  | [], k + 1, h => by simp at h
  | x :: l, k + 1, h => by
    have := take_le_over t l k (by simp at h; omega)
    rw [List.take_succ_cons, List.sum_cons, over_cons, Int.natCast_add, Int.add_mul]
    simp only [Int.natCast_one, Int.one_mul]
    omega
theorem over_ge (t : Int) : ∀ l : List Int, (∀ x, x ∈ l → t ≤ x) → l.sum = (l.length : Int) * t + over t l
  | [], _ => by simp [over]
  | x :: l, h => by
    have h1 := over_ge t l (fun y hy => h y (List.mem_cons_of_mem _ hy))
    have h2 := h x (List.mem_cons_self ..)
    rw [List.sum_cons, h1, over_cons, List.length_cons, Int.natCast_add, Int.add_mul]
    simp only [Int.natCast_one, Int.one_mul]
    omega
theorem over_le (t : Int) : ∀ l : List Int, (∀ x, x ∈ l → x ≤ t) → over t l = 0
  | [], _ => rfl
  | x :: l, h => by
    have h1 := over_le t l (fun y hy => h y (List.mem_cons_of_mem _ hy))
    have h2 := h x (List.mem_cons_self ..)
    rw [over_cons, h1]
    omega
theorem take_eq_over {l : List Int} (hd : l.Pairwise fun a b => b ≤ a) (k : Nat) (hk : k < l.length) : (l.take (k + 1)).sum = ((k + 1 : Nat) : Int) * (l.getD k 0) + over (l.getD k 0) l := by
  have hg : l.getD k 0 = l[k] := by simp [List.getD_eq_getElem?_getD, hk]
  rw [hg]
  rw [List.pairwise_iff_getElem] at hd
  have h1 : over l[k] l = over l[k] (l.take (k + 1)) + over l[k] (l.drop (k + 1)) := by rw [← over_append, List.take_append_drop]
  have h2 : over l[k] (l.drop (k + 1)) = 0 := over_le _ _ (fun x hx => by
    obtain ⟨j, hj, rfl⟩ := List.getElem_of_mem hx
    rw [List.length_drop] at hj
    rw [List.getElem_drop]
    exact hd k (k + 1 + j) hk (by omega) (by omega))
  have h3 := over_ge l[k] (l.take (k + 1)) (fun x hx => by
    obtain ⟨j, hj, rfl⟩ := List.getElem_of_mem hx
    rw [List.length_take] at hj
    rw [List.getElem_take]
    by_cases e : j = k
    · subst e; exact Int.le_refl _
    · exact hd j k (by omega) hk (by omega))
  rw [List.length_take, Nat.min_eq_left (by omega)] at h3
  rw [h3, h1, h2]
  omega
theorem above_of_over {p q : List Int} (hl : q.length = p.length) (h : ∀ t, t ∈ p → over t q ≤ over t p) : aboveB p q = true := by
  unfold aboveB aboveTo
  rw [List.all_eq_true]
  intro k hk
  rw [List.mem_range] at hk
  rw [decide_eq_true_iff]
  cases k with
  | zero => simp
  | succ j =>
    have hj : j < (falls p).length := by rw [falls_length]; omega
    have e1 := take_eq_over (falls_desc p) j hj
    have e2 := take_le_over ((falls p).getD j 0) (falls q) (j + 1) (by rw [falls_length]; omega)
    rw [over_perm _ (falls_perm p)] at e1
    rw [over_perm _ (falls_perm q)] at e2
    have e3 := h ((falls p).getD j 0) ((falls_perm p).mem_iff.1 (by
      rw [show (falls p).getD j 0 = (falls p)[j] by simp [List.getD_eq_getElem?_getD, hj]]
      exact List.getElem_mem hj))
    omega

theorem getD_mapI {α : Type} (l : List α) (d : α) (f : α → Int) (i : Nat) (h : i < l.length) : (l.map f).getD i 0 = f (l.getD i d) := by
  simp [List.getD_eq_getElem?_getD, h]
theorem max_mul {a s : Int} (hs : 0 ≤ s) : max (a * s) 0 = max a 0 * s := by
  by_cases h : 0 ≤ a
  · have := Int.mul_nonneg h hs
    rw [Int.max_eq_left this, Int.max_eq_left h]
  · have h1 : a * s ≤ 0 := Int.mul_nonpos_of_nonpos_of_nonneg (by omega) hs
    rw [Int.max_eq_right h1, Int.max_eq_right (by omega), Int.zero_mul]
theorem above_spread {m : List (List Int)} {w : List Int} (h : m.all (goodRow m.length) = true) (hg : (List.range m.length).all (goodAt m) = true) (hl : w.length = m.length) (h0 : 0 < m.length) :
    aboveB (w.map fun x => x * (m.getD 0 []).sum) (spreadOf m w) = true := by
  have row : ∀ i, i < m.length → (m.getD i []).sum = (m.getD 0 []).sum ∧ colSum m i = (m.getD 0 []).sum := fun i hi => by
    have := List.all_eq_true.1 hg i (List.mem_range.2 hi)
    simpa [goodAt] using this
  have s0 : 0 ≤ (m.getD 0 []).sum := by
    have := colTo_bound h 0 h0 m.length (Nat.le_refl _)
    have r := (row 0 h0).2
    unfold colSum at r
    omega
  generalize (m.getD 0 []).sum = S at row s0 ⊢
  refine above_of_over (by unfold spreadOf; rw [List.length_map, List.length_map, hl]) (fun t ht => ?_)
  rw [List.mem_map] at ht
  obtain ⟨u, _, rfl⟩ := ht
  have cell : ∀ i k, i < m.length → k < m.length → 0 ≤ (m.getD i []).getD k 0 := fun i k hi hk => by
    obtain ⟨g1, g2⟩ := goodRow_get h i hi
    exact (numb_get g1 k (by omega)).1
  have rows : ∀ i, i < m.length → sumN m.length (fun k => (m.getD i []).getD k 0) = S := fun i hi => by
    have e := map_sumN (m.getD i []) 0 id
    rw [List.map_id, (row i hi).1, (goodRow_get h i hi).2] at e
    exact e.symm
  have cols : ∀ k, k < m.length → sumN m.length (fun i => (m.getD i []).getD k 0) = S := fun k hk => by
    have e := map_sumN m [] (fun r => r.getD k 0)
    have r := (row k hk).2
    unfold colSum colTo at r
    rw [List.take_length] at r
    rw [r] at e
    exact e.symm
  have lhs : over (u * S) (spreadOf m w) = sumN m.length fun i => max (sumN m.length (fun k => (m.getD i []).getD k 0 * w.getD k 0) - u * S) 0 := by
    unfold over spreadOf
    rw [List.map_map, map_sumN m []]
    refine sumN_congr (fun i _ => ?_)
    show max (dotTo (m.getD i []) w w.length - u * S) 0 = _
    rw [hl]
    rfl
  have rhs : over (u * S) (w.map fun x => x * S) = sumN m.length fun k => S * max (w.getD k 0 - u) 0 := by
    unfold over
    rw [List.map_map, map_sumN w 0, hl]
    refine sumN_congr (fun i _ => ?_)
    show max (w.getD i 0 * S - u * S) 0 = _
    rw [← Int.sub_mul, max_mul s0, Int.mul_comm]
  have each : ∀ i, i < m.length → max (sumN m.length (fun k => (m.getD i []).getD k 0 * w.getD k 0) - u * S) 0 ≤ sumN m.length fun k => (m.getD i []).getD k 0 * max (w.getD k 0 - u) 0 := fun i hi => by
    have e1 : u * S = sumN m.length fun k => (m.getD i []).getD k 0 * u := by rw [sumN_mulR, rows i hi, Int.mul_comm]
    have e2 : sumN m.length (fun k => (m.getD i []).getD k 0 * w.getD k 0) = sumN m.length (fun k => (m.getD i []).getD k 0 * (w.getD k 0 - u)) + u * S := by
      rw [e1, ← sumN_add]
      refine sumN_congr (fun k _ => ?_)
      rw [Int.mul_sub]
      omega
    have e3 : sumN m.length (fun k => (m.getD i []).getD k 0 * (w.getD k 0 - u)) ≤ sumN m.length fun k => (m.getD i []).getD k 0 * max (w.getD k 0 - u) 0 :=
      sumN_le (fun k hk => Int.mul_le_mul_of_nonneg_left (Int.le_max_left _ _) (cell i k hi hk))
    have e4 : 0 ≤ sumN m.length fun k => (m.getD i []).getD k 0 * max (w.getD k 0 - u) 0 := by
      have := sumN_le (n := m.length) (f := fun _ => 0) (g := fun k => (m.getD i []).getD k 0 * max (w.getD k 0 - u) 0) (fun k hk => Int.mul_nonneg (cell i k hi hk) (Int.le_max_right _ _))
      rw [sumN_zero] at this
      exact this
    rw [e2]
    omega
  rw [lhs, rhs]
  refine Int.le_trans (sumN_le each) (Int.le_of_eq ?_)
  rw [sumN_swap]
  refine sumN_congr (fun k hk => ?_)
  rw [sumN_mulR, cols k hk]
end Go.Proofs.YtcnecmcbjpehcaaDoor

/- HALL for tables whose rows and columns have one sum: such a table has a permutation of numbers above 0. No condition. -/
namespace Go.Proofs.YtcnecmcbjpehcaaDoor

def nsum (n : Nat) (t : Nat → Nat) : Nat := ((List.range n).map t).sum
theorem nsum_succ (n : Nat) (t : Nat → Nat) : nsum (n + 1) t = nsum n t + t n := by
  unfold nsum
  rw [List.range_succ, List.map_append, List.sum_append]
  simp
theorem nsum_add (n : Nat) (s t : Nat → Nat) : nsum n (fun i => s i + t i) = nsum n s + nsum n t := by
  induction n with
  | zero => rfl
  | succ n ih => rw [nsum_succ, nsum_succ, nsum_succ, ih]; omega
theorem nsum_le {n : Nat} {s t : Nat → Nat} (h : ∀ i, i < n → s i ≤ t i) : nsum n s ≤ nsum n t := by
  induction n with
  | zero => exact Nat.le_refl _
  | succ n ih =>
    rw [nsum_succ, nsum_succ]
    have := ih (fun i hi => h i (by omega))
    have := h n (by omega)
    omega
theorem nsum_congr {n : Nat} {s t : Nat → Nat} (h : ∀ i, i < n → s i = t i) : nsum n s = nsum n t := by
  induction n with
  | zero => rfl
  | succ n ih => rw [nsum_succ, nsum_succ, ih (fun i hi => h i (by omega)), h n (by omega)]
theorem nsum_zero (n : Nat) : nsum n (fun _ => 0) = 0 := by
  induction n with
  | zero => rfl
  | succ n ih => rw [nsum_succ, ih]
theorem nsum_mul (n c : Nat) (t : Nat → Nat) : nsum n (fun i => c * t i) = c * nsum n t := by
  induction n with
  | zero => rfl
  | succ n ih => rw [nsum_succ, nsum_succ, ih, Nat.mul_add]
theorem nsum_one (n y : Nat) (v : Nat) : nsum n (fun i => if i = y then v else 0) = if y < n then v else 0 := by
  induction n with
  | zero => rfl
  | succ n ih =>
    rw [nsum_succ, ih]
    by_cases h : n = y
    · subst h; simp
    · rw [if_neg h]
      by_cases h2 : y < n
      · rw [if_pos h2, if_pos (by omega)]; omega
      · rw [if_neg h2, if_neg (by omega)]
/-- the sum over a list, by how often each number stands in it -/
theorem list_nsum (n : Nat) (t : Nat → Nat) : ∀ X : List Nat, (∀ x, x ∈ X → x < n) → (X.map t).sum = nsum n fun i => X.count i * t i
  | [], _ => by simp only [List.map_nil, List.sum_nil, List.count_nil, Nat.zero_mul, nsum_zero]
  | x :: X, h => by
    have ih := list_nsum n t X (fun y hy => h y (List.mem_cons_of_mem _ hy))
    have e : (nsum n fun i => (x :: X).count i * t i) = nsum n fun i => X.count i * t i + (if i = x then t x else 0) := nsum_congr (fun i _ => by
      rw [List.count_cons]
      by_cases hi : i = x
      · subst hi; simp [Nat.add_mul]
      · have : (x == i) = false := by rw [beq_eq_false_iff_ne]; exact fun q => hi q.symm
        simp [this, hi])
    rw [List.map_cons, List.sum_cons, ih, e, nsum_add, nsum_one, if_pos (h x (List.mem_cons_self ..))]
    omega
theorem nodup_sum_le {n : Nat} (t : Nat → Nat) {X : List Nat} (hx : ∀ x, x ∈ X → x < n) (hn : X.Nodup) : (X.map t).sum ≤ nsum n t := by
  rw [list_nsum n t X hx]
  refine nsum_le (fun i _ => ?_)
  have := List.nodup_iff_count.1 hn i
  calc X.count i * t i ≤ 1 * t i := Nat.mul_le_mul_right _ this
    _ = t i := Nat.one_mul _
theorem count_sum (n : Nat) : ∀ C : List Nat, nsum n (fun c => C.count c) ≤ C.length
  | [] => by simp only [List.count_nil, nsum_zero]; exact Nat.le_refl _
  | y :: C => by
    have ih := count_sum n C
    have e : (nsum n fun c => (y :: C).count c) = nsum n fun c => C.count c + (if c = y then 1 else 0) := nsum_congr (fun i _ => by
      rw [List.count_cons]
      by_cases hi : i = y
      · subst hi; simp
      · have : (y == i) = false := by rw [beq_eq_false_iff_ne]; exact fun q => hi q.symm
        simp [this, hi])
    rw [e, nsum_add, nsum_one, List.length_cons]
    split <;> omega
theorem cover_sum {n S : Nat} {t : Nat → Nat} {C : List Nat} (h1 : ∀ c, c < n → t c ≤ S) (h2 : ∀ c, c < n → c ∉ C → t c = 0) : nsum n t ≤ S * C.length := by
  have h : nsum n t ≤ nsum n fun c => S * C.count c := nsum_le (fun c hc => by
    by_cases hm : c ∈ C
    · have := List.count_pos_iff.2 hm
      exact Nat.le_trans (h1 c hc) (Nat.le_mul_of_pos_right _ this)
    · rw [h2 c hc hm]; exact Nat.zero_le _)
  rw [nsum_mul] at h
  exact Nat.le_trans h (Nat.mul_le_mul_left _ (count_sum n C))
theorem list_swap (n : Nat) (g : Nat → Nat → Nat) : ∀ X : List Nat, (X.map fun x => nsum n (g x)).sum = nsum n fun c => (X.map fun x => g x c).sum
  | [] => by simp only [List.map_nil, List.sum_nil, nsum_zero]
  | x :: X => by simp only [List.map_cons, List.sum_cons, list_swap n g X, nsum_add]
theorem map_const (S : Nat) : ∀ X : List Nat, ∀ f : Nat → Nat, (∀ x, x ∈ X → f x = S) → (X.map f).sum = S * X.length
  | [], _, _ => rfl
  | x :: X, f, h => by
    rw [List.map_cons, List.sum_cons, map_const S X f (fun y hy => h y (List.mem_cons_of_mem _ hy)), h x (List.mem_cons_self ..), List.length_cons, Nat.mul_add]
    omega

/-- f gives each row below k a column of its own, at a number above 0 -/
structure Match (g : Nat → Nat → Nat) (n k : Nat) (f : Nat → Nat) : Prop where
  lt : ∀ i, i < k → f i < n
  pos : ∀ i, i < k → 0 < g i (f i)
  inj : ∀ i j, i < k → j < k → f i = f j → i = j
/-- h does so for all rows up to k but x, by the columns of f -/
structure Miss (g : Nat → Nat → Nat) (n k : Nat) (f : Nat → Nat) (x : Nat) (h : Nat → Nat) : Prop where
  img : ∀ i, i ≤ k → i ≠ x → ∃ j, j < k ∧ h i = f j
  pos : ∀ i, i ≤ k → i ≠ x → 0 < g i (h i)
  inj : ∀ i j, i ≤ k → j ≤ k → i ≠ x → j ≠ x → h i = h j → i = j
structure Reach (g : Nat → Nat → Nat) (n k : Nat) (f : Nat → Nat) (X : List Nat) : Prop where
  nodup : X.Nodup
  has : k ∈ X
  le : ∀ x, x ∈ X → x ≤ k
  miss : ∀ x, x ∈ X → ∃ h, Miss g n k f x h ∧ ∀ j, j ≤ k → j ∉ X → h j = f j
theorem reach_more {g : Nat → Nat → Nat} {n k S : Nat} {f : Nat → Nat} (hS : 0 < S) (hk : k < n) (hr : ∀ i, i < n → nsum n (g i) = S) (hc : ∀ c, c < n → nsum n (fun i => g i c) = S)
    (hm : Match g n k f) {X : List Nat} (hX : Reach g n k f X) : (∃ h, Match g n (k + 1) h) ∨ ∃ y, y ∉ X ∧ Reach g n k f (y :: X) := by
  have key : ∃ x, x ∈ X ∧ ∃ c, c < n ∧ 0 < g x c ∧ ∀ j, j ∈ X → j < k → f j ≠ c := by
    refine Classical.byContradiction fun hno => ?_
    have hlen : ((X.erase k).map f).length = X.length - 1 := by rw [List.length_map, List.length_erase_of_mem hX.has]
    have hpos : 0 < X.length := List.length_pos_of_mem hX.has
    have h1 : (X.map fun x => nsum n (g x)).sum = S * X.length := map_const S X _ (fun x hx => hr x (by have := hX.le x hx; omega))
    rw [list_swap] at h1
    have h2 : (nsum n fun c => (X.map fun x => g x c).sum) ≤ S * ((X.erase k).map f).length := cover_sum
      (fun c hcn => by
        rw [← hc c hcn]
        exact nodup_sum_le (fun i => g i c) (fun x hx => by have := hX.le x hx; omega) hX.nodup)
      (fun c hcn hnc => by
        have z : ∀ x, x ∈ X → g x c = 0 := fun x hx => by
          refine Classical.byContradiction fun hg => hno ⟨x, hx, c, hcn, by omega, fun j hj hjk e => hnc ?_⟩
          rw [List.mem_map]
          exact ⟨j, (List.mem_erase_of_ne (by omega)).2 hj, e⟩
        rw [map_const 0 X _ z, Nat.zero_mul])
    rw [h1, hlen] at h2
    have h3 : X.length ≤ X.length - 1 := Nat.le_of_mul_le_mul_left h2 hS
    omega
  obtain ⟨x, hx, c, hcn, hg, hcf⟩ := key
  obtain ⟨h, hmiss, hag⟩ := hX.miss x hx
  have hxk := hX.le x hx
  by_cases hin : ∃ y, y < k ∧ f y = c
  · obtain ⟨y, hy, rfl⟩ := hin
    have hyX : y ∉ X := fun q => hcf y q hy rfl
    have hyx : y ≠ x := fun q => hyX (q ▸ hx)
    have hhy : h y = f y := hag y (by omega) hyX
    refine .inr ⟨y, hyX, ⟨List.nodup_cons.2 ⟨hyX, hX.nodup⟩, List.mem_cons_of_mem _ hX.has, fun z hz => ?_, fun z hz => ?_⟩⟩
    · rcases List.mem_cons.1 hz with rfl | q
      · omega
      · exact hX.le z q
    · rcases List.mem_cons.1 hz with rfl | q
      · refine ⟨fun i => if i = x then f z else h i, ⟨fun i hi hne => ?_, fun i hi hne => ?_, fun i j hi hj hni hnj e => ?_⟩, fun j hj hjn => ?_⟩
        · by_cases q : i = x
          · exact ⟨z, hy, by simp [q]⟩
          · simp only [q, if_false]; exact hmiss.img i hi q
        · by_cases q : i = x
          · subst q; simp only [if_true]; exact hg
          · simp only [q, if_false]; exact hmiss.pos i hi q
        · by_cases qi : i = x
          · by_cases qj : j = x
            · omega
            · simp only [qi, qj, if_true, if_false] at e
              rw [← hhy] at e
              exact absurd (hmiss.inj z j (by omega) hj hyx qj e) (fun q => hnj q.symm)
          · by_cases qj : j = x
            · simp only [qi, qj, if_true, if_false] at e
              rw [← hhy] at e
              exact absurd (hmiss.inj i z hi (by omega) qi hyx e) hni
            · simp only [qi, qj, if_false] at e
              exact hmiss.inj i j hi hj qi qj e
        · have q : j ≠ x := fun q => hjn (List.mem_cons_of_mem _ (q ▸ hx))
          simp only [q, if_false]
          exact hag j hj (fun q => hjn (List.mem_cons_of_mem _ q))
      · obtain ⟨h', m', a'⟩ := hX.miss z q
        exact ⟨h', m', fun j hj hjn => a' j hj (fun q => hjn (List.mem_cons_of_mem _ q))⟩
  · refine .inl ⟨fun i => if i = x then c else h i, ⟨fun i hi => ?_, fun i hi => ?_, fun i j hi hj e => ?_⟩⟩
    · by_cases q : i = x
      · simp only [q, if_true]; exact hcn
      · simp only [q, if_false]
        obtain ⟨j, hj, e⟩ := hmiss.img i (by omega) q
        rw [e]
        exact hm.lt j hj
    · by_cases q : i = x
      · subst q; simp only [if_true]; exact hg
      · simp only [q, if_false]; exact hmiss.pos i (by omega) q
    · by_cases qi : i = x
      · by_cases qj : j = x
        · omega
        · simp only [qi, qj, if_true, if_false] at e
          obtain ⟨y, hy, e2⟩ := hmiss.img j (by omega) qj
          exact absurd ⟨y, hy, by rw [← e2, ← e]⟩ hin
      · by_cases qj : j = x
        · simp only [qi, qj, if_true, if_false] at e
          obtain ⟨y, hy, e2⟩ := hmiss.img i (by omega) qi
          exact absurd ⟨y, hy, by rw [← e2, e]⟩ hin
        · simp only [qi, qj, if_false] at e
          exact hmiss.inj i j (by omega) (by omega) qi qj e
theorem nodup_le {k : Nat} {X : List Nat} (hn : X.Nodup) (h : ∀ x, x ∈ X → x ≤ k) : X.length ≤ k + 1 := by
  have h1 := nodup_sum_le (n := k + 1) (fun _ => 1) (X := X) (fun x hx => by have := h x hx; omega) hn
  rw [map_const 1 X _ (fun _ _ => rfl)] at h1
  have h2 : nsum (k + 1) (fun _ => 1) = k + 1 := by
    have : ∀ m, nsum m (fun _ => 1) = m := fun m => by
      induction m with
      | zero => rfl
      | succ m ih => rw [nsum_succ, ih]
    exact this _
  omega
theorem match_step {g : Nat → Nat → Nat} {n k S : Nat} {f : Nat → Nat} (hS : 0 < S) (hk : k < n) (hr : ∀ i, i < n → nsum n (g i) = S) (hc : ∀ c, c < n → nsum n (fun i => g i c) = S)
    (hm : Match g n k f) : ∃ h, Match g n (k + 1) h := by
  have go : ∀ (d : Nat) (X : List Nat), X.length + d = k + 2 → Reach g n k f X → ∃ h, Match g n (k + 1) h := by
    intro d
    induction d with
    | zero =>
      intro X hl hX
      have := nodup_le hX.nodup hX.le
      omega
    | succ d ih =>
      intro X hl hX
      rcases reach_more hS hk hr hc hm hX with h | ⟨y, _, hY⟩
      · exact h
      · exact ih (y :: X) (by rw [List.length_cons]; omega) hY
  refine go (k + 1) [k] (by simp; omega) ⟨by simp, by simp, fun x hx => by simp at hx; omega, fun x hx => ?_⟩
  have e : x = k := by simpa using hx
  subst e
  exact ⟨f, ⟨fun i hi hne => ⟨i, by omega, rfl⟩, fun i hi hne => hm.pos i (by omega), fun i j hi hj hni hnj q => hm.inj i j (by omega) (by omega) q⟩, fun _ _ _ => rfl⟩
/-- a table whose rows and columns have one sum above 0 has a permutation of numbers above 0 -/
theorem hall {g : Nat → Nat → Nat} {n S : Nat} (hS : 0 < S) (hr : ∀ i, i < n → nsum n (g i) = S) (hc : ∀ c, c < n → nsum n (fun i => g i c) = S) : ∃ f, Match g n n f := by
  have go : ∀ k, k ≤ n → ∃ f, Match g n k f := by
    intro k
    induction k with
    | zero => intro _; exact ⟨fun _ => 0, ⟨fun i h => absurd h (Nat.not_lt_zero _), fun i h => absurd h (Nat.not_lt_zero _), fun i j h => absurd h (Nat.not_lt_zero _)⟩⟩
    | succ k ih =>
      intro hk
      obtain ⟨f, hf⟩ := ih (by omega)
      exact match_step hS (by omega) hr hc hf
  exact go n (Nat.le_refl _)
end Go.Proofs.YtcnecmcbjpehcaaDoor

/- BIRKHOFF, plain: the first permutation of numbers that are not 0 is there; what is left is right again, has a place more that is 0. No condition. -/
namespace Go.Proofs.YtcnecmcbjpehcaaDoor

theorem nodup_inj {α : Type} {l : List α} (h : l.Nodup) {i j : Nat} (hi : i < l.length) (hj : j < l.length) (e : l[i] = l[j]) : i = j := by
  have hp := List.pairwise_iff_getElem.1 h
  rcases Nat.lt_trichotomy i j with q | q | q
  · exact absurd e (hp i j hi hj q)
  · exact q
  · exact absurd e.symm (hp j i hj hi q)
theorem nodup_range_map {α : Type} (n : Nat) (f : Nat → α) (h : ∀ i j, i < j → j < n → f i ≠ f j) : ((List.range n).map f).Nodup := by
  show List.Pairwise _ _
  rw [List.pairwise_iff_getElem]
  intro i j hi hj hij
  rw [List.getElem_map, List.getElem_map, List.getElem_range, List.getElem_range]
  exact h i j hij (by simpa using hj)
/-! ### the search -/
theorem tryFrom_none {cand : Nat → Option (List Int)} : ∀ (c k : Nat), tryFrom cand c k = none → ∀ j, k ≤ j → j < k + c → cand j = none
  | 0, k, _, j, h1, h2 => by omega
  | c + 1, k, h, j, h1, h2 => by
    rw [tryFrom] at h
    cases hk : cand k with
    | some p => rw [hk] at h; cases h
    | none =>
      rw [hk] at h
      by_cases e : j = k
      · rw [e, hk]
      · exact tryFrom_none c (k + 1) h j (by omega) (by omega)
theorem tryFrom_some {cand : Nat → Option (List Int)} {p : List Int} : ∀ (c k : Nat), tryFrom cand c k = some p → ∃ j, k ≤ j ∧ j < k + c ∧ cand j = some p ∧ ∀ i, k ≤ i → i < j → cand i = none
  | 0, _, h => by cases h
  | c + 1, k, h => by
    rw [tryFrom] at h
    cases hk : cand k with
    | some q =>
      rw [hk] at h
      exact ⟨k, Nat.le_refl _, by omega, by rw [hk]; exact h, fun i h1 h2 => by omega⟩
    | none =>
      rw [hk] at h
      obtain ⟨j, h1, h2, h3, h4⟩ := tryFrom_some c (k + 1) h
      refine ⟨j, by omega, by omega, h3, fun i hi1 hi2 => ?_⟩
      by_cases e : i = k
      · rw [e, hk]
      · exact h4 i (by omega) hi2
/-- numbers below n, none twice, at places of m that are not 0 -/
structure Ahead (m : List (List Int)) (a : List Int) : Prop where
  at_ : ∀ i, i < a.length → ∃ k : Nat, k < m.length ∧ a.getD i 0 = (k : Int) ∧ (m.getD i []).getD k 0 ≠ 0
  nodup : a.Nodup
theorem getD_appendL (a : List Int) (x : Int) (i : Nat) (h : i < a.length) : (a ++ [x]).getD i 0 = a.getD i 0 := by
  simp [List.getD_eq_getElem?_getD, List.getElem?_append_left h]
theorem getD_appendR (a : List Int) (x : Int) : (a ++ [x]).getD a.length 0 = x := by simp [List.getD_eq_getElem?_getD]
theorem Ahead.more {m : List (List Int)} {a : List Int} (h : Ahead m a) {k : Nat} (hk : k < m.length) (hs : (decide ((m.getD a.length []).getD k 0 = 0) || a.contains (k : Int)) = false) : Ahead m (a ++ [(k : Int)]) := by
  rw [Bool.or_eq_false_iff] at hs
  obtain ⟨h1, h2⟩ := hs
  have h1' := of_decide_eq_false h1
  refine ⟨fun i hi => ?_, ?_⟩
  · rw [List.length_append] at hi
    by_cases e : i < a.length
    · rw [getD_appendL a _ i e]; exact h.at_ i e
    · obtain rfl : i = a.length := by simp at hi; omega
      exact ⟨k, hk, getD_appendR a _, h1'⟩
  · rw [List.nodup_append]
    refine ⟨h.nodup, by simp, fun x hx y hy e => ?_⟩
    have : y = (k : Int) := by simpa using hy
    subst this
    subst e
    rw [List.contains_iff_mem.2 hx] at h2
    cases h2
theorem firstP_sound {m : List (List Int)} : ∀ (d : Nat) (a p : List Int), a.length + d = m.length → Ahead m a → firstP m d a = some p → p.length = m.length ∧ Ahead m p
  | 0, a, p, hl, h, e => by
    have : a = p := by simpa [firstP] using e
    subst this
    exact ⟨by omega, h⟩
  | d + 1, a, p, hl, h, e => by
    rw [firstP] at e
    obtain ⟨j, h1, h2, h3, _⟩ := tryFrom_some _ _ e
    by_cases hs : (decide ((m.getD a.length []).getD j 0 = 0) || a.contains (j : Int)) = true
    · rw [if_pos hs] at h3; cases h3
    · rw [if_neg hs] at h3
      exact firstP_sound d (a ++ [(j : Int)]) p (by rw [List.length_append]; simp; omega) (h.more (by omega) (by simpa using hs)) h3
theorem firstP_there {m : List (List Int)} {p0 : List Int} (h0 : Ahead m p0) (hl0 : p0.length = m.length) : ∀ (d : Nat) (a : List Int), a.length + d = m.length → (∀ i, i < a.length → a.getD i 0 = p0.getD i 0) → ∃ p, firstP m d a = some p
  | 0, a, _, _ => ⟨a, rfl⟩
  | d + 1, a, hl, h => by
    rw [firstP]
    cases ht : tryFrom (fun k => if (decide ((m.getD a.length []).getD k 0 = 0) || a.contains (k : Int)) = true then none else firstP m d (a ++ [(k : Int)])) m.length 0 with
    | some p => exact ⟨p, rfl⟩
    | none =>
      obtain ⟨k, hk, e, hne⟩ := h0.at_ a.length (by omega)
      have hc := tryFrom_none _ _ ht k (Nat.zero_le _) (by omega)
      have hnot : a.contains (k : Int) = false := by
        rw [Bool.eq_false_iff]
        intro hcon
        have hm := List.contains_iff_mem.1 hcon
        obtain ⟨i, hi, ei⟩ := List.getElem_of_mem hm
        have e1 : a.getD i 0 = (k : Int) := by simp [List.getD_eq_getElem?_getD, hi, ei]
        rw [h i hi, ← e] at e1
        have q1 : p0.getD i 0 = p0[i]'(by omega) := by simp [List.getD_eq_getElem?_getD, show i < p0.length by omega]
        have q2 : p0.getD a.length 0 = p0[a.length]'(by omega) := by simp [List.getD_eq_getElem?_getD, show a.length < p0.length by omega]
        rw [q1, q2] at e1
        have := nodup_inj h0.nodup _ _ e1
        omega
      rw [decide_eq_false hne, hnot, if_neg (by decide)] at hc
      obtain ⟨p, hp⟩ := firstP_there h0 hl0 d (a ++ [(k : Int)]) (by rw [List.length_append]; simp; omega) (fun i hi => by
        rw [List.length_append] at hi
        by_cases q : i < a.length
        · rw [getD_appendL a _ i q]; exact h i q
        · obtain rfl : i = a.length := by simp at hi; omega
          rw [getD_appendR, e])
      rw [hp] at hc
      cases hc

/-! ### tables as functions -/
def tabOf (n : Nat) (f : Nat → Nat → Int) : List (List Int) := (List.range n).map fun j => (List.range n).map fun i => f j i
theorem tabOf_len (n : Nat) (f : Nat → Nat → Int) : (tabOf n f).length = n := by unfold tabOf; simp
theorem tabOf_row (n : Nat) (f : Nat → Nat → Int) (j : Nat) (h : j < n) : (tabOf n f).getD j [] = (List.range n).map fun i => f j i := by
  unfold tabOf
  simp [List.getD_eq_getElem?_getD, List.getElem?_map, List.getElem?_range h]
theorem tabOf_rowlen (n : Nat) (f : Nat → Nat → Int) (j : Nat) (h : j < n) : ((tabOf n f).getD j []).length = n := by rw [tabOf_row n f j h]; simp
theorem tabOf_at (n : Nat) (f : Nat → Nat → Int) (j i : Nat) (h : j < n) (hi : i < n) : ((tabOf n f).getD j []).getD i 0 = f j i := by
  rw [tabOf_row n f j h]
  simp [List.getD_eq_getElem?_getD, List.getElem?_map, List.getElem?_range hi]
structure TGood (n : Nat) (S : Int) (f : Nat → Nat → Int) : Prop where
  cell : ∀ i j, i < n → j < n → 0 ≤ f i j ∧ f i j ≤ 4096
  row : ∀ i, i < n → sumN n (f i) = S
  col : ∀ j, j < n → sumN n (fun i => f i j) = S
structure PGood (n : Nat) (p : List Int) : Prop where
  len : p.length = n
  at_ : ∀ i, i < n → 0 ≤ p.getD i 0 ∧ p.getD i 0 < n
  inj : ∀ i j, i < n → j < n → p.getD i 0 = p.getD j 0 → i = j
theorem sumN_toNat (n : Nat) (f : Nat → Int) (h : ∀ i, i < n → 0 ≤ f i) : ((nsum n fun i => (f i).toNat : Nat) : Int) = sumN n f := by
  induction n with
  | zero => rfl
  | succ n ih =>
    rw [nsum_succ, sumN_succ, Int.natCast_add, ih (fun i hi => h i (by omega))]
    have := h n (by omega)
    omega
theorem TGood.first {n : Nat} {S : Int} {f : Nat → Nat → Int} (h : TGood n S f) (hS : 0 < S) : ∃ p, firstP (tabOf n f) n [] = some p ∧ PGood n p ∧ ∀ i, i < n → 0 < f i (p.getD i 0).toNat := by
  obtain ⟨s, hm⟩ := hall (g := fun i j => (f i j).toNat) (n := n) (S := S.toNat) (by omega)
    (fun i hi => by have e := sumN_toNat n (f i) (fun j hj => (h.cell i j hi hj).1); rw [h.row i hi] at e; omega)
    (fun j hj => by have e := sumN_toNat n (fun i => f i j) (fun i hi => (h.cell i j hi hj).1); rw [h.col j hj] at e; omega)
  have h0 : Ahead (tabOf n f) ((List.range n).map fun i => (s i : Int)) := by
    have gd : ∀ i, i < n → ((List.range n).map fun i => (s i : Int)).getD i 0 = (s i : Int) := fun i hi => by simp [List.getD_eq_getElem?_getD, List.getElem?_map, List.getElem?_range hi]
    refine ⟨fun i hi => ?_, ?_⟩
    · have hi' : i < n := by simpa using hi
      refine ⟨s i, by rw [tabOf_len]; exact hm.lt i hi', gd i hi', ?_⟩
      rw [tabOf_at n f i (s i) hi' (hm.lt i hi')]
      have := hm.pos i hi'
      intro e
      simp only [e] at this
      exact absurd this (by decide)
    · refine nodup_range_map n _ (fun i j hij hj e => ?_)
      have := hm.inj i j (by omega) hj (by omega)
      omega
  obtain ⟨p, hp⟩ := firstP_there h0 (by rw [tabOf_len]; simp) n [] (by rw [tabOf_len]; simp) (fun i hi => absurd hi (by simp))
  obtain ⟨hpl, hpa⟩ := firstP_sound n [] p (by rw [tabOf_len]; simp) ⟨fun i hi => absurd hi (by simp), List.nodup_nil⟩ hp
  rw [tabOf_len] at hpl
  refine ⟨p, hp, ⟨hpl, fun i hi => ?_, fun i j hi hj e => ?_⟩, fun i hi => ?_⟩
  · obtain ⟨k, hk, e, _⟩ := hpa.at_ i (by omega)
    rw [tabOf_len] at hk
    omega
  · have q1 : p.getD i 0 = p[i]'(by omega) := by simp [List.getD_eq_getElem?_getD, show i < p.length by omega]
    have q2 : p.getD j 0 = p[j]'(by omega) := by simp [List.getD_eq_getElem?_getD, show j < p.length by omega]
    rw [q1, q2] at e
    exact nodup_inj hpa.nodup _ _ e
  · obtain ⟨k, hk, e, hne⟩ := hpa.at_ i (by omega)
    rw [tabOf_len] at hk
    rw [tabOf_at n f i k hi hk] at hne
    rw [e, Int.toNat_natCast]
    have := (h.cell i k hi hk).1
    omega

/-! ### a step -/
def decT (f : Nat → Nat → Int) (p : List Int) (x : Int) : Nat → Nat → Int := fun i j => if p.getD i 0 = (j : Int) then f i j - x else f i j
/-- the least number at the permutation, of the first k rows -/
def leastTo (f : Nat → Nat → Int) (p : List Int) : Nat → Int
  | 0 => f 0 (p.getD 0 0).toNat
  | k + 1 => min (leastTo f p k) (f k (p.getD k 0).toNat)
theorem leastTo_le (f : Nat → Nat → Int) (p : List Int) : ∀ k i, i < k → leastTo f p k ≤ f i (p.getD i 0).toNat
  | k + 1, i, h => by
    rw [leastTo]
    by_cases e : i = k
    · rw [e]; exact Int.min_le_right _ _
    · exact Int.le_trans (Int.min_le_left _ _) (leastTo_le f p k i (by omega))
theorem leastTo_is (f : Nat → Nat → Int) (p : List Int) (n : Nat) (hn : 0 < n) : ∀ k, k ≤ n → ∃ i, i < n ∧ leastTo f p k = f i (p.getD i 0).toNat
  | 0, _ => ⟨0, hn, rfl⟩
  | k + 1, h => by
    obtain ⟨i, hi, e⟩ := leastTo_is f p n hn k (by omega)
    rw [leastTo]
    by_cases q : leastTo f p k ≤ f k (p.getD k 0).toNat
    · rw [Int.min_eq_left q]; exact ⟨i, hi, e⟩
    · rw [Int.min_eq_right (by omega)]; exact ⟨k, by omega, rfl⟩
theorem PGood.onto {n : Nat} {p : List Int} (h : PGood n p) (j : Nat) (hj : j < n) : ∃ i, i < n ∧ p.getD i 0 = (j : Int) := by
  refine Classical.byContradiction fun hno => ?_
  have hnd : (j :: (List.range n).map fun i => (p.getD i 0).toNat).Nodup := by
    rw [List.nodup_cons]
    refine ⟨fun hm => ?_, ?_⟩
    · obtain ⟨i, hi, e⟩ := List.mem_map.1 hm
      have hi' := List.mem_range.1 hi
      have := h.at_ i hi'
      exact hno ⟨i, hi', by omega⟩
    · refine nodup_range_map n _ (fun a b hab hb e => ?_)
      have h1 := h.at_ a (by omega)
      have h2 := h.at_ b hb
      have := h.inj a b (by omega) hb (by omega)
      omega
  have := nodup_le (k := n - 1) hnd (fun x hx => by
    rcases List.mem_cons.1 hx with rfl | hm
    · omega
    · obtain ⟨i, hi, e⟩ := List.mem_map.1 hm
      have := h.at_ i (List.mem_range.1 hi)
      omega)
  rw [List.length_cons, List.length_map, List.length_range] at this
  omega
theorem sumN_sub_one (n : Nat) (f : Nat → Int) (y : Nat) (hy : y < n) (x : Int) : sumN n (fun i => if i = y then f i - x else f i) = sumN n f - x := by
  have h1 : sumN n (fun i => if i = y then f i - x else f i) = sumN n fun i => f i + (if i = y then -x else 0) := sumN_congr (fun i _ => by split <;> omega)
  have h2 : ∀ m, sumN m (fun i => if i = y then -x else 0) = if y < m then -x else 0 := fun m => by
    induction m with
    | zero => rfl
    | succ m ih =>
      rw [sumN_succ, ih]
      by_cases q : m = y
      · subst q; simp
      · rw [if_neg q]
        by_cases q2 : y < m
        · rw [if_pos q2, if_pos (by omega)]; omega
        · rw [if_neg q2, if_neg (by omega)]; rfl
  rw [h1, sumN_add, h2, if_pos hy]
  omega
theorem dec_good {n : Nat} {S x : Int} {f : Nat → Nat → Int} {p : List Int} (h : TGood n S f) (hp : PGood n p) (hx0 : 0 ≤ x) (hx : ∀ i, i < n → x ≤ f i (p.getD i 0).toNat) : TGood n (S - x) (decT f p x) := by
  refine ⟨fun i j hi hj => ?_, fun i hi => ?_, fun j hj => ?_⟩
  · have h1 := h.cell i j hi hj
    unfold decT
    by_cases q : p.getD i 0 = (j : Int)
    · rw [if_pos q]
      have h2 := hx i hi
      rw [q, Int.toNat_natCast] at h2
      omega
    · rw [if_neg q]; exact h1
  · have ha := hp.at_ i hi
    have e : sumN n (decT f p x i) = sumN n fun j => if j = (p.getD i 0).toNat then f i j - x else f i j := sumN_congr (fun j hj => by
      unfold decT
      by_cases q : p.getD i 0 = (j : Int)
      · rw [if_pos q, if_pos (by omega)]
      · rw [if_neg q, if_neg (by omega)])
    rw [e, sumN_sub_one n (f i) _ (by omega), h.row i hi]
  · obtain ⟨i0, hi0, e0⟩ := hp.onto j hj
    have e : sumN n (fun i => decT f p x i j) = sumN n fun i => if i = i0 then f i j - x else f i j := sumN_congr (fun i hi => by
      unfold decT
      by_cases q : p.getD i 0 = (j : Int)
      · rw [if_pos q, if_pos (hp.inj i i0 hi hi0 (by rw [q, e0]))]
      · rw [if_neg q, if_neg (fun e => q (by rw [e, e0]))])
    rw [e, sumN_sub_one n (fun i => f i j) i0 hi0, h.col j hj]
/-- how many places are not 0 -/
def nzc (n : Nat) (f : Nat → Nat → Int) : Nat := nsum n fun i => nsum n fun j => if f i j = 0 then 0 else 1
theorem nsum_lt {n : Nat} {s t : Nat → Nat} (h : ∀ i, i < n → s i ≤ t i) {i0 : Nat} (h0 : i0 < n) (h1 : s i0 + 1 ≤ t i0) : nsum n s + 1 ≤ nsum n t := by
  induction n with
  | zero => omega
  | succ n ih =>
    rw [nsum_succ, nsum_succ]
    by_cases e : i0 = n
    · subst e
      have := nsum_le (n := i0) (s := s) (t := t) (fun i hi => h i (by omega))
      omega
    · have := ih (fun i hi => h i (by omega)) (by omega)
      have := h n (by omega)
      omega
theorem nzc_dec {n : Nat} {x : Int} {f : Nat → Nat → Int} {p : List Int} (hp : PGood n p) (hx0 : 0 < x) (hx : ∀ i, i < n → x ≤ f i (p.getD i 0).toNat) {i0 : Nat} (hi0 : i0 < n) (he : f i0 (p.getD i0 0).toNat = x) : nzc n (decT f p x) + 1 ≤ nzc n f := by
  have le : ∀ i, i < n → ∀ j, j < n → (if decT f p x i j = 0 then 0 else 1) ≤ (if f i j = 0 then 0 else 1) := fun i hi j hj => by
    by_cases q : f i j = 0
    · have hne : p.getD i 0 ≠ (j : Int) := fun e => by
        have := hx i hi
        rw [e, Int.toNat_natCast, q] at this
        omega
      unfold decT
      rw [if_neg hne]
      exact Nat.le_refl _
    · rw [if_neg q]
      split <;> omega
  have ha := hp.at_ i0 hi0
  refine nsum_lt (fun i hi => nsum_le (fun j hj => le i hi j hj)) hi0 (nsum_lt (fun j hj => le i0 hi0 j hj) (i0 := (p.getD i0 0).toNat) (by omega) ?_)
  have e1 : decT f p x i0 (p.getD i0 0).toNat = 0 := by
    unfold decT
    rw [if_pos (by omega), he]
    omega
  simp only [e1, he, if_true]
  rw [if_neg (by omega)]
  exact Nat.le_refl _
theorem nzc_le (n : Nat) (f : Nat → Nat → Int) : nzc n f ≤ n * n := by
  have c1 : ∀ m c : Nat, nsum m (fun _ => c) = m * c := fun m c => by
    induction m with
    | zero => simp [nsum]
    | succ m ih => rw [nsum_succ, ih, Nat.succ_mul]
  have h1 : nzc n f ≤ nsum n fun _ => nsum n fun _ => 1 := nsum_le (fun i _ => nsum_le (fun j _ => by split <;> omega))
  rw [c1, c1, Nat.mul_one] at h1
  exact h1
/-- permutations taken one after another: the first one each time, as often as it can be -/
inductive Steps (n : Nat) (f0 : Nat → Nat → Int) : List (List Int × Int) → (Nat → Nat → Int) → Prop where
  | nil : Steps n f0 [] f0
  | snoc {acc : List (List Int × Int)} {f : Nat → Nat → Int} {p : List Int} (h : Steps n f0 acc f) (hs : 0 < sumN n (f 0)) (hp : firstP (tabOf n f) n [] = some p) : Steps n f0 (acc ++ [(p, leastTo f p n)]) (decT f p (leastTo f p n))
theorem TGood.step {n : Nat} {S : Int} {f : Nat → Nat → Int} (h : TGood n S f) (hn : 0 < n) (hS : 0 < S) {p : List Int} (hp : firstP (tabOf n f) n [] = some p) :
    PGood n p ∧ 0 < leastTo f p n ∧ leastTo f p n ≤ S ∧ TGood n (S - leastTo f p n) (decT f p (leastTo f p n)) ∧ nzc n (decT f p (leastTo f p n)) + 1 ≤ nzc n f := by
  obtain ⟨q, hq, hg, hpos⟩ := h.first hS
  rw [hp] at hq
  injection hq with hq
  subst hq
  obtain ⟨i, hi, e⟩ := leastTo_is f p n hn n (Nat.le_refl _)
  have h0 : 0 < leastTo f p n := by rw [e]; exact hpos i hi
  have hle := fun i (hi : i < n) => leastTo_le f p n i hi
  have ha := hg.at_ i hi
  have hS2 : leastTo f p n ≤ S := by
    rw [e, ← h.row i hi]
    have h1 := sumN_sub_one n (f i) (p.getD i 0).toNat (by omega) (f i (p.getD i 0).toNat)
    have h2 := sumN_le (n := n) (f := fun _ => 0) (g := fun j => if j = (p.getD i 0).toNat then f i j - f i (p.getD i 0).toNat else f i j) (fun j hj => by
      by_cases q : j = (p.getD i 0).toNat
      · simp only [q, if_true]; omega
      · simp only [q, if_false]; exact (h.cell i j hi hj).1)
    rw [sumN_zero] at h2
    omega
  exact ⟨hg, h0, hS2, dec_good h hg (by omega) hle, nzc_dec hg h0 hle hi e.symm⟩
end Go.Proofs.YtcnecmcbjpehcaaDoor
