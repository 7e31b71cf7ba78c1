/- Words, plain laws and walks behind the law OrderSpread, part 4. No condition. -/
import Derived.Test.YtcnecmcbjpehcaaDoorFlatOrderSpreadc
import Derived.Test.YtcnecmcbjpehcaaDoorFlatOrderSpreada
import Derived.Test.YtcnecmcbjpehcaaDoorRows
import Derived.Test.YtcnecmcbjpehcaaDoorCards
import Derived.Test.YtcnecmcbjpehcaaDoorTie
import Derived.Test.YtcnecmcbjpehcaaDoorFlatOrderSpreadb
import Derived.ProofKit
import Derived.LaidMore
import Derived.LaidLaws
import Derived.LaidHandle
import Derived.Stop.LaidErr
import Derived.Deep.DeepHandedRow
import Derived.Deep.DeepWitnessRowRef
import Derived.OpenShut
import Derived.Deep.Slices
import Derived.Deep.Matrix
import Derived.Lib.SmallJoins

/- The walks of order.square and order.Spread. Condition: the variables read as laid. -/
namespace Go.Proofs.YtcnecmcbjpehcaaDoor
open Go.RowKit Go.Deep Go.Proofs.YtcnecmcbjpehcaaDoorW.PrintWords

theorem totalD_ok (A : Option Addr) (l : List Int) (c : Nat) (w : World) (hA : Ints w A l) (hc : l.length ≤ c) (hs : Small l) :
    Calls Tryd.prog 41 #[.slice A l.length c] w fun e w' => e = .returned (.int .i64 l.sum) ∧ Drawn0 w w' := by
  obtain ⟨k, hk⟩ := (total_f hs).rounds
  exact POrderAbove.dist_Total.calls k A c l l.sum w hA.toC hc hk
theorem ret_err3 (a : Nat → Addr) {r : Int} (h : r = 3) : (Ending.returned (.iface 155 (.pointer (some (a 3))))) = .returned (errC a r) := by subst h; rfl

set_option maxRecDepth 100000 in
set_option maxHeartbeats 4000000 in
theorem square_any (A : Option Addr) (m : List (List Int)) (c : Nat) (w : World) (a : Nat → Addr) (hE : Env [2, 3] w a) (hA : Lists w A m) :
    Calls Tryd.prog 39 #[.slice A m.length c] w fun e w' => e = .returned (errC a (sqErr m)) ∧ Below w.heap.size w w' := by
  have HEN := hide (fun w' (hb : Below w.heap.size w w') => (⟨(hE.below hb).cell 2 (by decide), (hE.below hb).cell 3 (by decide)⟩ : w'.cell? ⟨glob 2, 0, none⟩ = _ ∧ w'.cell? ⟨glob 3, 0, none⟩ = _))
  simp only [glob] at HEN
  obtain ⟨y2, y3⟩ := HEN.out w (Below.refl _ _)
  have hlen := hA.len
  obtain ⟨r, hrr⟩ : ∃ r, sqErr m = r := ⟨_, rfl⟩
  rw [hrr]
  unfold sqErr at hrr
  by_cases c1 : 8 < (m.length : Int)
  · rw [if_pos (by omega)] at hrr
    subst hrr
    go_enter Tryd.func39, Tryd.ntmps39
    go_wp2_with (fail)
    go_ret
    exact ⟨rfl, Below.refl _ _⟩
  rw [if_neg (by omega)] at hrr
  by_cases c2 : m.length = 0
  · rw [if_pos c2] at hrr
    subst hrr
    have b2 : ((m.length : Int) == 0) = true := by rw [beq_iff_eq]; omega
    have C2 := hide c2
    clear c2
    go_enter Tryd.func39, Tryd.ntmps39
    go_wp2_with (fail)
    go_ret
    exact ⟨rfl, Below.refl _ _⟩
  rw [if_neg c2] at hrr
  have b2 : ((m.length : Int) == 0) = false := by rw [beq_eq_false_iff_ne]; omega
  have HR := hide hrr
  clear hrr
  go_enter Tryd.func39, Tryd.ntmps39
  go_wp2_with (fail)
  go_loopw [20] (fun v wr => ∃ i : Nat, i ≤ m.length ∧ v = .int .i64 i ∧ Hid ((m.take i).all (goodRow m.length) = true) ∧ Below w.heap.size w wr) (fun v _ => m.length - (intOf v).toNat)
  case atStart => exact ⟨0, Nat.zero_le _, rfl, hide rfl, Below.refl _ _⟩
  case round =>
    obtain ⟨i, hi, rfl, HT, hBi⟩ := hrel
    obtain ⟨wi, rfl⟩ : ∃ wi : World, wi = wr := ⟨_, rfl⟩
    have i0 : (0 : Int) ≤ (i : Int) := Int.natCast_nonneg _
    by_cases hil : i < m.length
    · have i1 : (i : Int) < (m.length : Int) := by omega
      obtain ⟨b, off, A', c', rfl, hb, d1, hle, hI⟩ := (hA.below hBi).at_ i hil
      obtain ⟨k2, k3⟩ := HEN.out wi hBi
      have hnum := numbers_any A' (m.getD i []) c' wi hI
      have hbad : (numb (m.getD i []) && decide ((m.getD i []).length = m.length)) = false → m.all (goodRow m.length) = false := fun h => goodRow_bad hil h
      have hnx : (numb (m.getD i []) && decide ((m.getD i []).length = m.length)) = true → (m.take (i + 1)).all (goodRow m.length) = true := fun h => takeRow hil HT.out h
      have HB := hide hbad
      have HNX := hide hnx
      clear hbad hnx
      generalize m.getD i [] = ri at d1 hle hI hnum HB HNX
      generalize numb ri = q at hnum HB HNX
      by_cases hl : (ri.length : Int) = m.length
      · have hne : ((ri.length : Int) != (m.length : Int)) = false := by rw [hl]; simp
        have hl' : ri.length = m.length := by omega
        have HL := hide hl'
        have HNUM := hide hnum
        clear hnum hl hl' hI
        generalize ri.length = n1 at d1 hle hne HL HNUM HB HNX
        cases q
        · go_wp2_with (go_at_call 46; refine Calls.mono HNUM.out ?_; rintro e w1 ⟨rfl, hb1⟩; obtain ⟨z2, z3⟩ := HEN.out w1 (below_trans hBi hb1))
          go_ret
          exact ⟨ret_err3 a (by rw [← HR.out, HB.out (by rfl), Bool.false_and]; rfl), below_trans hBi hb1⟩
        · go_wp2_with (go_at_call 46; refine Calls.mono HNUM.out ?_; rintro e w1 ⟨rfl, hb1⟩; obtain ⟨z2, z3⟩ := HEN.out w1 (below_trans hBi hb1))
          go_roundw
          case rel => exact ⟨i + 1, by omega, by go_num, hide (HNX.out (by rw [HL.out]; simp)), below_trans hBi hb1⟩
          case measure => simp [intOf]; omega
      · have hne : ((ri.length : Int) != (m.length : Int)) = true := by rw [bne_iff_ne]; exact hl
        have hl' : ¬ ri.length = m.length := by omega
        have HL := hide hl'
        clear hnum hl hl' hI
        generalize ri.length = n1 at d1 hle hne HL HB HNX
        have hfin : r = 3 := by rw [← HR.out, HB.out (by rw [decide_eq_false HL.out, Bool.and_false]), Bool.false_and]; rfl
        have HFIN := hide hfin
        clear hfin
        go_wp2_with (fail)
        go_ret
        exact ⟨ret_err3 a HFIN.out, hBi⟩
    · obtain rfl : i = m.length := by omega
      have hall := HT.out
      rw [List.take_length] at hall
      have hrr := HR.out
      rw [hall, Bool.true_and] at hrr
      have HALL := hide hall
      have HR2 := hide hrr
      clear hall hrr HT
      go_wp2_with (fail)
      go_loopw [38] (fun v wr => ∃ i : Nat, i ≤ m.length ∧ v = .int .i64 i ∧ Hid ((List.range i).all (goodAt m) = true) ∧ Below w.heap.size w wr) (fun v _ => m.length - (intOf v).toNat)
      case atStart => exact ⟨0, Nat.zero_le _, rfl, hide rfl, hBi⟩
      case round =>
        obtain ⟨i, hi2, rfl, HT, hBi2⟩ := hrel
        obtain ⟨wj, rfl⟩ : ∃ wj : World, wj = wr := ⟨_, rfl⟩
        have i0 : (0 : Int) ≤ (i : Int) := Int.natCast_nonneg _
        by_cases hil : i < m.length
        · have i1 : (i : Int) < (m.length : Int) := by omega
          obtain ⟨b, off, A1, c1', rfl, hb, d1, hle1, hI1⟩ := (hA.below hBi2).at_ i hil
          have g2 := (goodRow_get HALL.out i hil).2
          rw [g2] at d1
          go_wp2_with (fail)
          go_loop [7, 45] (fun dv jv => ∃ j : Nat, j ≤ m.length ∧ jv = .int .i64 j ∧ dv = .int .i64 (colTo m i j)) (fun _ jv => m.length - (intOf jv).toNat)
          case atStart => exact ⟨0, Nat.zero_le _, rfl, rfl⟩
          case round =>
            obtain ⟨j, hj, rfl, rfl⟩ := hrel
            have j0 : (0 : Int) ≤ (j : Int) := Int.natCast_nonneg _
            by_cases hjl : j < m.length
            · have j1 : (j : Int) < (m.length : Int) := by omega
              obtain ⟨b', off', A', c', e0, hb', dd, hle, hI⟩ := (hA.below hBi2).at_ j hjl
              injection e0 with e0
              injection e0 with e1 e2 _
              subst e1 e2
              obtain ⟨g1, g2'⟩ := goodRow_get HALL.out j hjl
              obtain ⟨b2, off2, rfl, hb2, d2⟩ := hI.at_ i (by omega)
              have hx := numb_get g1 i (by omega)
              have hcb := colTo_bound HALL.out i hil j (by omega)
              have hcs := colTo_succ m i j hjl
              rw [g2'] at dd
              generalize (m.getD j []).getD i 0 = x at d2 hx hcs
              generalize colTo m i j = s at hcb hcs
              have HCS := hide hcs
              clear hcs g1 g2' hI hle
              go_wp2_with (fail)
              go_round
              case rel => exact ⟨j + 1, by omega, by go_num, by rw [HCS.out]⟩
              case measure => simp [intOf]; omega
            · obtain rfl : j = m.length := by omega
              have m0 : 0 < m.length := by omega
              have m1 : (0 : Int) < (m.length : Int) := by omega
              obtain ⟨b', off', A0, c0, e0, _, d0, hle0, hI0⟩ := (hA.below hBi2).at_ 0 m0
              injection e0 with e0
              injection e0 with e1 e2 _
              subst e1 e2
              have d0' : wj.cell? ⟨b, off, none⟩ = some (.slice A0 (m.getD 0 []).length c0) := d0
              obtain ⟨g1, _⟩ := goodRow_get HALL.out i hil
              obtain ⟨g3, g4⟩ := goodRow_get HALL.out 0 m0
              have hs1 := fun w' (h : Below wj.heap.size wj w') => totalD_ok A1 (m.getD i []) c1' w' (hI1.below h) hle1 (numb_small g1 (by omega))
              have hs0 := fun w' (h : Below wj.heap.size wj w') => totalD_ok A0 (m.getD 0 []) c0 w' (hI0.below h) hle0 (numb_small g3 (by omega))
              have hnx : (decide ((m.getD i []).sum = (m.getD 0 []).sum) && decide (colTo m i m.length = (m.getD 0 []).sum)) = true → (List.range (i + 1)).all (goodAt m) = true := fun h => rangeAt HT.out h
              have hbd : (decide ((m.getD i []).sum = (m.getD 0 []).sum) && decide (colTo m i m.length = (m.getD 0 []).sum)) = false → r = 3 := fun h => by rw [← HR2.out, if_neg (by rw [goodAt_bad hil h]; decide)]
              rw [g2] at hs1
              rw [g4] at d0' hs0
              have HEJ := hide (fun n => HEN.out (wj.drewN n) (below_drewN' hBi2 _))
              clear d0 hI0 hI1 g1 g2 g3 g4 hle1 hle0
              generalize (m.getD i []).sum = x at hs1 hnx hbd
              generalize (m.getD 0 []).sum = y at hs0 hnx hbd
              generalize colTo m i m.length = z at hnx hbd
              have HNX := hide hnx
              have HBD := hide hbd
              have HS1 := hide hs1
              have HS0 := hide hs0
              clear hnx hbd hs1 hs0
              by_cases hxy : x = y
              · have bxy : (x != y) = false := by rw [hxy]; simp
                by_cases hzy : z = y
                · have bzy : (z != y) = false := by rw [hzy]; simp
                  have hn := HNX.out (by rw [decide_eq_true hxy, decide_eq_true hzy]; rfl)
                  have HN2 := hide hn
                  clear hxy hzy hn
                  go_wp2_with (fail)
                  go_quiet ((first
                    | (go_at_call 41; with_reducible exact quiet_drawn (HS1.out _ (below_drewN' (Below.refl _ _) _)))
                    | (go_at_call 41; with_reducible exact quiet_drawn (HS0.out _ (below_drewN' (Below.refl _ _) _)))))
                  go_wp2_with (fail)
                  go_roundw
                  case rel => exact ⟨i + 1, by omega, by go_num, HN2, below_drewN' hBi2 _⟩
                  case measure => simp [intOf]; omega
                · have bzy : (z != y) = true := by rw [bne_iff_ne]; exact hzy
                  have hn := HBD.out (by rw [decide_eq_false hzy, Bool.and_false])
                  have HN2 := hide hn
                  clear hxy hzy hn
                  go_wp2_with (fail)
                  go_quiet ((first
                    | (go_at_call 41; with_reducible exact quiet_drawn (HS1.out _ (below_drewN' (Below.refl _ _) _)))
                    | (go_at_call 41; with_reducible exact quiet_drawn (HS0.out _ (below_drewN' (Below.refl _ _) _)))))
                  obtain ⟨z2, z3⟩ := HEJ.out nq
                  go_wp2_with (fail)
                  go_ret
                  exact ⟨ret_err3 a HN2.out, below_drewN' hBi2 _⟩
              · have bxy : (x != y) = true := by rw [bne_iff_ne]; exact hxy
                have hn := HBD.out (by rw [decide_eq_false hxy, Bool.false_and])
                have HN2 := hide hn
                clear hn
                go_wp2_with (fail)
                go_quiet ((first
                  | (go_at_call 41; with_reducible exact quiet_drawn (HS1.out _ (below_drewN' (Below.refl _ _) _)))
                  | (go_at_call 41; with_reducible exact quiet_drawn (HS0.out _ (below_drewN' (Below.refl _ _) _)))))
                obtain ⟨z2, z3⟩ := HEJ.out nq
                go_wp2_with (fail)
                go_ret
                exact ⟨ret_err3 a HN2.out, below_drewN' hBi2 _⟩
        · obtain rfl : i = m.length := by omega
          have hfin : r = 0 := by rw [← HR2.out, if_pos HT.out]
          subst hfin
          go_wp2_with (fail)
          go_ret
          exact ⟨rfl, hBi2⟩
end Go.Proofs.YtcnecmcbjpehcaaDoor

/- The walk of order.Spread. Condition: the variables read as laid. -/
namespace Go.Proofs.YtcnecmcbjpehcaaDoor
open Go.RowKit Go.Deep Go.Proofs.YtcnecmcbjpehcaaDoorW.PrintWords

theorem sqErr_zero {m : List (List Int)} (h : sqErr m = 0) : m.length ≤ 8 ∧ 0 < m.length ∧ m.all (goodRow m.length) = true ∧ (List.range m.length).all (goodAt m) = true := by
  unfold sqErr at h
  by_cases c1 : 8 < m.length
  · rw [if_pos c1] at h; cases h
  rw [if_neg c1] at h
  by_cases c2 : m.length = 0
  · rw [if_pos c2] at h; cases h
  rw [if_neg c2] at h
  by_cases c3 : (m.all (goodRow m.length) && (List.range m.length).all (goodAt m)) = true
  · rw [Bool.and_eq_true] at c3
    exact ⟨by omega, by omega, c3.1, c3.2⟩
  · rw [if_neg c3] at h; cases h
theorem sqErr_nat (m : List (List Int)) : ∃ c : Nat, sqErr m = (c : Int) ∧ c ≤ 8 := by
  unfold sqErr
  split
  · exact ⟨2, rfl, by omega⟩
  split
  · exact ⟨3, rfl, by omega⟩
  split
  · exact ⟨0, rfl, by omega⟩
  · exact ⟨3, rfl, by omega⟩
theorem spread_len (m : List (List Int)) (w : List Int) : (spreadOf m w).length = m.length := by unfold spreadOf; rw [List.length_map]
theorem spread_succ {m : List (List Int)} (w : List Int) {i : Nat} (h : i < m.length) : spreadOf (m.take (i + 1)) w = spreadOf (m.take i) w ++ [dotTo (m.getD i []) w w.length] := by
  unfold spreadOf
  rw [takeL_at m i h, List.map_append]
  rfl
theorem spread_takelen {m : List (List Int)} (w : List Int) {i : Nat} (h : i ≤ m.length) : (spreadOf (m.take i) w).length = i := by rw [spread_len, List.length_take]; omega

set_option maxHeartbeats 2000000 in
theorem spread_err1 (A B : Option Addr) (m : List (List Int)) (W : List Int) (c d : Nat) (w : World) (a : Nat → Addr) (hE : Env [2, 3] w a) (hA : Lists w A m) (h : sqErr m ≠ 0) :
    Calls Tryd.prog 29 #[.slice A m.length c, .slice B W.length d] w fun e w' => e = .returned (.tuple #[.slice none 0 0, errC a (sqErr m)]) ∧ Below w.heap.size w w' := by
  have hs := square_any A m c w a hE hA
  have he := errC_pos' a h
  rw [he] at hs ⊢
  generalize a (sqErr m).toNat = x at hs
  have HS := hide hs
  clear hs he h
  go_enter Tryd.func29, Tryd.ntmps29
  go_wp2_with (go_at_call 39; refine Calls.mono HS.out ?_; rintro e w1 ⟨rfl, hb1⟩)
  go_ret2
  exact ⟨rfl, hb1⟩
set_option maxHeartbeats 2000000 in
theorem spread_err3 (A B : Option Addr) (m : List (List Int)) (W : List Int) (c d : Nat) (w : World) (a : Nat → Addr) (hE : Env [2, 3] w a) (hA : Lists w A m) (hB : Ints w B W) (h : sqErr m = 0) (hbad : ¬ (W.length = m.length ∧ numb W = true)) :
    Calls Tryd.prog 29 #[.slice A m.length c, .slice B W.length d] w fun e w' => e = .returned (.tuple #[.slice none 0 0, errC a 3]) ∧ Below w.heap.size w w' := by
  have hs := square_any A m c w a hE hA
  rw [h, errC_zero] at hs
  have HS := hide hs
  have HEN := hide (fun w' (hb : Below w.heap.size w w') => ((hE.below hb).cell 3 (by decide) : w'.cell? ⟨glob 3, 0, none⟩ = _))
  simp only [glob] at HEN
  have hlen := hB.len
  have hlena := hA.len
  by_cases hl : (W.length : Int) = m.length
  · have hne : ((W.length : Int) != (m.length : Int)) = false := by rw [hl]; simp
    have hn : numb W = false := by
      cases hq : numb W with
      | false => rfl
      | true => exact absurd ⟨by omega, hq⟩ hbad
    have hnum := fun w' (hb : Below w.heap.size w w') => numbers_any B W d w' (hB.below hb)
    rw [hn] at hnum
    have HN := hide hnum
    clear hs hnum hn h hbad
    go_enter Tryd.func29, Tryd.ntmps29
    go_wp2_with (first
      | (go_at_call 39; refine Calls.mono HS.out ?_; rintro e w1 ⟨rfl, hb1⟩)
      | (go_at_call 46; refine Calls.mono (HN.out _ hb1) ?_; rintro e w2 ⟨rfl, b2⟩; have hB2 := below_trans hb1 b2))
    have z3 := HEN.out w2 hB2
    go_quiet (fail)
    go_wp2_with (fail)
    go_ret2
    exact ⟨rfl, below_drewN' hB2 _⟩
  · have hne : ((W.length : Int) != (m.length : Int)) = true := by rw [bne_iff_ne]; exact hl
    clear hs h hbad
    go_enter Tryd.func29, Tryd.ntmps29
    go_wp2_with (go_at_call 39; refine Calls.mono HS.out ?_; rintro e w1 ⟨rfl, hb1⟩)
    have z3 := HEN.out w1 hb1
    go_quiet (fail)
    go_wp2_with (fail)
    go_ret2
    exact ⟨rfl, below_drewN' hb1 _⟩

set_option maxRecDepth 100000 in
set_option maxHeartbeats 4000000 in
theorem spread_ok (A B : Option Addr) (m : List (List Int)) (W : List Int) (c d : Nat) (w : World) (a : Nat → Addr) (hE : Env [2, 3] w a) (hA : Lists w A m) (hB : Ints w B W) (h : sqErr m = 0) (hl : W.length = m.length) (hn : numb W = true) :
    Calls Tryd.prog 29 #[.slice A m.length c, .slice B W.length d] w fun e w' => ∃ X x, e = .returned (.tuple #[.slice X (spreadOf m W).length x, .nilIface]) ∧ Ints w' X (spreadOf m W) ∧ (spreadOf m W).length ≤ x ∧ Below w.heap.size w w' := by
  have hs := square_any A m c w a hE hA
  rw [h, errC_zero] at hs
  have HS := hide hs
  have hnum := fun w' (hb : Below w.heap.size w w') => numbers_any B W d w' (hB.below hb)
  rw [hn] at hnum
  have HN := hide hnum
  obtain ⟨h8, h0, hall, _⟩ := sqErr_zero h
  have hne : ((m.length : Int) != (m.length : Int)) = false := by simp
  have HLW := hide hl
  have HNW := hide hn
  have HALL := hide hall
  rw [hl] at HN ⊢
  clear hs hnum hn h hall hl
  go_enter Tryd.func29, Tryd.ntmps29
  go_wp2_with (first
    | (go_at_call 39; refine Calls.mono HS.out ?_; rintro e w1 ⟨rfl, hb1⟩)
    | (go_at_call 46; refine Calls.mono (HN.out _ hb1) ?_; rintro e w2 ⟨rfl, b2⟩; have hB2 := below_trans hb1 b2))
  go_loopw [7, 31] (fun ov iv wr => ∃ i : Nat, i ≤ m.length ∧ iv = .int .i64 i ∧ wr.ownsRow w2.heap.size 3 1 ov i (intCells (spreadOf (m.take i) W)) ∧ Below w2.heap.size w2 wr) (fun _ iv _ => m.length - (intOf iv).toNat)
  case atStart => exact ⟨0, Nat.zero_le _, rfl, nil_own _ _ _ _, Below.refl _ _⟩
  case round =>
    obtain ⟨i, hi, rfl, hown, hBk⟩ := hrel
    obtain ⟨wi, rfl⟩ : ∃ wi : World, wi = wr := ⟨_, rfl⟩
    obtain ⟨A9, c9, rfl, hc9, _⟩ := own_shape hown
    have hBi := below_trans hB2 hBk
    have HO := hide hown
    clear hown
    have i0 : (0 : Int) ≤ (i : Int) := Int.natCast_nonneg _
    by_cases hil : i < m.length
    · have i1 : (i : Int) < (m.length : Int) := by omega
      obtain ⟨b, off, A1, c1', rfl, hb, d1, hle1, hI1⟩ := (hA.below hBi).at_ i hil
      obtain ⟨g1, g2⟩ := goodRow_get HALL.out i hil
      rw [g2] at d1
      go_wp2_with (fail)
      go_loop [10, 37] (fun dv jv => ∃ j : Nat, j ≤ m.length ∧ jv = .int .i64 j ∧ dv = .int .i64 (dotTo (m.getD i []) W j)) (fun _ jv => m.length - (intOf jv).toNat)
      case atStart => exact ⟨0, Nat.zero_le _, rfl, rfl⟩
      case round =>
        obtain ⟨j, hj, rfl, rfl⟩ := hrel
        have j0 : (0 : Int) ≤ (j : Int) := Int.natCast_nonneg _
        have hdb := dotTo_bound g1 HNW.out (by rw [g2, HLW.out]) j (by rw [HLW.out]; exact hj)
        by_cases hjl : j < m.length
        · have j1 : (j : Int) < (m.length : Int) := by omega
          obtain ⟨b1, o1, rfl, hb1', e1⟩ := hI1.at_ j (by omega)
          obtain ⟨b2', o2, rfl, hb2', e2⟩ := (hB.below hBi).at_ j (by rw [HLW.out]; exact hjl)
          have hx := mul_bound (numb_get g1 j (by omega)) (numb_get HNW.out j (by rw [HLW.out]; exact hjl))
          have hds := dotTo_succ (m.getD i []) W j
          generalize hpp : (m.getD i []).getD j 0 * W.getD j 0 = p at hx hds
          have w1' : IntKind.i64.wrap ((m.getD i []).getD j 0 * W.getD j 0) = p := by rw [hpp]; exact IntWalk.i64_in _ (by omega)
          have w2' : IntKind.i64.wrap (dotTo (m.getD i []) W j + p) = dotTo (m.getD i []) W (j + 1) := by rw [hds]; exact IntWalk.i64_in _ (by omega)
          clear hpp hds hx
          generalize (m.getD i []).getD j 0 = x at e1 w1'
          generalize W.getD j 0 = y at e2 w1'
          generalize hq : dotTo (m.getD i []) W (j + 1) = s1 at w2'
          have HQ := hide hq
          clear hq
          generalize dotTo (m.getD i []) W j = s at w2' hdb ⊢
          go_wp2_with (fail)
          go_round
          case rel => exact ⟨j + 1, by omega, by go_num, by rw [HQ.out]⟩
          case measure => simp [intOf]; omega
        · obtain rfl : j = m.length := by omega
          have hss := spread_succ W hil
          rw [HLW.out] at hss
          have hfit : dotTo (m.getD i []) W m.length ≤ 134217728 := by omega
          generalize dotTo (m.getD i []) W m.length = s at hss hfit hdb
          have HSS := hide hss
          have HC3 := hide (show ((spreadOf (m.take i) W).length + 1) * 8 ≤ 140737488355328 by rw [spread_takelen W (by omega)]; omega)
          have HSZ := hide hBk.size
          have HO1 := hide (own_list HO.out)
          clear hss hdb g1 g2 hle1 hI1
          go_wp2_with (at_builtin; refine wp_app_ints _ rfl _ _ rfl w2.heap.size (.slice A9 i c9) _ rfl (HO1.out.alloc _) _ 1 1 [s] rfl rfl (ints_one (b := wi.heap.size) (by simp) (by simp)) HC3.out (by rw [World.size_alloc]; exact Nat.le_succ_of_le HSZ.out) ?_; intro A' c' w5 hc5 ho5 hg5 hob5)
          have hb5 : Below w2.heap.size w2 w5 := (hBk.alloc hBk.size _).grown hg5 (by rw [World.size_alloc]; exact Nat.le_succ_of_le HSZ.out) (fun j hj => (HO.out.lt j hj).1)
          rw [← HSS.out, spread_takelen W (by omega)] at ho5
          go_roundw
          case rel => exact ⟨i + 1, by omega, by go_num, by rw [spread_takelen W (show i ≤ m.length by omega)]; exact ho5, hb5⟩
          case measure => simp [intOf]; omega
    · obtain rfl : i = m.length := by omega
      have hoo := HO.out
      rw [List.take_length] at hoo
      have HIW := hide (show Ints wi A9 (spreadOf m W) from Ints.own (c := c9) (e := 3) (base := w2.heap.size) (by rw [spread_len]; exact hoo))
      clear hoo
      go_wp2_with (fail)
      go_ret2
      exact ⟨A9, c9, by rw [spread_len]; rfl, HIW.out, by rw [spread_len]; exact hc9, hBi⟩
end Go.Proofs.YtcnecmcbjpehcaaDoor

/- What a table whose rows and columns have one sum makes of weights is majorized by the weights, times that sum. No condition. -/
namespace Go.Proofs.YtcnecmcbjpehcaaDoor
open Go Go.RowKit

/-- the sum of the first n values -/
def sumN (n : Nat) (f : Nat → Int) : Int := ((List.range n).map f).sum
theorem sumN_succ (n : Nat) (f : Nat → Int) : sumN (n + 1) f = sumN n f + f n := by
  unfold sumN
  rw [List.range_succ, List.map_append, List.sum_append]
  simp
theorem sumN_congr {n : Nat} {f g : Nat → Int} (h : ∀ i, i < n → f i = g i) : sumN n f = sumN n g := by
  induction n with
  | zero => rfl
  | succ n ih => rw [sumN_succ, sumN_succ, ih (fun i hi => h i (by omega)), h n (by omega)]
theorem sumN_le {n : Nat} {f g : Nat → Int} (h : ∀ i, i < n → f i ≤ g i) : sumN n f ≤ sumN n g := by
  induction n with
  | zero => exact Int.le_refl _
  | succ n ih =>
    rw [sumN_succ, sumN_succ]
    have := ih (fun i hi => h i (by omega))
    have := h n (by omega)
    omega
theorem sumN_add (n : Nat) (f g : Nat → Int) : sumN n (fun i => f i + g i) = sumN n f + sumN n g := by
  induction n with
  | zero => rfl
  | succ n ih => rw [sumN_succ, sumN_succ, sumN_succ, ih]; omega
theorem sumN_zero (n : Nat) : sumN n (fun _ => 0) = 0 := by
  induction n with
  | zero => rfl
  | succ n ih => rw [sumN_succ, ih]; rfl
theorem sumN_mulR (n : Nat) (f : Nat → Int) (c : Int) : sumN n (fun i => f i * c) = sumN n f * c := by
  induction n with
  | zero => simp [sumN]
  | succ n ih => rw [sumN_succ, sumN_succ, ih, Int.add_mul]
theorem sumN_swap (n k : Nat) (f : Nat → Nat → Int) : sumN n (fun i => sumN k fun j => f i j) = sumN k (fun j => sumN n fun i => f i j) := by
  induction n with
  | zero => rw [show (fun j => sumN 0 fun i => f i j) = fun _ => (0 : Int) from rfl, sumN_zero]; rfl
  | succ n ih =>
    rw [sumN_succ, ih, show (fun j => sumN (n + 1) fun i => f i j) = fun j => sumN n (fun i => f i j) + f n j from funext fun j => sumN_succ n _, sumN_add]
theorem map_sumN {α : Type} (l : List α) (d : α) (f : α → Int) : (l.map f).sum = sumN l.length fun i => f (l.getD i d) := by
  induction l with
  | nil => rfl
  | cons x l ih =>
    unfold sumN at *
    rw [List.map_cons, List.sum_cons, ih, List.length_cons, List.range_succ_eq_map, List.map_cons, List.sum_cons, List.map_map]
    rfl
theorem perm_sum {a b : List Int} (h : a.Perm b) : a.sum = b.sum := by
  induction h with
  | nil => rfl
  | cons x _ ih => simp only [List.sum_cons, ih]
  | swap x y l => simp only [List.sum_cons]; omega
  | trans _ _ h1 h2 => exact h1.trans h2

/-- how much the numbers exceed t, together -/
def over (t : Int) (l : List Int) : Int := (l.map fun x => max (x - t) 0).sum
theorem over_cons (t x : Int) (l : List Int) : over t (x :: l) = max (x - t) 0 + over t l := rfl
theorem over_append (t : Int) (a b : List Int) : over t (a ++ b) = over t a + over t b := by unfold over; rw [List.map_append, List.sum_append]
theorem over_nonneg (t : Int) : ∀ l, 0 ≤ over t l
  | [] => Int.le_refl _
  | x :: l => by
    have := over_nonneg t l
    rw [over_cons]
    omega
theorem over_perm (t : Int) {a b : List Int} (h : a.Perm b) : over t a = over t b := perm_sum (h.map _)
theorem take_le_over (t : Int) : ∀ (l : List Int) (k : Nat), k ≤ l.length → (l.take k).sum ≤ (k : Int) * t + over t l
  | l, 0, _ => by have := over_nonneg t l; simp; omega
  | [], k + 1, h => by simp at h
  | x :: l, k + 1, h => by
    have := take_le_over t l k (by simp at h; omega)
    rw [List.take_succ_cons, List.sum_cons, over_cons, Int.natCast_add, Int.add_mul]
    simp only [Int.natCast_one, Int.one_mul]
    omega
theorem over_ge (t : Int) : ∀ l : List Int, (∀ x, x ∈ l → t ≤ x) → l.sum = (l.length : Int) * t + over t l
  | [], _ => by simp [over]
  | x :: l, h => by
    have h1 := over_ge t l (fun y hy => h y (List.mem_cons_of_mem _ hy))
    have h2 := h x (List.mem_cons_self ..)
    rw [List.sum_cons, h1, over_cons, List.length_cons, Int.natCast_add, Int.add_mul]
    simp only [Int.natCast_one, Int.one_mul]
    omega
theorem over_le (t : Int) : ∀ l : List Int, (∀ x, x ∈ l → x ≤ t) → over t l = 0
  | [], _ => rfl
  | x :: l, h => by
    have h1 := over_le t l (fun y hy => h y (List.mem_cons_of_mem _ hy))
    have h2 := h x (List.mem_cons_self ..)
    rw [over_cons, h1]
    omega
theorem take_eq_over {l : List Int} (hd : l.Pairwise fun a b => b ≤ a) (k : Nat) (hk : k < l.length) : (l.take (k + 1)).sum = ((k + 1 : Nat) : Int) * (l.getD k 0) + over (l.getD k 0) l := by
  have hg : l.getD k 0 = l[k] := by simp [List.getD_eq_getElem?_getD, hk]
  rw [hg]
  rw [List.pairwise_iff_getElem] at hd
  have h1 : over l[k] l = over l[k] (l.take (k + 1)) + over l[k] (l.drop (k + 1)) := by rw [← over_append, List.take_append_drop]
  have h2 : over l[k] (l.drop (k + 1)) = 0 := over_le _ _ (fun x hx => by
    obtain ⟨j, hj, rfl⟩ := List.getElem_of_mem hx
    rw [List.length_drop] at hj
    rw [List.getElem_drop]
    exact hd k (k + 1 + j) hk (by omega) (by omega))
  have h3 := over_ge l[k] (l.take (k + 1)) (fun x hx => by
    obtain ⟨j, hj, rfl⟩ := List.getElem_of_mem hx
    rw [List.length_take] at hj
    rw [List.getElem_take]
    by_cases e : j = k
    · subst e; exact Int.le_refl _
    · exact hd j k (by omega) hk (by omega))
  rw [List.length_take, Nat.min_eq_left (by omega)] at h3
  rw [h3, h1, h2]
  omega
theorem above_of_over {p q : List Int} (hl : q.length = p.length) (h : ∀ t, t ∈ p → over t q ≤ over t p) : aboveB p q = true := by
  unfold aboveB aboveTo
  rw [List.all_eq_true]
  intro k hk
  rw [List.mem_range] at hk
  rw [decide_eq_true_iff]
  cases k with
  | zero => simp
  | succ j =>
    have hj : j < (falls p).length := by rw [falls_length]; omega
    have e1 := take_eq_over (falls_desc p) j hj
    have e2 := take_le_over ((falls p).getD j 0) (falls q) (j + 1) (by rw [falls_length]; omega)
    rw [over_perm _ (falls_perm p)] at e1
    rw [over_perm _ (falls_perm q)] at e2
    have e3 := h ((falls p).getD j 0) ((falls_perm p).mem_iff.1 (by
      rw [show (falls p).getD j 0 = (falls p)[j] by simp [List.getD_eq_getElem?_getD, hj]]
      exact List.getElem_mem hj))
    omega

theorem getD_mapI {α : Type} (l : List α) (d : α) (f : α → Int) (i : Nat) (h : i < l.length) : (l.map f).getD i 0 = f (l.getD i d) := by
  simp [List.getD_eq_getElem?_getD, h]
theorem max_mul {a s : Int} (hs : 0 ≤ s) : max (a * s) 0 = max a 0 * s := by
  by_cases h : 0 ≤ a
  · have := Int.mul_nonneg h hs
    rw [Int.max_eq_left this, Int.max_eq_left h]
  · have h1 : a * s ≤ 0 := Int.mul_nonpos_of_nonpos_of_nonneg (by omega) hs
    rw [Int.max_eq_right h1, Int.max_eq_right (by omega), Int.zero_mul]
theorem above_spread {m : List (List Int)} {w : List Int} (h : m.all (goodRow m.length) = true) (hg : (List.range m.length).all (goodAt m) = true) (hl : w.length = m.length) (h0 : 0 < m.length) :
    aboveB (w.map fun x => x * (m.getD 0 []).sum) (spreadOf m w) = true := by
  have row : ∀ i, i < m.length → (m.getD i []).sum = (m.getD 0 []).sum ∧ colSum m i = (m.getD 0 []).sum := fun i hi => by
    have := List.all_eq_true.1 hg i (List.mem_range.2 hi)
    simpa [goodAt] using this
  have s0 : 0 ≤ (m.getD 0 []).sum := by
    have := colTo_bound h 0 h0 m.length (Nat.le_refl _)
    have r := (row 0 h0).2
    unfold colSum at r
    omega
  generalize (m.getD 0 []).sum = S at row s0 ⊢
  refine above_of_over (by unfold spreadOf; rw [List.length_map, List.length_map, hl]) (fun t ht => ?_)
  rw [List.mem_map] at ht
  obtain ⟨u, _, rfl⟩ := ht
  have cell : ∀ i k, i < m.length → k < m.length → 0 ≤ (m.getD i []).getD k 0 := fun i k hi hk => by
    obtain ⟨g1, g2⟩ := goodRow_get h i hi
    exact (numb_get g1 k (by omega)).1
  have rows : ∀ i, i < m.length → sumN m.length (fun k => (m.getD i []).getD k 0) = S := fun i hi => by
    have e := map_sumN (m.getD i []) 0 id
    rw [List.map_id, (row i hi).1, (goodRow_get h i hi).2] at e
    exact e.symm
  have cols : ∀ k, k < m.length → sumN m.length (fun i => (m.getD i []).getD k 0) = S := fun k hk => by
    have e := map_sumN m [] (fun r => r.getD k 0)
    have r := (row k hk).2
    unfold colSum colTo at r
    rw [List.take_length] at r
    rw [r] at e
    exact e.symm
  have lhs : over (u * S) (spreadOf m w) = sumN m.length fun i => max (sumN m.length (fun k => (m.getD i []).getD k 0 * w.getD k 0) - u * S) 0 := by
    unfold over spreadOf
    rw [List.map_map, map_sumN m []]
    refine sumN_congr (fun i _ => ?_)
    show max (dotTo (m.getD i []) w w.length - u * S) 0 = _
    rw [hl]
    rfl
  have rhs : over (u * S) (w.map fun x => x * S) = sumN m.length fun k => S * max (w.getD k 0 - u) 0 := by
    unfold over
    rw [List.map_map, map_sumN w 0, hl]
    refine sumN_congr (fun i _ => ?_)
    show max (w.getD i 0 * S - u * S) 0 = _
    rw [← Int.sub_mul, max_mul s0, Int.mul_comm]
  have each : ∀ i, i < m.length → max (sumN m.length (fun k => (m.getD i []).getD k 0 * w.getD k 0) - u * S) 0 ≤ sumN m.length fun k => (m.getD i []).getD k 0 * max (w.getD k 0 - u) 0 := fun i hi => by
    have e1 : u * S = sumN m.length fun k => (m.getD i []).getD k 0 * u := by rw [sumN_mulR, rows i hi, Int.mul_comm]
    have e2 : sumN m.length (fun k => (m.getD i []).getD k 0 * w.getD k 0) = sumN m.length (fun k => (m.getD i []).getD k 0 * (w.getD k 0 - u)) + u * S := by
      rw [e1, ← sumN_add]
      refine sumN_congr (fun k _ => ?_)
      rw [Int.mul_sub]
      omega
    have e3 : sumN m.length (fun k => (m.getD i []).getD k 0 * (w.getD k 0 - u)) ≤ sumN m.length fun k => (m.getD i []).getD k 0 * max (w.getD k 0 - u) 0 :=
      sumN_le (fun k hk => Int.mul_le_mul_of_nonneg_left (Int.le_max_left _ _) (cell i k hi hk))
    have e4 : 0 ≤ sumN m.length fun k => (m.getD i []).getD k 0 * max (w.getD k 0 - u) 0 := by
      have := sumN_le (n := m.length) (f := fun _ => 0) (g := fun k => (m.getD i []).getD k 0 * max (w.getD k 0 - u) 0) (fun k hk => Int.mul_nonneg (cell i k hi hk) (Int.le_max_right _ _))
      rw [sumN_zero] at this
      exact this
    rw [e2]
    omega
  rw [lhs, rhs]
  refine Int.le_trans (sumN_le each) (Int.le_of_eq ?_)
  rw [sumN_swap]
  refine sumN_congr (fun k hk => ?_)
  rw [sumN_mulR, cols k hk]
end Go.Proofs.YtcnecmcbjpehcaaDoor

/- The walk of the law OrderSpread, and what few and lists answer. Condition: the variables read as laid; the arguments are of modest bulk. -/
namespace Go.Proofs.YtcnecmcbjpehcaaDoor
open Go.RowKit Go.Deep Go.Proofs.YtcnecmcbjpehcaaDoorW.PrintWords

theorem row_le (l : List (List Int)) (i : Nat) : (l.getD i []).length ≤ l.flatten.length := by
  rcases Nat.lt_or_ge i l.length with h | h
  · rw [getDL_eq l i h]
    have : l[i] ∈ l := List.getElem_mem h
    exact List.Sublist.length_le (List.sublist_flatten_of_mem this)
  · rw [List.getD_eq_getElem?_getD, List.getElem?_eq_none h]
    simp
theorem flat_take (l : List (List Int)) (i : Nat) (h : i < l.length) : (l.take (i + 1)).flatten = (l.take i).flatten ++ l.getD i [] := by
  rw [takeL_at l i h, List.flatten_append]
  simp
theorem flat_take_le (l : List (List Int)) (i : Nat) : (l.take i).flatten.length ≤ l.flatten.length := by
  have : l.flatten = (l.take i).flatten ++ (l.drop i).flatten := by rw [← List.flatten_append, List.take_append_drop]
  rw [this, List.length_append]
  omega
theorem flat_l0 (l : List (List Int)) (hl : l.length ≤ 2000000) (hf : l.flatten.length ≤ 2000000) : ∀ (d i k : Nat), i + d = l.length → d < k → POrderSpread.demonref1_Flat.l0 k l (l.take i).flatten (i : Int) = some l.flatten := by
  intro d
  induction d with
  | zero =>
    intro i k hi hk
    obtain ⟨k, rfl⟩ : ∃ m, k = m + 1 := ⟨k - 1, by omega⟩
    obtain rfl : i = l.length := by omega
    simp only [POrderSpread.demonref1_Flat.l0]
    rw [if_neg (by omega), List.take_length]
  | succ d ih =>
    intro i k hi hk
    obtain ⟨k, rfl⟩ : ∃ m, k = m + 1 := ⟨k - 1, by omega⟩
    have hil : i < l.length := by omega
    have h1 := flat_take_le l i
    have h2 := row_le l i
    simp only [POrderSpread.demonref1_Flat.l0]
    rw [if_pos (by omega), if_pos (by omega), rdL_nat, if_pos (by omega), wrap_up i (by omega), ← flat_take l i hil]
    exact ih (i + 1) k (by omega) (by omega)
theorem flat_f (l : List (List Int)) (hl : l.length ≤ 2000000) (hf : l.flatten.length ≤ 2000000) (k : Nat) (hk : l.length < k) : POrderSpread.demonref1_Flat.f k l = some l.flatten :=
  flat_l0 l hl hf l.length 0 k (by omega) hk
/-- is a table of few rows and few numbers? -/
def fewS (l : List (List Int)) : Bool := decide (l.length ≤ 70) && decide (l.flatten.length ≤ 600)
theorem few_f (l : List (List Int)) (hl : l.length ≤ 2000000) (hf : l.flatten.length ≤ 2000000) (k : Nat) (hk : l.length < k) : POrderSpread.demonlaw4_few.f k l = some (fewS l) := by
  unfold POrderSpread.demonlaw4_few.f fewS
  by_cases h : l.length ≤ 70
  · rw [if_pos (by omega), flat_f l hl hf k hk]
    have e : decide ((l.flatten.length : Int) ≤ 600) = decide (l.flatten.length ≤ 600) := by
      by_cases h2 : l.flatten.length ≤ 600
      · rw [decide_eq_true h2, decide_eq_true (by omega)]
      · rw [decide_eq_false h2, decide_eq_false (by omega)]
    show some (decide ((l.flatten.length : Int) ≤ 600)) = _
    rw [e, decide_eq_true h, Bool.true_and]
  · rw [if_neg (by omega), decide_eq_false h, Bool.false_and]
theorem intsS_f (l : List Int) (hl : l.length ≤ 2000000) : POrderSpread.demonlaw4_ints.f l = some l := by
  unfold POrderSpread.demonlaw4_ints.f
  rw [if_pos (by simp; omega)]
  rfl
theorem lists_l0 (l : List (List Int)) (hl : l.length ≤ 2000000) (hf : l.flatten.length ≤ 2000000) : ∀ (d i k : Nat), i + d = l.length → d < k → POrderSpread.demonlaw4_lists.l0 k l (l.take i) (i : Int) = some l := by
  intro d
  induction d with
  | zero =>
    intro i k hi hk
    obtain ⟨k, rfl⟩ : ∃ m, k = m + 1 := ⟨k - 1, by omega⟩
    obtain rfl : i = l.length := by omega
    simp only [POrderSpread.demonlaw4_lists.l0]
    rw [if_neg (by omega), List.take_length]
  | succ d ih =>
    intro i k hi hk
    obtain ⟨k, rfl⟩ : ∃ m, k = m + 1 := ⟨k - 1, by omega⟩
    have hil : i < l.length := by omega
    have h2 := row_le l i
    have h3 : (l.take i).length ≤ i := by simp; omega
    simp only [POrderSpread.demonlaw4_lists.l0]
    rw [if_pos (by omega), if_pos (by omega), rdL_nat, intsS_f _ (by omega), Option.bind_some, if_pos (by omega), wrap_up i (by omega), ← takeL_at l i hil]
    exact ih (i + 1) k (by omega) (by omega)
theorem lists_f (l : List (List Int)) (hl : l.length ≤ 2000000) (hf : l.flatten.length ≤ 2000000) (k : Nat) (hk : l.length < k) : POrderSpread.demonlaw4_lists.f k l = some l :=
  lists_l0 l hl hf l.length 0 k (by omega) hk
theorem fewS_ok (A : Option Addr) (m : List (List Int)) (c : Nat) (w : World) (hA : Lists w A m) (hc : m.length ≤ c) (hl : m.length ≤ 2000000) (hf : m.flatten.length ≤ 2000000) :
    Calls Tryd.prog 11 #[.slice A m.length c] w fun e w' => e = .returned (.bool (fewS m)) ∧ Below w.heap.size w w' :=
  POrderSpread.demonlaw4_few.calls (m.length + 1) A c m (fewS m) w hA.toC hc (few_f m hl hf _ (by omega))
theorem listsS_ok (A : Option Addr) (m : List (List Int)) (c : Nat) (w : World) (hA : Lists w A m) (hc : m.length ≤ c) (hl : m.length ≤ 2000000) (hf : m.flatten.length ≤ 2000000) :
    Calls Tryd.prog 13 #[.slice A m.length c] w fun e w' => ∃ B d, e = .returned (.slice B m.length d) ∧ Lists w' B m ∧ m.length ≤ d ∧ Below w.heap.size w w' := by
  refine (POrderSpread.demonlaw4_lists.calls (m.length + 1) A c m m w hA.toC hc (lists_f m hl hf _ (by omega))).mono ?_
  rintro e w' ⟨v, rfl, hS, hb⟩
  obtain ⟨B, d, rfl, hI, hd⟩ := Lists.ofR (Kd.S_R hS)
  exact ⟨B, d, rfl, hI, hd, hb⟩
theorem spreadOf_ok (A B : Option Addr) (m : List (List Int)) (W : List Int) (c d : Nat) (w : World) (hA : Lists w A m) (hB : Ints w B W) (hc : m.length ≤ c) (hd : W.length ≤ d) (h : sqErr m = 0) (hl : W.length = m.length) (hn : numb W = true) :
    Calls Tryd.prog 28 #[.slice A m.length c, .slice B W.length d] w fun e w' => RetInts (spreadOf m W) w e w' := by
  obtain ⟨h8, _, hall, _⟩ := sqErr_zero h
  obtain ⟨k, hk⟩ := (spreadOf_f hall h8 hn hl).rounds
  refine (POrderSpread.demonref4_SpreadOf.calls k A c m B d W (spreadOf m W) w hA.toC hc hB.toC hd hk).mono ?_
  rintro e w' ⟨v, rfl, hR, hb⟩
  obtain ⟨B, d, rfl, hI, hd⟩ := Ints.ofR hR
  exact ⟨B, d, rfl, hI, hd, hb⟩
theorem same_nil (w : World) : Calls Tryd.prog 25 #[.slice none 0 0, .slice none 0 0] w fun e w' => e = .returned (.bool true) ∧ Below w.heap.size w w' := by
  have h := same_any none none [] [] 0 0 w (Ints.nil w _) (Ints.nil w _)
  rw [decide_eq_true rfl] at h
  exact h
theorem step_app_ints (w : World) {ops : Array Oper} {o : Oper} {a : Act} {K : Act → World → Prop} {Q : Exit → Act → World → Prop} {E : Prop} (hgd : o.guard = none) (s x : Operand)
    (ho : o.op = .call { callee := .builtin .append, args := #[s, x], argTypes := #[25, 25] })
    (base : Nat) (v : Value) (l0 : List Int) (hs : a.eval s = v) (hown : w.ownsRow base 3 1 v l0.length (intCells l0))
    (A : Option Addr) (m c : Nat) (l : List Int) (hx : a.eval x = .slice A m c) (hm : m = l.length) (hr : Ints w A l)
    (hbytes : (l0.length + m) * 8 ≤ 140737488355328) (hbase : base ≤ w.heap.size)
    (h : ∀ A' c' w', (l0 ++ l).length ≤ c' → w'.ownsRow base 3 1 (.slice A' (l0 ++ l).length c') (l0 ++ l).length (intCells (l0 ++ l)) → w.grownBy w' v.ownBlock → ((Value.slice A' (l0 ++ l).length c').ownBlock = v.ownBlock ∨ (Value.slice A' (l0 ++ l).length c').ownBlock = some w.heap.size) →
      K (a.put o.dst (.slice A' (l0 ++ l).length c')) w') :
    if Region.wanted o (yielded ops a.tmps) = true then Oper.wp Tryd.prog o a w K Q else E := by
  obtain ⟨i0, hi0, hz0, hz1, hz2⟩ := info_parts int_info
  subst hm
  refine step_append_any w hgd s x _ ho base 3 i0 _ 1 8 Tryd.underlying25 hi0 hz0 hz1 hz2 rfl (by omega) v l0.length (intCells l0) hs hown w.heap.size A l.length c (intCells l) hx hr.reads (intCells_one l) (by simp only [maxLen]; omega) hbytes hbase ?_
  intro v' w' h1 h2 h3
  rw [← intCells_append, ← List.length_append] at h1
  obtain ⟨A', c', rfl, hc, _⟩ := own_shape h1
  exact h A' c' w' hc h1 h2 h3

set_option maxRecDepth 100000 in
set_option maxHeartbeats 4000000 in
theorem law_spread_many (A B : Option Addr) (m : List (List Int)) (W : List Int) (c d : Nat) (w : World) (a : Nat → Addr) (hS : Sent codes w a) (hA : Lists w A m) (hB : Ints w B W) (hc : m.length ≤ c) (hm : m.length ≤ 2000000) (hf : m.flatten.length ≤ 2000000) (hbad : ¬ (fewS m = true ∧ W.length ≤ 200)) :
    Calls Tryd.prog 6 #[.slice A m.length c, .slice B W.length d] w fun e w' => e = .returned (.bool true) ∧ Below w.heap.size w w' := by
  have HE : Hid (∀ w', Below w.heap.size w w' → Env [2, 3] w' a) := hide fun w' hb => (hS.toEnv.sub (fun c h => sub23 h)).below hb
  have HUN := hide (fun w' (hb : Below w.heap.size w w') => unlike_any w' a (HE.out w' hb))
  have hfw := fun w' (hb : Below w.heap.size w w') => fewS_ok A m c w' (hA.below hb) hc hm hf
  have hlen := hB.len
  by_cases h1 : fewS m = true
  · have h2 : 200 < (W.length : Int) := by
      have : ¬ W.length ≤ 200 := fun h => hbad ⟨h1, h⟩
      omega
    rw [h1] at hfw
    have HF := hide hfw
    clear hfw hbad
    go_enter Tryd.func6, Tryd.ntmps6
    go_wp2_with (first
      | (go_at_call 10; refine Calls.mono (HUN.out _ (Below.refl _ _)) ?_; rintro e w1 ⟨rfl, hB1⟩)
      | (go_at_call 11; refine Calls.mono (HF.out w1 hB1) ?_; rintro e w2 ⟨rfl, b2⟩; have hB2 := below_trans hB1 b2))
    go_ret
    exact ⟨rfl, hB2⟩
  · rw [show fewS m = false by simpa using h1] at hfw
    have HF := hide hfw
    clear hfw hbad h1
    go_enter Tryd.func6, Tryd.ntmps6
    go_wp2_with (first
      | (go_at_call 10; refine Calls.mono (HUN.out _ (Below.refl _ _)) ?_; rintro e w1 ⟨rfl, hB1⟩)
      | (go_at_call 11; refine Calls.mono (HF.out w1 hB1) ?_; rintro e w2 ⟨rfl, b2⟩; have hB2 := below_trans hB1 b2))
    go_ret
    exact ⟨rfl, hB2⟩

set_option maxRecDepth 100000 in
set_option maxHeartbeats 4000000 in
theorem law_spread_bad (A B : Option Addr) (m : List (List Int)) (W : List Int) (c d : Nat) (w : World) (a : Nat → Addr) (hS : Sent codes w a) (hH : Handle w) (hA : Lists w A m) (hB : Ints w B W) (hc : m.length ≤ c) (hd : W.length ≤ d) (hm : m.length ≤ 2000000) (hf : m.flatten.length ≤ 2000000)
    (h1 : fewS m = true) (h2 : W.length ≤ 200) (hbad : ¬ (sqErr m = 0 ∧ W.length = m.length ∧ numb W = true)) :
    Calls Tryd.prog 6 #[.slice A m.length c, .slice B W.length d] w fun e w' => e = .returned (.bool true) ∧ Below w.heap.size w w' := by
  have HE : Hid (∀ w', Below w.heap.size w w' → Env [2, 3] w' a) := hide fun w' hb => (hS.toEnv.sub (fun c h => sub23 h)).below hb
  have HUN := hide (fun w' (hb : Below w.heap.size w w') => unlike_any w' a (HE.out w' hb))
  have hfw := fun w' (hb : Below w.heap.size w w') => fewS_ok A m c w' (hA.below hb) hc hm hf
  rw [h1] at hfw
  have HF := hide hfw
  have hlen := hB.len
  have hlena := hA.len
  have h2' : (W.length : Int) ≤ 200 := by omega
  have hrows : ∀ r, r ∈ m → r.length ≤ 2000000 := fun r hr => Nat.le_trans (List.Sublist.length_le (List.sublist_flatten_of_mem hr)) hf
  have hse := fun w' (hb : Below w.heap.size w w') => squareError_ok A m c w' (hA.below hb) hc hrows
  have HCL := hide (fun w' (hb : Below w.heap.size w w') => listsS_ok A m c w' (hA.below hb) hc hm hf)
  have HCI := hide (fun w' (hb : Below w.heap.size w w') => ints_ok B W d w' (hB.below hb) hd (by omega))
  have HNIL := hide (fun w' => same_nil w')
  by_cases h0 : sqErr m = 0
  · rw [h0] at hse
    have HSE := hide hse
    have hsp := fun (A' B' : Option Addr) (x y : Nat) w' (g1 : Lists w' A' m) (g2 : Ints w' B' W) (hb : Below w.heap.size w w') => spread_err3 A' B' m W x y w' a (HE.out w' hb) g1 g2 h0 (fun g => hbad ⟨h0, g⟩)
    have hcd := fun w' (hb : Below w.heap.size w w') => coded_any w' a (hS.below hb) (hH.below hb) 3 (by decide) 3
    rw [decide_eq_true (by rfl)] at hcd
    have HSP := hide hsp
    have HCD := hide hcd
    have HNU := hide (fun w' (hb : Below w.heap.size w w') => numbersS_ok B W d w' (hB.below hb) hd (by omega))
    by_cases hl : (W.length : Int) = m.length
    · have hne : ((W.length : Int) != (m.length : Int)) = false := by rw [hl]; simp
      have hn : numb W = false := by
        cases hq : numb W with
        | false => rfl
        | true => exact absurd ⟨h0, by omega, hq⟩ hbad
      have hnu := HNU.out
      rw [hn] at hnu
      have HN := hide hnu
      clear hse hsp hcd hnu HNU hfw h0 h1 hbad hn
      go_enter Tryd.func6, Tryd.ntmps6
      go_wp2_with (first
        | (go_at_call 10; refine Calls.mono (HUN.out _ (Below.refl _ _)) ?_; rintro e w1 ⟨rfl, hB1⟩)
        | (go_at_call 11; refine Calls.mono (HF.out w1 hB1) ?_; rintro e w2 ⟨rfl, b2⟩; have hB2 := below_trans hB1 b2)
        | (go_at_call 26; refine Calls.mono (HSE.out w2 hB2) ?_; rintro e w3 ⟨rfl, b3⟩; have hB3 := below_trans hB2 b3)
        | (go_at_call 27; refine Calls.mono (HN.out w3 hB3) ?_; rintro e w4 ⟨rfl, b4⟩; have hB4 := below_trans hB3 (drawn_below b4))
        | (go_at_call 13; refine Calls.mono (HCL.out w4 hB4) ?_; rintro e w5 ⟨A5, c5, rfl, hI5, hc5, b5⟩; have hB5 := below_trans hB4 b5)
        | (go_at_call 18; refine Calls.mono (HCI.out w5 hB5) ?_; rintro e w6 ⟨A6, c6, rfl, hI6, hc6, b6⟩; have hB6 := below_trans hB5 b6)
        | (go_at_call 29; refine Calls.mono (HSP.out A5 A6 c5 c6 w6 (hI5.below b6) hI6 hB6) ?_; rintro e w7 ⟨rfl, b7⟩; have hB7 := below_trans hB6 b7)
        | (go_at_call 19; refine Calls.mono (HCD.out w7 hB7) ?_; rintro e w8 ⟨rfl, b8⟩; have hB8 := below_trans hB7 b8)
        | (go_at_call 25; refine Calls.mono (HNIL.out w8) ?_; rintro e w9 ⟨rfl, b9⟩; have hB9 := below_trans hB8 b9))
      go_ret
      exact ⟨rfl, hB9⟩
    · have hne : ((W.length : Int) != (m.length : Int)) = true := by rw [bne_iff_ne]; exact hl
      clear hse hsp hcd HNU hfw h0 h1 hbad hl
      go_enter Tryd.func6, Tryd.ntmps6
      go_wp2_with (first
        | (go_at_call 10; refine Calls.mono (HUN.out _ (Below.refl _ _)) ?_; rintro e w1 ⟨rfl, hB1⟩)
        | (go_at_call 11; refine Calls.mono (HF.out w1 hB1) ?_; rintro e w2 ⟨rfl, b2⟩; have hB2 := below_trans hB1 b2)
        | (go_at_call 26; refine Calls.mono (HSE.out w2 hB2) ?_; rintro e w4 ⟨rfl, b3⟩; have hB4 := below_trans hB2 b3)
        | (go_at_call 13; refine Calls.mono (HCL.out w4 hB4) ?_; rintro e w5 ⟨A5, c5, rfl, hI5, hc5, b5⟩; have hB5 := below_trans hB4 b5)
        | (go_at_call 18; refine Calls.mono (HCI.out w5 hB5) ?_; rintro e w6 ⟨A6, c6, rfl, hI6, hc6, b6⟩; have hB6 := below_trans hB5 b6)
        | (go_at_call 29; refine Calls.mono (HSP.out A5 A6 c5 c6 w6 (hI5.below b6) hI6 hB6) ?_; rintro e w7 ⟨rfl, b7⟩; have hB7 := below_trans hB6 b7)
        | (go_at_call 19; refine Calls.mono (HCD.out w7 hB7) ?_; rintro e w8 ⟨rfl, b8⟩; have hB8 := below_trans hB7 b8)
        | (go_at_call 25; refine Calls.mono (HNIL.out w8) ?_; rintro e w9 ⟨rfl, b9⟩; have hB9 := below_trans hB8 b9))
      go_ret
      exact ⟨rfl, hB9⟩
  · obtain ⟨cc, hc', hc8⟩ := sqErr_nat m
    have hc0 : 0 < cc := by
      rcases Nat.eq_zero_or_pos cc with h | h
      · subst h; exact absurd hc' h0
      · exact h
    have hsp := fun (A' B' : Option Addr) (x y : Nat) w' (g1 : Lists w' A' m) (hb : Below w.heap.size w w') => spread_err1 A' B' m W x y w' a (HE.out w' hb) g1 h0
    have hcd := fun w' (hb : Below w.heap.size w w') => coded_any w' a (hS.below hb) (hH.below hb) cc hc8 cc
    rw [hc'] at hsp hse
    rw [decide_eq_true rfl] at hcd
    have he : errC a (cc : Int) = .iface 155 (.pointer (some (a cc))) := errC_pos' a (by omega)
    rw [he] at hsp hcd
    have HSE := hide hse
    have HSP := hide hsp
    have HCD := hide hcd
    have hci : 0 < (cc : Int) := by omega
    have hcn : ((cc : Int) == 0) = false := by rw [beq_eq_false_iff_ne]; omega
    clear hse hsp hcd he hc' h0 hfw h1 hbad
    go_enter Tryd.func6, Tryd.ntmps6
    go_wp2_with (first
      | (go_at_call 10; refine Calls.mono (HUN.out _ (Below.refl _ _)) ?_; rintro e w1 ⟨rfl, hB1⟩)
      | (go_at_call 11; refine Calls.mono (HF.out w1 hB1) ?_; rintro e w2 ⟨rfl, b2⟩; have hB2 := below_trans hB1 b2)
      | (go_at_call 26; refine Calls.mono (HSE.out w2 hB2) ?_; rintro e w4 ⟨rfl, b3⟩; have hB4 := below_trans hB2 b3)
      | (go_at_call 13; refine Calls.mono (HCL.out w4 hB4) ?_; rintro e w5 ⟨A5, c5, rfl, hI5, hc5, b5⟩; have hB5 := below_trans hB4 b5)
      | (go_at_call 18; refine Calls.mono (HCI.out w5 hB5) ?_; rintro e w6 ⟨A6, c6, rfl, hI6, hc6, b6⟩; have hB6 := below_trans hB5 b6)
      | (go_at_call 29; refine Calls.mono (HSP.out A5 A6 c5 c6 w6 (hI5.below b6) hB6) ?_; rintro e w7 ⟨rfl, b7⟩; have hB7 := below_trans hB6 b7)
      | (go_at_call 19; refine Calls.mono (HCD.out w7 hB7) ?_; rintro e w8 ⟨rfl, b8⟩; have hB8 := below_trans hB7 b8)
      | (go_at_call 25; refine Calls.mono (HNIL.out w8) ?_; rintro e w9 ⟨rfl, b9⟩; have hB9 := below_trans hB8 b9))
    go_ret
    exact ⟨rfl, hB9⟩
end Go.Proofs.YtcnecmcbjpehcaaDoor

/- The walk of the law OrderSpread: tables that are right, weights that are right. Condition: the variables read as laid; the arguments are of modest bulk. -/
namespace Go.Proofs.YtcnecmcbjpehcaaDoor
open Go.RowKit Go.Deep Go.Proofs.YtcnecmcbjpehcaaDoorW.PrintWords

/-- the weights, times S: the first i -/
def ownTo (W : List Int) (S : Int) (i : Nat) : List Int := (W.take i).map fun x => x * S
theorem ownTo_len {W : List Int} (S : Int) {i : Nat} (h : i ≤ W.length) : (ownTo W S i).length = i := by unfold ownTo; rw [List.length_map, List.length_take]; omega
theorem ownTo_succ {W : List Int} (S : Int) {i : Nat} (h : i < W.length) : ownTo W S (i + 1) = ownTo W S i ++ [W.getD i 0 * S] := by
  unfold ownTo
  rw [take_at W i h, List.map_append]
  rfl
theorem ownTo_all (W : List Int) (S : Int) : ownTo W S W.length = W.map fun x => x * S := by unfold ownTo; rw [List.take_length]
theorem own_bound {x S : Int} (hx : 0 ≤ x ∧ x ≤ 4096) (hs : 0 ≤ S ∧ S ≤ 32768) : 0 ≤ x * S ∧ x * S ≤ 134217728 := by
  obtain ⟨a, rfl⟩ := Int.eq_ofNat_of_zero_le hx.1
  obtain ⟨b, rfl⟩ := Int.eq_ofNat_of_zero_le hs.1
  have h : a * b ≤ 4096 * 32768 := Nat.mul_le_mul (by omega) (by omega)
  have e : ((a : Int) * (b : Int)) = ((a * b : Nat) : Int) := by push_cast; rfl
  rw [e]
  omega
theorem ints_new (w : World) (n : Nat) (y : Int) (t : TypeId) : Ints ((w.drewN n).alloc (.cells #[.int .i64 y] t)) (some ⟨w.heap.size, 0, none⟩) [y] := Ints.lit (w.drewN n) [y] t (by simp)

set_option maxRecDepth 100000 in
set_option maxHeartbeats 4000000 in
theorem law_spread_good (A B : Option Addr) (m : List (List Int)) (W : List Int) (c d : Nat) (w : World) (a : Nat → Addr) (hS : Sent codes w a) (hH : Handle w) (hA : Lists w A m) (hB : Ints w B W) (hc : m.length ≤ c) (hd : W.length ≤ d) (hm : m.length ≤ 2000000) (hf : m.flatten.length ≤ 2000000)
    (h1 : fewS m = true) (h2 : W.length ≤ 200) (h0 : sqErr m = 0) (hl : W.length = m.length) (hn : numb W = true) :
    Calls Tryd.prog 6 #[.slice A m.length c, .slice B W.length d] w fun e w' => e = .returned (.bool true) ∧ Below w.heap.size w w' := by
  have HE : Hid (∀ w', Below w.heap.size w w' → Env [2, 3] w' a) := hide fun w' hb => (hS.toEnv.sub (fun c h => sub23 h)).below hb
  have HUN := hide (fun w' (hb : Below w.heap.size w w') => unlike_any w' a (HE.out w' hb))
  have hfw := fun w' (hb : Below w.heap.size w w') => fewS_ok A m c w' (hA.below hb) hc hm hf
  rw [h1] at hfw
  have HF := hide hfw
  have hrows : ∀ r, r ∈ m → r.length ≤ 2000000 := fun r hr => Nat.le_trans (List.Sublist.length_le (List.sublist_flatten_of_mem hr)) hf
  have hse := fun w' (hb : Below w.heap.size w w') => squareError_ok A m c w' (hA.below hb) hc hrows
  rw [h0] at hse
  have HSE := hide hse
  have HCL := hide (fun w' (hb : Below w.heap.size w w') => listsS_ok A m c w' (hA.below hb) hc hm hf)
  have hci := fun w' (hb : Below w.heap.size w w') => ints_ok B W d w' (hB.below hb) hd (by omega)
  have hnu := fun w' (hb : Below w.heap.size w w') => numbersS_ok B W d w' (hB.below hb) hd (by omega)
  rw [hn] at hnu
  have hso := fun w' (hb : Below w.heap.size w w') => spreadOf_ok A B m W c d w' (hA.below hb) (hB.below hb) hc hd h0 hl hn
  have hsp := fun (A' B' : Option Addr) (x y : Nat) w' (g1 : Lists w' A' m) (g2 : Ints w' B' W) (hb : Below w.heap.size w w') => spread_ok A' B' m W x y w' a (HE.out w' hb) g1 g2 h0 hl hn
  have HCD := hide (fun w' (hb : Below w.heap.size w w') => coded_any w' a (hS.below hb) (hH.below hb) 0 (by decide) 0)
  obtain ⟨h8, hp, hall, hgood⟩ := sqErr_zero h0
  have hab := above_spread (w := W) hall hgood hl hp
  obtain ⟨g3, g4⟩ := goodRow_get hall 0 hp
  have hsum : 0 ≤ (m.getD 0 []).sum ∧ (m.getD 0 []).sum ≤ 32768 := by
    have r0 := List.all_eq_true.1 hgood 0 (List.mem_range.2 hp)
    have r1 : colSum m 0 = (m.getD 0 []).sum := by
      unfold goodAt at r0
      rw [Bool.and_eq_true] at r0
      exact of_decide_eq_true r0.2
    have r2 := colTo_bound hall 0 hp m.length (Nat.le_refl _)
    unfold colSum at r1
    omega
  obtain ⟨b, off, A0, c0, rfl, hb0, d0, hle0, hI0⟩ := hA.at_ 0 hp
  have hsm : Small (m.getD 0 []) := numb_small g3 (by omega)
  have HS0 := hide (fun w' (hb : Below w.heap.size w w') => sumS_ok A0 (m.getD 0 []) c0 w' (hI0.below hb) hle0 hsm)
  have hd0 := fun w' (hb : Below w.heap.size w w') => show w'.cell? ⟨b, off, none⟩ = some (.slice A0 (m.getD 0 []).length c0) from (hb.cell (p := ⟨b, off, none⟩) hb0).trans d0
  have hs0 := HS0.out
  rw [g4] at hs0 hd0
  have hwl := fun i (hi : i < W.length) => numb_get hn i hi
  have hlen := spread_len m W
  have hin := fun (A' : Option Addr) (x : Nat) w' (g : Ints w' A' (spreadOf m W)) (gx : (spreadOf m W).length ≤ x) => ints_ok A' (spreadOf m W) x w' g gx (by rw [spread_len]; exact hm)
  have hsame := fun (A' B' : Option Addr) (x y : Nat) w' (g1 : Ints w' A' (spreadOf m W)) (g2 : Ints w' B' (spreadOf m W)) => same_any A' B' (spreadOf m W) (spreadOf m W) x y w' g1 g2
  rw [decide_eq_true rfl] at hsame
  have habove : ∀ (A' B' : Option Addr) (x y : Nat) w', Ints w' A' (ownTo W (m.getD 0 []).sum W.length) → Ints w' B' (spreadOf m W) → m.length ≤ x → (spreadOf m W).length ≤ y → Below w.heap.size w w' →
      Calls Tryd.prog 17 #[.slice A' m.length x, .slice B' (spreadOf m W).length y] w' fun e w'' => (e = .returned (.tuple #[.bool true, .nilIface]) ∨ ∃ q, e = .returned (.tuple #[.bool false, .iface 155 (.pointer (some q))])) ∧ Below w'.heap.size w' w'' := by
    intro A' B' x y w' k1 k2 k3 k4 k5
    have ol : (ownTo W (m.getD 0 []).sum W.length).length = m.length := by rw [ownTo_len _ (Nat.le_refl _), hl]
    rw [← ol]
    rw [ownTo_all] at k1 ol ⊢
    by_cases g : lErr (W.map fun x => x * (m.getD 0 []).sum) (spreadOf m W) = 0
    · refine (aboveP_ok A' B' _ _ x y w' a (HE.out w' k5) k1 k2 (by rw [ol]; exact k3) k4 g).mono ?_
      rintro e w'' ⟨he, hb⟩
      rw [hab] at he
      exact ⟨.inl he, hb⟩
    · refine (aboveP_err A' B' _ _ x y w' a (HE.out w' k5) k1 k2 (by rw [ol]; exact k3) k4 g).mono ?_
      rintro e w'' ⟨he, hb⟩
      rw [errC_pos' a g] at he
      exact ⟨.inr ⟨_, he⟩, hb⟩
  rw [hl] at hci hnu hso h2
  rw [hl] at hwl habove
  have hown0 : ∀ i, i < m.length → ownTo W (m.getD 0 []).sum (i + 1) = ownTo W (m.getD 0 []).sum i ++ [W.getD i 0 * (m.getD 0 []).sum] := fun i hi => ownTo_succ _ (by omega)
  have hownl : ∀ i, i ≤ m.length → (ownTo W (m.getD 0 []).sum i).length = i := fun i hi => ownTo_len _ (by omega)
  have h2' : (m.length : Int) ≤ 200 := by omega
  have hne : ((m.length : Int) != (m.length : Int)) = false := by simp
  have hp' : (0 : Int) < (m.length : Int) := by omega
  have HWL := hide hl
  rw [hl]
  have HOWN0 := hide hown0
  have HOWNL := hide hownl
  have HWI := hide hwl
  have HAB := hide habove
  generalize (m.getD 0 []).sum = S at hs0 hsum HOWN0 HOWNL HAB
  generalize spreadOf m W = Z at hso hsp hin hsame HAB hlen
  have HCI := hide hci
  have HNU := hide hnu
  have HSO := hide hso
  have HSP := hide hsp
  have HIN := hide hin
  have HSAME := hide hsame
  have HS1 := hide hs0
  have HD0 := hide hd0
  have HZL := hide hlen
  clear hse hfw h0 h1 hci hnu hso hsp hin hsame hs0 hd0 hwl hown0 hownl habove hab hn hall hgood g3 g4 hle0 hI0 HS0 hsm hl hlen d0
  go_enter Tryd.func6, Tryd.ntmps6
  go_wp2_with (first
    | (go_at_call 10; refine Calls.mono (HUN.out _ (Below.refl _ _)) ?_; rintro e w1 ⟨rfl, hB1⟩)
    | (go_at_call 11; refine Calls.mono (HF.out w1 hB1) ?_; rintro e w2 ⟨rfl, b2⟩; have hB2 := below_trans hB1 b2)
    | (go_at_call 26; refine Calls.mono (HSE.out w2 hB2) ?_; rintro e w3 ⟨rfl, b3⟩; have hB3 := below_trans hB2 b3)
    | (go_at_call 27; refine Calls.mono (HNU.out w3 hB3) ?_; rintro e w4 ⟨rfl, b4⟩; have hB4 := below_trans hB3 (drawn_below b4))
    | (go_at_call 28; refine Calls.mono (HSO.out w4 hB4) ?_; rintro e w5 ⟨A5, c5, rfl, hI5, hc5, b5⟩; have hB5 := below_trans hB4 b5)
    | (go_at_call 13; refine Calls.mono (HCL.out w5 hB5) ?_; rintro e w6 ⟨A6, c6, rfl, hI6, hc6, b6⟩; have hB6 := below_trans hB5 b6)
    | (go_at_call 18; refine Calls.mono (HCI.out w6 hB6) ?_; rintro e w7 ⟨A7, c7, rfl, hI7, hc7, b7⟩; have hB7 := below_trans hB6 b7)
    | (go_at_call 29; refine Calls.mono (HSP.out A6 A7 c6 c7 w7 (hI6.below b7) hI7 hB7) ?_; rintro e w8 ⟨A8, c8, rfl, hI8, hc8, b8⟩; have hB8 := below_trans hB7 b8)
    | (go_at_call 19; refine Calls.mono (HCD.out w8 hB8) ?_; rintro e w9 ⟨rfl, b9⟩; have hB9 := below_trans hB8 b9)
    | (go_at_call 25; refine Calls.mono (HSAME.out A8 A5 c8 c5 w9 (hI8.below b9) (hI5.below (below_trans b6 (below_trans b7 (below_trans b8 b9))))) ?_; rintro e w10 ⟨rfl, b10⟩; have hB10 := below_trans hB9 b10))
  have HI8 := hide (hI8.below (below_trans b9 b10))
  go_loopw [10, 11] (fun ov iv wr => ∃ i : Nat, i ≤ m.length ∧ iv = .int .i64 i ∧ wr.ownsRow w10.heap.size 3 1 ov i (intCells (ownTo W S i)) ∧ Below w10.heap.size w10 wr) (fun _ iv _ => m.length - (intOf iv).toNat)
  case atStart => exact ⟨0, Nat.zero_le _, rfl, nil_own _ _ _ _, Below.refl _ _⟩
  case round =>
    obtain ⟨i, hi, rfl, hown, hBk⟩ := hrel
    obtain ⟨wi, rfl⟩ : ∃ wi : World, wi = wr := ⟨_, rfl⟩
    obtain ⟨A9, c9', rfl, hc9, _⟩ := own_shape hown
    have hBi := below_trans hB10 hBk
    have HO := hide hown
    clear hown
    have i0 : (0 : Int) ≤ (i : Int) := Int.natCast_nonneg _
    by_cases hil : i < m.length
    · have i1 : (i : Int) < (m.length : Int) := by omega
      obtain ⟨b1, o1, rfl, hb1', e1w⟩ := hB.at_ i (by rw [HWL.out]; exact hil)
      have e1c := fun w' (hb : Below w.heap.size w w') => (hb.cell (p := ⟨b1, o1 + i, none⟩) hb1').trans e1w
      have e2 := HD0.out wi hBi
      have hx := HWI.out i hil
      have hss := HOWN0.out i hil
      have hpb := own_bound hx hsum
      generalize W.getD i 0 = x at e1c e1w hx hss hpb
      have hw : IntKind.i64.wrap (x * S) = x * S := IntWalk.i64_in _ (by omega)
      have HE1 := hide e1c
      have e1 := HE1.out wi hBi
      clear e1c e1w
      have HSS := hide hss
      have HC3 := hide (show ((ownTo W S i).length + 1) * 8 ≤ 140737488355328 by rw [HOWNL.out i (by omega)]; omega)
      have HSZ := hide hBk.size
      have HO1 := hide (own_list HO.out)
      have HO2 := hide (fun n => (show (wi.drewN n).ownsRow w10.heap.size 3 1 (.slice A9 i c9') (ownTo W S i).length (intCells (ownTo W S i)) from HO1.out))
      have HDR := hide hBi.drew
      have HSZ3 := hide (fun n => (HSZ.out : w10.heap.size ≤ (wi.drewN n).heap.size))
      have HSZ2 := hide (fun n o => (by rw [World.size_alloc]; exact Nat.le_succ_of_le HSZ.out : w10.heap.size ≤ ((wi.drewN n).alloc o).heap.size))
      have hgr := fun n o w' (hg : ((wi.drewN n).alloc o).grownBy w' (Value.slice A9 i c9').ownBlock) => (show Below w10.heap.size w10 w' from (((below_drewN' hBk n).alloc (HSZ3.out n) o).grown hg (HSZ2.out n o) (fun j hj => (HO.out.lt j hj).1)))
      have HG := hide hgr
      clear hgr
      have hBd : ∀ n, Below w10.heap.size w10 (wi.drewN n) := fun n => below_drewN' hBk n
      have HBD := hide hBd
      clear hBd
      clear hss hpb
      go_wp2_with (fail)
      go_region_held3 (fun w' => w'.cell? ⟨b1, o1 + i, none⟩ = some (.int .i64 x) ∧ w'.cell? ⟨b, off, none⟩ = some (.slice A0 m.length c0))
        (first | go_keep | exact ⟨‹_›, ‹_›⟩ | trivial)
        ((first
          | (go_at_call 30
             (with_reducible refine Calls.mono (HS1.out _ HDR.out) ?_)
             rintro e w11 ⟨rfl, hd11⟩
             obtain ⟨⟨n11, rfl⟩⟩ := hd11)
          | (refine step_app_ints _ rfl _ _ rfl w10.heap.size (.slice A9 i c9') _ rfl ((HO2.out _).alloc _) _ 1 1 [x * S] rfl rfl (ints_new wi _ (x * S) _) HC3.out (HSZ2.out _ _) ?_
             intro A' c' w12 hc12 ho12 hg12 hob12
             have hb12 := HG.out _ _ _ hg12
             have q1 := HE1.out w12 (below_trans hB10 hb12)
             have q2 := HD0.out w12 (below_trans hB10 hb12))
          | fail))
      rw [← HSS.out, HOWNL.out (i + 1) (by omega)] at ho12
      go_wp2_with (fail)
      go_roundw
      case rel => exact ⟨i + 1, by omega, by go_num, by rw [HOWNL.out i (by omega)]; exact ho12, hb12⟩
      case measure => simp [intOf]; omega
    · obtain rfl : i = m.length := by omega
      have HIW := hide (show Ints wi A9 (ownTo W S m.length) from Ints.own (c := c9') (e := 3) (base := w10.heap.size) (by rw [HOWNL.out _ (Nat.le_refl _)]; exact HO.out))
      go_wp2_with (first
        | (go_at_call 18; refine Calls.mono (HIN.out A8 c8 wi (HI8.out.below hBk) hc8) ?_; rintro e w12 ⟨A12, c12, rfl, hI12, hc12, b12⟩; have hB12 := below_trans hBi b12)
        | (go_at_call 17; refine Calls.mono (HAB.out A9 A12 c9' c12 w12 (HIW.out.below b12) hI12 hc9 hc12 hB12) ?_; rintro e w13 ⟨hor, b13⟩; have hB13 := below_trans hB12 b13; rcases hor with rfl | ⟨q, rfl⟩))
      all_goals
        go_wp2_with (fail)
        go_ret
        exact ⟨rfl, hB13⟩
theorem law_spread (A B : Option Addr) (m : List (List Int)) (W : List Int) (c d : Nat) (w : World) (a : Nat → Addr) (hS : Sent codes w a) (hH : Handle w) (hA : Lists w A m) (hB : Ints w B W) (hc : m.length ≤ c) (hd : W.length ≤ d) (hm : m.length ≤ 2000000) (hf : m.flatten.length ≤ 2000000) :
    Calls Tryd.prog 6 #[.slice A m.length c, .slice B W.length d] w fun e w' => e = .returned (.bool true) ∧ Below w.heap.size w w' := by
  by_cases h : fewS m = true ∧ W.length ≤ 200
  · by_cases g : sqErr m = 0 ∧ W.length = m.length ∧ numb W = true
    · exact law_spread_good A B m W c d w a hS hH hA hB hc hd hm hf h.1 h.2 g.1 g.2.1 g.2.2
    · exact law_spread_bad A B m W c d w a hS hH hA hB hc hd hm hf h.1 h.2 g
  · exact law_spread_many A B m W c d w a hS hA hB hc hm hf h
end Go.Proofs.YtcnecmcbjpehcaaDoor

/- What a row's list of laid variables gives a walk: the sentinels' cells, their blocks, none twice, and the handle of the type error; the closing of a law's row. No condition. -/
namespace Go.Proofs.YtcnecmcbjpehcaaDoor
open Go.ChangeShapes Go.WideShapes Go.RowKit

theorem tr_own : ownKnob Tryd.prog.godebug = none := by kernel_rfl
theorem tr_laidOut : laidOutB Tryd.prog = true := by kernel_rfl
theorem tr_star : "*" ++ "errors.errorString" = "*errors.errorString" := by decide
theorem tr_row (u : TypeId) (h : Tryd.prog.typeName? 3 u = some "*errors.errorString") : u = 155 :=
  typeName_ptr_named (nm := "errors.errorString") (by rw [tr_star]; kernel_rfl) (by kernel_rfl) (by decide) u (by rw [tr_star]; exact h)
theorem tr_cells1 : Tryd.prog.cellsOf 178 = 1 := by kernel_rfl
theorem tr_cells2 : Tryd.prog.cellsOf 9 = 1 := by kernel_rfl

/-- a sentinel's datum -/
def sdat (x : String × List UInt8) : String × DataW Unit := (x.1, .iface "*errors.errorString" (.ptr (.agg [.lit (.string x.2)])))

theorem sents_gen {P : Program} {nm : String} {ti tp te ts : TypeId} {ms : Array (String × TypeId)} {f : Field} (hi : P.underlying ti = some (.interface ms)) (hrow : ∀ u, P.typeName? 3 u = some nm → u = tp)
    (hp : P.underlying tp = some (.pointer te)) (he : P.underlying te = some (.struct #[f])) (hft : f.type = ts) (hfo : f.offset = 0) (hs : P.underlying ts = some .string) (hc : P.cellsOf te = 1) (hcs : P.cellsOf ts = 1) {W : World} :
    ∀ (L : List (String × List UInt8)) (ps : List MemPlace), DataW.LaidVars P W (L.map fun x => (x.1, .iface nm (.ptr (.agg [.lit (.string x.2)])))) ps → ps.Nodup →
    (∀ b off, MemPlace.cell b off ∈ ps → (∃ c t, W.heap[b]? = some (.cells c t (0, 0))) ∧ ∀ u v, W.cell? ⟨b, off, none⟩ = some (.iface u v) → Value.okWide P W .any 0 u v) →
    (∀ x, x ∈ L → ∃ g, P.globalNamed x.1 = some g ∧ (P.globals[g]?).map (·.type) = some ti) →
    ∃ bs : List Addr, bs.length = L.length ∧ bs.Nodup ∧ (∀ b, b ∈ bs → MemPlace.cell b.block b.off ∈ ps) ∧ ∀ i (hi : i < L.length) (hj : i < bs.length), W.var? P (L[i]).1 = some #[.iface tp (.pointer (some bs[i]))] ∧ ∃ c t, W.heap[(bs[i]).block]? = some (.cells c t (0, 0))
  | [], _, _, _, _, _ => ⟨[], rfl, List.nodup_nil, fun b h => absurd h (by simp), fun i hi _ => absurd hi (by simp)⟩
  | x :: L, ps, hv, hnd, hrows, hg => by
    obtain ⟨g0, t0, cs0, f0, p0, q0, hg0, ht0, hv0, hd0, hrest, e0⟩ := hv
    subst e0
    obtain ⟨g, hg1, ht1⟩ := hg x (List.mem_cons_self ..)
    obtain rfl := Option.some.inj (hg1.symm.trans hg0)
    obtain rfl := Option.some.inj (ht1.symm.trans ht0)
    have hqnd : q0.Nodup := List.Nodup.sublist (List.sublist_append_right _ _) hnd
    obtain ⟨bs, hlen, hbnd, hmem, hall⟩ := sents_gen hi hrow hp he hft hfo hs hc hcs L q0 hrest hqnd (fun b off hm => hrows b off (List.mem_append_right _ hm)) (fun y hy => hg y (List.mem_cons_of_mem _ hy))
    obtain ⟨l0⟩ := cs0
    have ok0 : ∀ u v, l0 = [.iface u v] → Value.okWide P W .any 0 u v := fun u v e => by
      subst e
      exact (hrows g 0 (by simp [MemPlace.row])).2 u v (by simpa using World.var?_cell hg0 hv0 0)
    obtain ⟨a0, s0, rfl, hc0, hs0, hz0, rfl⟩ := errorString_of_trod hi hrow hp he hft hfo hs hc hcs hd0 ok0
    have ha0 : MemPlace.cell a0.block a0.off ∈ MemPlace.row a0 1 := by simp [MemPlace.row]
    refine ⟨a0 :: bs, by simp [hlen], ?_, ?_, ?_⟩
    · refine List.nodup_cons.2 ⟨fun hin => ?_, hbnd⟩
      have h1 := hmem a0 hin
      exact (List.nodup_append.1 hnd).2.2 _ (List.mem_append_right _ ha0) _ h1 rfl
    · intro b hb
      rcases List.mem_cons.1 hb with rfl | hb
      · exact List.mem_append_left _ (List.mem_append_right _ ha0)
      · exact List.mem_append_right _ (hmem b hb)
    · intro i hi hj
      cases i with
      | zero => exact ⟨hv0, (hrows a0.block a0.off (List.mem_append_left _ (List.mem_append_right _ ha0))).1⟩
      | succ i => exact hall i (by simpa using hi) (by simpa using hj)

theorem sents_of_vars {W : World} (L : List (String × List UInt8)) (ps : List MemPlace) (h : DataW.LaidVars Tryd.prog W (L.map sdat) ps) (hnd : ps.Nodup)
    (hrows : ∀ b off, MemPlace.cell b off ∈ ps → (∃ c t, W.heap[b]? = some (.cells c t (0, 0))) ∧ ∀ u v, W.cell? ⟨b, off, none⟩ = some (.iface u v) → Value.okWide Tryd.prog W .any 0 u v)
    (hg : ∀ x, x ∈ L → ∃ g, Tryd.prog.globalNamed x.1 = some g ∧ (Tryd.prog.globals[g]?).map (·.type) = some 27) :
    ∃ bs : List Addr, bs.length = L.length ∧ bs.Nodup ∧ (∀ b, b ∈ bs → MemPlace.cell b.block b.off ∈ ps) ∧ ∀ i (hi : i < L.length) (hj : i < bs.length), W.var? Tryd.prog (L[i]).1 = some #[.iface 155 (.pointer (some bs[i]))] ∧ ∃ c t, W.heap[(bs[i]).block]? = some (.cells c t (0, 0)) :=
  sents_gen Tryd.underlying27 tr_row Tryd.underlying155 Tryd.underlying178 rfl rfl Tryd.underlying9 tr_cells1 tr_cells2 L ps h hnd hrows hg

def names8 : List (String × List UInt8) := [("demon/api.ErrText", [100, 101, 109, 111, 110, 58, 32, 116, 101, 120, 116]), ("demon/api.ErrBound", [100, 101, 109, 111, 110, 58, 32, 98, 111, 117, 110, 100]),
  ("demon/api.ErrShape", [100, 101, 109, 111, 110, 58, 32, 115, 104, 97, 112, 101]), ("demon/api.ErrZero", [100, 101, 109, 111, 110, 58, 32, 122, 101, 114, 111]), ("demon/api.ErrName", [100, 101, 109, 111, 110, 58, 32, 110, 97, 109, 101]),
  ("demon/api.ErrNone", [100, 101, 109, 111, 110, 58, 32, 110, 111, 110, 101]), ("demon/api.ErrOrder", [100, 101, 109, 111, 110, 58, 32, 111, 114, 100, 101, 114]), ("demon/api.ErrKind", [100, 101, 109, 111, 110, 58, 32, 107, 105, 110, 100])]
theorem glob1 : Tryd.prog.globalNamed "demon/api.ErrText" = some 4 := by kernel_rfl
theorem glob2 : Tryd.prog.globalNamed "demon/api.ErrBound" = some 0 := by kernel_rfl
theorem glob3 : Tryd.prog.globalNamed "demon/api.ErrShape" = some 1 := by kernel_rfl
theorem glob4 : Tryd.prog.globalNamed "demon/api.ErrZero" = some 5 := by kernel_rfl
theorem glob5 : Tryd.prog.globalNamed "demon/api.ErrName" = some 6 := by kernel_rfl
theorem glob6 : Tryd.prog.globalNamed "demon/api.ErrNone" = some 3 := by kernel_rfl
theorem glob7 : Tryd.prog.globalNamed "demon/api.ErrOrder" = some 2 := by kernel_rfl
theorem glob8 : Tryd.prog.globalNamed "demon/api.ErrKind" = some 7 := by kernel_rfl
theorem globT (g : Nat) (h : g ∈ [4, 0, 1, 5, 6, 3, 2, 7]) : (Tryd.prog.globals[g]?).map (·.type) = some 27 := by
  have e : ([4, 0, 1, 5, 6, 3, 2, 7].map fun g => (Tryd.prog.globals[g]?).map (·.type)) = List.replicate 8 (some 27) := by kernel_rfl
  have h1 : (Tryd.prog.globals[g]?).map (·.type) ∈ List.replicate 8 (some 27) := by rw [← e]; exact List.mem_map.2 ⟨g, h, rfl⟩
  exact (List.mem_replicate.1 h1).2

theorem names8_glob : ∀ x, x ∈ names8 → ∃ g, Tryd.prog.globalNamed x.1 = some g ∧ (Tryd.prog.globals[g]?).map (·.type) = some 27 := by
  intro x hx
  simp only [names8, List.mem_cons, List.not_mem_nil, or_false] at hx
  rcases hx with rfl | rfl | rfl | rfl | rfl | rfl | rfl | rfl
  · exact ⟨_, glob1, globT _ (by decide)⟩
  · exact ⟨_, glob2, globT _ (by decide)⟩
  · exact ⟨_, glob3, globT _ (by decide)⟩
  · exact ⟨_, glob4, globT _ (by decide)⟩
  · exact ⟨_, glob5, globT _ (by decide)⟩
  · exact ⟨_, glob6, globT _ (by decide)⟩
  · exact ⟨_, glob7, globT _ (by decide)⟩
  · exact ⟨_, glob8, globT _ (by decide)⟩

theorem list8 {α : Type} {l : List α} (h : l.length = 8) : ∃ a b c d e f g i, l = [a, b, c, d, e, f, g, i] := by
  match l, h with
  | [a, b, c, d, e, f, g, i], _ => exact ⟨a, b, c, d, e, f, g, i, rfl⟩
theorem list2 {α : Type} {l : List α} (h : l.length = 2) : ∃ a b, l = [a, b] := by
  match l, h with
  | [a, b], _ => exact ⟨a, b, rfl⟩

/-- the codes' places, out of eight -/
def at8 (a1 a2 a3 a4 a5 a6 a7 a8 : Addr) : Nat → Addr
  | 1 => a1 | 2 => a2 | 3 => a3 | 4 => a4 | 5 => a5 | 6 => a6 | 7 => a7 | _ => a8

theorem sent8 {W : World} (h : laidMet Tryd.prog (names8.map sdat) W) : ∃ a, Sent [1, 2, 3, 4, 5, 6, 7, 8] W a := by
  obtain ⟨ps, hv, hnd, hrows⟩ := h
  obtain ⟨bs, hlen, hbnd, _, hall⟩ := sents_of_vars names8 ps hv hnd hrows names8_glob
  obtain ⟨a1, a2, a3, a4, a5, a6, a7, a8, rfl⟩ := list8 hlen
  have x1 := hall 0 (by decide) (by simp)
  have x2 := hall 1 (by decide) (by simp)
  have x3 := hall 2 (by decide) (by simp)
  have x4 := hall 3 (by decide) (by simp)
  have x5 := hall 4 (by decide) (by simp)
  have x6 := hall 5 (by decide) (by simp)
  have x7 := hall 6 (by decide) (by simp)
  have x8 := hall 7 (by decide) (by simp)
  refine ⟨at8 a1 a2 a3 a4 a5 a6 a7 a8, ⟨⟨?_⟩, ?_, ?_⟩⟩
  · intro c hc
    simp only [List.mem_cons, List.not_mem_nil, or_false] at hc
    rcases hc with rfl | rfl | rfl | rfl | rfl | rfl | rfl | rfl
    · show W.cell? ⟨4, 0, none⟩ = some (.iface 155 (.pointer (some a1)))
      simpa using World.var?_cell glob1 x1.1 0
    · show W.cell? ⟨0, 0, none⟩ = some (.iface 155 (.pointer (some a2)))
      simpa using World.var?_cell glob2 x2.1 0
    · show W.cell? ⟨1, 0, none⟩ = some (.iface 155 (.pointer (some a3)))
      simpa using World.var?_cell glob3 x3.1 0
    · show W.cell? ⟨5, 0, none⟩ = some (.iface 155 (.pointer (some a4)))
      simpa using World.var?_cell glob4 x4.1 0
    · show W.cell? ⟨6, 0, none⟩ = some (.iface 155 (.pointer (some a5)))
      simpa using World.var?_cell glob5 x5.1 0
    · show W.cell? ⟨3, 0, none⟩ = some (.iface 155 (.pointer (some a6)))
      simpa using World.var?_cell glob6 x6.1 0
    · show W.cell? ⟨2, 0, none⟩ = some (.iface 155 (.pointer (some a7)))
      simpa using World.var?_cell glob7 x7.1 0
    · show W.cell? ⟨7, 0, none⟩ = some (.iface 155 (.pointer (some a8)))
      simpa using World.var?_cell glob8 x8.1 0
  · intro c hc
    simp only [List.mem_cons, List.not_mem_nil, or_false] at hc
    rcases hc with rfl | rfl | rfl | rfl | rfl | rfl | rfl | rfl
    · exact x1.2
    · exact x2.2
    · exact x3.2
    · exact x4.2
    · exact x5.2
    · exact x6.2
    · exact x7.2
    · exact x8.2
  · intro c hc d hd e
    clear hall x1 x2 x3 x4 x5 x6 x7 x8
    simp only [List.nodup_cons, List.mem_cons, List.not_mem_nil, or_false, not_or] at hbnd
    simp only [List.mem_cons, List.not_mem_nil, or_false] at hc hd
    rcases hc with rfl | rfl | rfl | rfl | rfl | rfl | rfl | rfl <;> rcases hd with rfl | rfl | rfl | rfl | rfl | rfl | rfl | rfl <;> first
      | rfl
      | (exfalso; simp only [at8] at e; simp_all)

theorem tr_et : Tryd.prog.globalNamed "errors.errorType" = some 8 := by kernel_rfl
theorem tr_rt : (Tryd.prog.cutTypes.find? (·.1 == "internal/reflectlite.rtype")).map (·.2) = some 120 := by kernel_rfl
theorem tr_size : Tryd.prog.types.size = 194 := by kernel_rfl
theorem tr_oneRow : ((List.range 194).filter fun t => Tryd.prog.rowNamed t [101, 114, 114, 111, 114]) = [27] := by kernel_rfl
theorem tr_handle : typeHandle Tryd.prog 27 = .pointer (some ⟨9, 27, none⟩) := by kernel_rfl

theorem handle_of_laid {W : World} (h : handlesMet Tryd.prog [("errors.errorType", Rows.laid_errors_errorType)] W) : Handle W := by
  obtain ⟨name, u, ty, e1, e2, e3, e4, e5⟩ := h _ (List.mem_singleton.2 rfl)
  have en : name = [101, 114, 114, 111, 114] := (Option.some.inj e1).symm
  subst en
  obtain rfl := Option.some.inj (tr_rt.symm.trans e2)
  have hm : ty ∈ (List.range 194).filter fun t => Tryd.prog.rowNamed t [101, 114, 114, 111, 114] := List.mem_filter.2 ⟨List.mem_range.2 (by rw [← tr_size]; exact e3), e4⟩
  rw [tr_oneRow] at hm
  obtain rfl := List.mem_singleton.1 hm
  rw [tr_handle] at e5
  have := World.var?_cell tr_et e5 0
  simpa [Handle] using this

/-- ALL NINE: what the list of a law with coded gives -/
theorem full_of_laid {W : World} (h : laidMetH Tryd.prog [("errors.errorType", Rows.laid_errors_errorType), ("demon/api.ErrText", Rows.laid_demon_api_ErrText), ("demon/api.ErrBound", Rows.laid_demon_api_ErrBound), ("demon/api.ErrShape", Rows.laid_demon_api_ErrShape), ("demon/api.ErrZero", Rows.laid_demon_api_ErrZero), ("demon/api.ErrName", Rows.laid_demon_api_ErrName), ("demon/api.ErrNone", Rows.laid_demon_api_ErrNone), ("demon/api.ErrOrder", Rows.laid_demon_api_ErrOrder), ("demon/api.ErrKind", Rows.laid_demon_api_ErrKind)] W) :
    ∃ a, Sent [1, 2, 3, 4, 5, 6, 7, 8] W a ∧ Handle W := by
  have h' : laidMet Tryd.prog (names8.map sdat) W ∧ handlesMet Tryd.prog [("errors.errorType", Rows.laid_errors_errorType)] W := h
  obtain ⟨a, ha⟩ := sent8 h'.1
  exact ⟨a, ha, handle_of_laid h'.2⟩

/-! ### the closing of a law's row -/
theorem trodAll_below {H : Type} {enc : TypeId × Value → H} {W W' : World} (hb : Below W.heap.size W W') :
    ∀ (ts : List TypeId) (vs : List Value) (ds : List (DataW H)) (ps : List MemPlace), (∀ t, t ∈ ts → Tryd.prog.readableRec t = true ∧ t < Tryd.prog.types.size) →
      DataW.TrodAll enc Tryd.prog W 0 (fun _ => true) true ts vs ds ps → (∀ x ∈ ps, x.block < W.heap.size) → DataW.TrodAll enc Tryd.prog W' 0 (fun b => decide (b < W.heap.size)) true ts vs ds ps
  | [], [], [], _, _, h, _ => h
  | t :: ts, v :: vs, d :: ds, ps, hr, h, hlt => by
    obtain ⟨p, q, h1, h2, rfl⟩ := h
    exact ⟨p, q, Below.trod tr_laidOut (hr t (List.mem_cons_self ..)).1 (hr t (List.mem_cons_self ..)).2 h1 hb (fun x hx => hlt x (List.mem_append_left _ hx)),
      trodAll_below hb ts vs ds q (fun u hu => hr u (List.mem_cons_of_mem _ hu)) h2 (fun x hx => hlt x (List.mem_append_right _ hx)), rfl⟩
  | [], [], _ :: _, _, _, h, _ => h.elim
  | [], _ :: _, [], _, _, h, _ => h.elim
  | [], _ :: _, _ :: _, _, _, h, _ => h.elim
  | _ :: _, [], [], _, _, h, _ => h.elim
  | _ :: _, [], _ :: _, _, _, h, _ => h.elim
  | _ :: _, _ :: _, [], _, _, h, _ => h.elim

/-- a law's call that gives true and leaves what was there: what its row asks behind it -/
theorem post_true {H : Type} {enc : TypeId × Value → H} {f : Func} {s : ChangeSpec} {W W' : World} {args : Array Value} {ds gs : List (DataW H)} {before : List MemPlace}
    (hf : f.resultTypes = #[4]) (hvars : s.vars = []) (hfn : (s.fn H (ds ++ gs)) = { results := [.lit (.bool true)], args := ds }) (hr : ∀ t, t ∈ f.params.toList → Tryd.prog.readableRec t = true ∧ t < Tryd.prog.types.size)
    (hW : DataW.Whole enc Tryd.prog f.params.toList s.vars false W args.toList ds gs before) (hb : Below W.heap.size W W') : s.post enc Tryd.prog f false true false false W args (.bool true) W' := by
  have hlt := hW.lt
  have hW' := hW
  obtain ⟨p, q, hA, hV, rfl, _, _⟩ := hW
  refine ⟨ds, gs, p ++ q, [], p, [], hW', ?_, ?_, ?_, hb.frame _, fun h => by cases h⟩
  · rw [hfn, hf]; exact trodAll_mk1 (shut_bool Tryd.underlying4 true)
  · rw [hfn]; exact trodAll_below hb _ _ _ _ hr hA (fun x hx => hlt x (List.mem_append_left _ hx))
  · rw [hfn, hvars]; rfl
end Go.Proofs.YtcnecmcbjpehcaaDoor

/- A law's arguments opened into our readings: whole numbers, slices of them, of pairs, of lists. No condition. -/
namespace Go.Proofs.YtcnecmcbjpehcaaDoor
open Go.ChangeShapes Go.WideShapes Go.RowKit Go.Deep Go.Joins

section
variable {H : Type} {enc : TypeId × Value → H} {P : Program} {W : World} {base : Nat} {held : Bool}

theorem wf_range {n : Int} (h : (Lit.int .i64 n).wf = true) : -9223372036854775808 ≤ n ∧ n ≤ 9223372036854775807 := by
  have := bounds_i64 h
  omega

theorem spot_none {a : Addr} {v : Value} (h : W.cell? (a.add 0) = some v) : a = ⟨a.block, a.off, none⟩ := by
  obtain ⟨b, off, spot⟩ := a
  have hs : spot = none := World.cell?_spot h
  subst hs
  rfl

/-- a slice of whole numbers that came in -/
theorem open_ints_arg {fuel : Nat} {v : Value} {y : DataW H × List MemPlace} (h : DataW.trod enc Tryd.prog W base (fun _ => true) held fuel 25 [v] = some y) :
    ∃ A l cap, v = .slice A l.length cap ∧ Ints W A l ∧ l.length ≤ cap ∧ ∀ x, x ∈ l → -9223372036854775808 ≤ x ∧ x ≤ 9223372036854775807 := by
  have c3 : Tryd.prog.cellsOf 3 = 1 := by kernel_rfl
  rcases open_ints Tryd.underlying25 Tryd.underlying3 c3 h with ⟨hcs, _⟩ | ⟨a, len, cap, zs, hcs, hb, hl, hm, hz, _, hcell, hwz⟩
  · exact ⟨none, [], 0, by simpa using hcs, Ints.nil _ _, Nat.le_refl _, by simp⟩
  · simp only [if_true] at hz
    have hlen : (zs.take len).length = len := by rw [List.length_take]; omega
    refine ⟨some a, zs.take len, cap, by rw [hlen]; simpa using hcs, ⟨by rw [hlen]; simp only [maxLen] at hm; omega, fun i hi => ?_⟩, by rw [hlen]; exact hl, fun x hx => wf_range (hwz x (List.mem_of_mem_take hx))⟩
    rw [hlen] at hi
    have hc := hcell i (by rw [hz]; omega)
    have hs := spot_none (hcell 0 (by rw [hz]; omega))
    rw [hs, addr_add] at hc
    refine ⟨a.block, a.off, by rw [← hs], World.block_lt_of_cell? W ⟨a.block, a.off + i, none⟩ hc, ?_⟩
    rw [hc]
    have e : (zs.take len).getD i 0 = zs.getD i 0 := by
      simp [List.getD_eq_getElem?_getD, hi]
    rw [e]


/-- a slice of lists that came in -/
theorem open_lists_arg {fuel : Nat} {v : Value} {y : DataW H × List MemPlace} (h : DataW.trod enc Tryd.prog W base (fun _ => true) held fuel 22 [v] = some y) :
    ∃ A l cap, v = .slice A l.length cap ∧ Lists W A l ∧ l.length ≤ cap ∧ ∀ r, r ∈ l → ∀ x, x ∈ r → -9223372036854775808 ≤ x ∧ x ≤ 9223372036854775807 := by
  have c1 : Tryd.prog.cellsOf 25 = 1 := by kernel_rfl
  rcases open_slice1 Tryd.underlying22 c1 h with ⟨hcs, _⟩ | ⟨a, len, cap, m, n, V, D, Pl, hcs, hb, hl, hm, hmm, _, hx⟩
  · exact ⟨none, [], 0, by simpa using hcs, Lists.nil _ _, Nat.le_refl _, by simp⟩
  · simp only [if_true] at hmm
    subst hmm
    have each : ∀ i, i < len → ∃ q : Option Addr × List Int × Nat, W.cell? (a.add i) = some (.slice q.1 q.2.1.length q.2.2) ∧ q.2.1.length ≤ q.2.2 ∧ Ints W q.1 q.2.1 ∧ ∀ x, x ∈ q.2.1 → -9223372036854775808 ≤ x ∧ x ≤ 9223372036854775807 := by
      intro i hi
      obtain ⟨hc, ht⟩ := hx i (by omega)
      obtain ⟨A, l, c, e, h1, h2, h3⟩ := open_ints_arg ht
      exact ⟨(A, l, c), by rw [hc, e], h2, h1, h3⟩
    obtain ⟨f, hf⟩ := choose_lt each
    have hlen : ((List.range len).map fun i => (f i).2.1).length = len := by simp
    refine ⟨some a, (List.range len).map fun i => (f i).2.1, m, by rw [hlen]; simpa using hcs, ⟨by rw [hlen]; simp only [maxLen] at hm; omega, fun i hi => ?_⟩, by rw [hlen]; exact hl, fun r hr => ?_⟩
    · rw [hlen] at hi
      obtain ⟨g0, g1, g2, _⟩ := hf i hi
      have hs := spot_none (hf 0 (by omega)).1
      rw [hs, addr_add] at g0
      have e : ((List.range len).map fun i => (f i).2.1).getD i [] = (f i).2.1 := by simp [List.getD_eq_getElem?_getD, hi]
      rw [e]
      exact ⟨a.block, a.off, (f i).1, (f i).2.2, by rw [← hs], World.block_lt_of_cell? W ⟨a.block, a.off + i, none⟩ g0, g0, g1, g2⟩
    · obtain ⟨i, hi, rfl⟩ := List.mem_map.1 hr
      exact (hf i (List.mem_range.1 hi)).2.2.2
end
end Go.Proofs.YtcnecmcbjpehcaaDoor

/- A law's arguments opened where they are of modest bulk: how long the lists can be. Condition: the bulk's bound. -/
namespace Go.Proofs.YtcnecmcbjpehcaaDoor
open Go.ChangeShapes Go.WideShapes Go.RowKit Go.Deep Go.Joins

theorem bulk_pos {H : Type} (d : DataW H) : 1 ≤ Rows.uptoBulk d := by
  cases d with
  | lit l => cases l <;> simp [Rows.uptoBulk]
  | nil => simp [Rows.uptoBulk]
  | ptr d => simp [Rows.uptoBulk]
  | slice elems spare => simp [Rows.uptoBulk]
  | agg parts => simp [Rows.uptoBulk]
  | iface t d => simp [Rows.uptoBulk]
  | map entries => simp [Rows.uptoBulk]
  | held h => simp [Rows.uptoBulk]
theorem bulk_len {H : Type} (l : List (DataW H)) : l.length ≤ Rows.uptoBulkAll l := by
  induction l with
  | nil => simp [Rows.uptoBulkAll]
  | cons x r ih => have := bulk_pos x; simp only [Rows.uptoBulkAll, List.length_cons]; omega
theorem bulk_append {H : Type} (l r : List (DataW H)) : Rows.uptoBulkAll (l ++ r) = Rows.uptoBulkAll l + Rows.uptoBulkAll r := by
  induction l with
  | nil => simp [Rows.uptoBulkAll]
  | cons x l ih => simp only [List.cons_append, Rows.uptoBulkAll, ih]; omega
theorem bulk_bound {H : Type} {l : List (DataW H)} (hk : Rows.uptoSmall H l = true) : Rows.uptoBulkAll l ≤ 1048576 := of_decide_eq_true hk
section
variable {H : Type} {enc : TypeId × Value → H} {W : World} {base : Nat} {held : Bool}
theorem open_ints_bulk {fuel : Nat} {v : Value} {y : DataW H × List MemPlace} (h : DataW.trod enc Tryd.prog W base (fun _ => true) held fuel 25 [v] = some y) :
    ∃ A l cap, v = .slice A l.length cap ∧ Ints W A l ∧ l.length ≤ cap ∧ (∀ x, x ∈ l → -9223372036854775808 ≤ x ∧ x ≤ 9223372036854775807) ∧ l.length + 1 ≤ Rows.uptoBulk y.1 := by
  have c3 : Tryd.prog.cellsOf 3 = 1 := by kernel_rfl
  obtain ⟨A, l, cap, e, hI, hc, hr⟩ := open_ints_arg h
  refine ⟨A, l, cap, e, hI, hc, hr, ?_⟩
  rcases open_ints Tryd.underlying25 Tryd.underlying3 c3 h with ⟨hcs, hx⟩ | ⟨a, len, cap', zs, hcs, hb, hl, hm, hz, hx, hcell, hwz⟩
  · rw [e] at hcs
    injection hcs with hcs
    injection hcs with _ h1 _
    rw [h1, hx]
    simp [Rows.uptoBulk]
  · rw [e] at hcs
    injection hcs with hcs
    injection hcs with _ h1 _
    simp only [if_true] at hz
    rw [h1, hx]
    have h2 := bulk_len (H := H) (lits .i64 (zs.take len))
    have h3 : (lits (H := H) .i64 (zs.take len)).length = len := by simp [lits, List.length_take]; omega
    simp only [Rows.uptoBulk]
    omega
theorem bulk_rows (D : Nat → DataW H) (f : Nat → List Int) : ∀ n, (∀ i, i < n → (f i).length + 1 ≤ Rows.uptoBulk (D i)) → ((List.range n).map f).flatten.length + n ≤ Rows.uptoBulkAll ((List.range n).map D) := by
  intro n
  induction n with
  | zero => intro _; simp
  | succ n ih =>
    intro hn
    have h1 := ih fun i hi => hn i (by omega)
    have h2 := hn n (by omega)
    rw [List.range_succ, List.map_append, List.map_append, bulk_append, List.flatten_append, List.length_append]
    simp only [List.map_cons, List.map_nil, List.flatten_cons, List.flatten_nil, List.append_nil, Rows.uptoBulkAll]
    omega
theorem open_lists_bulk {fuel : Nat} {v : Value} {y : DataW H × List MemPlace} (h : DataW.trod enc Tryd.prog W base (fun _ => true) held fuel 22 [v] = some y) :
    ∃ A l cap, v = .slice A l.length cap ∧ Lists W A l ∧ l.length ≤ cap ∧ (∀ r, r ∈ l → ∀ x, x ∈ r → -9223372036854775808 ≤ x ∧ x ≤ 9223372036854775807) ∧ l.flatten.length + l.length + 1 ≤ Rows.uptoBulk y.1 := by
  have c1 : Tryd.prog.cellsOf 25 = 1 := by kernel_rfl
  rcases open_slice1 Tryd.underlying22 c1 h with ⟨hcs, hxx⟩ | ⟨a, len, cap, m, n, V, D, Pl, hcs, hb, hl, hm, hmm, hxx, hx⟩
  · exact ⟨none, [], 0, by simpa using hcs, Lists.nil _ _, Nat.le_refl _, by simp, by rw [hxx]; simp [Rows.uptoBulk]⟩
  · simp only [if_true] at hmm
    subst hmm
    have each : ∀ i, i < len → ∃ q : Option Addr × List Int × Nat, W.cell? (a.add i) = some (.slice q.1 q.2.1.length q.2.2) ∧ q.2.1.length ≤ q.2.2 ∧ Ints W q.1 q.2.1 ∧ (∀ x, x ∈ q.2.1 → -9223372036854775808 ≤ x ∧ x ≤ 9223372036854775807) ∧ q.2.1.length + 1 ≤ Rows.uptoBulk (D i) := by
      intro i hi
      obtain ⟨hc, ht⟩ := hx i (by omega)
      obtain ⟨A, l, c, e, h1, h2, h3, h4⟩ := open_ints_bulk ht
      exact ⟨(A, l, c), by rw [hc, e], h2, h1, h3, h4⟩
    obtain ⟨f, hf⟩ := choose_lt each
    have hlen : ((List.range len).map fun i => (f i).2.1).length = len := by simp
    refine ⟨some a, (List.range len).map fun i => (f i).2.1, m, by rw [hlen]; simpa using hcs, ⟨by rw [hlen]; simp only [maxLen] at hm; omega, fun i hi => ?_⟩, by rw [hlen]; exact hl, fun r hr => ?_, ?_⟩
    · rw [hlen] at hi
      obtain ⟨g0, g1, g2, _⟩ := hf i hi
      have hs := spot_none (hf 0 (by omega)).1
      rw [hs, addr_add] at g0
      have e : ((List.range len).map fun i => (f i).2.1).getD i [] = (f i).2.1 := by simp [List.getD_eq_getElem?_getD, hi]
      rw [e]
      exact ⟨a.block, a.off, (f i).1, (f i).2.2, by rw [← hs], World.block_lt_of_cell? W ⟨a.block, a.off + i, none⟩ g0, g0, g1, g2⟩
    · obtain ⟨i, hi, rfl⟩ := List.mem_map.1 hr
      exact (hf i (List.mem_range.1 hi)).2.2.2.1
    · rw [hxx, hlen]
      have hb := bulk_rows D (fun i => (f i).2.1) len fun i hi => (hf i hi).2.2.2.2
      simp only [Rows.uptoBulk]
      omega
end
end Go.Proofs.YtcnecmcbjpehcaaDoor
