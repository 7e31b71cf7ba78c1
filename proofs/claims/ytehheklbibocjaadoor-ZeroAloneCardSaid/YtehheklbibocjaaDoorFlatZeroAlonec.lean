/- Words, plain laws and walks behind the law ZeroAlone, part 3. No condition. -/
import Derived.Test.YtehheklbibocjaaDoorFlatZeroAloneb
import Derived.Laws.StructEq

/- The walk of zero.Strong at right graphs. Condition: the variables read as laid. -/
namespace Go.Proofs.YtehheklbibocjaaDoor
open Go.RowKit Go.Deep Go.Proofs.YtehheklbibocjaaDoorW.PrintWords

set_option maxRecDepth 100000 in
set_option maxHeartbeats 8000000 in
theorem strong_good (n m : Nat) (A : Option Addr) (l : List (Int × Int)) (c : Nat) (B : Option Addr) (k : List (Int × Int)) (d : Nat) (w : World) (a : Nat → Addr) (hE : Env [2, 3] w a) (hA : Pairs w A l) (hB : Pairs w B k) (h1 : gErr n l = 0) (h2 : gErr m k = 0) (h3 : n * m ≤ 16) :
    Calls Tryd.prog 9 #[.agg #[.int .i64 n, .slice A l.length c], .agg #[.int .i64 m, .slice B k.length d]] w fun e w' => ∃ E f, e = .returned (.tuple #[.agg #[.int .i64 (n * m : Nat), .slice E (allTo (strongP (nearL n l) (nearL m k) m) (n * m) (n * m)).length f], .nilIface]) ∧ Pairs w' E (allTo (strongP (nearL n l) (nearL m k) m) (n * m) (n * m)) ∧ (allTo (strongP (nearL n l) (nearL m k) m) (n * m) (n * m)).length ≤ f ∧ (∀ x, E = some x → w.heap.size ≤ x.block) ∧ Below w.heap.size w w' := by
  obtain ⟨_, hn', hg1⟩ := gErr_zero h1
  obtain ⟨_, hm', hg2⟩ := gErr_zero h2
  have hn : n ≤ 16 := by omega
  have hm : m ≤ 16 := by omega
  have hlX : Low (nearL n l) := by
    have e : nearTo n l l.length = nearL n l := by unfold nearTo nearL; rw [List.take_length]
    rw [← e]; exact nearTo_low hn hg1 _ (Nat.le_refl _)
  have hlY : Low (nearL m k) := by
    have e : nearTo m k k.length = nearL m k := by unfold nearTo nearL; rw [List.take_length]
    rw [← e]; exact nearTo_low hm hg2 _ (Nat.le_refl _)
  have HNA := hide (fun V (hb : Below w.heap.size w V) => near_ok n A l c V (hA.below hb) hn hg1)
  have HNB := hide (fun V (hb : Below w.heap.size w V) => near_ok m B k d V (hB.below hb) hm hg2)
  have HG := hide (And.intro h1 h2)
  have HVA := hide (fun V (hb : Below w.heap.size w V) => gvalid_any n A l c V a (hE.below hb) (hA.below hb))
  have HVB := hide (fun V (hb : Below w.heap.size w V) => gvalid_any m B k d V a (hE.below hb) (hB.below hb))
  have HST := hide (strong_at w n A l.length c m B k.length d)
  obtain ⟨X, hX⟩ : ∃ X, nearL n l = X := ⟨_, rfl⟩
  obtain ⟨Y, hY⟩ : ∃ Y, nearL m k = Y := ⟨_, rfl⟩
  rw [hX] at hlX HNA ⊢
  rw [hY] at hlY HNB ⊢
  obtain ⟨N, hN⟩ : ∃ N, n * m = N := ⟨_, rfl⟩
  rw [hN] at h3 ⊢
  have hNi : (n : Int) * (m : Int) = (N : Int) := by rw [← hN]; rfl
  have hwN : wrap64 (N : Int) = (N : Int) := by unfold wrap64; omega
  obtain ⟨P, hP⟩ : ∃ P, strongP X Y m = P := ⟨_, rfl⟩
  have HP := hide hP
  rw [hP]
  clear hP
  have HLX := hide hlX
  have HLY := hide hlY
  have HNN := hide hN
  clear hE hA hB h1 h2 hg1 hg2 hlX hlY hX hY hN
  go_enter Tryd.func9, Tryd.ntmps9
  go_wp2_with (fail)
  go_loopw [22] (fun jv wr => ∃ i : Nat, i ≤ 2 ∧ jv = .int .i64 i ∧ StrongAt w n A l.length c m B k.length d wr ∧ Hid ((0 < i → gErr (n : Int) l = 0) ∧ (1 < i → gErr (m : Int) k = 0))) (fun jv _ => 2 - (intOf jv).toNat)
  case atStart => exact ⟨0, by omega, rfl, HST.out, hide ⟨fun h => absurd h (by omega), fun h => absurd h (by omega)⟩⟩
  case round =>
    obtain ⟨i, hi, rfl, hS, HI⟩ := hrel
    obtain ⟨wi, rfl⟩ : ∃ wi : World, wi = wr := ⟨_, rfl⟩
    clear HST
    have hsz := hS.size
    have z3 : w.heap.size + 3 < wi.heap.size := by omega
    by_cases hi0 : i = 0
    · subst hi0
      have x0 := hS.g0
      have x1 := hS.g1
      have hb2 := below_alloc' hS.below (graphObj n A l.length c)
      have hv := HVA.out _ (below_alloc' hS.below (graphObj n A l.length c))
      have he := HG.out.1
      · rw [he, errC_zero] at hv
        have HV := hide hv
        have HE := hide he
        clear hv he
        go_wp2_with (go_at_call 20; refine Calls.mono HV.out ?_; rintro e w1 ⟨rfl, hB1⟩)
        go_roundw
        case rel => exact ⟨1, by omega, by go_num, hS.later (below_trans (below_alloc' (Below.refl _ _) _) hB1), hide ⟨fun _ => HE.out, fun h => absurd h (by omega)⟩⟩
        case measure => simp [intOf]
    · by_cases hi1 : i = 1
      · subst hi1
        have x0 := hS.g2
        have x1 := hS.g3
        have hv := HVB.out _ (below_alloc' hS.below (graphObj m B k.length d))
        have he := HG.out.2
        · rw [he, errC_zero] at hv
          have HV := hide hv
          have HE := hide he
          clear hv he
          go_wp2_with (go_at_call 20; refine Calls.mono HV.out ?_; rintro e w1 ⟨rfl, hB1⟩)
          go_roundw
          case rel => exact ⟨2, by omega, by go_num, hS.later (below_trans (below_alloc' (Below.refl _ _) _) hB1), hide ⟨fun _ => HI.out.1 (by omega), fun _ => HE.out⟩⟩
          case measure => simp [intOf]

      · obtain rfl : i = 2 := by omega
        obtain ⟨a0, a1, b0, b1, r0, r1, f0, f1⟩ := And.intro hS.a0 (And.intro hS.a1 (And.intro hS.b0 (And.intro hS.b1 (And.intro hS.r0 (And.intro hS.r1 (And.intro hS.f0 hS.f1))))))
        have hw : wrap64 ((n : Int) * (m : Int)) = (N : Int) := by rw [hNi, hwN]
        have hle : decide (16 < (N : Int)) = false := decide_eq_false (by omega)
        clear r0 r1 f0 f1 hwN
        have zz : w.heap.size + 1 < wi.heap.size := by omega
        go_wp2_with (fail)
        go_region_held3 (fun w' => w'.cell? ⟨w.heap.size, 0, none⟩ = some (.int .i64 (n : Int)) ∧ w'.cell? ⟨w.heap.size, 1, none⟩ = some (.slice A l.length c) ∧ w'.cell? ⟨w.heap.size + 1, 0, none⟩ = some (.int .i64 (m : Int)) ∧ w'.cell? ⟨w.heap.size + 1, 1, none⟩ = some (.slice B k.length d))
          (first | go_keep | exact ⟨‹_›, ‹_›, ‹_›, ‹_›⟩)
          ((first
            | (go_at_call_of 25 (Value.agg #[.int .i64 (n : Int), .slice A l.length c])
               refine Calls.mono (HNA.out _ (below_drewN' hS.below 1)) ?_
               rintro e w1 ⟨rfl, hR1, hb1⟩
               have hS1 := hS.later (below_trans (below_drewN' (Below.refl _ _) 1) hb1)
               have p0 := hS1.a0
               have p1 := hS1.a1
               have p2 := hS1.b0
               have p3 := hS1.b1)
            | (go_at_call_of 25 (Value.agg #[.int .i64 (m : Int), .slice B k.length d])
               refine Calls.mono (HNB.out _ hS1.below) ?_
               rintro e w2 ⟨rfl, hR2, hb2⟩
               have hS2 := hS1.later hb2
               have q0 := hS2.a0
               have q1 := hS2.a1
               have q2 := hS2.b0
               have q3 := hS2.b1)))
        have hR1' : NRow w2 (wi.heap.size + 1) n X := World.rowIs.of_block hR1 (hb2.block _ (World.rowIs.lt hR1))
        have HB := hide (And.intro hS2 (And.intro hR1' hR2))
        have zx : wi.heap.size + 1 < w2.heap.size := World.rowIs.lt hR1'
        have zy : w1.heap.size + 1 < w2.heap.size := World.rowIs.lt hR2
        have zs := hS2.size
        generalize wi.heap.size + 1 = bx at *
        generalize w1.heap.size + 1 = bY at *
        clear a0 a1 b0 b1 p0 p1 p2 p3 q1 q3 hS hS1 hb1 hb2 hR1 hR2 hR1' hsz z3 zz HVA HVB HNA HNB hS2
        have z1 : w.heap.size + 1 < w2.heap.size := by omega
        go_wp2_with (fail)
        have hst := SGr.start w2 27 (N : Int)
        have HSTART : Hid (∃ E f, SGr w2 27 (N : Int) (w2.alloc (.cells #[.int .i64 (N : Int), .slice none 0 0] 27)) (allTo P N 0) E f) := hide ⟨_, _, hst⟩
        clear hst q0 q2 z1
        go_loopw [53] (fun jv wr => ∃ v : Nat, v ≤ N ∧ jv = .int .i64 v ∧ Hid (∃ E f, SGr w2 27 (N : Int) wr (allTo P N v) E f)) (fun jv _ => N - (intOf jv).toNat)
        case atStart => exact ⟨0, Nat.zero_le _, rfl, HSTART⟩
        case round =>
          obtain ⟨v, hv, rfl, HJ⟩ := hrel
          obtain ⟨wv, rfl⟩ : ∃ wv : World, wv = wr := ⟨_, rfl⟩
          clear HSTART
          have v0 : (0 : Int) ≤ (v : Int) := Int.natCast_nonneg _
          by_cases hvl : v < N
          · have v1 : (v : Int) < (N : Int) := by omega
            go_wp2_with (fail)
            go_loopw [13] (fun jv wr => ∃ x : Nat, v + 1 ≤ x ∧ x ≤ N ∧ jv = .int .i64 x ∧ Hid (∃ E f, SGr w2 27 (N : Int) wr (allTo P N v ++ rowTo P v x) E f)) (fun jv _ => N - (intOf jv).toNat)
            case atStart => exact ⟨v + 1, Nat.le_refl _, hvl, by go_num, by rw [rowTo_first, List.append_nil]; exact HJ⟩
            case round =>
              obtain ⟨x, hvx, hx, rfl, HK⟩ := hrel
              obtain ⟨wx, rfl⟩ : ∃ wx : World, wx = wr := ⟨_, rfl⟩
              clear HJ
              have hbd := grown_length (P := P) (N := N) (v := v) (w := x) (by omega) hv hx
              obtain ⟨L, hL⟩ : ∃ L, allTo P N v ++ rowTo P v x = L := ⟨_, rfl⟩
              rw [hL] at HK hbd
              obtain ⟨E, f, hG⟩ := HK.out
              obtain ⟨c0, c1, c2, c3⟩ := hG.cells
              have x0 : (0 : Int) ≤ (x : Int) := Int.natCast_nonneg _
              by_cases hxl : x < N
              · have x1 : (x : Int) < (N : Int) := by omega
                have hm0 : 0 < m := Nat.pos_of_ne_zero fun e => by have := HNN.out; rw [e, Nat.mul_zero] at this; omega
                have hvd : v / m < n := Nat.div_lt_of_lt_mul (by rw [Nat.mul_comm, HNN.out]; exact hvl)
                have hvm : v % m < m := Nat.mod_lt _ hm0
                have d0 := (hG.below.cell (p := ⟨w.heap.size + 1, 0, none⟩) (by show w.heap.size + 1 < _; omega)).trans HB.out.1.b0
                have d1 := (hG.below.cell (p := ⟨bx, v / m, none⟩) zx).trans (World.rowIs.cell HB.out.2.1 hvd)
                have d2 := (hG.below.cell (p := ⟨bY, v % m, none⟩) zy).trans (World.rowIs.cell HB.out.2.2 hvm)
                have zz1 : w.heap.size + 1 < wx.heap.size := by omega
                have zz2 : bx < wx.heap.size := by omega
                have zz3 : bY < wx.heap.size := by omega
                have hbX := bit_eq (x / m) (HLX.out (v / m))
                have hbY := bit_eq (x % m) (HLY.out (v % m))
                have hPP : P v x = ((decide (v / m = x / m) || (X.getD (v / m) 0).testBit (x / m)) && (decide (v % m = x % m) || (Y.getD (v % m) 0).testBit (x % m))) := by rw [← HP.out]; rfl
                generalize X.getD (v / m) 0 = mx at d1 hbX hPP
                generalize Y.getD (v % m) 0 = my at d2 hbY hPP
                have t1 := tdiv_nat v m
                have t2 := tmod_nat v m
                have t3 := tdiv_nat x m
                have t4 := tmod_nat x m
                have m0 : ((m : Int) == 0) = false := beq_eq_false_iff_ne.2 (by omega)
                have m1 : (m : Int) ≠ 0 := by omega
                have m2 : (0 : Int) < (m : Int) := by omega
                have HXB := hide (And.intro hbX (And.intro hbY hPP))
                have HT := hide (And.intro t1 (And.intro t3 (And.intro t2 t4)))
                have hxd : x / m < n := Nat.div_lt_of_lt_mul (by rw [Nat.mul_comm, HNN.out]; exact hxl)
                have hxm : x % m < m := Nat.mod_lt _ hm0
                have HDM := hide (And.intro hvd (And.intro hvm (And.intro hxd hxm)))
                clear hbX hbY hPP t1 t2 t3 t4 hvd hvm hxd hxm
                go_wp2_with (fail)
                go_quiet (fail)
                have e1 : wrap64 ((v : Int) / (m : Int)) = ((v / m : Nat) : Int) := div_wrap (by omega)
                have e2 : wrap64 ((x : Int) / (m : Int)) = ((x / m : Nat) : Int) := div_wrap (by omega)
                have e3 : (v : Int) % (m : Int) = ((v % m : Nat) : Int) := rfl
                have e4 : (x : Int) % (m : Int) = ((x % m : Nat) : Int) := rfl
                rw [e1, e2, e3, e4]
                clear e1 e2 e3 e4
                obtain ⟨hvd, hvm, hxd, hxm⟩ := HDM.out
                obtain ⟨hbX, hbY, hPP⟩ := HXB.out
                clear HXB HT HDM
                generalize v / m = vi at *
                generalize v % m = vk at *
                generalize x / m = xi at *
                generalize x % m = xk at *
                have hGq := hG.later (below_drewN' (Below.refl _ _) nq)
                have f1 := d1
                have f2 := d2
                generalize hwq : World.drewN wx nq = wq at hGq ⊢
                have d1 : wq.cell? ⟨bx, vi, none⟩ = some (.int .u64 (mx : Int)) := by rw [← hwq]; exact f1
                have d2 : wq.cell? ⟨bY, vk, none⟩ = some (.int .u64 (my : Int)) := by rw [← hwq]; exact f2
                obtain ⟨c0, c1, c2, c3⟩ := hGq.cells
                have HGQ := hide hGq
                have HLL := hide hL
                have hlen : (L ++ [((v : Int), (x : Int))]).length = L.length + 1 := by rw [List.length_append, List.length_singleton]
                have HLEN := hide hlen
                have HPP := hide hPP
                have s1 : (vi : Int) < (n : Int) := by omega
                have s2 : (vk : Int) < (m : Int) := by omega
                have s3 : (0 : Int) ≤ (vi : Int) := Int.natCast_nonneg _
                have s4 : (0 : Int) ≤ (vk : Int) := Int.natCast_nonneg _
                have s5 : (0 : Int) ≤ (xi : Int) := Int.natCast_nonneg _
                have s6 : (0 : Int) ≤ (xk : Int) := Int.natCast_nonneg _
                clear f1 f2 hwq hGq hL hlen hPP hG zz1 zz2 zz3
                by_cases g0 : vi = xi
                · have q0 : ((vi : Int) == (xi : Int)) = true := by rw [g0]; simp
                  by_cases g2 : vk = xk
                  · have q2 : ((vk : Int) == (xk : Int)) = true := by rw [g2]; simp
                    have hp : P v x = true := by rw [HPP.out]; simp [g0, g2]
                    have HROW := hide (rowTo_yes (P := P) (v := v) (w := x) (by omega) hp)
                    clear hp
                    go_wp2_with (at_builtin; refine wp_app_pairs _ rfl (.tmp 109) (.tmp 113) rfl (w2.heap.size + 1) (.slice E L.length f) L rfl (own_below HGQ.out.own (below_alloc' (Below.refl _ _) _)) (some ⟨wq.heap.size, 0, none⟩) 1 1 [((v : Int), (x : Int))] rfl rfl (pairs_one (by simp) (by simp)) (by omega) (by rw [World.size_alloc]; omega) ?_; intro E' f' w5 hf5 ho5 hg5 _; obtain ⟨hG5, y1, y2⟩ := SGr.push HGQ.out ho5 hg5; rw [HLEN.out] at hG5; have HG5 := hide hG5; clear ho5 hg5 hf5 hG5)
                    go_roundw
                    case rel => exact ⟨x + 1, by omega, by omega, by go_num, hide ⟨E', f', by rw [HROW.out, ← List.append_assoc, HLL.out]; exact HG5.out⟩⟩
                    case measure => simp [intOf]; omega
                  · have q2 : ((vk : Int) == (xk : Int)) = false := beq_eq_false_iff_ne.2 (by omega)
                    cases g3 : my.testBit xk
                    · rw [g3] at hbY
                      have hbYn := beq_eq_false_iff_ne.1 hbY
                      have hp : P v x = false := by rw [HPP.out]; simp [g0, g2, g3]
                      have HROW := hide (rowTo_no (P := P) (v := v) (w := x) hp)
                      clear hp
                      go_wp2_with (fail)
                      go_roundw
                      case rel => exact ⟨x + 1, by omega, by omega, by go_num, hide ⟨E, f, by rw [HROW.out, HLL.out]; exact HGQ.out⟩⟩
                      case measure => simp [intOf]; omega
                    · rw [g3] at hbY
                      have hp : P v x = true := by rw [HPP.out]; simp [g0, g3]
                      have HROW := hide (rowTo_yes (P := P) (v := v) (w := x) (by omega) hp)
                      clear hp
                      go_wp2_with (at_builtin; refine wp_app_pairs _ rfl (.tmp 109) (.tmp 113) rfl (w2.heap.size + 1) (.slice E L.length f) L rfl (own_below HGQ.out.own (below_alloc' (Below.refl _ _) _)) (some ⟨wq.heap.size, 0, none⟩) 1 1 [((v : Int), (x : Int))] rfl rfl (pairs_one (by simp) (by simp)) (by omega) (by rw [World.size_alloc]; omega) ?_; intro E' f' w5 hf5 ho5 hg5 _; obtain ⟨hG5, y1, y2⟩ := SGr.push HGQ.out ho5 hg5; rw [HLEN.out] at hG5; have HG5 := hide hG5; clear ho5 hg5 hf5 hG5)
                      go_roundw
                      case rel => exact ⟨x + 1, by omega, by omega, by go_num, hide ⟨E', f', by rw [HROW.out, ← List.append_assoc, HLL.out]; exact HG5.out⟩⟩
                      case measure => simp [intOf]; omega
                · have q0 : ((vi : Int) == (xi : Int)) = false := beq_eq_false_iff_ne.2 (by omega)
                  cases g1 : mx.testBit xi
                  · rw [g1] at hbX
                    have hbXn := beq_eq_false_iff_ne.1 hbX
                    have hp : P v x = false := by rw [HPP.out]; simp [g0, g1]
                    have HROW := hide (rowTo_no (P := P) (v := v) (w := x) hp)
                    clear hp
                    go_wp2_with (fail)
                    go_roundw
                    case rel => exact ⟨x + 1, by omega, by omega, by go_num, hide ⟨E, f, by rw [HROW.out, HLL.out]; exact HGQ.out⟩⟩
                    case measure => simp [intOf]; omega
                  · rw [g1] at hbX
                    by_cases g2 : vk = xk
                    · have q2 : ((vk : Int) == (xk : Int)) = true := by rw [g2]; simp
                      have hp : P v x = true := by rw [HPP.out]; simp [g1, g2]
                      have HROW := hide (rowTo_yes (P := P) (v := v) (w := x) (by omega) hp)
                      clear hp
                      go_wp2_with (at_builtin; refine wp_app_pairs _ rfl (.tmp 109) (.tmp 113) rfl (w2.heap.size + 1) (.slice E L.length f) L rfl (own_below HGQ.out.own (below_alloc' (Below.refl _ _) _)) (some ⟨wq.heap.size, 0, none⟩) 1 1 [((v : Int), (x : Int))] rfl rfl (pairs_one (by simp) (by simp)) (by omega) (by rw [World.size_alloc]; omega) ?_; intro E' f' w5 hf5 ho5 hg5 _; obtain ⟨hG5, y1, y2⟩ := SGr.push HGQ.out ho5 hg5; rw [HLEN.out] at hG5; have HG5 := hide hG5; clear ho5 hg5 hf5 hG5)
                      go_roundw
                      case rel => exact ⟨x + 1, by omega, by omega, by go_num, hide ⟨E', f', by rw [HROW.out, ← List.append_assoc, HLL.out]; exact HG5.out⟩⟩
                      case measure => simp [intOf]; omega
                    · have q2 : ((vk : Int) == (xk : Int)) = false := beq_eq_false_iff_ne.2 (by omega)
                      cases g3 : my.testBit xk
                      · rw [g3] at hbY
                        have hbYn := beq_eq_false_iff_ne.1 hbY
                        have hp : P v x = false := by rw [HPP.out]; simp [g1, g2, g3]
                        have HROW := hide (rowTo_no (P := P) (v := v) (w := x) hp)
                        clear hp
                        go_wp2_with (fail)
                        go_roundw
                        case rel => exact ⟨x + 1, by omega, by omega, by go_num, hide ⟨E, f, by rw [HROW.out, HLL.out]; exact HGQ.out⟩⟩
                        case measure => simp [intOf]; omega
                      · rw [g3] at hbY
                        have hp : P v x = true := by rw [HPP.out]; simp [g1, g3]
                        have HROW := hide (rowTo_yes (P := P) (v := v) (w := x) (by omega) hp)
                        clear hp
                        go_wp2_with (at_builtin; refine wp_app_pairs _ rfl (.tmp 109) (.tmp 113) rfl (w2.heap.size + 1) (.slice E L.length f) L rfl (own_below HGQ.out.own (below_alloc' (Below.refl _ _) _)) (some ⟨wq.heap.size, 0, none⟩) 1 1 [((v : Int), (x : Int))] rfl rfl (pairs_one (by simp) (by simp)) (by omega) (by rw [World.size_alloc]; omega) ?_; intro E' f' w5 hf5 ho5 hg5 _; obtain ⟨hG5, y1, y2⟩ := SGr.push HGQ.out ho5 hg5; rw [HLEN.out] at hG5; have HG5 := hide hG5; clear ho5 hg5 hf5 hG5)
                        go_roundw
                        case rel => exact ⟨x + 1, by omega, by omega, by go_num, hide ⟨E', f', by rw [HROW.out, ← List.append_assoc, HLL.out]; exact HG5.out⟩⟩
                        case measure => simp [intOf]; omega
              · have hxN : x = N := by omega
                have x1 : ¬ (x : Int) < (N : Int) := by omega
                rw [← hL, hxN, ← allTo_succ] at HK
                have HV1 := hide (show v + 1 ≤ N from hvl)
                go_wp2_with (fail)
                go_roundw
                case rel => exact ⟨v + 1, HV1.out, by go_num, HK⟩
                case measure =>
                  have := HV1.out
                  simp [intOf]
                  omega
          · obtain rfl : v = N := by omega
            obtain ⟨E, f, hG⟩ := HJ.out
            obtain ⟨c0, c1, c2, c3⟩ := hG.cells
            have hrr := HB.out.1.later hG.below
            obtain ⟨r0, r1, f0, f1⟩ := And.intro hrr.r0 (And.intro hrr.r1 (And.intro hrr.f0 hrr.f1))
            have zr : w.heap.size + 2 < wv.heap.size := by have := hrr.size; omega
            have hown := hG.own
            have hcap := own_cap hG.own
            have hbw := hrr.below
            have hzz : w.heap.size + 2 < w2.heap.size + 1 := by omega
            have hEb : ∀ x, E = some x → w.heap.size ≤ x.block := fun x e => by
              rcases own_at hG.own with ⟨e', _⟩ | ⟨g, e', h, _⟩
              · rw [e'] at e; cases e
              · rw [e'] at e
                injection e with e
                subst e
                show w.heap.size ≤ g
                omega
            go_wp2_with (fail)
            refine bodyPost_ret (v := .tuple #[.agg #[.int .i64 (v : Int), .slice E (allTo P v v).length f], .nilIface]) (by simp [results, Tryd.results9, go_sem, r0, r1]) rfl ⟨E, f, rfl, ?_, hcap, hEb, ?_⟩
            · exact Pairs.own (ownsRow_setCell_below (ownsRow_setCell_below hown (a := ⟨w.heap.size + 2, 0, none⟩) hzz _) (a := ⟨w.heap.size + 2, 1, none⟩) hzz _)
            · exact (hbw.setCell (p := ⟨w.heap.size + 2, 0, none⟩) (by show w.heap.size ≤ w.heap.size + 2; omega) _).setCell (p := ⟨w.heap.size + 2, 1, none⟩) (by show w.heap.size ≤ w.heap.size + 2; omega) _
end Go.Proofs.YtehheklbibocjaaDoor

/- The walks of Joined and SameGraph. No condition. -/
namespace Go.Proofs.YtehheklbibocjaaDoor
open Go.RowKit Go.Deep Go.Proofs.YtehheklbibocjaaDoorW.PrintWords

/-- does an edge join two vertices? -/
def adjAt (p q a b : Int) : Bool := (p == a && q == b) || (p == b && q == a)
def adjL (l : List (Int × Int)) (a b : Int) : Bool := l.any fun e => adjAt e.1 e.2 a b
/-- none of the first k edges joins them -/
structure NoneTo (l : List (Int × Int)) (a b : Int) (k : Nat) : Prop where
  out : ∀ j, j < k → adjAt (l.getD j (0, 0)).1 (l.getD j (0, 0)).2 a b = false
theorem NoneTo.zero (l : List (Int × Int)) (a b : Int) : NoneTo l a b 0 := ⟨fun j h => absurd h (by omega)⟩
theorem NoneTo.succ {l : List (Int × Int)} {a b : Int} {k : Nat} (h : NoneTo l a b k) (hk : adjAt (l.getD k (0, 0)).1 (l.getD k (0, 0)).2 a b = false) : NoneTo l a b (k + 1) :=
  ⟨fun j hj => by
    by_cases e : j = k
    · rw [e]; exact hk
    · exact h.out j (by omega)⟩
theorem adjL_yes {l : List (Int × Int)} {a b : Int} {k : Nat} (hk : k < l.length) (h : adjAt (l.getD k (0, 0)).1 (l.getD k (0, 0)).2 a b = true) : adjL l a b = true := by
  rw [getD_eq l k _ hk] at h
  exact List.any_eq_true.2 ⟨l[k], List.getElem_mem hk, h⟩
theorem adjL_no {l : List (Int × Int)} {a b : Int} (h : NoneTo l a b l.length) : adjL l a b = false := by
  unfold adjL
  rw [List.any_eq_false]
  intro e he
  obtain ⟨i, hi, rfl⟩ := List.getElem_of_mem he
  have := h.out i hi
  rw [getD_eq l i _ hi] at this
  rw [this]
  decide

set_option maxRecDepth 100000 in
set_option maxHeartbeats 4000000 in
theorem joined_any (n : Int) (A : Option Addr) (l : List (Int × Int)) (cap : Nat) (a b : Int) (w : World) (hP : Pairs w A l) :
    Calls Tryd.prog 31 #[.agg #[.int .i64 n, .slice A l.length cap], .int .i64 a, .int .i64 b] w fun e w' => e = .returned (.bool (adjL l a b)) ∧ Below w.heap.size w w' := by
  have hl := hP.len
  have HP := hide hP
  clear hP
  go_enter Tryd.func31, Tryd.ntmps31
  go_wp2_with (fail)
  go_loopw [7] (fun i wr => ∃ k : Nat, k ≤ l.length ∧ Hid (NoneTo l a b k) ∧ i = .int .i64 k ∧ Hid (Below (w.heap.size + 1) (w.alloc (.cells #[.int .i64 n, .slice A l.length cap] 24)) wr)) (fun i _ => l.length - (intOf i).toNat)
  case atStart => exact ⟨0, Nat.zero_le _, hide (NoneTo.zero _ _ _), rfl, hide (Below.refl _ _)⟩
  case round =>
    obtain ⟨k, hk, hg, rfl, hB⟩ := hrel
    obtain ⟨wi, rfl⟩ : ∃ wi : World, wi = wr := ⟨_, rfl⟩
    have hsz : w.heap.size + 1 ≤ wi.heap.size := by have := hB.out.size; simp at this; exact this
    have hbw : Below w.heap.size w wi := (below_alloc' (Below.refl _ _) _).trans (hB.out.mono (Nat.le_succ _))
    have HBW := hide hbw
    have k0 : (0 : Int) ≤ (k : Int) := Int.natCast_nonneg _
    have zw : w.heap.size < wi.heap.size := by omega
    by_cases hlt : k < l.length
    · obtain ⟨g, off, rfl, hb, c1, c2⟩ := (HP.out.below hbw).at_ k hlt
      have HY := hide (fun h => adjL_yes (a := a) (b := b) hlt h)
      have HN := hide (fun h => hg.out.succ (k := k) h)
      generalize (l.getD k (0,0)).1 = p at c1 HY HN
      generalize (l.getD k (0,0)).2 = q at c2 HY HN
      have k1 : (k : Int) < (l.length : Int) := by omega
      have y1 : wi.cell? ⟨w.heap.size, 1, none⟩ = some (.slice (some ⟨g, off, none⟩) l.length cap) := by
        rw [hB.out.cell (p := ⟨w.heap.size, 1, none⟩) (by show w.heap.size < _; omega)]; simp
      clear hbw
      cases e1 : (p == a) <;> cases e2 : (q == b) <;> cases e3 : (p == b) <;> cases e4 : (q == a)
      all_goals have HV := hide (show adjAt p q a b = ((p == a && q == b) || (p == b && q == a)) from rfl)
      all_goals rw [e1, e2, e3, e4] at HV
      all_goals go_wp2_with (fail)
      all_goals first
        | (go_ret
           exact ⟨ret_bool (HY.out HV.out).symm, below_alloc' HBW.out _⟩)
        | (go_roundw
           case rel => exact ⟨k + 1, by omega, hide (HN.out HV.out), by go_num, hide (hB.out.alloc hsz _)⟩
           case measure => simp [intOf]; omega)
    · obtain rfl : k = l.length := by omega
      have HF := hide (adjL_no hg.out)
      have y1 : wi.cell? ⟨w.heap.size, 1, none⟩ = some (.slice A l.length cap) := by
        rw [hB.out.cell (p := ⟨w.heap.size, 1, none⟩) (by show w.heap.size < _; omega)]; simp
      go_wp2_with (fail)
      go_ret
      rw [HF.out]
      exact ⟨rfl, HBW.out⟩

/-- two lists of pairs are alike ahead of place k -/
structure AlikeP (l m : List (Int × Int)) (k : Nat) : Prop where
  out : ∀ j, j < k → l.getD j (0, 0) = m.getD j (0, 0)
theorem AlikeP.zero (l m : List (Int × Int)) : AlikeP l m 0 := ⟨fun j h => absurd h (by omega)⟩
theorem AlikeP.succ {l m : List (Int × Int)} {k : Nat} (h : AlikeP l m k) (hk : l.getD k (0, 0) = m.getD k (0, 0)) : AlikeP l m (k + 1) :=
  ⟨fun j hj => by
    by_cases e : j = k
    · rw [e]; exact hk
    · exact h.out j (by omega)⟩

@[go_sem] theorem eq_pair (a b c d : Int) (w : World) : (Op.equalIn 10000 51 (.agg #[.int .i64 a, .int .i64 b]) (.agg #[.int .i64 c, .int .i64 d])).run Tryd.prog w = .ok (a == c && b == d) w := by
  have u3 := Tryd.underlying3
  have a3 := Tryd.isAgg3
  have z3 := Tryd.sizeOf3
  rw [show (10000 : Nat) = 9999 + 1 from rfl, Op.equalIn]
  simp only [Sem.run_bind, run_underlying Tryd.underlying51, Result.andThen_ok]
  simp only [Std.Legacy.Range.forIn_eq_forIn_range', Std.Legacy.Range.size, Nat.sub_zero, Nat.add_sub_cancel, Nat.div_one, List.range'_succ, List.range'_zero, List.forIn_cons, List.forIn_nil]
  go_simp
  by_cases h1 : a = c <;> by_cases h2 : b = d <;> simp [h1, h2]

set_option maxRecDepth 100000 in
set_option maxHeartbeats 4000000 in
/-- the same graph twice is the same -/
theorem sameGraph_yes (n : Int) (A B : Option Addr) (l : List (Int × Int)) (c d : Nat) (w : World) (hA : Pairs w A l) (hB : Pairs w B l) :
    Calls Tryd.prog 17 #[.agg #[.int .i64 n, .slice A l.length c], .agg #[.int .i64 n, .slice B l.length d]] w fun e w' => e = .returned (.bool true) ∧ Below w.heap.size w w' := by
  have hl := hA.len
  have HAB := hide (And.intro hA hB)
  have n1 : (n != n) = false := by simp
  have n2 : ((l.length : Int) != (l.length : Int)) = false := by simp
  clear hA hB
  go_enter Tryd.func17, Tryd.ntmps17
  go_wp2_with (fail)
  go_loopw [5] (fun i wr => ∃ k m : Nat, k ≤ l.length ∧ i = .int .i64 k ∧ wr = World.drewN ((w.alloc (.cells #[.int .i64 n, .slice A l.length c] 24)).alloc (.cells #[.int .i64 n, .slice B l.length d] 24)) m) (fun i _ => l.length - (intOf i).toNat)
  case atStart => exact ⟨0, 0, Nat.zero_le _, rfl, rfl⟩
  case round =>
    obtain ⟨k, m, hk, rfl, hwr⟩ := hrel
    obtain ⟨wi, rfl⟩ : ∃ wi : World, wi = wr := ⟨_, rfl⟩
    have k0 : (0 : Int) ≤ (k : Int) := Int.natCast_nonneg _
    have hbw : Below w.heap.size w wi := by rw [hwr]; exact below_drewN' (below_alloc' (below_alloc' (Below.refl _ _) _) _) _
    have y1 : wi.cell? ⟨w.heap.size, 1, none⟩ = some (.slice A l.length c) := by rw [hwr]; show (World.alloc _ _).cell? _ = _; simp
    have y2 : wi.cell? ⟨w.heap.size + 1, 1, none⟩ = some (.slice B l.length d) := by rw [hwr]; show (World.alloc _ _).cell? _ = _; simp
    have HBW := hide hbw
    have HWR := hide hwr
    clear hwr
    by_cases hlt : k < l.length
    · obtain ⟨g, off, rfl, hb, c1, c2⟩ := (HAB.out.1.below hbw).at_ k hlt
      obtain ⟨g', off', rfl, hb', d1, d2⟩ := (HAB.out.2.below hbw).at_ k hlt
      clear hbw
      generalize (l.getD k (0,0)).1 = p at c1 d1
      generalize (l.getD k (0,0)).2 = q at c2 d2
      have k1 : (k : Int) < (l.length : Int) := by omega
      have p1 : (p != p) = false := by simp
      have q1 : (q != q) = false := by simp
      go_wp2_with (fail)
      go_quiet (fail)
      go_wp2_with (fail)
      go_roundw
      case rel => exact ⟨k + 1, m + nq, by omega, by go_num, by rw [HWR.out, World.drewN_drewN]⟩
      case measure => simp [intOf]; omega
    · obtain rfl : k = l.length := by omega
      go_wp2_with (fail)
      go_ret
      exact ⟨rfl, HBW.out⟩
end Go.Proofs.YtehheklbibocjaaDoor

/- The walk of StrongOf. No condition. -/
namespace Go.Proofs.YtehheklbibocjaaDoor
open Go.RowKit Go.Deep Go.Proofs.YtehheklbibocjaaDoorW.PrintWords

/-- have two vertices of the product an edge (by lists)? -/
def strongQ (l k : List (Int × Int)) (m v w : Nat) : Bool := (decide (v / m = w / m) || adjL l ((v / m : Nat) : Int) ((w / m : Nat) : Int)) && (decide (v % m = w % m) || adjL k ((v % m : Nat) : Int) ((w % m : Nat) : Int))
/-- the boxes of StrongOf's arguments, as they stay -/
structure SOf (w : World) (n : Int) (A : Option Addr) (la c : Nat) (m : Int) (B : Option Addr) (lb d : Nat) (W : World) : Prop where
  below : Below w.heap.size w W
  size : w.heap.size + 3 ≤ W.heap.size
  a0 : W.cell? ⟨w.heap.size, 0, none⟩ = some (.int .i64 n)
  a1 : W.cell? ⟨w.heap.size, 1, none⟩ = some (.slice A la c)
  b0 : W.cell? ⟨w.heap.size + 1, 0, none⟩ = some (.int .i64 m)
  b1 : W.cell? ⟨w.heap.size + 1, 1, none⟩ = some (.slice B lb d)
  r0 : W.cell? ⟨w.heap.size + 2, 0, none⟩ = some (.int .i64 0)
  r1 : W.cell? ⟨w.heap.size + 2, 1, none⟩ = some (.slice none 0 0)
  f0 : W.frozen? ⟨w.heap.size + 2, 0, none⟩ = false
  f1 : W.frozen? ⟨w.heap.size + 2, 1, none⟩ = false
def gObj (n : Int) (A : Option Addr) (len c : Nat) : Obj := .cells #[.int .i64 n, .slice A len c] 24
theorem SOf.start (w : World) (n : Int) (A : Option Addr) (la c : Nat) (m : Int) (B : Option Addr) (lb d : Nat) : SOf w n A la c m B lb d (((w.alloc (gObj n A la c)).alloc (gObj m B lb d)).alloc (gObj 0 none 0 0)) ∧ (((w.alloc (gObj n A la c)).alloc (gObj m B lb d)).alloc (gObj 0 none 0 0)).heap.size = w.heap.size + 3 := by
  obtain ⟨V1, hV1⟩ : ∃ V, w.alloc (gObj n A la c) = V := ⟨_, rfl⟩
  obtain ⟨V2, hV2⟩ : ∃ V, V1.alloc (gObj m B lb d) = V := ⟨_, rfl⟩
  obtain ⟨V3, hV3⟩ : ∃ V, V2.alloc (gObj 0 none 0 0) = V := ⟨_, rfl⟩
  rw [hV1, hV2, hV3]
  have s1 : V1.heap.size = w.heap.size + 1 := by rw [← hV1, World.size_alloc]
  have s2 : V2.heap.size = w.heap.size + 2 := by rw [← hV2, World.size_alloc, s1]
  have s3 : V3.heap.size = w.heap.size + 3 := by rw [← hV3, World.size_alloc, s2]
  have b1 : Below w.heap.size w V1 := by rw [← hV1]; exact below_alloc' (Below.refl _ _) _
  have b2 : Below V1.heap.size V1 V2 := by rw [← hV2]; exact below_alloc' (Below.refl _ _) _
  have b3 : Below V2.heap.size V2 V3 := by rw [← hV3]; exact below_alloc' (Below.refl _ _) _
  have e1 : V3.heap[w.heap.size]? = some (gObj n A la c) := by
    rw [b3.block _ (by omega), b2.block _ (by omega), ← hV1]
    exact alloc_at _ _
  have e2 : V3.heap[w.heap.size + 1]? = some (gObj m B lb d) := by
    rw [b3.block _ (by omega), ← s1, ← hV2]
    exact alloc_at _ _
  have e3 : V3.heap[w.heap.size + 2]? = some (gObj 0 none 0 0) := by
    rw [← s2, ← hV3]
    exact alloc_at _ _
  exact ⟨⟨below_trans (below_trans b1 b2) b3, by omega, (cell_of _ _ 0 _ _ _ e1 rfl).1, (cell_of _ _ 1 _ _ _ e1 rfl).1, (cell_of _ _ 0 _ _ _ e2 rfl).1, (cell_of _ _ 1 _ _ _ e2 rfl).1, (cell_of _ _ 0 _ _ _ e3 rfl).1, (cell_of _ _ 1 _ _ _ e3 rfl).1, (cell_of _ _ 0 _ _ _ e3 rfl).2, (cell_of _ _ 1 _ _ _ e3 rfl).2⟩, s3⟩
theorem SOf.later {w : World} {n : Int} {A : Option Addr} {la c : Nat} {m : Int} {B : Option Addr} {lb d : Nat} {W W' : World} (h : SOf w n A la c m B lb d W) (b : Below W.heap.size W W') : SOf w n A la c m B lb d W' := by
  have hs := h.size
  have key : ∀ q o, q < w.heap.size + 3 → W'.cell? ⟨q, o, none⟩ = W.cell? ⟨q, o, none⟩ := fun q o hq => b.cell (p := ⟨q, o, none⟩) (by show q < _; omega)
  have fkey : ∀ q o, q < w.heap.size + 3 → W'.frozen? ⟨q, o, none⟩ = W.frozen? ⟨q, o, none⟩ := fun q o hq => b.frozen (p := ⟨q, o, none⟩) (by show q < _; omega)
  exact ⟨below_trans h.below b, Nat.le_trans hs b.size, (key _ _ (by omega)).trans h.a0, (key _ _ (by omega)).trans h.a1, (key _ _ (by omega)).trans h.b0, (key _ _ (by omega)).trans h.b1, (key _ _ (by omega)).trans h.r0, (key _ _ (by omega)).trans h.r1, (fkey _ _ (by omega)).trans h.f0, (fkey _ _ (by omega)).trans h.f1⟩

theorem div_wrap' {a b : Nat} (h : a ≤ 1000) : IntKind.i64.wrap ((a : Int) / (b : Int)) = ((a / b : Nat) : Int) := by
  have e : (a : Int) / (b : Int) = ((a / b : Nat) : Int) := rfl
  have h2 : a / b ≤ a := Nat.div_le_self _ _
  rw [e, IntKind.wrap_i64]
  generalize a / b = q at h2
  omega
theorem mod_wrap {a b : Nat} (h : a ≤ 1000) : IntKind.i64.wrap ((a % b : Nat) : Int) = ((a % b : Nat) : Int) := by
  have h2 : a % b ≤ a := Nat.mod_le _ _
  rw [IntKind.wrap_i64]
  generalize a % b = q at h2
  omega
set_option maxRecDepth 100000 in
set_option maxHeartbeats 8000000 in
theorem strongOf_ok (n m : Nat) (A : Option Addr) (l : List (Int × Int)) (c : Nat) (B : Option Addr) (k : List (Int × Int)) (d : Nat) (w : World) (hA : Pairs w A l) (hB : Pairs w B k) (h3 : n * m ≤ 16) (hm16 : m ≤ 16) :
    Calls Tryd.prog 16 #[.agg #[.int .i64 n, .slice A l.length c], .agg #[.int .i64 m, .slice B k.length d]] w fun e w' => ∃ E f, e = .returned (.agg #[.int .i64 (n * m : Nat), .slice E (allTo (strongQ l k m) (n * m) (n * m)).length f]) ∧ Pairs w' E (allTo (strongQ l k m) (n * m) (n * m)) ∧ (allTo (strongQ l k m) (n * m) (n * m)).length ≤ f ∧ (∀ x, E = some x → w.heap.size ≤ x.block ∧ x.block < w'.heap.size) ∧ Below w.heap.size w w' := by
  obtain ⟨hst0, hs3⟩ := SOf.start w n A l.length c m B k.length d
  obtain ⟨N, hN⟩ : ∃ N, n * m = N := ⟨_, rfl⟩
  rw [hN] at h3 ⊢
  have hNi : (n : Int) * (m : Int) = (N : Int) := by rw [← hN]; rfl
  have hw : wrap64 ((n : Int) * (m : Int)) = (N : Int) := by rw [hNi]; unfold wrap64; omega
  obtain ⟨P, hP⟩ : ∃ P, strongQ l k m = P := ⟨_, rfl⟩
  rw [hP]
  have HP := hide hP
  have HNN := hide hN
  have HAB := hide (And.intro hA hB)
  have HST := hide hst0
  have HGS := hide (SGr.start (((w.alloc (gObj n A l.length c)).alloc (gObj m B k.length d)).alloc (gObj 0 none 0 0)) 24 (N : Int))
  have HS3 := hide hs3
  clear hA hB hst0 hs3 hP hN
  go_enter Tryd.func16, Tryd.ntmps16
  go_wp2_with (fail)
  obtain ⟨W3, hW3⟩ : ∃ W, (((w.alloc (gObj n A l.length c)).alloc (gObj m B k.length d)).alloc (gObj 0 none 0 0)) = W := ⟨_, rfl⟩
  have hS3 := HST.out
  have hGS := HGS.out
  have hz3 := HS3.out
  rw [hW3] at hS3 hGS hz3
  have HB := hide hS3
  have HSZ := hide (show w.heap.size + 1 + 1 + 1 = W3.heap.size from hz3.symm)
  have hz3' : w.heap.size + 2 < W3.heap.size := by omega
  have HSTART : Hid (∃ E f, SGr W3 24 (N : Int) ((((w.alloc (gObj n A l.length c)).alloc (gObj m B k.length d)).alloc (gObj 0 none 0 0)).alloc (.cells #[.int .i64 (N : Int), .slice none 0 0] 24)) (allTo P N 0) E f) := hide ⟨_, _, by rw [hW3]; exact hGS⟩
  clear hGS HGS HS3 HST hS3 hW3 hz3
  go_loopw [6] (fun jv wr => ∃ v : Nat, v ≤ N ∧ jv = .int .i64 v ∧ Hid (∃ E f, SGr W3 24 (N : Int) wr (allTo P N v) E f)) (fun jv _ => N - (intOf jv).toNat)
  case atStart => exact ⟨0, Nat.zero_le _, rfl, HSTART⟩
  case round =>
    obtain ⟨v, hv, rfl, HJ⟩ := hrel
    obtain ⟨wv, rfl⟩ : ∃ wv : World, wv = wr := ⟨_, rfl⟩
    clear HSTART
    rw [HSZ.out]
    have v0 : (0 : Int) ≤ (v : Int) := Int.natCast_nonneg _
    obtain ⟨Ev, fv, hGv⟩ := HJ.out
    obtain ⟨c0, c1, c2, c3⟩ := hGv.cells
    by_cases hvl : v < N
    · have v1 : (v : Int) < (N : Int) := by omega
      clear hGv c1 c2
      go_wp2_with (fail)
      go_loopw [7] (fun jv wr => ∃ x : Nat, v + 1 ≤ x ∧ x ≤ N ∧ jv = .int .i64 x ∧ Hid (∃ E f, SGr W3 24 (N : Int) wr (allTo P N v ++ rowTo P v x) E f)) (fun jv _ => N - (intOf jv).toNat)
      case atStart => exact ⟨v + 1, Nat.le_refl _, hvl, by go_num, by rw [rowTo_first, List.append_nil]; exact HJ⟩
      case round =>
        obtain ⟨x, hvx, hx, rfl, HK⟩ := hrel
        obtain ⟨wx, rfl⟩ : ∃ wx : World, wx = wr := ⟨_, rfl⟩
        clear HJ c0 c3
        have hbd := grown_length (P := P) (N := N) (v := v) (w := x) (by omega) hv hx
        obtain ⟨L, hL⟩ : ∃ L, allTo P N v ++ rowTo P v x = L := ⟨_, rfl⟩
        rw [hL] at HK hbd
        obtain ⟨E, f, hG⟩ := HK.out
        obtain ⟨c0, c1, c2, c3⟩ := hG.cells
        have x0 : (0 : Int) ≤ (x : Int) := Int.natCast_nonneg _
        by_cases hxl : x < N
        · have x1 : (x : Int) < (N : Int) := by omega
          have hm0 : 0 < m := Nat.pos_of_ne_zero fun e => by have := HNN.out; rw [e, Nat.mul_zero] at this; omega
          have hs := HB.out.later hG.below
          obtain ⟨a0, a1, b0, b1⟩ := And.intro hs.a0 (And.intro hs.a1 (And.intro hs.b0 hs.b1))
          have zz := hs.size
          have m0 : ((m : Int) == 0) = false := beq_eq_false_iff_ne.2 (by omega)
          have m1 : (m : Int) ≠ 0 := by omega
          have m2 : (0 : Int) < (m : Int) := by omega
          have e1 : wrap64 ((v : Int) / (m : Int)) = ((v / m : Nat) : Int) := div_wrap (by omega)
          have e2 : wrap64 ((x : Int) / (m : Int)) = ((x / m : Nat) : Int) := div_wrap (by omega)
          have e1' : IntKind.i64.wrap ((v : Int) / (m : Int)) = ((v / m : Nat) : Int) := div_wrap' (by omega)
          have e2' : IntKind.i64.wrap ((x : Int) / (m : Int)) = ((x / m : Nat) : Int) := div_wrap' (by omega)
          have mN : ¬ m = 0 := by omega
          have e3 : (v : Int) % (m : Int) = ((v % m : Nat) : Int) := rfl
          have e4 : (x : Int) % (m : Int) = ((x % m : Nat) : Int) := rfl
          have e3t := tmod_nat v m
          have e4t := tmod_nat x m
          have e3' : IntKind.i64.wrap ((v % m : Nat) : Int) = ((v % m : Nat) : Int) := mod_wrap (by omega)
          have e4' : IntKind.i64.wrap ((x % m : Nat) : Int) = ((x % m : Nat) : Int) := mod_wrap (by omega)
          have hPP : P v x = ((decide (v / m = x / m) || adjL l ((v / m : Nat) : Int) ((x / m : Nat) : Int)) && (decide (v % m = x % m) || adjL k ((v % m : Nat) : Int) ((x % m : Nat) : Int))) := by rw [← HP.out]; rfl
          generalize v / m = vi at e1 e1' hPP
          generalize x / m = xi at e2 e2' hPP
          generalize v % m = vk at e3 e3' e3t hPP
          generalize x % m = xk at e4 e4' e4t hPP
          have HG := hide (And.intro hG hs)
          have HLL := hide hL
          have hlen : (L ++ [((v : Int), (x : Int))]).length = L.length + 1 := by rw [List.length_append, List.length_singleton]
          have HLEN := hide hlen
          have HPP := hide hPP
          have HJA := hide (fun V (hb : Below w.heap.size w V) => joined_any n A l c (vi : Int) (xi : Int) V (HAB.out.1.below hb))
          have HJB := hide (fun V (hb : Below w.heap.size w V) => joined_any m B k d (vk : Int) (xk : Int) V (HAB.out.2.below hb))
          have z1 : w.heap.size + 1 < wx.heap.size := by omega
          have z2 : w.heap.size < wx.heap.size := by omega
          clear hG hs hL hlen hPP c1 c2
          have HGwx := HG
          by_cases g0 : vi = xi
          · have q0 : ((vi : Int) == (xi : Int)) = true := by rw [g0]; simp
            go_wp2_with (fail)
            go_quiet (fail)
            have hGw6 := HGwx.out.1.later (below_drewN' (Below.refl _ _) nq)
            have hsw6 := HGwx.out.2.later (below_drewN' (Below.refl _ _) nq)
            generalize World.drewN wx nq = w6 at hGw6 hsw6 ⊢
            have HGw6 := hide (And.intro hGw6 hsw6)
            clear HGwx a0 a1 b0 b1 z1 z2
            obtain ⟨a0, a1, b0, b1⟩ := And.intro hsw6.a0 (And.intro hsw6.a1 (And.intro hsw6.b0 hsw6.b1))
            have z1 : w.heap.size + 1 < w6.heap.size := by have := hsw6.size; omega
            have z2 : w.heap.size < w6.heap.size := by omega
            clear hGw6 hsw6
            by_cases g2 : vk = xk
            · have q2 : ((vk : Int) == (xk : Int)) = true := by rw [g2]; simp
              go_wp2_with (fail)
              go_quiet (fail)
              have hGw7 := HGw6.out.1.later (below_drewN' (Below.refl _ _) nq)
              have hsw7 := HGw6.out.2.later (below_drewN' (Below.refl _ _) nq)
              generalize World.drewN w6 nq = w7 at hGw7 hsw7 ⊢
              have HGw7 := hide (And.intro hGw7 hsw7)
              clear HGw6 a0 a1 b0 b1 z1 z2
              obtain ⟨a0, a1, b0, b1⟩ := And.intro hsw7.a0 (And.intro hsw7.a1 (And.intro hsw7.b0 hsw7.b1))
              have z1 : w.heap.size + 1 < w7.heap.size := by have := hsw7.size; omega
              have z2 : w.heap.size < w7.heap.size := by omega
              clear hGw7 hsw7
              have hp : P v x = true := by rw [HPP.out]; simp [g0, g2]
              have HROW := hide (rowTo_yes (P := P) (v := v) (w := x) (by omega) hp)
              clear hp
              have hzq := lt_of_block HGw7.out.1.box
              obtain ⟨c0, c1, c2, c3⟩ := HGw7.out.1.cells
              go_wp2_with (at_builtin; refine wp_app_pairs _ rfl (.tmp 77) (.tmp 81) rfl (W3.heap.size + 1) (.slice E L.length f) L rfl (own_below HGw7.out.1.own (below_alloc' (Below.refl _ _) _)) (some ⟨w7.heap.size, 0, none⟩) 1 1 [((v : Int), (x : Int))] rfl rfl (pairs_one (by simp) (by simp)) (by omega) (by rw [World.size_alloc]; omega) ?_; intro E' f' w9 hf9 ho9 hg9 _; obtain ⟨hG9, y1, y2⟩ := SGr.push HGw7.out.1 ho9 hg9; rw [HLEN.out] at hG9; have HG9 := hide hG9; clear ho9 hg9 hf9 hG9)
              go_roundw
              case rel => exact ⟨x + 1, by omega, by omega, by go_num, hide ⟨E', f', by rw [HROW.out, ← List.append_assoc, HLL.out]; exact HG9.out⟩⟩
              case measure => simp [intOf]; omega
            · have q2 : ((vk : Int) == (xk : Int)) = false := beq_eq_false_iff_ne.2 (by omega)
              cases g3 : adjL k (vk : Int) (xk : Int)
              · simp only [g3] at HJB
                have hp : P v x = false := by rw [HPP.out]; simp [g0, g2, g3]
                have HROW := hide (rowTo_no (P := P) (v := v) (w := x) hp)
                clear hp
                go_wp2_with (fail)
                refine wp_region_still_tail 19 (by kernel_rfl) (by kernel_rfl) ?_
                change wpStill _ _ (World.drew w6) (fun a' => wpList _ _ _ _ a' (World.drew w6)) _ _
                have hGd : SGr W3 24 (N : Int) (World.drew w6) L E f := HGw6.out.1.later (below_drewN' (Below.refl _ _) 1)
                have hsd : SOf w n A l.length c m B k.length d (World.drew w6) := HGw6.out.2.later (below_drewN' (Below.refl _ _) 1)
                generalize World.drew w6 = wd at hGd hsd ⊢
                have HGd := hide (And.intro hGd hsd)
                clear HGw6 a0 a1 b0 b1 z1 z2 hGd
                obtain ⟨a0, a1, b0, b1⟩ := And.intro hsd.a0 (And.intro hsd.a1 (And.intro hsd.b0 hsd.b1))
                have z1 : w.heap.size + 1 < wd.heap.size := by have := hsd.size; omega
                have z2 : w.heap.size < wd.heap.size := by omega
                clear hsd
                simp only [List.take_succ_cons, List.take_zero, List.drop_succ_cons, List.drop_zero]
                repeat still_step
                refine wpStill_nil ?_
                go_wp2_with (go_at_call 31; refine Calls.mono (HJB.out _ HGd.out.2.below) ?_; rintro e w7 ⟨rfl, hbn⟩; have hGw7 := HGd.out.1.later hbn; have hsw7 := HGd.out.2.later hbn)
                have HGw7 := hide (And.intro hGw7 hsw7)
                go_roundw
                case rel => exact ⟨x + 1, by omega, by omega, by go_num, hide ⟨E, f, by rw [HROW.out, HLL.out]; exact HGw7.out.1⟩⟩
                case measure => simp [intOf]; omega
              · simp only [g3] at HJB
                have hp : P v x = true := by rw [HPP.out]; simp [g0, g3]
                have HROW := hide (rowTo_yes (P := P) (v := v) (w := x) (by omega) hp)
                clear hp
                go_wp2_with (fail)
                refine wp_region_still_tail 19 (by kernel_rfl) (by kernel_rfl) ?_
                change wpStill _ _ (World.drew w6) (fun a' => wpList _ _ _ _ a' (World.drew w6)) _ _
                have hGd : SGr W3 24 (N : Int) (World.drew w6) L E f := HGw6.out.1.later (below_drewN' (Below.refl _ _) 1)
                have hsd : SOf w n A l.length c m B k.length d (World.drew w6) := HGw6.out.2.later (below_drewN' (Below.refl _ _) 1)
                generalize World.drew w6 = wd at hGd hsd ⊢
                have HGd := hide (And.intro hGd hsd)
                clear HGw6 a0 a1 b0 b1 z1 z2 hGd
                obtain ⟨a0, a1, b0, b1⟩ := And.intro hsd.a0 (And.intro hsd.a1 (And.intro hsd.b0 hsd.b1))
                have z1 : w.heap.size + 1 < wd.heap.size := by have := hsd.size; omega
                have z2 : w.heap.size < wd.heap.size := by omega
                clear hsd
                simp only [List.take_succ_cons, List.take_zero, List.drop_succ_cons, List.drop_zero]
                repeat still_step
                refine wpStill_nil ?_
                go_wp2_with (first
                  | (go_at_call 31; refine Calls.mono (HJB.out _ HGd.out.2.below) ?_; rintro e w7 ⟨rfl, hbn⟩; have hGw7 := HGd.out.1.later hbn; have hsw7 := HGd.out.2.later hbn; have hzw7 := lt_of_block hGw7.box; obtain ⟨c0, c1, c2, c3⟩ := hGw7.cells)
                  | (at_builtin; refine wp_app_pairs _ rfl (.tmp 77) (.tmp 81) rfl (W3.heap.size + 1) (.slice E L.length f) L rfl (own_below hGw7.own (below_alloc' (Below.refl _ _) _)) (some ⟨w7.heap.size, 0, none⟩) 1 1 [((v : Int), (x : Int))] rfl rfl (pairs_one (by simp) (by simp)) (by omega) (by rw [World.size_alloc]; omega) ?_; intro E' f' w9 hf9 ho9 hg9 _; obtain ⟨hG9, y1, y2⟩ := SGr.push hGw7 ho9 hg9; rw [HLEN.out] at hG9; have HG9 := hide hG9; clear ho9 hg9 hf9 hG9))
                go_roundw
                case rel => exact ⟨x + 1, by omega, by omega, by go_num, hide ⟨E', f', by rw [HROW.out, ← List.append_assoc, HLL.out]; exact HG9.out⟩⟩
                case measure => simp [intOf]; omega
          · have q0 : ((vi : Int) == (xi : Int)) = false := beq_eq_false_iff_ne.2 (by omega)
            go_wp2_with (fail)
            refine wp_region_still_tail 19 (by kernel_rfl) (by kernel_rfl) ?_
            change wpStill _ _ (World.drew wx) (fun a' => wpList _ _ _ _ a' (World.drew wx)) _ _
            have hGd : SGr W3 24 (N : Int) (World.drew wx) L E f := HGwx.out.1.later (below_drewN' (Below.refl _ _) 1)
            have hsd : SOf w n A l.length c m B k.length d (World.drew wx) := HGwx.out.2.later (below_drewN' (Below.refl _ _) 1)
            generalize World.drew wx = wd at hGd hsd ⊢
            have HGd := hide (And.intro hGd hsd)
            clear HGwx a0 a1 b0 b1 z1 z2 hGd
            obtain ⟨a0, a1, b0, b1⟩ := And.intro hsd.a0 (And.intro hsd.a1 (And.intro hsd.b0 hsd.b1))
            have z1 : w.heap.size + 1 < wd.heap.size := by have := hsd.size; omega
            have z2 : w.heap.size < wd.heap.size := by omega
            clear hsd
            simp only [List.take_succ_cons, List.take_zero, List.drop_succ_cons, List.drop_zero]
            repeat still_step
            refine wpStill_nil ?_
            go_wp2_with (go_at_call 31; refine Calls.mono (HJA.out _ HGd.out.2.below) ?_; rintro e w6 ⟨rfl, hbn⟩; have hGw6 := HGd.out.1.later hbn; have hsw6 := HGd.out.2.later hbn)
            have HGw6 := hide (And.intro hGw6 hsw6)
            clear HGd a0 a1 b0 b1 z1 z2 hGw6 hbn
            have z1 : w.heap.size + 1 < w6.heap.size := by have := hsw6.size; omega
            have z2 : w.heap.size < w6.heap.size := by omega
            obtain ⟨a0, a1, b0, b1⟩ := And.intro hsw6.a0 (And.intro hsw6.a1 (And.intro hsw6.b0 hsw6.b1))
            clear hsw6
            cases g1 : adjL l (vi : Int) (xi : Int)
            · by_cases g2 : vk = xk
              · have q2 : ((vk : Int) == (xk : Int)) = true := by rw [g2]; simp
                go_wp2_with (fail)
                go_quiet (fail)
                have hGw7 := HGw6.out.1.later (below_drewN' (Below.refl _ _) nq)
                have hsw7 := HGw6.out.2.later (below_drewN' (Below.refl _ _) nq)
                generalize World.drewN w6 nq = w7 at hGw7 hsw7 ⊢
                have HGw7 := hide (And.intro hGw7 hsw7)
                clear HGw6 a0 a1 b0 b1 z1 z2
                obtain ⟨a0, a1, b0, b1⟩ := And.intro hsw7.a0 (And.intro hsw7.a1 (And.intro hsw7.b0 hsw7.b1))
                have z1 : w.heap.size + 1 < w7.heap.size := by have := hsw7.size; omega
                have z2 : w.heap.size < w7.heap.size := by omega
                clear hGw7 hsw7
                have hp : P v x = false := by rw [HPP.out]; simp [g0, g1, g2]
                have HROW := hide (rowTo_no (P := P) (v := v) (w := x) hp)
                clear hp
                go_wp2_with (fail)
                go_roundw
                case rel => exact ⟨x + 1, by omega, by omega, by go_num, hide ⟨E, f, by rw [HROW.out, HLL.out]; exact HGw7.out.1⟩⟩
                case measure => simp [intOf]; omega
              · have q2 : ((vk : Int) == (xk : Int)) = false := beq_eq_false_iff_ne.2 (by omega)
                cases g3 : adjL k (vk : Int) (xk : Int)
                · simp only [g3] at HJB
                  have hp : P v x = false := by rw [HPP.out]; simp [g0, g1, g2, g3]
                  have HROW := hide (rowTo_no (P := P) (v := v) (w := x) hp)
                  clear hp
                  go_wp2_with (fail)
                  refine wp_region_still_tail 19 (by kernel_rfl) (by kernel_rfl) ?_
                  change wpStill _ _ (World.drew w6) (fun a' => wpList _ _ _ _ a' (World.drew w6)) _ _
                  have hGd : SGr W3 24 (N : Int) (World.drew w6) L E f := HGw6.out.1.later (below_drewN' (Below.refl _ _) 1)
                  have hsd : SOf w n A l.length c m B k.length d (World.drew w6) := HGw6.out.2.later (below_drewN' (Below.refl _ _) 1)
                  generalize World.drew w6 = wd at hGd hsd ⊢
                  have HGd := hide (And.intro hGd hsd)
                  clear HGw6 a0 a1 b0 b1 z1 z2 hGd
                  obtain ⟨a0, a1, b0, b1⟩ := And.intro hsd.a0 (And.intro hsd.a1 (And.intro hsd.b0 hsd.b1))
                  have z1 : w.heap.size + 1 < wd.heap.size := by have := hsd.size; omega
                  have z2 : w.heap.size < wd.heap.size := by omega
                  clear hsd
                  simp only [List.take_succ_cons, List.take_zero, List.drop_succ_cons, List.drop_zero]
                  repeat still_step
                  refine wpStill_nil ?_
                  go_wp2_with (go_at_call 31; refine Calls.mono (HJB.out _ HGd.out.2.below) ?_; rintro e w7 ⟨rfl, hbn⟩; have hGw7 := HGd.out.1.later hbn; have hsw7 := HGd.out.2.later hbn)
                  have HGw7 := hide (And.intro hGw7 hsw7)
                  go_roundw
                  case rel => exact ⟨x + 1, by omega, by omega, by go_num, hide ⟨E, f, by rw [HROW.out, HLL.out]; exact HGw7.out.1⟩⟩
                  case measure => simp [intOf]; omega
                · simp only [g3] at HJB
                  have hp : P v x = false := by rw [HPP.out]; simp [g0, g1, g3]
                  have HROW := hide (rowTo_no (P := P) (v := v) (w := x) hp)
                  clear hp
                  go_wp2_with (fail)
                  refine wp_region_still_tail 19 (by kernel_rfl) (by kernel_rfl) ?_
                  change wpStill _ _ (World.drew w6) (fun a' => wpList _ _ _ _ a' (World.drew w6)) _ _
                  have hGd : SGr W3 24 (N : Int) (World.drew w6) L E f := HGw6.out.1.later (below_drewN' (Below.refl _ _) 1)
                  have hsd : SOf w n A l.length c m B k.length d (World.drew w6) := HGw6.out.2.later (below_drewN' (Below.refl _ _) 1)
                  generalize World.drew w6 = wd at hGd hsd ⊢
                  have HGd := hide (And.intro hGd hsd)
                  clear HGw6 a0 a1 b0 b1 z1 z2 hGd
                  obtain ⟨a0, a1, b0, b1⟩ := And.intro hsd.a0 (And.intro hsd.a1 (And.intro hsd.b0 hsd.b1))
                  have z1 : w.heap.size + 1 < wd.heap.size := by have := hsd.size; omega
                  have z2 : w.heap.size < wd.heap.size := by omega
                  clear hsd
                  simp only [List.take_succ_cons, List.take_zero, List.drop_succ_cons, List.drop_zero]
                  repeat still_step
                  refine wpStill_nil ?_
                  go_wp2_with (go_at_call 31; refine Calls.mono (HJB.out _ HGd.out.2.below) ?_; rintro e w7 ⟨rfl, hbn⟩; have hGw7 := HGd.out.1.later hbn; have hsw7 := HGd.out.2.later hbn)
                  have HGw7 := hide (And.intro hGw7 hsw7)
                  go_roundw
                  case rel => exact ⟨x + 1, by omega, by omega, by go_num, hide ⟨E, f, by rw [HROW.out, HLL.out]; exact HGw7.out.1⟩⟩
                  case measure => simp [intOf]; omega
            · by_cases g2 : vk = xk
              · have q2 : ((vk : Int) == (xk : Int)) = true := by rw [g2]; simp
                go_wp2_with (fail)
                go_quiet (fail)
                have hGw7 := HGw6.out.1.later (below_drewN' (Below.refl _ _) nq)
                have hsw7 := HGw6.out.2.later (below_drewN' (Below.refl _ _) nq)
                generalize World.drewN w6 nq = w7 at hGw7 hsw7 ⊢
                have HGw7 := hide (And.intro hGw7 hsw7)
                clear HGw6 a0 a1 b0 b1 z1 z2
                obtain ⟨a0, a1, b0, b1⟩ := And.intro hsw7.a0 (And.intro hsw7.a1 (And.intro hsw7.b0 hsw7.b1))
                have z1 : w.heap.size + 1 < w7.heap.size := by have := hsw7.size; omega
                have z2 : w.heap.size < w7.heap.size := by omega
                clear hGw7 hsw7
                have hp : P v x = true := by rw [HPP.out]; simp [g1, g2]
                have HROW := hide (rowTo_yes (P := P) (v := v) (w := x) (by omega) hp)
                clear hp
                have hzq := lt_of_block HGw7.out.1.box
                obtain ⟨c0, c1, c2, c3⟩ := HGw7.out.1.cells
                go_wp2_with (at_builtin; refine wp_app_pairs _ rfl (.tmp 77) (.tmp 81) rfl (W3.heap.size + 1) (.slice E L.length f) L rfl (own_below HGw7.out.1.own (below_alloc' (Below.refl _ _) _)) (some ⟨w7.heap.size, 0, none⟩) 1 1 [((v : Int), (x : Int))] rfl rfl (pairs_one (by simp) (by simp)) (by omega) (by rw [World.size_alloc]; omega) ?_; intro E' f' w9 hf9 ho9 hg9 _; obtain ⟨hG9, y1, y2⟩ := SGr.push HGw7.out.1 ho9 hg9; rw [HLEN.out] at hG9; have HG9 := hide hG9; clear ho9 hg9 hf9 hG9)
                go_roundw
                case rel => exact ⟨x + 1, by omega, by omega, by go_num, hide ⟨E', f', by rw [HROW.out, ← List.append_assoc, HLL.out]; exact HG9.out⟩⟩
                case measure => simp [intOf]; omega
              · have q2 : ((vk : Int) == (xk : Int)) = false := beq_eq_false_iff_ne.2 (by omega)
                cases g3 : adjL k (vk : Int) (xk : Int)
                · simp only [g3] at HJB
                  have hp : P v x = false := by rw [HPP.out]; simp [g1, g2, g3]
                  have HROW := hide (rowTo_no (P := P) (v := v) (w := x) hp)
                  clear hp
                  go_wp2_with (fail)
                  refine wp_region_still_tail 19 (by kernel_rfl) (by kernel_rfl) ?_
                  change wpStill _ _ (World.drew w6) (fun a' => wpList _ _ _ _ a' (World.drew w6)) _ _
                  have hGd : SGr W3 24 (N : Int) (World.drew w6) L E f := HGw6.out.1.later (below_drewN' (Below.refl _ _) 1)
                  have hsd : SOf w n A l.length c m B k.length d (World.drew w6) := HGw6.out.2.later (below_drewN' (Below.refl _ _) 1)
                  generalize World.drew w6 = wd at hGd hsd ⊢
                  have HGd := hide (And.intro hGd hsd)
                  clear HGw6 a0 a1 b0 b1 z1 z2 hGd
                  obtain ⟨a0, a1, b0, b1⟩ := And.intro hsd.a0 (And.intro hsd.a1 (And.intro hsd.b0 hsd.b1))
                  have z1 : w.heap.size + 1 < wd.heap.size := by have := hsd.size; omega
                  have z2 : w.heap.size < wd.heap.size := by omega
                  clear hsd
                  simp only [List.take_succ_cons, List.take_zero, List.drop_succ_cons, List.drop_zero]
                  repeat still_step
                  refine wpStill_nil ?_
                  go_wp2_with (go_at_call 31; refine Calls.mono (HJB.out _ HGd.out.2.below) ?_; rintro e w7 ⟨rfl, hbn⟩; have hGw7 := HGd.out.1.later hbn; have hsw7 := HGd.out.2.later hbn)
                  have HGw7 := hide (And.intro hGw7 hsw7)
                  go_roundw
                  case rel => exact ⟨x + 1, by omega, by omega, by go_num, hide ⟨E, f, by rw [HROW.out, HLL.out]; exact HGw7.out.1⟩⟩
                  case measure => simp [intOf]; omega
                · simp only [g3] at HJB
                  have hp : P v x = true := by rw [HPP.out]; simp [g1, g3]
                  have HROW := hide (rowTo_yes (P := P) (v := v) (w := x) (by omega) hp)
                  clear hp
                  go_wp2_with (fail)
                  refine wp_region_still_tail 19 (by kernel_rfl) (by kernel_rfl) ?_
                  change wpStill _ _ (World.drew w6) (fun a' => wpList _ _ _ _ a' (World.drew w6)) _ _
                  have hGd : SGr W3 24 (N : Int) (World.drew w6) L E f := HGw6.out.1.later (below_drewN' (Below.refl _ _) 1)
                  have hsd : SOf w n A l.length c m B k.length d (World.drew w6) := HGw6.out.2.later (below_drewN' (Below.refl _ _) 1)
                  generalize World.drew w6 = wd at hGd hsd ⊢
                  have HGd := hide (And.intro hGd hsd)
                  clear HGw6 a0 a1 b0 b1 z1 z2 hGd
                  obtain ⟨a0, a1, b0, b1⟩ := And.intro hsd.a0 (And.intro hsd.a1 (And.intro hsd.b0 hsd.b1))
                  have z1 : w.heap.size + 1 < wd.heap.size := by have := hsd.size; omega
                  have z2 : w.heap.size < wd.heap.size := by omega
                  clear hsd
                  simp only [List.take_succ_cons, List.take_zero, List.drop_succ_cons, List.drop_zero]
                  repeat still_step
                  refine wpStill_nil ?_
                  go_wp2_with (first
                    | (go_at_call 31; refine Calls.mono (HJB.out _ HGd.out.2.below) ?_; rintro e w7 ⟨rfl, hbn⟩; have hGw7 := HGd.out.1.later hbn; have hsw7 := HGd.out.2.later hbn; have hzw7 := lt_of_block hGw7.box; obtain ⟨c0, c1, c2, c3⟩ := hGw7.cells)
                    | (at_builtin; refine wp_app_pairs _ rfl (.tmp 77) (.tmp 81) rfl (W3.heap.size + 1) (.slice E L.length f) L rfl (own_below hGw7.own (below_alloc' (Below.refl _ _) _)) (some ⟨w7.heap.size, 0, none⟩) 1 1 [((v : Int), (x : Int))] rfl rfl (pairs_one (by simp) (by simp)) (by omega) (by rw [World.size_alloc]; omega) ?_; intro E' f' w9 hf9 ho9 hg9 _; obtain ⟨hG9, y1, y2⟩ := SGr.push hGw7 ho9 hg9; rw [HLEN.out] at hG9; have HG9 := hide hG9; clear ho9 hg9 hf9 hG9))
                  go_roundw
                  case rel => exact ⟨x + 1, by omega, by omega, by go_num, hide ⟨E', f', by rw [HROW.out, ← List.append_assoc, HLL.out]; exact HG9.out⟩⟩
                  case measure => simp [intOf]; omega
        · have hxN : x = N := by omega
          have x1 : ¬ (x : Int) < (N : Int) := by omega
          rw [← hL, hxN, ← allTo_succ] at HK
          have HV1 := hide (show v + 1 ≤ N from hvl)
          go_wp2_with (fail)
          go_roundw
          case rel => exact ⟨v + 1, HV1.out, by go_num, HK⟩
          case measure =>
            have := HV1.out
            simp [intOf]
            omega
    · obtain rfl : v = N := by omega
      have hrr := HB.out.later hGv.below
      obtain ⟨r0, r1, f0, f1⟩ := And.intro hrr.r0 (And.intro hrr.r1 (And.intro hrr.f0 hrr.f1))
      have zr : w.heap.size + 2 < wv.heap.size := by have := hrr.size; omega
      have hown := hGv.own
      have hcap := own_cap hGv.own
      have hbw := hrr.below
      have hzz : w.heap.size + 2 < W3.heap.size + 1 := by omega
      have hEb : ∀ x, Ev = some x → w.heap.size ≤ x.block ∧ x.block < ((wv.setCell ⟨w.heap.size + 2, 0, none⟩ (.int .i64 (v : Int))).setCell ⟨w.heap.size + 2, 1, none⟩ (.slice Ev (allTo P v v).length fv)).heap.size := fun x e => by
        rw [World.size_setCell, World.size_setCell]
        rcases own_at hGv.own with ⟨e', _⟩ | ⟨g, e', h, h'⟩
        · rw [e'] at e; cases e
        · rw [e'] at e
          injection e with e
          subst e
          exact ⟨by show w.heap.size ≤ g; omega, h'⟩
      go_wp2_with (fail)
      refine bodyPost_ret (v := .agg #[.int .i64 (v : Int), .slice Ev (allTo P v v).length fv]) (by simp [results, Tryd.results16, go_sem, r0, r1]) rfl ⟨Ev, fv, rfl, ?_, hcap, hEb, ?_⟩
      · exact Pairs.own (ownsRow_setCell_below (ownsRow_setCell_below hown (a := ⟨w.heap.size + 2, 0, none⟩) hzz _) (a := ⟨w.heap.size + 2, 1, none⟩) hzz _)
      · exact (hbw.setCell (p := ⟨w.heap.size + 2, 0, none⟩) (by show w.heap.size ≤ w.heap.size + 2; omega) _).setCell (p := ⟨w.heap.size + 2, 1, none⟩) (by show w.heap.size ≤ w.heap.size + 2; omega) _
end Go.Proofs.YtehheklbibocjaaDoor

/- Neighbours by bits and by lists are the same. No condition. -/
namespace Go.Proofs.YtehheklbibocjaaDoor

theorem orAt_bit (M : List Nat) (a x i : Nat) (ha : a < M.length) : (orAt M a x).getD i 0 = if a = i then M.getD a 0 ||| x else M.getD i 0 := by
  unfold orAt
  exact natGetD_set M a i _ ha
theorem put1_bit (M : List Nat) (e : Int × Int) (h0 : 0 ≤ e.1) (h1 : e.1 < e.2) (h2 : e.2 < (M.length : Int)) (i j : Nat) : ((put1 M e).getD i 0).testBit j = ((M.getD i 0).testBit j || adjAt e.1 e.2 (i : Int) (j : Int)) := by
  obtain ⟨p, q⟩ := e
  simp only at h0 h1 h2
  obtain ⟨a, rfl⟩ : ∃ a : Nat, p = (a : Int) := ⟨p.toNat, by omega⟩
  obtain ⟨b, rfl⟩ : ∃ b : Nat, q = (b : Int) := ⟨q.toNat, by omega⟩
  have hab : a ≠ b := by omega
  show ((orAt (orAt M (a : Int).toNat (2 ^ (b : Int).toNat)) (b : Int).toNat (2 ^ (a : Int).toNat)).getD i 0).testBit j = _
  rw [Int.toNat_natCast, Int.toNat_natCast, orAt_bit _ _ _ _ (by rw [orAt_length]; omega), orAt_bit _ _ _ _ (by omega), orAt_bit _ _ _ _ (by omega)]
  unfold adjAt
  have d1 : ((a : Int) == (i : Int)) = decide (a = i) := by rw [Bool.eq_iff_iff, beq_iff_eq, decide_eq_true_eq]; omega
  have d2 : ((b : Int) == (j : Int)) = decide (b = j) := by rw [Bool.eq_iff_iff, beq_iff_eq, decide_eq_true_eq]; omega
  have d3 : ((a : Int) == (j : Int)) = decide (a = j) := by rw [Bool.eq_iff_iff, beq_iff_eq, decide_eq_true_eq]; omega
  have d4 : ((b : Int) == (i : Int)) = decide (b = i) := by rw [Bool.eq_iff_iff, beq_iff_eq, decide_eq_true_eq]; omega
  rw [if_neg hab]
  show _ = ((M.getD i 0).testBit j || (((a : Int) == (i : Int)) && ((b : Int) == (j : Int)) || ((a : Int) == (j : Int)) && ((b : Int) == (i : Int))))
  rw [d1, d2, d3, d4]
  by_cases hbi : b = i
  · subst hbi
    rw [if_pos rfl, Nat.testBit_or, Nat.testBit_two_pow]
    simp [hab]
  · rw [if_neg hbi]
    by_cases hai : a = i
    · subst hai
      rw [if_pos rfl, Nat.testBit_or, Nat.testBit_two_pow]
      simp [hbi]
    · rw [if_neg hai]
      simp [hai, hbi]
theorem putAll_bit (l : List (Int × Int)) (i j : Nat) : ∀ M : List Nat, (∀ e, e ∈ l → 0 ≤ e.1 ∧ e.1 < e.2 ∧ e.2 < (M.length : Int)) → ((l.foldl put1 M).getD i 0).testBit j = ((M.getD i 0).testBit j || adjL l (i : Int) (j : Int)) := by
  induction l with
  | nil =>
    intro M _
    show _ = ((M.getD i 0).testBit j || false)
    rw [Bool.or_false]
    rfl
  | cons e l ih =>
    intro M h
    have he := h e (List.mem_cons_self ..)
    rw [List.foldl_cons, ih (put1 M e) (fun x hx => by rw [put1_length]; exact h x (List.mem_cons_of_mem _ hx)), put1_bit M e he.1 he.2.1 he.2.2, Bool.or_assoc]
    rfl
theorem near_bit {n : Nat} {l : List (Int × Int)} (hg : GoodE n l l.length) (i j : Nat) : ((nearL n l).getD i 0).testBit j = adjL l (i : Int) (j : Int) := by
  unfold nearL
  rw [putAll_bit]
  · rw [natRep, Nat.zero_testBit, Bool.false_or]
  · intro e he
    obtain ⟨k, hk, rfl⟩ := List.getElem_of_mem he
    have := hg.edge hk
    rw [getD_eq l k _ hk] at this
    rw [List.length_replicate]
    exact this
theorem strong_same {n m : Nat} {l k : List (Int × Int)} (h1 : GoodE n l l.length) (h2 : GoodE m k k.length) : strongP (nearL n l) (nearL m k) m = strongQ l k m := by
  funext v w
  unfold strongP strongQ
  rw [near_bit h1, near_bit h2]
end Go.Proofs.YtehheklbibocjaaDoor

/- The search's answer, plain: a fold over all extensions in their order. No condition. -/
namespace Go.Proofs.YtehheklbibocjaaDoor

theorem popN_low (d x : Nat) : popN (d + 1) x = x % 2 + popN d (x / 2) := by
  unfold popN
  rw [List.range_succ_eq_map, List.filter_cons, List.filter_map, ]
  have e : ((fun i => x.testBit i) ∘ Nat.succ) = fun i => (x / 2).testBit i := by
    funext i
    exact Nat.testBit_succ x i
  rw [e, Nat.testBit_zero]
  rcases Nat.mod_two_eq_zero_or_one x with h | h <;> rw [h] <;> simp <;> omega
theorem pop_popN (x : Nat) : pop x = popN 16 x := rfl
theorem pop_low {x : Nat} (h : x < 2 ^ 16) : pop x = x % 2 + pop (x / 2) := by
  rw [pop_popN, pop_popN, popN_low, popN_succ 15 (x / 2)]
  have hx : x / 2 < 2 ^ 15 := by
    have e : (2 : Nat) ^ 16 = 2 * 2 ^ 15 := by rw [Nat.pow_succ, Nat.mul_comm]
    omega
  rw [Nat.testBit_lt_two_pow hx, if_neg (by decide), Nat.add_zero]
theorem filter_mono {α : Type} (p q : α → Bool) (h : ∀ x, p x = true → q x = true) (l : List α) : (l.filter p).length ≤ (l.filter q).length := by
  induction l with
  | nil => exact Nat.le_refl _
  | cons x l ih =>
    rw [List.filter_cons, List.filter_cons]
    by_cases hp : p x = true
    · rw [if_pos hp, if_pos (h x hp), List.length_cons, List.length_cons]
      omega
    · rw [if_neg hp]
      split
      · rw [List.length_cons]; omega
      · exact ih
theorem pop_mono {a b : Nat} (h : ∀ i, a.testBit i = true → b.testBit i = true) : pop a ≤ pop b := filter_mono _ _ h _
theorem div_bit (x v i : Nat) : (x / 2 ^ v).testBit i = x.testBit (v + i) := by rw [Nat.testBit_div_two_pow, Nat.add_comm]
theorem without_bit {left m : Nat} (i : Nat) (h : (without left m).testBit i = true) : left.testBit i = true := by
  unfold without at h
  rw [Nat.testBit_and] at h
  exact (Bool.and_eq_true_iff.1 h).1
theorem pop_without (left m v : Nat) : pop (without left m / 2 ^ v) ≤ pop (left / 2 ^ v) := pop_mono fun i h => by
  rw [div_bit] at h ⊢
  exact without_bit _ h

/-- all lists that begin with now and go on with vertices that may join, in their order -/
def exts (M : List Nat) (n : Nat) : Nat → Nat → List Int → List (List Int)
  | 0, _, _ => []
  | k + 1, left, now =>
    if (left / 2 ^ (n - (k + 1))) % 2 = 0 then exts M n k left now
    else (now ++ [((n - (k + 1) : Nat) : Int)]) :: (exts M n k (without left (M.getD (n - (k + 1)) 0)) (now ++ [((n - (k + 1) : Nat) : Int)]) ++ exts M n k left now)
theorem exts_length {M : List Nat} {n : Nat} : ∀ (k left : Nat) (now l : List Int), k ≤ n → left < 2 ^ 16 → l ∈ exts M n k left now → l.length ≤ now.length + pop (left / 2 ^ (n - k)) := by
  intro k
  induction k with
  | zero => intro left now l _ _ h; simp [exts] at h
  | succ k ih =>
    intro left now l hk hl h
    have hv : n - k = (n - (k + 1)) + 1 := by omega
    have hx : left / 2 ^ (n - k) = left / 2 ^ (n - (k + 1)) / 2 := by rw [hv, Nat.pow_succ, Nat.div_div_eq_div_mul]
    have hp := pop_low (div_lt16 (v := n - (k + 1)) hl)
    have i0 := fun l' h' => ih left now l' (by omega) hl h'
    rw [hx] at i0
    unfold exts at h
    by_cases hb : (left / 2 ^ (n - (k + 1))) % 2 = 0
    · rw [if_pos hb] at h
      have := i0 l h
      omega
    · rw [if_neg hb] at h
      have h1 : (left / 2 ^ (n - (k + 1))) % 2 = 1 := (Nat.mod_two_eq_zero_or_one _).resolve_left hb
      rcases List.mem_cons.1 h with h | h
      · rw [h, List.length_append, List.length_singleton]
        omega
      · rcases List.mem_append.1 h with h | h
        · have i1 := ih (without left (M.getD (n - (k + 1)) 0)) _ l (by omega) (without_lt hl) h
          have i2 := pop_without left (M.getD (n - (k + 1)) 0) (n - k)
          rw [hx] at i2
          rw [hx] at *
          rw [List.length_append, List.length_singleton] at i1
          omega
        · have := i0 l h
          omega
/-- the better one, the list's way round -/
def best (L : List (List Int)) (b : List Int) : List Int := L.foldl (fun b l => upd l b) b
theorem best_same {L : List (List Int)} {b : List Int} (h : ∀ l, l ∈ L → l.length ≤ b.length) : best L b = b := by
  induction L with
  | nil => rfl
  | cons l L ih =>
    show best L (upd l b) = b
    have e : upd l b = b := by unfold upd; rw [if_neg (by have := h l (List.mem_cons_self ..); omega)]
    rw [e]
    exact ih fun l' h' => h l' (List.mem_cons_of_mem _ h')
theorem best_append (L K : List (List Int)) (b : List Int) : best (L ++ K) b = best K (best L b) := List.foldl_append
theorem loop_exts {M : List Nat} {n : Nat} : ∀ (k left : Nat) (now b : List Int), k ≤ n → left < 2 ^ 16 → loopF M n k left now b = best (exts M n k left now) b := by
  intro k
  induction k with
  | zero => intro left now b _ _; rfl
  | succ k ih =>
    intro left now b hk hl
    have hv : n - k = (n - (k + 1)) + 1 := by omega
    have hx : left / 2 ^ (n - k) = left / 2 ^ (n - (k + 1)) / 2 := by rw [hv, Nat.pow_succ, Nat.div_div_eq_div_mul]
    have hp := pop_low (div_lt16 (v := n - (k + 1)) hl)
    by_cases hb : (left / 2 ^ (n - (k + 1))) % 2 = 0
    · rw [loopF_skip (.inl hb), ih left now b (by omega) hl]
      conv => rhs; unfold exts
      rw [if_pos hb]
    · have h1 : (left / 2 ^ (n - (k + 1))) % 2 = 1 := (Nat.mod_two_eq_zero_or_one _).resolve_left hb
      have he : exts M n (k + 1) left now = ((now ++ [((n - (k + 1) : Nat) : Int)]) :: exts M n k (without left (M.getD (n - (k + 1)) 0)) (now ++ [((n - (k + 1) : Nat) : Int)])) ++ exts M n k left now := by
        conv => lhs; unfold exts
        rw [if_neg hb]
        rfl
      rw [he, best_append]
      by_cases hc : now.length + pop (left / 2 ^ (n - (k + 1))) ≤ b.length
      · rw [loopF_skip (.inr hc), ih left now b (by omega) hl]
        congr 1
        refine (best_same fun l h => ?_).symm
        rcases List.mem_cons.1 h with h | h
        · rw [h, List.length_append, List.length_singleton]
          omega
        · have i1 := exts_length k (without left (M.getD (n - (k + 1)) 0)) _ l (by omega) (without_lt hl) h
          have i2 := pop_without left (M.getD (n - (k + 1)) 0) (n - k)
          rw [hx] at i2
          rw [hx] at *
          rw [List.length_append, List.length_singleton] at i1
          omega
      · rw [loopF_take (fun h => h.elim hb hc), ih left now _ (by omega) hl, ih _ _ _ (by omega) (without_lt hl)]
        rfl

theorem without_iff {left m i : Nat} (hm : m < 2 ^ 16) (hi : i < 64) : (without left m).testBit i = (left.testBit i && !m.testBit i) := by
  unfold without
  have e : (18446744073709551615 - m : Nat) = 2 ^ 64 - (m + 1) := by omega
  rw [Nat.testBit_and, e, Nat.testBit_two_pow_sub_succ (Nat.lt_trans hm (by decide)), decide_eq_true hi, Bool.true_and]
/-- a list of vertices that may go on: in order, none neighbour to another one -/
structure OkT (M : List Nat) (left lo n : Nat) (t : List Nat) : Prop where
  mem : ∀ u, u ∈ t → left.testBit u = true ∧ lo ≤ u ∧ u < n
  pair : t.Pairwise fun u w => u < w ∧ (M.getD u 0).testBit w = false
def toI (t : List Nat) : List Int := t.map fun (u : Nat) => (u : Int)
theorem bit_div (x v : Nat) : x.testBit v = decide (x / 2 ^ v % 2 = 1) := Nat.testBit_eq_decide_div_mod_eq
theorem mem_exts {M : List Nat} {n : Nat} (hn : n ≤ 16) (hM : Low M) : ∀ (k left : Nat) (now l : List Int), k ≤ n → (l ∈ exts M n k left now ↔ ∃ t, t ≠ [] ∧ l = now ++ toI t ∧ OkT M left (n - k) n t) := by
  intro k
  induction k with
  | zero =>
    intro left now l _
    constructor
    · intro h; simp [exts] at h
    · rintro ⟨t, h0, _, h⟩
      cases t with
      | nil => exact absurd rfl h0
      | cons u t =>
        have := h.mem u (List.mem_cons_self ..)
        omega
  | succ k ih =>
    intro left now l hk
    obtain ⟨v, hv⟩ : ∃ v, n - (k + 1) = v := ⟨_, rfl⟩
    have hv1 : n - k = v + 1 := by omega
    have hvn : v < n := by omega
    have skip : ∀ t, OkT M left (v + 1) n t → OkT M left v n t := fun t h => ⟨fun u hu => ⟨(h.mem u hu).1, by have := (h.mem u hu).2.1; omega, (h.mem u hu).2.2⟩, h.pair⟩
    have low : ∀ t, OkT M left v n t → (∀ u, u ∈ t → u ≠ v) → OkT M left (v + 1) n t := fun t h hne => ⟨fun u hu => ⟨(h.mem u hu).1, by have := (h.mem u hu).2.1; have := hne u hu; omega, (h.mem u hu).2.2⟩, h.pair⟩
    unfold exts
    rw [hv]
    by_cases hb : (left / 2 ^ v) % 2 = 0
    · rw [if_pos hb, ih left now l (by omega), hv1]
      have hf : left.testBit v = false := by rw [bit_div, decide_eq_false (by omega)]
      constructor
      · rintro ⟨t, h0, h1, h2⟩
        exact ⟨t, h0, h1, skip t h2⟩
      · rintro ⟨t, h0, h1, h2⟩
        refine ⟨t, h0, h1, low t h2 fun u hu e => ?_⟩
        have := (h2.mem u hu).1
        rw [e, hf] at this
        cases this
    · rw [if_neg hb, List.mem_cons, List.mem_append, ih _ _ l (by omega), ih left now l (by omega), hv1]
      have ht : left.testBit v = true := by rw [bit_div, decide_eq_true (by omega)]
      constructor
      · rintro (h | ⟨t, h0, h1, h2⟩ | ⟨t, h0, h1, h2⟩)
        · exact ⟨[v], by simp, h, ⟨fun u hu => by rw [List.mem_singleton] at hu; subst hu; exact ⟨ht, Nat.le_refl _, hvn⟩, List.pairwise_singleton _ _⟩⟩
        · refine ⟨v :: t, by simp, by rw [h1, List.append_assoc]; rfl, ⟨fun u hu => ?_, List.pairwise_cons.2 ⟨fun u hu => ?_, h2.pair⟩⟩⟩
          · rcases List.mem_cons.1 hu with e | hu
            · rw [e]; exact ⟨ht, Nat.le_refl _, hvn⟩
            · have := h2.mem u hu
              exact ⟨without_bit u this.1, by omega, this.2.2⟩
          · have := h2.mem u hu
            rw [without_iff (hM v) (by omega)] at this
            have h3 := (Bool.and_eq_true_iff.1 this.1).2
            exact ⟨by omega, by cases q : (M.getD v 0).testBit u <;> rw [q] at h3 <;> first | rfl | cases h3⟩
        · exact ⟨t, h0, h1, skip t h2⟩
      · rintro ⟨t, h0, h1, h2⟩
        cases t with
        | nil => exact absurd rfl h0
        | cons u t =>
          obtain ⟨hp1, hp2⟩ := List.pairwise_cons.1 h2.pair
          by_cases e : u = v
          · subst e
            by_cases h0' : t = []
            · exact .inl (by rw [h1, h0']; rfl)
            · refine .inr (.inl ⟨t, h0', by rw [h1, List.append_assoc]; rfl, ⟨fun w hw => ?_, hp2⟩⟩)
              have h4 := hp1 w hw
              have h5 := h2.mem w (List.mem_cons_of_mem _ hw)
              exact ⟨by rw [without_iff (hM u) (by omega), h5.1, h4.2]; rfl, by omega, h5.2.2⟩
          · refine .inr (.inr ⟨u :: t, h0, h1, low _ h2 fun w hw e' => ?_⟩)
            have hu := h2.mem u (List.mem_cons_self ..)
            rcases List.mem_cons.1 hw with q | q
            · exact e (by rw [← q]; exact e')
            · have := (hp1 w q).1
              omega

/-- does one list stand ahead of another one? -/
def aheadL : List Int → List Int → Bool
  | x :: a, y :: b => if x = y then aheadL a b else decide (x < y)
  | _, _ => false
theorem aheadL_prefix (now a b : List Int) : aheadL (now ++ a) (now ++ b) = aheadL a b := by
  induction now with
  | nil => rfl
  | cons x now ih =>
    show (if x = x then aheadL (now ++ a) (now ++ b) else decide (x < x)) = _
    rw [if_pos rfl, ih]
theorem aheadL_asymm : ∀ a b : List Int, aheadL a b = true → aheadL b a = false
  | [], _, h => by cases h
  | _ :: _, [], h => by cases h
  | x :: a, y :: b, h => by
    have e1 : aheadL (x :: a) (y :: b) = if x = y then aheadL a b else decide (x < y) := rfl
    have e2 : aheadL (y :: b) (x :: a) = if y = x then aheadL b a else decide (y < x) := rfl
    rw [e1] at h
    rw [e2]
    by_cases q : x = y
    · rw [if_pos q] at h
      rw [if_pos q.symm]
      exact aheadL_asymm a b h
    · rw [if_neg q] at h
      rw [if_neg (Ne.symm q)]
      have := of_decide_eq_true h
      exact decide_eq_false (by omega)
theorem exts_order {M : List Nat} {n : Nat} (hn : n ≤ 16) (hM : Low M) : ∀ (k left : Nat) (now : List Int), k ≤ n → (exts M n k left now).Pairwise fun a b => a.length = b.length → aheadL a b = true := by
  intro k
  induction k with
  | zero => intro left now _; exact List.Pairwise.nil
  | succ k ih =>
    intro left now hk
    have m1 := fun left now l => mem_exts (n := n) hn hM k left now l (by omega)
    unfold exts
    obtain ⟨v, hv⟩ : ∃ v, n - (k + 1) = v := ⟨_, rfl⟩
    have hv1 : n - k = v + 1 := by omega
    rw [hv]
    by_cases hb : (left / 2 ^ v) % 2 = 0
    · rw [if_pos hb]
      exact ih left now (by omega)
    · rw [if_neg hb]
      have cross : ∀ (t1 : List Nat) (l2 : List Int), l2 ∈ exts M n k left now → aheadL (now ++ ((v : Int) :: toI t1)) l2 = true := fun t1 l2 h2 => by
        obtain ⟨t, h0, rfl, h⟩ := (m1 left now l2).1 h2
        cases t with
        | nil => exact absurd rfl h0
        | cons u t =>
          have hu := (h.mem u (List.mem_cons_self ..)).2.1
          rw [hv1] at hu
          rw [aheadL_prefix]
          show (if (v : Int) = (u : Int) then _ else decide ((v : Int) < (u : Int))) = true
          rw [if_neg (by omega)]
          exact decide_eq_true (by omega)
      refine List.pairwise_cons.2 ⟨fun b hb' => ?_, List.pairwise_append.2 ⟨ih _ _ (by omega), ih _ _ (by omega), fun a ha b hb' _ => ?_⟩⟩
      · rcases List.mem_append.1 hb' with h | h
        · intro e
          obtain ⟨t, h0, rfl, _⟩ := (m1 _ _ b).1 h
          cases t with
          | nil => exact absurd rfl h0
          | cons u t =>
            simp [toI] at e
        · intro _
          exact cross [] b h
      · obtain ⟨t, h0, rfl, _⟩ := (m1 _ _ a).1 ha
        have := cross t b hb'
        rw [List.append_assoc]
        exact this
/-- what the fold gives -/
theorem best_spec : ∀ (L : List (List Int)), (L.Pairwise fun a b => a.length = b.length → aheadL a b = true) → ∀ b : List Int,
    (best L b = b ∧ ∀ l, l ∈ L → l.length ≤ b.length) ∨ (best L b ∈ L ∧ b.length < (best L b).length ∧ ∀ l, l ∈ L → l.length < (best L b).length ∨ l = best L b ∨ (l.length = (best L b).length ∧ aheadL (best L b) l = true))
  | [], _, b => .inl ⟨rfl, fun l h => by cases h⟩
  | x :: L, hp, b => by
    obtain ⟨h1, h2⟩ := List.pairwise_cons.1 hp
    have e : best (x :: L) b = best L (upd x b) := rfl
    rw [e]
    by_cases q : b.length < x.length
    · have u : upd x b = x := by unfold upd; rw [if_pos q]
      rw [u]
      rcases best_spec L h2 x with ⟨i1, i2⟩ | ⟨i1, i2, i3⟩
      · rw [i1]
        refine .inr ⟨List.mem_cons_self .., q, fun l hl => ?_⟩
        rcases List.mem_cons.1 hl with r | r
        · exact .inr (.inl r)
        · rcases Nat.lt_or_eq_of_le (i2 l r) with s | s
          · exact .inl s
          · exact .inr (.inr ⟨s, h1 l r s.symm⟩)
      · refine .inr ⟨List.mem_cons_of_mem _ i1, by omega, fun l hl => ?_⟩
        rcases List.mem_cons.1 hl with r | r
        · exact .inl (by rw [r]; exact i2)
        · exact i3 l r
    · have u : upd x b = b := by unfold upd; rw [if_neg q]
      rw [u]
      rcases best_spec L h2 b with ⟨i1, i2⟩ | ⟨i1, i2, i3⟩
      · refine .inl ⟨i1, fun l hl => ?_⟩
        rcases List.mem_cons.1 hl with r | r
        · rw [r]; omega
        · exact i2 l r
      · refine .inr ⟨List.mem_cons_of_mem _ i1, i2, fun l hl => ?_⟩
        rcases List.mem_cons.1 hl with r | r
        · exact .inl (by rw [r]; omega)
        · exact i3 l r
/-- a set of vertices that stand alone, in order -/
structure Ind (M : List Nat) (n : Nat) (t : List Nat) : Prop where
  mem : ∀ u, u ∈ t → u < n
  pair : t.Pairwise fun u w => u < w ∧ (M.getD u 0).testBit w = false
/-- the longest one, of these the first -/
structure First (M : List Nat) (n : Nat) (r : List Int) : Prop where
  is_ : ∃ t, r = toI t ∧ Ind M n t
  first : ∀ t, Ind M n t → (toI t).length < r.length ∨ toI t = r ∨ ((toI t).length = r.length ∧ aheadL r (toI t) = true)
theorem First.same {M : List Nat} {n : Nat} {r s : List Int} (h : First M n r) (k : First M n s) : r = s := by
  obtain ⟨t, ht, it⟩ := h.is_
  obtain ⟨u, hu, iu⟩ := k.is_
  have a := h.first u iu
  have b := k.first t it
  rw [← hu] at a
  rw [← ht] at b
  rcases a with a | a | ⟨a, a'⟩
  · rcases b with b | b | ⟨b, _⟩
    · omega
    · exact b
    · omega
  · exact a.symm
  · rcases b with b | b | ⟨_, b'⟩
    · omega
    · exact b
    · have := aheadL_asymm _ _ a'
      rw [b'] at this
      cases this
theorem full_bit {n u : Nat} : (2 ^ n - 1).testBit u = decide (u < n) := Nat.testBit_two_pow_sub_one n u
theorem alone_first {n : Nat} {l : List (Int × Int)} (hn : n ≤ 16) (hM : Low (nearL n l)) : First (nearL n l) n (aloneL n l) := by
  have hf16 : 2 ^ n - 1 < 2 ^ 16 := by
    have h1 : 2 ^ n ≤ 2 ^ 16 := Nat.pow_le_pow_right (by decide) hn
    have h0 : 1 ≤ 2 ^ n := Nat.two_pow_pos n
    omega
  have e : aloneL n l = best (exts (nearL n l) n n (2 ^ n - 1) []) [] := loop_exts n _ [] [] (Nat.le_refl _) hf16
  have hm : ∀ q, q ∈ exts (nearL n l) n n (2 ^ n - 1) [] ↔ ∃ t, t ≠ [] ∧ q = toI t ∧ Ind (nearL n l) n t := fun q => by
    rw [mem_exts hn hM n (2 ^ n - 1) [] q (Nat.le_refl _), Nat.sub_self]
    constructor
    · rintro ⟨t, h0, h1, h2⟩
      exact ⟨t, h0, h1, ⟨fun u hu => (h2.mem u hu).2.2, h2.pair⟩⟩
    · rintro ⟨t, h0, h1, h2⟩
      exact ⟨t, h0, h1, ⟨fun u hu => ⟨by rw [full_bit, decide_eq_true (h2.mem u hu)], Nat.zero_le _, h2.mem u hu⟩, h2.pair⟩⟩
  rw [e]
  rcases best_spec _ (exts_order hn hM n (2 ^ n - 1) [] (Nat.le_refl _)) [] with ⟨i1, i2⟩ | ⟨i1, i2, i3⟩
  · rw [i1]
    refine ⟨⟨[], rfl, ⟨fun u h => (by cases h), List.Pairwise.nil⟩⟩, fun t ht => ?_⟩
    by_cases h0 : t = []
    · exact .inr (.inl (by rw [h0]; rfl))
    · have := i2 (toI t) ((hm _).2 ⟨t, h0, rfl, ht⟩)
      cases t with
      | nil => exact absurd rfl h0
      | cons u t => simp [toI] at this
  · obtain ⟨t, h0, h1, h2⟩ := (hm _).1 i1
    refine ⟨⟨t, h1, h2⟩, fun u hu => ?_⟩
    by_cases h0 : u = []
    · refine .inl ?_
      rw [h0]
      exact i2
    · exact i3 _ ((hm _).2 ⟨u, h0, rfl, hu⟩)
end Go.Proofs.YtehheklbibocjaaDoor
