/- The walk of ising.bonds, with either closure. No condition. -/
import Derived.Test.YtngogonepjicpaaDoorGr3
import Derived.Deep.RegionHeld3
namespace Go.Proofs.YtngogonepjicpaaDoor
open Go.RowKit Go.Deep

/-- what bonds leaves: the system at Bs has the bonds l; nothing else is turned -/
def BondsPost (l : List (Int × Int)) (Bs : Nat) (n : Int) (w : World) (e : Ending) (w' : World) : Prop :=
  e = .returned (.tuple #[]) ∧ ∃ A c, w'.heap[Bs]? = some (.cells #[.int .i64 n, .slice A l.length c] 35 (0, 0)) ∧ Pairs w' A l ∧ l.length ≤ c ∧ w.grownBy w' (some Bs) ∧ ∀ k, (Value.slice A l.length c).ownBlock = some k → w.heap.size ≤ k
theorem grown_then' {a b c : World} {r : Option Nat} (h : a.grownBy b r) (k : b.grownBy c r) : a.grownBy c r :=
  ⟨k.os.trans h.os, k.tape.trans h.tape, k.output.trans h.output, Nat.le_trans h.size k.size, fun i hi hne => (k.block i (Nat.lt_of_lt_of_le hi h.size) hne).trans (h.block i hi hne)⟩

set_option maxRecDepth 100000 in
set_option maxHeartbeats 4000000 in
theorem bondsGrid_ok (h L : Nat) (w : World) (Bs : Nat) (n : Int) (hB : w.heap[Bs]? = some (.cells #[.int .i64 n, .slice none 0 0] 35 (0, 0))) (hh : h ≤ 100) (hL : L ≤ 100) (hh1 : 1 ≤ h) (hL1 : 1 ≤ L) :
    Calls Tryd.prog 48 #[.int .i64 h, .int .i64 L, .func (.func 49) #[] #[.pointer (some ⟨Bs, 0, none⟩)]] w (BondsPost (upto (gridAt h L) h L 0) Bs n w) := by
  have hmf : ∀ (fn : Fn) (first cap : Array Value) (w : World), (Instr.makeFunc fn first cap).run Tryd.prog w = .ok (.func fn first cap) w := fun _ _ _ _ => rfl
  obtain ⟨q0, hq0, hq0'⟩ := prod_small (a := (h : Int) - 1) (b := (L : Int) - 1) (m := 100) (n := 100) (by omega) (by omega) (by omega) (by omega)
  have hBlt := Array.getElem?_eq_some_iff.1 hB |>.1
  go_enter Tryd.func48, Tryd.ntmps48
  go_wp2_with (fail)
  obtain ⟨W1, hW1⟩ : ∃ W1 : World, W1 = ((w.alloc (.cells #[.int .i64 h] 3)).alloc (.cells #[.int .i64 L] 3)).alloc (.cells #[.int .i64 q0] 3) := ⟨_, rfl⟩
  rw [← hW1]
  have x0 : W1.cell? ⟨w.heap.size, 0, none⟩ = some (.int .i64 h) := by rw [hW1]; go_simp
  have x1 : W1.cell? ⟨w.heap.size + 1, 0, none⟩ = some (.int .i64 L) := by rw [hW1]; go_simp
  have x2 : W1.cell? ⟨w.heap.size + 1 + 1, 0, none⟩ = some (.int .i64 q0) := by rw [hW1]; go_simp
  have hsz : W1.heap.size = w.heap.size + 3 := by rw [hW1]; simp
  have hGw : w.grownBy W1 (some Bs) := by rw [hW1]; exact grown_then' (grown_then' (World.grownBy_alloc _ _ _) (World.grownBy_alloc _ _ _)) (World.grownBy_alloc _ _ _)
  have hB1 : W1.heap[Bs]? = some (.cells #[.int .i64 n, .slice none 0 0] 35 (0, 0)) := by
    rw [hW1, (World.grownBy_alloc _ _ none).block Bs (by simp; omega) (by simp), (World.grownBy_alloc _ _ none).block Bs (by simp; omega) (by simp), (World.grownBy_alloc _ _ none).block Bs hBlt (by simp)]
    exact hB
  clear hW1
  have hI0 : PutInv W1 W1 Bs n (upto (gridAt h L) h 0 0) := ⟨⟨none, 0, hB1, nil_own _ _ _ _⟩, World.grownBy.refl _ _, by omega⟩
  generalize hzz : w.heap.size = z at *
  have HZ := hide hzz
  clear hzz
  go_loopw [18] (fun i wr => ∃ c : Nat, c ≤ L ∧ i = .int .i64 c ∧ PutInv W1 wr Bs n (upto (gridAt h L) h c 0)) (fun i _ => L - (intOf i).toNat)
  case atStart => exact ⟨0, Nat.zero_le _, rfl, hI0⟩
  case round =>
    obtain ⟨c, hc, rfl, hI⟩ := hrel
    have y0 : wr.cell? ⟨z, 0, none⟩ = some (.int .i64 h) := (hI.cell (by omega) (by omega) 0).trans x0
    have y1 : wr.cell? ⟨z + 1, 0, none⟩ = some (.int .i64 L) := (hI.cell (by omega) (by omega) 0).trans x1
    have y2 : wr.cell? ⟨z + 1 + 1, 0, none⟩ = some (.int .i64 q0) := (hI.cell (by omega) (by omega) 0).trans x2
    by_cases hcl : c < L
    · go_wp2_with (fail)
      clear y0 y1 y2
      go_loopw [22] (fun i wr => ∃ r : Nat, r ≤ h ∧ i = .int .i64 r ∧ PutInv W1 wr Bs n (upto (gridAt h L) h c r)) (fun i _ => h - (intOf i).toNat)
      case atStart => exact ⟨0, Nat.zero_le _, rfl, hI⟩
      case round =>
        obtain ⟨r, hr, rfl, hI⟩ := hrel
        have y0 : wr.cell? ⟨z, 0, none⟩ = some (.int .i64 h) := (hI.cell (by omega) (by omega) 0).trans x0
        have y1 : wr.cell? ⟨z + 1, 0, none⟩ = some (.int .i64 L) := (hI.cell (by omega) (by omega) 0).trans x1
        have y2 : wr.cell? ⟨z + 1 + 1, 0, none⟩ = some (.int .i64 q0) := (hI.cell (by omega) (by omega) 0).trans x2
        by_cases hrh : r < h
        · obtain ⟨q, hq, hq1⟩ : ∃ q : Nat, (c : Int) * h = q ∧ q ≤ 10000 := ⟨c * h, by push_cast; rfl, Nat.mul_le_mul (by omega : c ≤ 100) hh⟩
          have hstep := upto_row (gridAt h L) h c r
          have hlen : (upto (gridAt h L) h c r).length ≤ 99998 := by
            have h1 := upto_len (gridAt h L) (gridAt_len h L) h c r
            have h2 : c * (h * 2) ≤ 100 * (100 * 2) := Nat.mul_le_mul (by omega) (by omega)
            omega
          unfold gridAt at hstep
          try rw [hq] at hstep
          have HST := hide hstep
          clear hstep
          change Hid (upto (gridAt h L) h c (r + 1) = upto (gridAt h L) h c r ++ _) at HST
          generalize upto (gridAt h L) h c r = l0 at hI hlen HST
          have hw1 : IntKind.i64.wrap ((r : Int) - 1) = (r : Int) - 1 := by rw [IntKind.wrap_i64]; omega
          have hw2 : IntKind.i64.wrap ((q : Int) + (r : Int) + (h : Int)) = (q : Int) + (r : Int) + (h : Int) := by rw [IntKind.wrap_i64]; omega
          by_cases h1 : r + 1 < h <;> by_cases h2 : c + 1 < L
          · go_wp2_with (first
              | (go_at_call 62
                 refine (face_ok h L _ _ wr (z + 1) z (z + 1 + 1) hh1 hh hL1 hL (by omega) (by omega) (by omega) (by omega) y1 y0 (by rw [hq0]; exact y2)).mono ?_
                 rintro e w' ⟨rfl, rfl⟩)
              | (go_at_call 49
                 refine (putGrid_ok W1 wr Bs n l0 _ _ _ _ hI (by omega)).mono ?_
                 rintro e w1 ⟨rfl, hI1⟩
                 have z0 : w1.cell? ⟨z, 0, none⟩ = some (.int .i64 h) := (hI1.cell (by omega) (by omega) 0).trans x0
                 have z1 : w1.cell? ⟨z + 1, 0, none⟩ = some (.int .i64 L) := (hI1.cell (by omega) (by omega) 0).trans x1
                 have z2 : w1.cell? ⟨z + 1 + 1, 0, none⟩ = some (.int .i64 q0) := (hI1.cell (by omega) (by omega) 0).trans x2))
            go_region_held3 (fun w' => w'.cell? ⟨z, 0, none⟩ = some (.int .i64 h))
              (first | go_keep | assumption)
              ((first
                | (go_at_call 62
                   refine Calls.mono (face_ok h L _ _ _ (z + 1) z (z + 1 + 1) hh1 hh hL1 hL (by omega) (by omega) (by omega) (by omega) (by simpa using z1) (by simpa using z0) (by rw [hq0]; simpa using z2)) ?_
                   rintro e w' ⟨rfl, rfl⟩)
                | (go_at_call 49
                   refine Calls.mono (putGrid_ok W1 _ Bs n _ _ _ _ _ (by first | exact hI1.drew | exact hI1.drew.drew | exact hI1.drew.drew.drew) (by first | omega | (simp; omega))) ?_
                   rintro e w2 ⟨rfl, hI2⟩
                   have v0 : w2.cell? ⟨z, 0, none⟩ = some (.int .i64 h) := (hI2.cell (by omega) (by omega) 0).trans x0)))
            go_wp2_with (fail)
            go_roundw
            case rel =>
              refine ⟨r + 1, by omega, by go_num, ?_⟩
              rw [HST.out]
              simpa [h1, h2] using hI2
            case measure => simp [intOf]; omega
          · go_wp2_with (first
              | (go_at_call 62
                 refine (face_ok h L _ _ wr (z + 1) z (z + 1 + 1) hh1 hh hL1 hL (by omega) (by omega) (by omega) (by omega) y1 y0 (by rw [hq0]; exact y2)).mono ?_
                 rintro e w' ⟨rfl, rfl⟩)
              | (go_at_call 49
                 refine (putGrid_ok W1 wr Bs n l0 _ _ _ _ hI (by omega)).mono ?_
                 rintro e w1 ⟨rfl, hI1⟩
                 have z0 : w1.cell? ⟨z, 0, none⟩ = some (.int .i64 h) := (hI1.cell (by omega) (by omega) 0).trans x0
                 have z1 : w1.cell? ⟨z + 1, 0, none⟩ = some (.int .i64 L) := (hI1.cell (by omega) (by omega) 0).trans x1
                 have z2 : w1.cell? ⟨z + 1 + 1, 0, none⟩ = some (.int .i64 q0) := (hI1.cell (by omega) (by omega) 0).trans x2))
            go_roundw
            case rel =>
              refine ⟨r + 1, by omega, by go_num, ?_⟩
              rw [HST.out]
              simpa [h1, h2] using hI1
            case measure => simp [intOf]; omega
          · go_wp2_with (fail)
            go_region_held3 (fun w' => w'.cell? ⟨z, 0, none⟩ = some (.int .i64 h))
              (first | go_keep | assumption)
              ((first
                | (go_at_call 62
                   refine Calls.mono (face_ok h L _ _ _ (z + 1) z (z + 1 + 1) hh1 hh hL1 hL (by omega) (by omega) (by omega) (by omega) (by simpa using y1) (by simpa using y0) (by rw [hq0]; simpa using y2)) ?_
                   rintro e w' ⟨rfl, rfl⟩)
                | (go_at_call 49
                   refine Calls.mono (putGrid_ok W1 _ Bs n _ _ _ _ _ (by first | exact hI.drew | exact hI.drew.drew | exact hI.drew.drew.drew) (by first | omega | (simp; omega))) ?_
                   rintro e w2 ⟨rfl, hI2⟩
                   have v0 : w2.cell? ⟨z, 0, none⟩ = some (.int .i64 h) := (hI2.cell (by omega) (by omega) 0).trans x0)))
            go_wp2_with (fail)
            go_roundw
            case rel =>
              refine ⟨r + 1, by omega, by go_num, ?_⟩
              rw [HST.out]
              simpa [h1, h2] using hI2
            case measure => simp [intOf]; omega
          · go_wp2_with (fail)
            go_roundw
            case rel =>
              refine ⟨r + 1, by omega, by go_num, ?_⟩
              rw [HST.out]
              simpa [h1, h2] using hI
            case measure => simp [intOf]; omega
        · obtain rfl : r = h := by omega
          go_wp2_with (fail)
          go_roundw
          case rel => exact ⟨c + 1, by omega, by go_num, by rw [← upto_col]; exact hI⟩
          case measure => simp [intOf]; omega
    · obtain rfl : c = L := by omega
      go_wp2_with (fail)
      go_end0
      obtain ⟨A, cp, hh1', hh2'⟩ := hI.ex
      obtain ⟨A', c', e1, e2, _⟩ := own_shape hh2'
      injection e1 with e3 e4 e5
      subst e3
      subst e5
      have hfar := hh2'.lt
      exact ⟨rfl, A, cp, hh1', Pairs.own hh2', e2, grown_then' hGw hI.grown, fun k hk => by have := (hfar k hk).1; have := HZ.out; omega⟩

set_option maxRecDepth 100000 in
set_option maxHeartbeats 4000000 in
theorem bondsFaces_ok (h L : Nat) (w : World) (Bs : Nat) (n : Int) (hB : w.heap[Bs]? = some (.cells #[.int .i64 n, .slice none 0 0] 35 (0, 0))) (hh : h ≤ 100) (hL : L ≤ 100) (hh1 : 1 ≤ h) (hL1 : 1 ≤ L) :
    Calls Tryd.prog 48 #[.int .i64 h, .int .i64 L, .func (.func 50) #[] #[.pointer (some ⟨Bs, 0, none⟩)]] w (BondsPost (upto (faceAt h L) h L 0) Bs n w) := by
  have hmf : ∀ (fn : Fn) (first cap : Array Value) (w : World), (Instr.makeFunc fn first cap).run Tryd.prog w = .ok (.func fn first cap) w := fun _ _ _ _ => rfl
  obtain ⟨q0, hq0, hq0'⟩ := prod_small (a := (h : Int) - 1) (b := (L : Int) - 1) (m := 100) (n := 100) (by omega) (by omega) (by omega) (by omega)
  have hBlt := Array.getElem?_eq_some_iff.1 hB |>.1
  go_enter Tryd.func48, Tryd.ntmps48
  go_wp2_with (fail)
  obtain ⟨W1, hW1⟩ : ∃ W1 : World, W1 = ((w.alloc (.cells #[.int .i64 h] 3)).alloc (.cells #[.int .i64 L] 3)).alloc (.cells #[.int .i64 q0] 3) := ⟨_, rfl⟩
  rw [← hW1]
  have x0 : W1.cell? ⟨w.heap.size, 0, none⟩ = some (.int .i64 h) := by rw [hW1]; go_simp
  have x1 : W1.cell? ⟨w.heap.size + 1, 0, none⟩ = some (.int .i64 L) := by rw [hW1]; go_simp
  have x2 : W1.cell? ⟨w.heap.size + 1 + 1, 0, none⟩ = some (.int .i64 q0) := by rw [hW1]; go_simp
  have hsz : W1.heap.size = w.heap.size + 3 := by rw [hW1]; simp
  have hGw : w.grownBy W1 (some Bs) := by rw [hW1]; exact grown_then' (grown_then' (World.grownBy_alloc _ _ _) (World.grownBy_alloc _ _ _)) (World.grownBy_alloc _ _ _)
  have hB1 : W1.heap[Bs]? = some (.cells #[.int .i64 n, .slice none 0 0] 35 (0, 0)) := by
    rw [hW1, (World.grownBy_alloc _ _ none).block Bs (by simp; omega) (by simp), (World.grownBy_alloc _ _ none).block Bs (by simp; omega) (by simp), (World.grownBy_alloc _ _ none).block Bs hBlt (by simp)]
    exact hB
  clear hW1
  have hI0 : PutInv W1 W1 Bs n (upto (faceAt h L) h 0 0) := ⟨⟨none, 0, hB1, nil_own _ _ _ _⟩, World.grownBy.refl _ _, by omega⟩
  generalize hzz : w.heap.size = z at *
  have HZ := hide hzz
  clear hzz
  go_loopw [18] (fun i wr => ∃ c : Nat, c ≤ L ∧ i = .int .i64 c ∧ PutInv W1 wr Bs n (upto (faceAt h L) h c 0)) (fun i _ => L - (intOf i).toNat)
  case atStart => exact ⟨0, Nat.zero_le _, rfl, hI0⟩
  case round =>
    obtain ⟨c, hc, rfl, hI⟩ := hrel
    have y0 : wr.cell? ⟨z, 0, none⟩ = some (.int .i64 h) := (hI.cell (by omega) (by omega) 0).trans x0
    have y1 : wr.cell? ⟨z + 1, 0, none⟩ = some (.int .i64 L) := (hI.cell (by omega) (by omega) 0).trans x1
    have y2 : wr.cell? ⟨z + 1 + 1, 0, none⟩ = some (.int .i64 q0) := (hI.cell (by omega) (by omega) 0).trans x2
    by_cases hcl : c < L
    · go_wp2_with (fail)
      clear y0 y1 y2
      go_loopw [22] (fun i wr => ∃ r : Nat, r ≤ h ∧ i = .int .i64 r ∧ PutInv W1 wr Bs n (upto (faceAt h L) h c r)) (fun i _ => h - (intOf i).toNat)
      case atStart => exact ⟨0, Nat.zero_le _, rfl, hI⟩
      case round =>
        obtain ⟨r, hr, rfl, hI⟩ := hrel
        have y0 : wr.cell? ⟨z, 0, none⟩ = some (.int .i64 h) := (hI.cell (by omega) (by omega) 0).trans x0
        have y1 : wr.cell? ⟨z + 1, 0, none⟩ = some (.int .i64 L) := (hI.cell (by omega) (by omega) 0).trans x1
        have y2 : wr.cell? ⟨z + 1 + 1, 0, none⟩ = some (.int .i64 q0) := (hI.cell (by omega) (by omega) 0).trans x2
        by_cases hrh : r < h
        · obtain ⟨q, hq, hq1⟩ : ∃ q : Nat, (c : Int) * h = q ∧ q ≤ 10000 := ⟨c * h, by push_cast; rfl, Nat.mul_le_mul (by omega : c ≤ 100) hh⟩
          have hstep := upto_row (faceAt h L) h c r
          have hlen : (upto (faceAt h L) h c r).length ≤ 99998 := by
            have h1 := upto_len (faceAt h L) (faceAt_len h L) h c r
            have h2 : c * (h * 2) ≤ 100 * (100 * 2) := Nat.mul_le_mul (by omega) (by omega)
            omega
          unfold faceAt at hstep
          try rw [hq] at hstep
          have HST := hide hstep
          clear hstep
          change Hid (upto (faceAt h L) h c (r + 1) = upto (faceAt h L) h c r ++ _) at HST
          generalize upto (faceAt h L) h c r = l0 at hI hlen HST
          have hw1 : IntKind.i64.wrap ((r : Int) - 1) = (r : Int) - 1 := by rw [IntKind.wrap_i64]; omega
          have hw2 : IntKind.i64.wrap ((q : Int) + (r : Int) + (h : Int)) = (q : Int) + (r : Int) + (h : Int) := by rw [IntKind.wrap_i64]; omega
          by_cases h1 : r + 1 < h <;> by_cases h2 : c + 1 < L
          · go_wp2_with (first
              | (go_at_call 62
                 refine (face_ok h L _ _ wr (z + 1) z (z + 1 + 1) hh1 hh hL1 hL (by omega) (by omega) (by omega) (by omega) y1 y0 (by rw [hq0]; exact y2)).mono ?_
                 rintro e w' ⟨rfl, rfl⟩)
              | (go_at_call 50
                 refine (putFaces_ok W1 wr Bs n l0 _ _ _ _ hI (by omega)).mono ?_
                 rintro e w1 ⟨rfl, hI1⟩
                 have z0 : w1.cell? ⟨z, 0, none⟩ = some (.int .i64 h) := (hI1.cell (by omega) (by omega) 0).trans x0
                 have z1 : w1.cell? ⟨z + 1, 0, none⟩ = some (.int .i64 L) := (hI1.cell (by omega) (by omega) 0).trans x1
                 have z2 : w1.cell? ⟨z + 1 + 1, 0, none⟩ = some (.int .i64 q0) := (hI1.cell (by omega) (by omega) 0).trans x2))
            go_region_held3 (fun w' => w'.cell? ⟨z, 0, none⟩ = some (.int .i64 h))
              (first | go_keep | assumption)
              ((first
                | (go_at_call 62
                   refine Calls.mono (face_ok h L _ _ _ (z + 1) z (z + 1 + 1) hh1 hh hL1 hL (by omega) (by omega) (by omega) (by omega) (by simpa using z1) (by simpa using z0) (by rw [hq0]; simpa using z2)) ?_
                   rintro e w' ⟨rfl, rfl⟩)
                | (go_at_call 50
                   refine Calls.mono (putFaces_ok W1 _ Bs n _ _ _ _ _ (by first | exact hI1.drew | exact hI1.drew.drew | exact hI1.drew.drew.drew) (by first | omega | (simp; omega))) ?_
                   rintro e w2 ⟨rfl, hI2⟩
                   have v0 : w2.cell? ⟨z, 0, none⟩ = some (.int .i64 h) := (hI2.cell (by omega) (by omega) 0).trans x0)))
            go_wp2_with (fail)
            go_roundw
            case rel =>
              refine ⟨r + 1, by omega, by go_num, ?_⟩
              rw [HST.out]
              simpa [h1, h2] using hI2
            case measure => simp [intOf]; omega
          · go_wp2_with (first
              | (go_at_call 62
                 refine (face_ok h L _ _ wr (z + 1) z (z + 1 + 1) hh1 hh hL1 hL (by omega) (by omega) (by omega) (by omega) y1 y0 (by rw [hq0]; exact y2)).mono ?_
                 rintro e w' ⟨rfl, rfl⟩)
              | (go_at_call 50
                 refine (putFaces_ok W1 wr Bs n l0 _ _ _ _ hI (by omega)).mono ?_
                 rintro e w1 ⟨rfl, hI1⟩
                 have z0 : w1.cell? ⟨z, 0, none⟩ = some (.int .i64 h) := (hI1.cell (by omega) (by omega) 0).trans x0
                 have z1 : w1.cell? ⟨z + 1, 0, none⟩ = some (.int .i64 L) := (hI1.cell (by omega) (by omega) 0).trans x1
                 have z2 : w1.cell? ⟨z + 1 + 1, 0, none⟩ = some (.int .i64 q0) := (hI1.cell (by omega) (by omega) 0).trans x2))
            go_roundw
            case rel =>
              refine ⟨r + 1, by omega, by go_num, ?_⟩
              rw [HST.out]
              simpa [h1, h2] using hI1
            case measure => simp [intOf]; omega
          · go_wp2_with (fail)
            go_region_held3 (fun w' => w'.cell? ⟨z, 0, none⟩ = some (.int .i64 h))
              (first | go_keep | assumption)
              ((first
                | (go_at_call 62
                   refine Calls.mono (face_ok h L _ _ _ (z + 1) z (z + 1 + 1) hh1 hh hL1 hL (by omega) (by omega) (by omega) (by omega) (by simpa using y1) (by simpa using y0) (by rw [hq0]; simpa using y2)) ?_
                   rintro e w' ⟨rfl, rfl⟩)
                | (go_at_call 50
                   refine Calls.mono (putFaces_ok W1 _ Bs n _ _ _ _ _ (by first | exact hI.drew | exact hI.drew.drew | exact hI.drew.drew.drew) (by first | omega | (simp; omega))) ?_
                   rintro e w2 ⟨rfl, hI2⟩
                   have v0 : w2.cell? ⟨z, 0, none⟩ = some (.int .i64 h) := (hI2.cell (by omega) (by omega) 0).trans x0)))
            go_wp2_with (fail)
            go_roundw
            case rel =>
              refine ⟨r + 1, by omega, by go_num, ?_⟩
              rw [HST.out]
              simpa [h1, h2] using hI2
            case measure => simp [intOf]; omega
          · go_wp2_with (fail)
            go_roundw
            case rel =>
              refine ⟨r + 1, by omega, by go_num, ?_⟩
              rw [HST.out]
              simpa [h1, h2] using hI
            case measure => simp [intOf]; omega
        · obtain rfl : r = h := by omega
          go_wp2_with (fail)
          go_roundw
          case rel => exact ⟨c + 1, by omega, by go_num, by rw [← upto_col]; exact hI⟩
          case measure => simp [intOf]; omega
    · obtain rfl : c = L := by omega
      go_wp2_with (fail)
      go_end0
      obtain ⟨A, cp, hh1', hh2'⟩ := hI.ex
      obtain ⟨A', c', e1, e2, _⟩ := own_shape hh2'
      injection e1 with e3 e4 e5
      subst e3
      subst e5
      have hfar := hh2'.lt
      exact ⟨rfl, A, cp, hh1', Pairs.own hh2', e2, grown_then' hGw hI.grown, fun k hk => by have := (hfar k hk).1; have := HZ.out; omega⟩
end Go.Proofs.YtngogonepjicpaaDoor
