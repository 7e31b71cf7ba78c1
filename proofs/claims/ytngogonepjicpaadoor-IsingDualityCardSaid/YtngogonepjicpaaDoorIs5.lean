/- The walk of demonlaw4.bond (a closed fact), and of the law IsingValid. Condition: the variables read as laid. -/
import Derived.Test.YtngogonepjicpaaDoorIs4
import Derived.Test.YtngogonepjicpaaDoorSame
import Derived.Test.YtngogonepjicpaaDoorCode
namespace Go.Proofs.YtngogonepjicpaaDoor
open Go.RowKit Go.Deep

/-- a literal in a new block -/
theorem Ints.lit (w : World) (l : List Int) (t : TypeId) (hl : l.length ≤ 9223372036854775807) : Ints (w.alloc (.cells (intCells l).toArray t)) (some ⟨w.heap.size, 0, none⟩) l :=
  ⟨hl, fun i hi => ⟨w.heap.size, 0, rfl, by simp, by
    have := intCells_at l i hi
    simpa using this⟩⟩

set_option maxHeartbeats 1000000 in
theorem bond_any (w : World) (a : Nat → Addr) (hE : Env [2, 3] w a) :
    Calls Tryd.prog 11 #[] w fun e w' => e = .returned (.bool true) ∧ Below w.heap.size w w' := by
  have hg : Good ((2 : Nat) : Int) [(0, 1)] ([(0, 1)] : List (Int × Int)).length := ⟨fun j hj => by
    obtain rfl : j = 0 := by simpa using hj
    decide⟩
  have hP : Pairs (w.alloc (.cells #[.int .i64 0, .int .i64 1] 64)) (some ⟨w.heap.size, 0, none⟩) [(0, 1)] := ⟨by decide, fun i hi => by
    obtain rfl : i = 0 := by simpa using hi
    exact ⟨w.heap.size, 0, rfl, by simp, by simp, by simp⟩⟩
  have hs := states_ok 2 (some ⟨w.heap.size, 0, none⟩) [(0, 1)] 1 (w.alloc (.cells #[.int .i64 0, .int .i64 1] 64)) a (hE.below (below_alloc' (Below.refl _ _) _)) hP (by decide) (by decide) hg
  have h2 : statesOf 2 [(0, 1)] = [2, 2] := by decide
  rw [h2] at hs
  have HS := hide hs
  clear hs hg hP h2
  go_enter Tryd.func11, Tryd.ntmps11
  go_wp2_with
    (first
     | (go_at_call 14; refine HS.out.mono ?_; rintro e w1 ⟨A1, c1, rfl, hi1, hc1, hb1⟩)
     | (go_at_call 30
        refine (same_any A1 (some ⟨w1.heap.size, 0, none⟩) [2, 2] [2, 2] c1 2 _ (hi1.below (below_alloc' (Below.refl _ _) _)) (Ints.lit w1 [2, 2] 3 (by decide))).mono ?_
        rintro e w2 ⟨rfl, hb2⟩))
  go_ret
  exact ⟨rfl, below_trans (below_trans (below_alloc' (Below.refl _ _) _) hb1) (below_trans (below_alloc' (Below.refl _ _) _) hb2)⟩
end Go.Proofs.YtngogonepjicpaaDoor
