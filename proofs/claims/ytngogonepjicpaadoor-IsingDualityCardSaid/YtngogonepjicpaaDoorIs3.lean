/- The walk of demonlaw4.system. No condition. -/
import Derived.Test.YtngogonepjicpaaDoorIs2
import Derived.Test.YtngogonepjicpaaDoorApp
namespace Go.Proofs.YtngogonepjicpaaDoor
open Go.RowKit Go.Deep

/-- what system gives -/
def RetSys (n : Int) (l : List (Int × Int)) (w : World) (e : Ending) (w' : World) : Prop :=
  ∃ A c, e = .returned (.agg #[.int .i64 n, .slice A l.length c]) ∧ Pairs w' A l ∧ l.length ≤ c ∧ Below w.heap.size w w'

set_option maxHeartbeats 1000000 in
theorem system_any (n : Int) (A : Option Addr) (l : List (Int × Int)) (cap : Nat) (w : World) (hP : Pairs w A l) (hl : l.length ≤ 1000) :
    Calls Tryd.prog 15 #[.agg #[.int .i64 n, .slice A l.length cap]] w (RetSys n l w) := by
  have hlen := hP.len
  go_enter Tryd.func15, Tryd.ntmps15
  go_wp2_with
    (at_builtin
     refine wp_app_pairs _ rfl (.tmp 8) (.tmp 10) rfl (w.heap.size + 1 + 1 + 1) (.slice none 0 0) [] rfl (nil_own _ _ _ _) A l.length cap l rfl rfl (hP.below (below_alloc' (below_alloc' (below_alloc' (Below.refl _ _) _) _) _)) (by simp only [List.length_nil]; omega) (by simp only [World.size_alloc]; omega) ?_
     intro A1 c1 w1 hc1 hown1 hg1 hat1
     have hb1 := below_of_grown hg1 rfl
     obtain ⟨k1, k2⟩ := below_cells hb1
     have hz1 : w.heap.size + 1 + 1 < w1.heap.size := by have := hb1.size; simp at this; omega
     clear hg1 hat1)
  refine bodyPost_ret (v := .agg #[.int .i64 n, .slice A1 l.length c1]) (by simp [results, Tryd.results15, go_sem, k1]) rfl ?_
  have q1 := ownsRow_setCell_below hown1 (a := ⟨w.heap.size + 1 + 1, 1, none⟩) (by show w.heap.size + 1 + 1 < w.heap.size + 1 + 1 + 1; omega) (.slice A1 l.length c1)
  have q2 := ownsRow_setCell_below q1 (a := ⟨w.heap.size + 1, 0, none⟩) (by show w.heap.size + 1 < w.heap.size + 1 + 1 + 1; omega) (.int .i64 n)
  have q3 := ownsRow_setCell_below q2 (a := ⟨w.heap.size + 1, 1, none⟩) (by show w.heap.size + 1 < w.heap.size + 1 + 1 + 1; omega) (.slice A1 l.length c1)
  refine ⟨A1, c1, rfl, Pairs.own q3, hc1, ?_⟩
  have h0 : Below w.heap.size w w1 := below_trans (below_alloc' (below_alloc' (below_alloc' (Below.refl _ _) _) _) _) hb1
  exact ((h0.setCell (by simp; omega) _).setCell (by simp) _).setCell (by simp) _
end Go.Proofs.YtngogonepjicpaaDoor
