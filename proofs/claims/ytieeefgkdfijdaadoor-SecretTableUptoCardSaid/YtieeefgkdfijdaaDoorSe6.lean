/- The walk of the closed fact pad. No condition. -/
import Derived.Test.YtieeefgkdfijdaaDoorSe5
namespace Go.Proofs.YtieeefgkdfijdaaDoor
open Go.RowKit Go.Deep

theorem Ints.lit (w : World) (l : List Int) (t : TypeId) (hl : l.length ≤ 9223372036854775807) : Ints (w.alloc (.cells (intCells l).toArray t)) (some ⟨w.heap.size, 0, none⟩) l :=
  ⟨hl, fun i hi => ⟨w.heap.size, 0, rfl, by simp, by
    have := intCells_at l i hi
    simpa using this⟩⟩

theorem pad_code : ccode [1, 1] [[0, 1], [1, 0]] = 0 := by decide +kernel
theorem pad_perfect : isPerfect (signsOf [1, 1] [[0, 1], [1, 0]]) = true := by decide +kernel
set_option maxRecDepth 100000 in
set_option maxHeartbeats 4000000 in
theorem pad_any (w : World) (a : Nat → Addr) (hE : Env [2, 3] w a) :
    Calls Tryd.prog 17 #[] w fun e w' => e = .returned (.bool true) ∧ Below w.heap.size w w' := by
  have hK := Ints.lit w [1, 1] 3 (by decide)
  have h1 := Ints.lit (w.alloc (.cells #[.int .i64 1, .int .i64 1] 3)) [0, 1] 3 (by decide)
  have h2 := Ints.lit ((w.alloc (.cells #[.int .i64 1, .int .i64 1] 3)).alloc (.cells #[.int .i64 0, .int .i64 1] 3)) [1, 0] 3 (by decide)
  obtain ⟨W3, hW3⟩ : ∃ W3, W3 = ((w.alloc (.cells #[.int .i64 1, .int .i64 1] 3)).alloc (.cells #[.int .i64 0, .int .i64 1] 3)).alloc (.cells #[.int .i64 1, .int .i64 0] 3) := ⟨_, rfl⟩
  have hs3 : W3.heap.size = w.heap.size + 1 + 1 + 1 := by rw [hW3]; simp
  have hB3 : Below w.heap.size w W3 := by rw [hW3]; exact below_alloc' (below_alloc' (below_alloc' (Below.refl _ _) _) _) _
  have hK3 : Ints W3 (some ⟨w.heap.size, 0, none⟩) [1, 1] := by rw [hW3]; exact (hK.below (below_alloc' (Below.refl _ _) _)).below (below_alloc' (Below.refl _ _) _)
  have h13 : Ints W3 (some ⟨w.heap.size + 1, 0, none⟩) [0, 1] := by rw [hW3]; simpa [intCells] using h1.below (below_alloc' (Below.refl _ _) (.cells #[.int .i64 1, .int .i64 0] 3))
  have h23 : Ints W3 (some ⟨w.heap.size + 1 + 1, 0, none⟩) [1, 0] := by rw [hW3]; simpa [intCells] using h2
  have hL : Lists (W3.alloc (.cells #[.slice (some ⟨w.heap.size + 1, 0, none⟩) 2 2, .slice (some ⟨w.heap.size + 1 + 1, 0, none⟩) 2 2] 33)) (some ⟨w.heap.size + 1 + 1 + 1, 0, none⟩) [[0, 1], [1, 0]] := ⟨by decide, fun i hi => by
    have hi' : i = 0 ∨ i = 1 := by simp at hi; omega
    rcases hi' with rfl | rfl
    · exact ⟨w.heap.size + 1 + 1 + 1, 0, some ⟨w.heap.size + 1, 0, none⟩, 2, rfl, by simp [hs3], by rw [← hs3]; simp, by decide, h13.below (below_alloc' (Below.refl _ _) _)⟩
    · exact ⟨w.heap.size + 1 + 1 + 1, 0, some ⟨w.heap.size + 1 + 1, 0, none⟩, 2, rfl, by simp [hs3], by rw [← hs3]; simp, by decide, h23.below (below_alloc' (Below.refl _ _) _)⟩⟩
  have hp := perfect_ok (some ⟨w.heap.size, 0, none⟩) (some ⟨w.heap.size + 1 + 1 + 1, 0, none⟩) [1, 1] [[0, 1], [1, 0]] 2 2 _ a (hE.below (below_alloc' hB3 _)) (hK3.below (below_alloc' (Below.refl _ _) _)) hL (ccode_zero pad_code) pad_code
  rw [pad_perfect, hW3] at hp
  have HP := hide hp
  have hB4 := below_alloc' hB3 (.cells #[.slice (some ⟨w.heap.size + 1, 0, none⟩) 2 2, .slice (some ⟨w.heap.size + 1 + 1, 0, none⟩) 2 2] 33)
  rw [hW3] at hB4
  clear hp hL h13 h23 hK3 hB3 hs3 hW3 hK h1 h2
  go_enter Tryd.func17, Tryd.ntmps17
  go_wp2_with (go_at_call 22; refine Calls.mono HP.out ?_; rintro e w4 ⟨rfl, hb4⟩)
  go_ret
  exact ⟨rfl, below_trans hB4 hb4⟩
end Go.Proofs.YtieeefgkdfijdaaDoor
