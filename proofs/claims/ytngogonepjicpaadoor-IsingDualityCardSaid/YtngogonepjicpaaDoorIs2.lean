/- The walks of ising.Valid and demonlaw4.system. No condition. -/
import Derived.Test.YtngogonepjicpaaDoorIs1
namespace Go.Proofs.YtngogonepjicpaaDoor
open Go.RowKit Go.Deep

set_option maxHeartbeats 1000000 in
theorem valid_big (n : Int) (A : Option Addr) (l : List (Int × Int)) (cap : Nat) (w : World) (a : Nat → Addr) (hE : Env [2, 3] w a) (hl : l.length ≤ 9223372036854775807) (h : n < 0 ∨ 14 < n ∨ 30 < l.length) :
    Calls Tryd.prog 28 #[.agg #[.int .i64 n, .slice A l.length cap]] w fun e w' => e = .returned (errC a 2) ∧ Below w.heap.size w w' := by
  have hz : 0 < w.heap.size := hE.lt (c := 2) (by simp)
  have c2 : w.cell? ⟨0, 0, none⟩ = some (.iface 127 (.pointer (some (a 2)))) := hE.cell 2 (by simp)
  rw [errC_two]
  by_cases g0 : n < 0
  · clear h
    go_enter Tryd.func28, Tryd.ntmps28
    go_wp2
    go_ret
    exact ⟨rfl, (Below.refl _ _).alloc (Nat.le_refl _) _⟩
  by_cases g1 : 14 < n
  · clear h
    go_enter Tryd.func28, Tryd.ntmps28
    go_wp2
    go_ret
    exact ⟨rfl, (Below.refl _ _).alloc (Nat.le_refl _) _⟩
  have g2 : 30 < l.length := by omega
  clear h
  go_enter Tryd.func28, Tryd.ntmps28
  go_wp2
  go_ret
  exact ⟨rfl, (Below.refl _ _).alloc (Nat.le_refl _) _⟩

set_option maxHeartbeats 2000000 in
theorem valid_any (n : Int) (A : Option Addr) (l : List (Int × Int)) (cap : Nat) (w : World) (a : Nat → Addr) (hE : Env [2, 3] w a) (hP : Pairs w A l) :
    Calls Tryd.prog 28 #[.agg #[.int .i64 n, .slice A l.length cap]] w fun e w' => e = .returned (errC a (vcode n l)) ∧ Below w.heap.size w w' := by
  have hl := hP.len
  by_cases g : n < 0 ∨ 14 < n ∨ 30 < l.length
  · rw [vcode_big g]; exact valid_big n A l cap w a hE hl g
  have h0 : 0 ≤ n := by omega
  have h1 : n ≤ 14 := by omega
  have h2 : l.length ≤ 30 := by omega
  clear g
  have hz : 1 < w.heap.size := hE.lt (c := 3) (by simp)
  have C3 := hE.cell 3 (by simp)
  have HC3 : Hid (w.cell? ⟨1, 0, none⟩ = some (.iface 127 (.pointer (some (a 3))))) := C3
  clear C3
  go_enter Tryd.func28, Tryd.ntmps28
  go_wp2
  go_loopw [23] (fun i wr => ∃ k : Nat, k ≤ l.length ∧ Good n l k ∧ i = .int .i64 k ∧ Below (w.heap.size + 1) (w.alloc (.cells #[.int .i64 n, .slice A l.length cap] 35)) wr) (fun i _ => l.length - (intOf i).toNat)
  case atStart => exact ⟨0, Nat.zero_le _, Good.zero _ _, rfl, Below.refl _ _⟩
  case round =>
    obtain ⟨k, hk, hg, rfl, hB⟩ := hrel
    have hsz : w.heap.size + 1 ≤ wr.heap.size := by have := hB.size; simp at this; exact this
    by_cases hlt : k < l.length
    · obtain ⟨b, off, rfl, hb, d1, d2⟩ := hP.at_ k hlt
      have hbad := fun h => vcode_bad (n := n) h0 h1 h2 hlt (badPair_true h)
      have hgood := fun a1 a2 a3 a4 a5 => hg.succ (k := k) (badPair_false a1 a2 a3 a4 a5)
      have e1 : wr.cell? ⟨b, off + k * 2, none⟩ = some (.int .i64 (l.getD k (0, 0)).1) := by
        rw [hB.cell (p := ⟨b, off + k * 2, none⟩) (by show b < _; omega), World.cell?_alloc_lt _ _ ⟨b, off + k * 2, none⟩ hb]; exact d1
      have e2 : wr.cell? ⟨b, off + k * 2 + 1, none⟩ = some (.int .i64 (l.getD k (0, 0)).2) := by
        rw [hB.cell (p := ⟨b, off + k * 2 + 1, none⟩) (by show b < _; omega), World.cell?_alloc_lt _ _ ⟨b, off + k * 2 + 1, none⟩ hb]; exact d2
      have e3 : wr.cell? ⟨w.heap.size, 0, none⟩ = some (.int .i64 n) := by
        rw [hB.cell (p := ⟨w.heap.size, 0, none⟩) (by show w.heap.size < _; omega)]; simp
      have e4 : wr.cell? ⟨1, 0, none⟩ = some (.iface 127 (.pointer (some (a 3)))) := by
        rw [hB.cell (p := ⟨1, 0, none⟩) (by show 1 < _; omega), World.cell?_alloc_lt _ _ ⟨1, 0, none⟩ hz]; exact HC3.out
      have hb' : b < wr.heap.size := by omega
      have hz' : 1 < wr.heap.size := by omega
      have hz2 : w.heap.size < wr.heap.size := by omega
      clear d1 d2
      generalize (l.getD k (0,0)).1 = p1 at e1 hbad hgood
      generalize (l.getD k (0,0)).2 = p2 at e2 hbad hgood
      have HB := hide hbad
      have HG := hide hgood
      clear hbad hgood
      by_cases e : p1 = p2
      · have ee : (p1 == p2) = true := by simpa using e
        have HE := hide e
        clear e
        go_wp2
        all_goals
          go_ret
          have := HE.out
          rw [HB.out (by omega), errC_three]
          refine ⟨rfl, ?_⟩
          have h' : Below w.heap.size w wr := ((Below.refl _ _).alloc (Nat.le_refl _) _).trans (hB.mono (by omega))
          exact h'.alloc (by omega) _
      · have ee : (p1 == p2) = false := by simpa using e
        go_wp2
        all_goals first
        | (go_ret
           rw [HB.out (by omega), errC_three]
           refine ⟨rfl, ?_⟩
           have h' : Below w.heap.size w wr := ((Below.refl _ _).alloc (Nat.le_refl _) _).trans (hB.mono (by omega))
           exact h'.alloc (by omega) _)
        | (go_roundw
           case rel => exact ⟨k + 1, by omega, HG.out (by omega) (by omega) (by omega) (by omega) e, by go_num, hB.alloc (by omega) _⟩
           case measure => simp [intOf]; omega)
    · obtain rfl : k = l.length := by omega
      have HF := hide (vcode_good h0 h1 h2 hg)
      go_wp2
      go_ret
      rw [HF.out, errC_zero]
      refine ⟨rfl, ?_⟩
      exact ((Below.refl _ _).alloc (Nat.le_refl _) _).trans (hB.mono (by omega))
end Go.Proofs.YtngogonepjicpaaDoor
