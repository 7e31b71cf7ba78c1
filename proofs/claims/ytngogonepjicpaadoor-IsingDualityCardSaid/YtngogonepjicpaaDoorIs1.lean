/- The walks of tiny, SystemError, ising.Valid. No condition. -/
import Derived.Test.YtngogonepjicpaaDoorVoc
import Derived.Test.YtngogonepjicpaaDoorIsP1
namespace Go.Proofs.YtngogonepjicpaaDoor
open Go.RowKit Go.Deep

set_option maxHeartbeats 400000 in
theorem tiny_any (n : Int) (A : Option Addr) (len cap : Nat) (w : World) (hl : len ≤ 9223372036854775807) :
    Calls Tryd.prog 12 #[.agg #[.int .i64 n, .slice A len cap]] w fun e w' => e = .returned (.bool (decide (len ≤ 200))) ∧ Below w.heap.size w w' := by
  go_enter Tryd.func12, Tryd.ntmps12
  go_wp2
  go_ret
  refine ⟨ret_bool ?_, (Below.refl _ _).alloc (Nat.le_refl _) _⟩
  rw [Bool.eq_iff_iff]
  simp
  omega

set_option maxHeartbeats 1000000 in
theorem sysErr_any (n : Int) (A : Option Addr) (l : List (Int × Int)) (cap : Nat) (w : World) (hP : Pairs w A l) :
    Calls Tryd.prog 13 #[.agg #[.int .i64 n, .slice A l.length cap]] w fun e w' => e = .returned (.int .i64 (vcode n l)) ∧ Below w.heap.size w w' := by
  have hl := hP.len
  by_cases g0 : n < 0
  · go_enter Tryd.func13, Tryd.ntmps13
    go_wp2
    go_ret
    exact ⟨ret_int (vcode_big (.inl g0)).symm, (Below.refl _ _).alloc (Nat.le_refl _) _⟩
  by_cases g1 : 14 < n
  · go_enter Tryd.func13, Tryd.ntmps13
    go_wp2
    go_ret
    exact ⟨ret_int (vcode_big (.inr (.inl g1))).symm, (Below.refl _ _).alloc (Nat.le_refl _) _⟩
  by_cases g2 : 30 < l.length
  · go_enter Tryd.func13, Tryd.ntmps13
    go_wp2
    go_ret
    exact ⟨ret_int (vcode_big (.inr (.inr g2))).symm, (Below.refl _ _).alloc (Nat.le_refl _) _⟩
  have h0 : 0 ≤ n := by omega
  have h1 : n ≤ 14 := by omega
  have h2 : l.length ≤ 30 := by omega
  clear g0 g1 g2
  go_enter Tryd.func13, Tryd.ntmps13
  go_wp2
  go_loop [3] (fun i => ∃ k : Nat, k ≤ l.length ∧ Good n l k ∧ i = .int .i64 k) (fun i => l.length - (intOf i).toNat)
  case atStart => exact ⟨0, Nat.zero_le _, Good.zero _ _, rfl⟩
  case round =>
    obtain ⟨k, hk, hg, rfl⟩ := hrel
    by_cases hlt : k < l.length
    · obtain ⟨b, off, rfl, hb, c1, c2⟩ := hP.at_ k hlt
      have hbad := fun h => vcode_bad (n := n) h0 h1 h2 hlt (badPair_true h)
      have hgood := fun a1 a2 a3 a4 a5 => hg.succ (k := k) (badPair_false a1 a2 a3 a4 a5)
      generalize (l.getD k (0,0)).1 = p1 at c1 hbad hgood
      generalize (l.getD k (0,0)).2 = p2 at c2 hbad hgood
      have HB := hide hbad
      have HG := hide hgood
      clear hbad hgood
      by_cases e : p1 = p2
      · have e1 : (p1 == p2) = true := by simpa using e
        have HE := hide e
        clear e
        go_wp2
        all_goals
          go_ret
          have := HE.out
          exact ⟨ret_int (HB.out (by omega)).symm, (Below.refl _ _).alloc (Nat.le_refl _) _⟩
      · have e1 : (p1 == p2) = false := by simpa using e
        go_wp2
        all_goals first
        | (go_ret
           exact ⟨ret_int (HB.out (by omega)).symm, (Below.refl _ _).alloc (Nat.le_refl _) _⟩)
        | (go_round
           case rel => exact ⟨k + 1, by omega, HG.out (by omega) (by omega) (by omega) (by omega) e, by go_num⟩
           case measure => simp [intOf]; omega)
    · obtain rfl : k = l.length := by omega
      have HF := hide (vcode_good h0 h1 h2 hg)
      go_wp2
      go_ret
      exact ⟨ret_int HF.out.symm, (Below.refl _ _).alloc (Nat.le_refl _) _⟩
end Go.Proofs.YtngogonepjicpaaDoor
