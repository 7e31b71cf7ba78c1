/- The walk of demonref1.Sum. Condition: the sums on the way are not negative and below 2^62. -/
import Derived.Test.YtngogonepjicpaaDoorVoc
import Derived.Test.YtngogonepjicpaaDoorIsP1
namespace Go.Proofs.YtngogonepjicpaaDoor
open Go.RowKit Go.Deep

theorem sum_take_succ (l : List Int) (k : Nat) (h : k < l.length) : (l.take (k + 1)).sum = (l.take k).sum + l.getD k 0 := by
  rw [List.take_succ_eq_append_getElem h, getD_eq l k _ h, List.sum_append]
  simp

set_option maxHeartbeats 400000 in
theorem sum_ok (A : Option Addr) (l : List Int) (c : Nat) (w : World) (hA : Ints w A l) (hs : ∀ k, k ≤ l.length → 0 ≤ (l.take k).sum ∧ (l.take k).sum ≤ 4611686018427387903) :
    Calls Tryd.prog 38 #[.slice A l.length c] w fun e w' => e = .returned (.int .i64 l.sum) ∧ Below w.heap.size w w' := by
  have hl := hA.len
  go_enter Tryd.func38, Tryd.ntmps38
  go_wp2_with (fail)
  go_loopw [3, 4] (fun s i wr => ∃ k : Nat, k ≤ l.length ∧ i = .int .i64 k ∧ s = .int .i64 (l.take k).sum ∧ Below w.heap.size w wr) (fun _ i _ => l.length - (intOf i).toNat)
  case atStart => exact ⟨0, Nat.zero_le _, rfl, rfl, Below.refl _ _⟩
  case round =>
    obtain ⟨k, hk, rfl, rfl, hb⟩ := hrel
    by_cases hlt : k < l.length
    · obtain ⟨b, off, rfl, _, d⟩ := (hA.below hb).at_ k hlt
      have h1 := hs k hk
      have h2 := hs (k + 1) hlt
      have h3 := sum_take_succ l k hlt
      have H3 := hide h3
      rw [h3] at h2
      clear h3
      generalize (l.take k).sum = s at *
      generalize l.getD k 0 = x at *
      go_wp2_with (fail)
      go_roundw
      case rel => exact ⟨k + 1, by omega, by go_num, by rw [H3.out], hb⟩
      case measure => simp [intOf]; omega
    · obtain rfl : k = l.length := by omega
      go_wp2_with (fail)
      go_ret
      exact ⟨by rw [List.take_length]; rfl, hb⟩
end Go.Proofs.YtngogonepjicpaaDoor
