/- The walks of bits.OnesCount and of the closure in ising.Strip, at small numbers. No condition. -/
import Derived.Test.YtngogonepjicpaaDoorBits
namespace Go.Proofs.YtngogonepjicpaaDoor
open Go.RowKit Go.Deep

/-- how many ones -/
def ones (a : Nat) : Nat := a % 2 + a / 2 % 2 + a / 4 % 2 + a / 8 % 2
theorem ret_eq {k : IntKind} {a b : Int} (h : a = b) : Ending.returned (.int k a) = .returned (.int k b) := by rw [h]

set_option maxRecDepth 100000 in
set_option maxHeartbeats 2000000 in
theorem ones64_ok (a : Nat) (ha : a < 16) (w : World) : Calls Tryd.prog 66 #[.int .u64 a] w fun e w' => e = .returned (.int .i64 (ones a)) ∧ w = w' := by
  go_enter Tryd.func66, Tryd.ntmps66
  go_wp2_with (fail)
  go_ret
  refine ⟨ret_eq ?_, rfl⟩
  revert a
  decide +kernel

set_option maxRecDepth 100000 in
theorem ones_ok (a : Nat) (ha : a < 16) (w : World) : Calls Tryd.prog 54 #[.int .u64 a] w fun e w' => e = .returned (.int .i64 (ones a)) ∧ w = w' := by
  go_enter Tryd.func54, Tryd.ntmps54
  go_wp2_with (go_at_call 66; refine (ones64_ok a ha w).mono ?_; rintro e w' ⟨rfl, rfl⟩)
  go_ret
  exact ⟨rfl, rfl⟩

/-- unlike neighbours in a column c of h spins -/
def innerOf (h c : Nat) : Nat := ones ((c ^^^ c / 2) % 2 ^ (h - 1))
theorem inner_bits : ∀ h : Nat, h < 5 → ∀ c : Nat, c < 16 → 1 ≤ h → bits BinOp.and IntKind.u64 (bits BinOp.xor IntKind.u64 (c : Int) ((c : Int) / 2)) (IntKind.u64.wrap (IntKind.u64.wrap (2 ^ (h - 1)) - 1)) = (((c ^^^ c / 2) % 2 ^ (h - 1) : Nat) : Int) := by decide +kernel
set_option maxRecDepth 100000 in
set_option maxHeartbeats 1000000 in
theorem inner_ok (h c : Nat) (h0 : 1 ≤ h) (h1 : h ≤ 4) (hc : c < 16) (B : Nat) (w : World) (hB : w.cell? ⟨B, 0, none⟩ = some (.int .i64 h)) :
    Calls Tryd.prog 53 #[.int .i64 c, .pointer (some ⟨B, 0, none⟩)] w fun e w' => e = .returned (.int .i64 (innerOf h c)) ∧ w = w' := by
  have hlt : (c ^^^ c / 2) % 2 ^ (h - 1) < 16 := Nat.lt_of_lt_of_le (Nat.mod_lt _ (Nat.two_pow_pos _)) (Nat.le_trans (Nat.pow_le_pow_right (by decide) (show h - 1 ≤ 3 by omega)) (by decide))
  go_enter Tryd.func53, Tryd.ntmps53
  go_wp2_with (fail)
  rw [inner_bits h (by omega) c hc h0]
  go_at_call 54
  refine (ones_ok _ hlt w).mono ?_
  rintro e w' ⟨rfl, rfl⟩
  go_wp2_with (fail)
  go_ret
  exact ⟨rfl, rfl⟩
end Go.Proofs.YtngogonepjicpaaDoor
