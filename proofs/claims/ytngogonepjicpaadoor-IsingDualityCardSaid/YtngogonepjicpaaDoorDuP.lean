/- The plain law of duality: a grid's even sets are half the unlike bonds of its faces' states, and the other way round. No condition. -/
import Derived.Test.YtngogonepjicpaaDoorVdw
import Derived.Test.YtngogonepjicpaaDoorGrP
namespace Go.Proofs.YtngogonepjicpaaDoor

def dual1 (B n : Nat) (lg lf : List (Int × Int)) : Bool := decide (2 ^ lf.length * (2 * ezRun 1 (B : Int) (lg.map mask) [(0, 1)]) = ((2 ^ n : Nat) : Int) * ezRun (1 + (B : Int)) (1 - (B : Int)) (lf.map mask) [(0, 1)])
theorem gen_double (B : Nat) (f : Nat → Nat) (n : Nat) : gen B (fun k => 2 * f k) n = 2 * gen B f n := by
  unfold gen
  rw [sumTo_congr _ (fun k => f k * B ^ k * 2) _ (fun k _ => by show 2 * f k * B ^ k = f k * B ^ k * 2; rw [Nat.mul_assoc, Nat.mul_comm 2]), sumTo_mul, Nat.mul_comm]
theorem dual_of (n : Nat) (lg lf : List (Int × Int)) (hr : Rights n lf) (hlen : lg.length = lf.length) (hs : lg.length ≤ 22) (hn : n ≤ 14) (ht : dual1 16777216 n lg lf = true) (k : Nat) (hk : k < lf.length + 1) :
    cntTo lf (2 ^ n) k = 2 * ev (lg.map mask) 0 k := by
  have h1 := of_decide_eq_true ht
  rw [← ez_run, ← ez_run, ← vdw_states n _ lf hr] at h1
  have hp : (2 : Int) ^ lf.length ≠ 0 := Int.pow_ne_zero (by decide)
  have h2 := Int.eq_of_mul_eq_mul_left hp h1
  rw [states_gen, ez_gen 16777216 (lg.map mask) 0 (lf.length + 1) (by simp; omega)] at h2
  have h3 : gen 16777216 (fun k => 2 * ev (lg.map mask) 0 k) (lf.length + 1) = gen 16777216 (cntTo lf (2 ^ n)) (lf.length + 1) := by
    rw [gen_double]
    exact_mod_cast h2
  refine (gen_inj 16777216 _ _ (by decide) (fun k => ?_) (fun k => ?_) (lf.length + 1) h3 k hk).symm
  · have h4 := ev_le (lg.map mask) 0 k
    have h5 : 2 ^ (lg.map mask).length ≤ 2 ^ 22 := Nat.pow_le_pow_right (by decide) (by simpa using hs)
    show 2 * ev (lg.map mask) 0 k < 16777216
    have h6 : (2 : Nat) ^ 22 = 4194304 := by decide
    omega
  · have h4 := cntTo_le lf (2 ^ n) k
    have h5 : 2 ^ n ≤ 2 ^ 14 := Nat.pow_le_pow_right (by decide) hn
    have h6 : (2 : Nat) ^ 14 = 16384 := by decide
    omega
def dualBoth (h L : Nat) : Bool :=
  let g := upto (gridAt h L) h L 0
  let f := upto (faceAt h L) h L 0
  decide (vcode (((h : Int) - 1) * ((L : Int) - 1) + 1) f = 0) && decide (g.length = f.length) && decide (g.length ≤ 22) && dual1 16777216 ((h - 1) * (L - 1) + 1) g f && dual1 16777216 (h * L) f g
theorem dual_small : ((List.range 5).all fun h => (List.range 8).all fun L => decide (h < 2) || decide (L < 2) || decide (vcode ((h : Int) * (L : Int)) (upto (gridAt h L) h L 0) ≠ 0) || dualBoth h L) = true := by decide +kernel
theorem dual_at (h L : Nat) (h0 : 2 ≤ h) (h1 : h ≤ 4) (l0 : 2 ≤ L) (hv : vcode ((h : Int) * (L : Int)) (upto (gridAt h L) h L 0) = 0) : L < 8 ∧ dualBoth h L = true := by
  have hL : L < 8 := by
    have := vcode_zero hv
    have h2 : (2 : Int) * L ≤ (h : Int) * L := Int.mul_le_mul_of_nonneg_right (by omega) (by omega)
    omega
  refine ⟨hL, ?_⟩
  have h2 := List.all_eq_true.1 (List.all_eq_true.1 dual_small h (List.mem_range.2 (by omega))) L (List.mem_range.2 hL)
  rw [decide_eq_false (by omega), decide_eq_false (by omega), decide_eq_false (by simpa using hv)] at h2
  simpa using h2
end Go.Proofs.YtngogonepjicpaaDoor
