/- A small strip's counts are its states': checked by the kernel, one number for each strip. No condition. -/
import Derived.Test.YtngogonepjicpaaDoorStR
namespace Go.Proofs.YtngogonepjicpaaDoor
def nStates (B : Nat) (l : List (Int × Int)) (N : Nat) : Nat := sumTo (fun s => B ^ unlike s l) N
def nStrip (B h L : Nat) (ring : Bool) : Nat := sumTo (fun first => sumTo (fun c => wayN B h first (L - 1) c * B ^ (if ring then ham c first else 0)) (2 ^ h)) (2 ^ h)
def stripTest (B h L : Nat) (ring : Bool) : Bool := nStates B (stripOf h L ring) (2 ^ (h * L)) == nStrip B h L ring
theorem check_1 : (List.range 11).all (fun L => (L == 0) || (stripTest 65536 1 L false && (decide (L < 3) || stripTest 65536 1 L true))) = true := by decide +kernel
theorem check_2 : (List.range 6).all (fun L => (L == 0) || (stripTest 65536 2 L false && (decide (L < 3) || stripTest 65536 2 L true))) = true := by decide +kernel
theorem check_3 : (List.range 4).all (fun L => (L == 0) || (stripTest 65536 3 L false && (decide (L < 3) || stripTest 65536 3 L true))) = true := by decide +kernel
theorem check_4 : (List.range 3).all (fun L => (L == 0) || (stripTest 65536 4 L false && (decide (L < 3) || stripTest 65536 4 L true))) = true := by decide +kernel
theorem strip_test (h L : Nat) (ring : Bool) (h0 : 1 ≤ h) (h1 : h ≤ 4) (hL : 1 ≤ L) (hs : h * L ≤ 10) (hr : ring = true → 3 ≤ L) : nStates 65536 (stripOf h L ring) (2 ^ (h * L)) = nStrip 65536 h L ring := by
  have key : ∀ b : Nat, (List.range b).all (fun L => (L == 0) || (stripTest 65536 h L false && (decide (L < 3) || stripTest 65536 h L true))) = true → L < b → nStates 65536 (stripOf h L ring) (2 ^ (h * L)) = nStrip 65536 h L ring := by
    intro b hb hLb
    have h3 := List.all_eq_true.1 hb L (List.mem_range.2 hLb)
    have h4 : (L == 0) = false := beq_eq_false_iff_ne.2 (by omega)
    rw [h4, Bool.false_or, Bool.and_eq_true, Bool.or_eq_true] at h3
    cases ring
    · exact eq_of_beq h3.1
    · have := hr rfl
      rcases h3.2 with h5 | h5
      · have := of_decide_eq_true h5
        omega
      · exact eq_of_beq h5
  rcases (show h = 1 ∨ h = 2 ∨ h = 3 ∨ h = 4 by omega) with rfl | rfl | rfl | rfl
  · exact key 11 check_1 (by omega)
  · exact key 6 check_2 (by omega)
  · exact key 4 check_3 (by omega)
  · exact key 3 check_4 (by omega)
end Go.Proofs.YtngogonepjicpaaDoor
