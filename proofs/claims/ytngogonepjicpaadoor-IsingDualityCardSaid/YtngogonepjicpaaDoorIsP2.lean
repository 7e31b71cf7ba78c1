/- Plain words for states: unlike bonds, how many states have so many of them. No condition. -/
import Derived.Test.YtngogonepjicpaaDoorIsP1
namespace Go.Proofs.YtngogonepjicpaaDoor

def bitAt (s : Nat) (a : Int) : Nat := s / 2 ^ a.toNat % 2
def unl (s : Nat) (p : Int × Int) : Nat := (bitAt s p.1 + bitAt s p.2) % 2
/-- unlike bonds of a state -/
def unlike (s : Nat) (l : List (Int × Int)) : Nat := (l.map (unl s)).sum
/-- of the first k states, how many have j unlike bonds -/
def cntTo (l : List (Int × Int)) (k j : Nat) : Nat := (List.range k).countP fun s => unlike s l == j
theorem unl_le (s : Nat) (p : Int × Int) : unl s p ≤ 1 := by unfold unl; omega
theorem unlike_nil (s : Nat) : unlike s [] = 0 := rfl
theorem unlike_take_succ (s : Nat) (l : List (Int × Int)) (m : Nat) (h : m < l.length) : unlike s (l.take (m + 1)) = unlike s (l.take m) + unl s (l.getD m (0, 0)) := by
  unfold unlike
  rw [List.take_succ_eq_append_getElem h, getD_eq l m _ h, List.map_append, List.sum_append]
  rfl
theorem unlike_le (s : Nat) (l : List (Int × Int)) : unlike s l ≤ l.length := by
  induction l with
  | nil => simp [unlike]
  | cons p l ih =>
    have := unl_le s p
    simp only [unlike, List.map_cons, List.sum_cons, List.length_cons] at ih ⊢
    omega
theorem unlike_take_le (s : Nat) (l : List (Int × Int)) (m : Nat) : unlike s (l.take m) ≤ m :=
  Nat.le_trans (unlike_le s _) (by simp; omega)
theorem cntTo_zero (l : List (Int × Int)) (j : Nat) : cntTo l 0 j = 0 := rfl
theorem cntTo_succ (l : List (Int × Int)) (k j : Nat) : cntTo l (k + 1) j = cntTo l k j + if j = unlike k l then 1 else 0 := by
  unfold cntTo
  rw [List.range_succ, List.countP_append]
  congr 1
  by_cases h : j = unlike k l
  · subst h; simp
  · have : unlike k l ≠ j := fun e => h e.symm
    simp [this, h]
theorem cntTo_le (l : List (Int × Int)) (k j : Nat) : cntTo l k j ≤ k := by
  unfold cntTo
  exact Nat.le_trans List.countP_le_length (by simp)
/-- states by unlike bonds -/
def statesOf (n : Nat) (l : List (Int × Int)) : List Int := (List.range (l.length + 1)).map fun j => (cntTo l (2 ^ n) j : Int)
theorem statesOf_length (n : Nat) (l : List (Int × Int)) : (statesOf n l).length = l.length + 1 := by simp [statesOf]
end Go.Proofs.YtngogonepjicpaaDoor
