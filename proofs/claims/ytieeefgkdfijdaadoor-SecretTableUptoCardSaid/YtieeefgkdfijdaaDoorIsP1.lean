/- Plain words for systems: which pair is bad; the code of a system's error. No condition. -/
namespace Go.Proofs.YtieeefgkdfijdaaDoor

def badPair (n : Int) (p : Int × Int) : Bool := decide (p.1 < 0 ∨ p.2 < 0 ∨ n ≤ p.1 ∨ n ≤ p.2 ∨ p.1 = p.2)
def vcode (n : Int) (l : List (Int × Int)) : Int := if n < 0 ∨ 14 < n ∨ 30 < l.length then 2 else if l.any (badPair n) then 3 else 0

/-- all pairs ahead of place k are right -/
structure Good (n : Int) (l : List (Int × Int)) (k : Nat) : Prop where
  out : ∀ j, j < k → badPair n (l.getD j (0, 0)) = false
theorem Good.zero (n : Int) (l : List (Int × Int)) : Good n l 0 := ⟨fun j h => absurd h (by omega)⟩
theorem Good.succ {n : Int} {l : List (Int × Int)} {k : Nat} (h : Good n l k) (hk : badPair n (l.getD k (0, 0)) = false) : Good n l (k + 1) :=
  ⟨fun j hj => by
    by_cases e : j = k
    · rw [e]; exact hk
    · exact h.out j (by omega)⟩
theorem getD_eq {α : Type} (l : List α) (i : Nat) (d : α) (h : i < l.length) : l.getD i d = l[i] := by simp [List.getD_eq_getElem?_getD, h]
theorem vcode_big {n : Int} {l : List (Int × Int)} (h : n < 0 ∨ 14 < n ∨ 30 < l.length) : vcode n l = 2 := by unfold vcode; rw [if_pos h]
theorem vcode_bad {n : Int} {l : List (Int × Int)} {k : Nat} (h0 : 0 ≤ n) (h1 : n ≤ 14) (h2 : l.length ≤ 30) (hk : k < l.length) (hb : badPair n (l.getD k (0, 0)) = true) : vcode n l = 3 := by
  unfold vcode
  rw [if_neg (by omega), if_pos]
  rw [List.any_eq_true]
  rw [getD_eq l k _ hk] at hb
  exact ⟨l[k], List.getElem_mem hk, hb⟩
theorem vcode_good {n : Int} {l : List (Int × Int)} (h0 : 0 ≤ n) (h1 : n ≤ 14) (h2 : l.length ≤ 30) (h : Good n l l.length) : vcode n l = 0 := by
  unfold vcode
  rw [if_neg (by omega), if_neg]
  rw [List.any_eq_true]
  rintro ⟨p, hp, hb⟩
  obtain ⟨i, hi, rfl⟩ := List.getElem_of_mem hp
  have := h.out i hi
  rw [getD_eq l i _ hi] at this
  rw [this] at hb
  cases hb
theorem vcode_zero {n : Int} {l : List (Int × Int)} (h : vcode n l = 0) : 0 ≤ n ∧ n ≤ 14 ∧ l.length ≤ 30 ∧ Good n l l.length := by
  unfold vcode at h
  by_cases c : n < 0 ∨ 14 < n ∨ 30 < l.length
  · rw [if_pos c] at h; cases h
  · rw [if_neg c] at h
    by_cases d : l.any (badPair n) = true
    · rw [if_pos d] at h; cases h
    · refine ⟨by omega, by omega, by omega, ⟨fun j hj => ?_⟩⟩
      rw [getD_eq l j _ hj]
      cases e : badPair n l[j]
      · rfl
      · exact absurd (List.any_eq_true.2 ⟨l[j], List.getElem_mem hj, e⟩) d
theorem vcode_cases (n : Int) (l : List (Int × Int)) : vcode n l = 0 ∨ vcode n l = 2 ∨ vcode n l = 3 := by
  unfold vcode
  split
  · exact .inr (.inl rfl)
  · split
    · exact .inr (.inr rfl)
    · exact .inl rfl
theorem badPair_true {n : Int} {p : Int × Int} (h : p.1 < 0 ∨ p.2 < 0 ∨ n ≤ p.1 ∨ n ≤ p.2 ∨ p.1 = p.2) : badPair n p = true := decide_eq_true h
theorem badPair_false {n : Int} {p : Int × Int} (h0 : 0 ≤ p.1) (h1 : 0 ≤ p.2) (h2 : p.1 < n) (h3 : p.2 < n) (h4 : p.1 ≠ p.2) : badPair n p = false := decide_eq_false (by omega)
theorem badPair_of_false {n : Int} {p : Int × Int} (h : badPair n p = false) : 0 ≤ p.1 ∧ 0 ≤ p.2 ∧ p.1 < n ∧ p.2 < n ∧ p.1 ≠ p.2 := by
  have := of_decide_eq_false h
  omega
end Go.Proofs.YtieeefgkdfijdaaDoor
