/- Plain words for even sets: how many of the sets of so many bonds have just these odd spins. No condition. -/
import Derived.Test.YtngogonepjicpaaDoorIsP2
namespace Go.Proofs.YtngogonepjicpaaDoor

def mask (p : Int × Int) : Nat := 2 ^ p.1.toNat ^^^ 2 ^ p.2.toNat
/-- of the sets of k of these bonds, how many have just the odd spins S -/
def ev : List Nat → Nat → Nat → Nat
  | [], S, k => if S = 0 ∧ k = 0 then 1 else 0
  | t :: ts, S, k => ev ts S k + (if k = 0 then 0 else ev ts (S ^^^ t) (k - 1))

theorem xor_swap (a b c : Nat) : a ^^^ b ^^^ c = a ^^^ c ^^^ b := by rw [Nat.xor_assoc, Nat.xor_comm b c, ← Nat.xor_assoc]
theorem xor_back (a b : Nat) : a ^^^ b ^^^ b = a := by rw [Nat.xor_assoc, Nat.xor_self, Nat.xor_zero]
theorem ev_snoc (l : List Nat) (t : Nat) : ∀ S k, ev (l ++ [t]) S k = ev l S k + (if k = 0 then 0 else ev l (S ^^^ t) (k - 1)) := by
  induction l with
  | nil => intro S k; rfl
  | cons u l ih =>
    intro S k
    simp only [List.cons_append, ev]
    rw [ih S k]
    by_cases hk : k = 0
    · simp [hk]
    · simp only [if_neg hk]
      rw [ih (S ^^^ u) (k - 1), xor_swap S u t]
      omega
theorem ev_zero_of_gt (l : List Nat) : ∀ S k, l.length < k → ev l S k = 0 := by
  induction l with
  | nil =>
    intro S k h
    have : k ≠ 0 := by simp at h; omega
    simp [ev, this]
  | cons u l ih =>
    intro S k h
    have h' : l.length + 1 < k := by simpa using h
    simp only [ev]
    rw [ih S k (by omega), if_neg (by omega), ih (S ^^^ u) (k - 1) (by omega)]
theorem ev_le (l : List Nat) : ∀ S k, ev l S k ≤ 2 ^ l.length := by
  induction l with
  | nil => intro S k; simp only [ev]; split <;> simp
  | cons u l ih =>
    intro S k
    simp only [ev, List.length_cons, Nat.pow_succ]
    have h1 := ih S k
    have h2 := ih (S ^^^ u) (k - 1)
    split <;> omega
theorem ev_small (l : List Nat) (S k : Nat) (h : l.length ≤ 30) : ev l S k ≤ 1073741824 :=
  Nat.le_trans (ev_le l S k) (Nat.le_trans (Nat.pow_le_pow_right (by decide) h) (by decide))
def evenOf (l : List (Int × Int)) : List Int := (List.range (l.length + 1)).map fun k => (ev (l.map mask) 0 k : Int)
theorem evenOf_length (l : List (Int × Int)) : (evenOf l).length = l.length + 1 := by simp [evenOf]
theorem mask_take (l : List (Int × Int)) (m : Nat) (h : m < l.length) : (l.map mask).take (m + 1) = (l.map mask).take m ++ [mask (l.getD m (0, 0))] := by
  rw [List.take_succ_eq_append_getElem (by simpa using h), getD_eq l m _ h]
  simp
theorem pow_or (a b : Nat) (h : a ≠ b) : 2 ^ a ||| 2 ^ b = 2 ^ a ^^^ 2 ^ b := by
  apply Nat.eq_of_testBit_eq
  intro i
  rw [Nat.testBit_or, Nat.testBit_xor, Nat.testBit_two_pow, Nat.testBit_two_pow]
  by_cases e1 : a = i
  · subst e1
    have : decide (b = a) = false := decide_eq_false (fun e => h e.symm)
    simp [this]
  · simp [e1]
theorem mask_lt {n : Nat} {p : Int × Int} (h0 : 0 ≤ p.1) (h1 : 0 ≤ p.2) (h2 : p.1 < n) (h3 : p.2 < n) : mask p < 2 ^ n := by
  unfold mask
  exact Nat.xor_lt_two_pow (Nat.pow_lt_pow_right (by decide) (by omega)) (Nat.pow_lt_pow_right (by decide) (by omega))
/-- a table's row behind one bond more, of which the rows ahead of i and r numbers of row i have been added -/
def evStep (E : Nat → Nat → Nat) (T i r S q : Nat) : Nat := E S q + if 1 ≤ q ∧ (S ^^^ T < i ∨ (S ^^^ T = i ∧ q - 1 < r)) then E (S ^^^ T) (q - 1) else 0
theorem evStep_start (E : Nat → Nat → Nat) (T S q : Nat) : evStep E T 0 0 S q = E S q := by
  unfold evStep
  rw [if_neg (by omega)]
  rfl
theorem evStep_at (E : Nat → Nat → Nat) (T i r : Nat) : evStep E T i r (i ^^^ T) (r + 1) = E (i ^^^ T) (r + 1) := by
  unfold evStep
  rw [if_neg (by rw [xor_back]; omega)]
  rfl
theorem evStep_add (E : Nat → Nat → Nat) (T i r S q : Nat) : (if S = i ^^^ T ∧ q = r + 1 then E (i ^^^ T) (r + 1) + E i r else evStep E T i r S q) = evStep E T i (r + 1) S q := by
  by_cases h : S = i ^^^ T ∧ q = r + 1
  · obtain ⟨rfl, rfl⟩ := h
    rw [if_pos ⟨rfl, rfl⟩]
    unfold evStep
    rw [xor_back, if_pos (by omega)]
    rfl
  · rw [if_neg h]
    unfold evStep
    congr 1
    have e : (1 ≤ q ∧ (S ^^^ T < i ∨ (S ^^^ T = i ∧ q - 1 < r))) ↔ (1 ≤ q ∧ (S ^^^ T < i ∨ (S ^^^ T = i ∧ q - 1 < r + 1))) := by
      constructor
      · rintro ⟨h1, h2⟩
        exact ⟨h1, by omega⟩
      · rintro ⟨h1, h2⟩
        refine ⟨h1, ?_⟩
        rcases h2 with h2 | ⟨h2, h3⟩
        · exact .inl h2
        · refine .inr ⟨h2, ?_⟩
          rcases Nat.lt_or_ge (q - 1) r with h4 | h4
          · exact h4
          · exact absurd ⟨by rw [← h2, xor_back], by omega⟩ h
    simp only [e]
theorem evStep_row (E : Nat → Nat → Nat) (T i m S q : Nat) (hq : q ≤ m) : evStep E T i m S q = evStep E T (i + 1) 0 S q := by
  unfold evStep
  congr 1
  have e : (1 ≤ q ∧ (S ^^^ T < i ∨ (S ^^^ T = i ∧ q - 1 < m))) ↔ (1 ≤ q ∧ (S ^^^ T < i + 1 ∨ (S ^^^ T = i + 1 ∧ q - 1 < 0))) := by omega
  simp only [e]
theorem evStep_end (l : List Nat) (T n S q : Nat) (hS : S < 2 ^ n) (hT : T < 2 ^ n) : evStep (ev l) T (2 ^ n) 0 S q = ev (l ++ [T]) S q := by
  rw [ev_snoc]
  unfold evStep
  congr 1
  have hx := Nat.xor_lt_two_pow hS hT
  by_cases h : q = 0
  · subst h; simp
  · rw [if_pos ⟨by omega, .inl hx⟩, if_neg h]
end Go.Proofs.YtngogonepjicpaaDoor
