/- Plain words for strips: how many ways through the columns have so many unlike bonds. No condition. -/
import Derived.Test.YtngogonepjicpaaDoorSt2
namespace Go.Proofs.YtngogonepjicpaaDoor

def sumTo (f : Nat → Nat) : Nat → Nat
  | 0 => 0
  | n + 1 => sumTo f n + f n
theorem sumTo_congr (f g : Nat → Nat) (n : Nat) (h : ∀ i, i < n → f i = g i) : sumTo f n = sumTo g n := by
  induction n with
  | zero => rfl
  | succ n ih => simp only [sumTo]; rw [ih (fun i hi => h i (by omega)), h n (by omega)]
theorem sumTo_le (f : Nat → Nat) (b n : Nat) (h : ∀ i, i < n → f i ≤ b) : sumTo f n ≤ n * b := by
  induction n with
  | zero => simp [sumTo]
  | succ n ih =>
    simp only [sumTo]
    have h1 := ih (fun i hi => h i (by omega))
    have h2 := h n (by omega)
    rw [Nat.succ_mul]
    omega
theorem sumTo_pos (f : Nat → Nat) (n : Nat) (h : 0 < sumTo f n) : ∃ i, i < n ∧ 0 < f i := by
  induction n with
  | zero => simp [sumTo] at h
  | succ n ih =>
    simp only [sumTo] at h
    rcases Nat.eq_zero_or_pos (f n) with e | e
    · obtain ⟨i, hi, hp⟩ := ih (by omega)
      exact ⟨i, by omega, hp⟩
    · exact ⟨n, by omega, e⟩
theorem sumTo_zero (n : Nat) : sumTo (fun _ => 0) n = 0 := by
  induction n with
  | zero => rfl
  | succ n ih => simp only [sumTo]; omega
theorem sumTo_mono (f : Nat → Nat) {m n : Nat} (h : m ≤ n) : sumTo f m ≤ sumTo f n := by
  induction n with
  | zero =>
    obtain rfl : m = 0 := by omega
    exact Nat.le_refl _
  | succ n ih =>
    rcases Nat.lt_or_ge m (n + 1) with h1 | h1
    · have := ih (by omega); simp only [sumTo]; omega
    · obtain rfl : m = n + 1 := by omega
      exact Nat.le_refl _
def ham (c d : Nat) : Nat := ones (c ^^^ d)
/-- the ways from column 'first' through t columns more, to column c, with k unlike bonds -/
def ways (h first : Nat) : Nat → Nat → Nat → Nat
  | 0, c, k => if c = first ∧ k = innerOf h first then 1 else 0
  | t + 1, d, k => sumTo (fun c => if innerOf h d + ham c d ≤ k then ways h first t c (k - (innerOf h d + ham c d)) else 0) (2 ^ h)
theorem ways_le (h first : Nat) : ∀ t c k, ways h first t c k ≤ (2 ^ h) ^ t := by
  intro t
  induction t with
  | zero => intro c k; simp only [ways]; split <;> simp
  | succ t ih =>
    intro d k
    simp only [ways]
    rw [Nat.pow_succ, Nat.mul_comm]
    refine sumTo_le _ _ _ fun c _ => ?_
    split
    · exact ih _ _
    · exact Nat.zero_le _
theorem inner_le : ∀ h, h < 5 → ∀ c, c < 16 → innerOf h c ≤ h - 1 := by decide +kernel
theorem ham_le : ∀ h, h < 5 → ∀ c, c < 2 ^ h → ∀ d, d < 2 ^ h → ham c d ≤ h := by decide +kernel
theorem two_pow_le16 (h : Nat) (h1 : h ≤ 4) : 2 ^ h ≤ 16 := Nat.le_trans (Nat.pow_le_pow_right (by decide) h1) (by decide)
theorem ways_far (h first : Nat) (h1 : h ≤ 4) (hf : first < 2 ^ h) : ∀ t c k, c < 2 ^ h → 0 < ways h first t c k → k ≤ (t + 1) * (h - 1) + t * h := by
  have h16 := two_pow_le16 h h1
  intro t
  induction t with
  | zero =>
    intro c k _ hp
    simp only [ways] at hp
    split at hp
    · rename_i e
      have := inner_le h (by omega) first (by omega)
      omega
    · omega
  | succ t ih =>
    intro d k hd hp
    simp only [ways] at hp
    obtain ⟨c, hc, hcp⟩ := sumTo_pos _ _ hp
    split at hcp
    · have h2 := ih c _ hc hcp
      have h3 := inner_le h (by omega) d (by omega)
      have h4 := ham_le h (by omega) c hc d hd
      have e1 : (t + 1 + 1) * (h - 1) = (t + 1) * (h - 1) + (h - 1) := Nat.succ_mul _ _
      have e2 : (t + 1) * h = t * h + h := Nat.succ_mul _ _
      omega
    · omega
end Go.Proofs.YtngogonepjicpaaDoor
