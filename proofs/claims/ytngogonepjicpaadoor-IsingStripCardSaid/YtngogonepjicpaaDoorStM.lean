/- Plain words for a strip's sums as they grow; the count of its bonds as Go reckons it. No condition. -/
import Derived.Test.YtngogonepjicpaaDoorStL
namespace Go.Proofs.YtngogonepjicpaaDoor
open Go.RowKit Go.Deep

theorem many_open : ∀ h : Nat, h < 5 → ∀ L : Nat, L < 13 → 1 ≤ h → 1 ≤ L → wrap64 (wrap64 ((L : Int) * ((h : Int) - 1)) + wrap64 (((L : Int) - 1) * (h : Int))) = ((stripMany h L false : Nat) : Int) := by decide +kernel
theorem many_ring : ∀ h : Nat, h < 5 → ∀ L : Nat, L < 13 → 1 ≤ h → 1 ≤ L → wrap64 (wrap64 (wrap64 ((L : Int) * ((h : Int) - 1)) + wrap64 (((L : Int) - 1) * (h : Int))) + h) = ((stripMany h L true : Nat) : Int) := by decide +kernel
theorem many_small : ∀ h : Nat, h < 5 → ∀ L : Nat, L < 13 → ∀ ring, stripMany h L ring ≤ 96 := by decide +kernel
/-- the first r numbers of g, moved up -/
def part (g : Nat → Nat) (up r k : Nat) : Nat := if up ≤ k ∧ k - up < r then g (k - up) else 0
theorem part_zero (g : Nat → Nat) (up k : Nat) : part g up 0 k = 0 := if_neg (by omega)
theorem part_at (g : Nat → Nat) (up r : Nat) : part g up r (r + up) = 0 := if_neg (by omega)
theorem part_succ (g : Nat → Nat) (up r k : Nat) : part g up (r + 1) k = if k = r + up then g r else part g up r k := by
  unfold part
  by_cases e : k = r + up
  · subst e
    rw [if_pos rfl, if_pos (by omega), Nat.add_sub_cancel]
  · rw [if_neg e]
    by_cases e2 : up ≤ k ∧ k - up < r
    · rw [if_pos e2, if_pos (by omega)]
    · rw [if_neg e2, if_neg (by omega)]
theorem part_skip (g : Nat → Nat) (up r k : Nat) (h : g r = 0) : part g up (r + 1) k = part g up r k := by
  rw [part_succ]
  by_cases e : k = r + up
  · subst e
    rw [if_pos rfl, part_at, h]
  · rw [if_neg e]
theorem part_end (g : Nat → Nat) (up n k : Nat) (h : k < n) : part g up n k = if up ≤ k then g (k - up) else 0 := by
  unfold part
  by_cases e : up ≤ k
  · rw [if_pos e, if_pos (by omega)]
  · rw [if_neg e, if_neg (by omega)]
theorem part_le (g : Nat → Nat) (up r k b : Nat) (h : ∀ i, g i ≤ b) : part g up r k ≤ b := by
  unfold part
  split
  · exact h _
  · exact Nat.zero_le _
theorem part_add (g s : Nat → Nat) (up r k : Nat) : (if k = r + up then s (r + up) + part g up r (r + up) + g r else s k + part g up r k) = s k + part g up (r + 1) k := by
  rw [part_succ, part_at]
  by_cases e : k = r + up
  · subst e
    rw [if_pos rfl, if_pos rfl, Nat.add_zero]
  · rw [if_neg e, if_neg e]
/-- the terms of a step of the ways -/
def step (h first t d c k : Nat) : Nat := if innerOf h d + ham c d ≤ k then ways h first t c (k - (innerOf h d + ham c d)) else 0
theorem step_sum (h first t d k : Nat) : sumTo (fun c => step h first t d c k) (2 ^ h) = ways h first (t + 1) d k := rfl
theorem step_le (h first t d c k : Nat) : step h first t d c k ≤ (2 ^ h) ^ t := by
  unfold step
  split
  · exact ways_le _ _ _ _ _
  · exact Nat.zero_le _
/-- how many unlike bonds close the ring -/
def upOf (ring : Bool) (first c : Nat) : Nat := if ring then ham c first else 0
def closing (h L : Nat) (ring : Bool) (first c k : Nat) : Nat := if upOf ring first c ≤ k then ways h first (L - 1) c (k - upOf ring first c) else 0
def firstSum (h L : Nat) (ring : Bool) (first k : Nat) : Nat := sumTo (fun c => closing h L ring first c k) (2 ^ h)
theorem count_firsts (h L : Nat) (ring : Bool) (k : Nat) : sumTo (fun first => firstSum h L ring first k) (2 ^ h) = stripCount h L ring k := rfl
theorem pow_ways (h t : Nat) (h1 : h ≤ 4) (ht : t ≤ 11) : (2 ^ h) ^ t ≤ 17592186044416 := by
  have h2 : (2 ^ h) ^ t ≤ 16 ^ 11 := Nat.le_trans (Nat.pow_le_pow_left (two_pow_le16 h h1) t) (Nat.pow_le_pow_right (by decide) ht)
  exact h2
theorem ways_bound (h first t c k : Nat) (h1 : h ≤ 4) (ht : t ≤ 11) : ways h first t c k ≤ 17592186044416 := Nat.le_trans (ways_le h first t c k) (pow_ways h t h1 ht)
theorem steps_bound (h first t d c k : Nat) (h1 : h ≤ 4) (ht : t ≤ 11) (hc : c ≤ 2 ^ h) : sumTo (fun x => step h first t d x k) c ≤ 281474976710656 := by
  have h2 := sumTo_le (fun x => step h first t d x k) 17592186044416 c fun x _ => Nat.le_trans (step_le h first t d x k) (pow_ways h t h1 ht)
  have h3 := two_pow_le16 h h1
  exact Nat.le_trans h2 (Nat.le_trans (Nat.mul_le_mul_right 17592186044416 (show c ≤ 16 by omega)) (by decide))
theorem closings_bound (h L first : Nat) (ring : Bool) (c k : Nat) (h1 : h ≤ 4) (hL : L ≤ 12) (hc : c ≤ 2 ^ h) : sumTo (fun x => closing h L ring first x k) c ≤ 281474976710656 := by
  have h2 := sumTo_le (fun x => closing h L ring first x k) 17592186044416 c fun x _ => by
    unfold closing
    split
    · exact ways_bound _ _ _ _ _ h1 (by omega)
    · exact Nat.zero_le _
  have h3 := two_pow_le16 h h1
  exact Nat.le_trans h2 (Nat.le_trans (Nat.mul_le_mul_right 17592186044416 (show c ≤ 16 by omega)) (by decide))
theorem firsts_bound (h L : Nat) (ring : Bool) (f k : Nat) (h1 : h ≤ 4) (hL : L ≤ 12) (hf : f ≤ 2 ^ h) : sumTo (fun x => firstSum h L ring x k) f ≤ 4503599627370496 := by
  have h2 := sumTo_le (fun x => firstSum h L ring x k) 281474976710656 f fun x _ => closings_bound h L x ring (2 ^ h) k h1 hL (Nat.le_refl _)
  have h3 := two_pow_le16 h h1
  exact Nat.le_trans h2 (Nat.le_trans (Nat.mul_le_mul_right 281474976710656 (show f ≤ 16 by omega)) (by decide))
/-- where a way's count goes, there is room -/
theorem room_step (h L : Nat) (ring : Bool) (first t c d k : Nat) (h1 : h ≤ 4) (hf : first < 2 ^ h) (hc : c < 2 ^ h) (hd : d < 2 ^ h) (ht : t + 1 < L) (hp : 0 < ways h first t c k) : k + (innerOf h d + ham c d) < stripMany h L ring + 1 := by
  have h16 := two_pow_le16 h h1
  have h2 := ways_far h first h1 hf t c k hc hp
  have h3 := inner_le h (by omega) d (by omega)
  have h4 := ham_le h (by omega) c hc d hd
  have e1 : (t + 1 + 1) * (h - 1) ≤ L * (h - 1) := Nat.mul_le_mul_right _ (by omega)
  have e2 : (t + 1) * h ≤ (L - 1) * h := Nat.mul_le_mul_right _ (by omega)
  rw [Nat.succ_mul (t + 1)] at e1
  rw [Nat.succ_mul t] at e2
  unfold stripMany
  omega
theorem room_close (h L : Nat) (ring : Bool) (first c k : Nat) (h1 : h ≤ 4) (hL : 1 ≤ L) (hf : first < 2 ^ h) (hc : c < 2 ^ h) (hp : 0 < ways h first (L - 1) c k) : k + upOf ring first c < stripMany h L ring + 1 := by
  have h2 := ways_far h first h1 hf (L - 1) c k hc hp
  have h4 := ham_le h (by omega) c hc first hf
  have e : L - 1 + 1 = L := by omega
  rw [e] at h2
  unfold stripMany upOf
  cases ring
  · simp; omega
  · simp; omega
theorem many_ge (h L : Nat) (ring : Bool) (first : Nat) (h1 : h ≤ 4) (hL : 1 ≤ L) (hf : first < 2 ^ h) : innerOf h first < stripMany h L ring + 1 := by
  have h16 := two_pow_le16 h h1
  have h3 := inner_le h (by omega) first (by omega)
  have e1 : 1 * (h - 1) ≤ L * (h - 1) := Nat.mul_le_mul_right _ hL
  unfold stripMany
  omega
theorem xor_go (h : Nat) (h1 : h ≤ 4) (c d : Nat) (hc : c < 2 ^ h) (hd : d < 2 ^ h) : c ^^^ d < 16 := by
  have h16 := two_pow_le16 h h1
  exact Nat.xor_lt_two_pow (n := 4) (by omega) (by omega)
end Go.Proofs.YtngogonepjicpaaDoor
