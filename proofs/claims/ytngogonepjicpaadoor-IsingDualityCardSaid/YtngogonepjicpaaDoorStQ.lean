/- Plain laws for strips: how many ways there are in all; how many without unlike bonds. No condition. -/
import Derived.Test.YtngogonepjicpaaDoorStP
namespace Go.Proofs.YtngogonepjicpaaDoor

theorem sumTo_add (f g : Nat → Nat) (n : Nat) : sumTo (fun i => f i + g i) n = sumTo f n + sumTo g n := by
  induction n with
  | zero => rfl
  | succ n ih => simp only [sumTo]; omega
theorem sumTo_swap (f : Nat → Nat → Nat) (m n : Nat) : sumTo (fun i => sumTo (f i) n) m = sumTo (fun j => sumTo (fun i => f i j) m) n := by
  induction m with
  | zero => simp only [sumTo]; rw [sumTo_zero]
  | succ m ih =>
    simp only [sumTo]
    rw [ih, sumTo_add]
theorem sumTo_const (b n : Nat) : sumTo (fun _ => b) n = n * b := by
  induction n with
  | zero => simp [sumTo]
  | succ n ih => simp only [sumTo]; rw [ih, Nat.succ_mul]
theorem sumTo_one (a n v : Nat) (h : a < n) : sumTo (fun i => if i = a then v else 0) n = v := by
  induction n with
  | zero => omega
  | succ n ih =>
    simp only [sumTo]
    by_cases e : a = n
    · subst e
      rw [if_pos rfl, sumTo_congr _ (fun _ => 0) a (fun i hi => if_neg (by omega)), sumTo_zero]
      omega
    · rw [ih (by omega), if_neg (by omega)]
      rfl
theorem sumTo_tail (g : Nat → Nat) (n m : Nat) (h : ∀ k, n ≤ k → g k = 0) : sumTo g (n + m) = sumTo g n := by
  induction m with
  | zero => rfl
  | succ m ih =>
    show sumTo g (n + m) + g (n + m) = _
    rw [ih, h _ (by omega)]
    rfl
theorem sumTo_shift (g : Nat → Nat) (up n : Nat) : sumTo (fun k => if up ≤ k then g (k - up) else 0) (up + n) = sumTo g n := by
  induction n with
  | zero =>
    rw [sumTo_congr _ (fun _ => 0) (up + 0) (fun i hi => if_neg (by omega)), sumTo_zero]
    rfl
  | succ n ih =>
    show sumTo _ (up + n) + (if up ≤ up + n then g (up + n - up) else 0) = sumTo g n + g n
    rw [ih, if_pos (by omega), Nat.add_sub_cancel_left]
theorem sumTo_shifted (g : Nat → Nat) (up K : Nat) (h : ∀ k, K < k + up → g k = 0) : sumTo (fun k => if up ≤ k then g (k - up) else 0) (K + 1) = sumTo g (K + 1) := by
  rcases Nat.lt_or_ge (K + 1) up with e | e
  · rw [sumTo_congr _ (fun _ => 0) (K + 1) (fun i hi => if_neg (by omega)), sumTo_congr g (fun _ => 0) (K + 1) (fun i _ => h i (by omega))]
  · obtain ⟨n, hn⟩ : ∃ n, K + 1 = up + n := ⟨K + 1 - up, by omega⟩
    rw [hn, sumTo_shift, Nat.add_comm up n, sumTo_tail g n up (fun k hk => h k (by omega))]
theorem ways_zero (h first : Nat) (h1 : h ≤ 4) (hf : first < 2 ^ h) (t c k : Nat) (hc : c < 2 ^ h) (hk : (t + 1) * (h - 1) + t * h < k) : ways h first t c k = 0 := by
  rcases Nat.eq_zero_or_pos (ways h first t c k) with e | e
  · exact e
  · have := ways_far h first h1 hf t c k hc e
    omega
/-- all ways from 'first' through t columns more -/
theorem ways_mass (h first : Nat) (h1 : h ≤ 4) (hf : first < 2 ^ h) : ∀ t K, (t + 1) * (h - 1) + t * h ≤ K → sumTo (fun c => sumTo (ways h first t c) (K + 1)) (2 ^ h) = (2 ^ h) ^ t := by
  have h16 := two_pow_le16 h h1
  intro t
  induction t with
  | zero =>
    intro K hK
    have hi := inner_le h (by omega) first (by omega)
    rw [sumTo_congr _ (fun c => if c = first then 1 else 0) _ (fun c _ => ?_), sumTo_one first _ 1 hf]
    · rfl
    · by_cases e : c = first
      · rw [if_pos e, sumTo_congr _ (fun k => if k = innerOf h first then 1 else 0) _ (fun k _ => by simp [ways, e]), sumTo_one _ _ _ (by omega)]
      · rw [if_neg e, sumTo_congr _ (fun _ => 0) _ (fun k _ => by simp [ways, e]), sumTo_zero]
  | succ t ih =>
    intro K hK
    have e1 : (t + 1 + 1) * (h - 1) = (t + 1) * (h - 1) + (h - 1) := Nat.succ_mul _ _
    have e2 : (t + 1) * h = t * h + h := Nat.succ_mul _ _
    have hd : ∀ d, d < 2 ^ h → sumTo (ways h first (t + 1) d) (K + 1) = (2 ^ h) ^ t := fun d hd => by
      show sumTo (fun k => sumTo (fun c => if innerOf h d + ham c d ≤ k then ways h first t c (k - (innerOf h d + ham c d)) else 0) (2 ^ h)) (K + 1) = _
      rw [sumTo_swap (fun k c => if innerOf h d + ham c d ≤ k then ways h first t c (k - (innerOf h d + ham c d)) else 0)]
      rw [← ih K (by omega)]
      refine sumTo_congr _ _ _ fun c hc => ?_
      refine sumTo_shifted (ways h first t c) (innerOf h d + ham c d) K fun k hk => ways_zero h first h1 hf t c k hc ?_
      have h3 := inner_le h (by omega) d (by omega)
      have h4 := ham_le h (by omega) c hc d hd
      omega
    rw [sumTo_congr _ (fun _ => (2 ^ h) ^ t) _ hd, sumTo_const, Nat.pow_succ, Nat.mul_comm]
theorem ham_zero : ∀ c, c < 16 → ∀ d, d < 16 → (ham c d = 0 ↔ c = d) := by decide +kernel
theorem ways_none (h first : Nat) (h1 : h ≤ 4) (hf : first < 2 ^ h) : ∀ t d, d < 2 ^ h → ways h first t d 0 = if d = first ∧ innerOf h first = 0 then 1 else 0 := by
  have h16 := two_pow_le16 h h1
  intro t
  induction t with
  | zero =>
    intro d _
    simp only [ways]
    have : (d = first ∧ 0 = innerOf h first) ↔ (d = first ∧ innerOf h first = 0) := by omega
    simp only [this]
  | succ t ih =>
    intro d hd
    show sumTo (fun c => if innerOf h d + ham c d ≤ 0 then ways h first t c (0 - (innerOf h d + ham c d)) else 0) (2 ^ h) = _
    rw [sumTo_congr _ (fun c => if c = d then (if innerOf h d = 0 then ways h first t d 0 else 0) else 0) _ (fun c hc => ?_), sumTo_one d _ _ hd, ih d hd]
    · by_cases e : d = first
      · subst e
        by_cases e2 : innerOf h d = 0
        · simp [e2]
        · simp [e2]
      · simp [e]
    · have hz := ham_zero c (by omega) d (by omega)
      by_cases e : c = d
      · subst e
        rw [if_pos rfl]
        have h0 : ham c c = 0 := hz.2 rfl
        rw [h0]
        by_cases e2 : innerOf h c = 0
        · rw [if_pos (by omega), if_pos e2, e2]
        · rw [if_neg (by omega), if_neg e2]
      · rw [if_neg e, if_neg]
        intro h2
        exact e (hz.1 (by omega))
/-- what the strip's out holds at k -/
def stripCount (h L : Nat) (ring : Bool) (k : Nat) : Nat :=
  sumTo (fun first => sumTo (fun c => if (if ring then ham c first else 0) ≤ k then ways h first (L - 1) c (k - (if ring then ham c first else 0)) else 0) (2 ^ h)) (2 ^ h)
def stripMany (h L : Nat) (ring : Bool) : Nat := L * (h - 1) + (L - 1) * h + (if ring then h else 0)
theorem count_sum (h L : Nat) (ring : Bool) (h1 : h ≤ 4) (hL : 1 ≤ L) : sumTo (stripCount h L ring) (stripMany h L ring + 1) = (2 ^ h) ^ L := by
  unfold stripCount
  rw [sumTo_swap (fun k first => sumTo (fun c => if (if ring then ham c first else 0) ≤ k then ways h first (L - 1) c (k - (if ring then ham c first else 0)) else 0) (2 ^ h))]
  have hone : ∀ first, first < 2 ^ h → sumTo (fun k => sumTo (fun c => if (if ring then ham c first else 0) ≤ k then ways h first (L - 1) c (k - (if ring then ham c first else 0)) else 0) (2 ^ h)) (stripMany h L ring + 1) = (2 ^ h) ^ (L - 1) := fun first hf => by
    have hLe : L - 1 + 1 = L := by omega
    rw [sumTo_swap (fun k c => if (if ring then ham c first else 0) ≤ k then ways h first (L - 1) c (k - (if ring then ham c first else 0)) else 0)]
    rw [← ways_mass h first h1 hf (L - 1) (stripMany h L ring) (by unfold stripMany; rw [hLe]; omega)]
    refine sumTo_congr _ _ _ fun c hc => ?_
    refine sumTo_shifted (ways h first (L - 1) c) (if ring then ham c first else 0) _ fun k hk => ways_zero h first h1 hf (L - 1) c k hc ?_
    rw [hLe]
    have h4 := ham_le h (by omega) c hc first hf
    unfold stripMany at hk
    cases ring
    · simp at hk ⊢; omega
    · simp at hk ⊢; omega
  rw [sumTo_congr _ (fun _ => (2 ^ h) ^ (L - 1)) _ hone, sumTo_const]
  obtain ⟨m, rfl⟩ : ∃ m, L = m + 1 := ⟨L - 1, by omega⟩
  rw [Nat.add_sub_cancel, Nat.pow_succ, Nat.mul_comm]
theorem two_still : ∀ h, h < 5 → 1 ≤ h → sumTo (fun f => if innerOf h f = 0 then 1 else 0) (2 ^ h) = 2 := by decide +kernel
theorem count_zero (h L : Nat) (ring : Bool) (h0 : 1 ≤ h) (h1 : h ≤ 4) : stripCount h L ring 0 = 2 := by
  have h16 := two_pow_le16 h h1
  unfold stripCount
  refine Eq.trans (sumTo_congr _ (fun f => if innerOf h f = 0 then 1 else 0) _ fun first hf => ?_) (two_still h (by omega) h0)
  rw [sumTo_congr _ (fun c => if c = first then (if innerOf h first = 0 then 1 else 0) else 0) _ (fun c hc => ?_), sumTo_one first _ _ hf]
  have hw := ways_none h first h1 hf (L - 1) c hc
  by_cases e : c = first
  · subst e
    have hz : ham c c = 0 := (ham_zero c (by omega) c (by omega)).2 rfl
    rw [hz]
    simp [hw]
  · simp only [Nat.zero_sub, hw]
    simp [e]
theorem count_le (h L : Nat) (ring : Bool) (k : Nat) : stripCount h L ring k ≤ 2 ^ h * (2 ^ h * (2 ^ h) ^ (L - 1)) := by
  unfold stripCount
  refine sumTo_le _ _ _ fun first _ => sumTo_le _ _ _ fun c _ => ?_
  generalize (if ring = true then ham c first else 0) = up
  split
  · exact ways_le _ _ _ _ _
  · exact Nat.zero_le _
end Go.Proofs.YtngogonepjicpaaDoor
