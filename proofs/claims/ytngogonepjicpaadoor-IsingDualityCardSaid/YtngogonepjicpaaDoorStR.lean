/- Plain laws for strips: the counts, as digits of one number; a small strip's states. No condition. -/
import Derived.Test.YtngogonepjicpaaDoorStQ
import Derived.Test.YtngogonepjicpaaDoorIsP2
import Derived.Test.YtngogonepjicpaaDoorGrP
namespace Go.Proofs.YtngogonepjicpaaDoor

def gen (B : Nat) (f : Nat → Nat) (n : Nat) : Nat := sumTo (fun k => f k * B ^ k) n
theorem gen_lt (B : Nat) (f : Nat → Nat) (hB : 1 ≤ B) (h : ∀ k, f k < B) : ∀ n, gen B f n < B ^ n := by
  intro n
  induction n with
  | zero => simp [gen, sumTo]
  | succ n ih =>
    show gen B f n + f n * B ^ n < B ^ (n + 1)
    have h1 : f n * B ^ n ≤ (B - 1) * B ^ n := Nat.mul_le_mul_right _ (by have := h n; omega)
    have h2 : (B - 1) * B ^ n + B ^ n = B ^ (n + 1) := by
      rw [← Nat.succ_mul, Nat.pow_succ, Nat.mul_comm (B ^ n)]
      congr 1
      omega
    omega
theorem gen_inj (B : Nat) (f g : Nat → Nat) (hB : 1 ≤ B) (hf : ∀ k, f k < B) (hg : ∀ k, g k < B) : ∀ n, gen B f n = gen B g n → ∀ k, k < n → f k = g k := by
  intro n
  induction n with
  | zero => intro _ k hk; omega
  | succ n ih =>
    intro h k hk
    have e : gen B f n + f n * B ^ n = gen B g n + g n * B ^ n := h
    have l1 := gen_lt B f hB hf n
    have l2 := gen_lt B g hB hg n
    have hp : 0 < B ^ n := Nat.pow_pos hB
    have d1 : (gen B f n + f n * B ^ n) / B ^ n = f n := by rw [Nat.add_mul_div_right _ _ hp, Nat.div_eq_of_lt l1, Nat.zero_add]
    have d2 : (gen B g n + g n * B ^ n) / B ^ n = g n := by rw [Nat.add_mul_div_right _ _ hp, Nat.div_eq_of_lt l2, Nat.zero_add]
    have hn : f n = g n := by rw [← d1, e, d2]
    rw [hn] at e
    rcases Nat.lt_or_ge k n with h1 | h1
    · exact ih (by omega) k h1
    · obtain rfl : k = n := by omega
      exact hn
theorem sumTo_mul (f : Nat → Nat) (b n : Nat) : sumTo (fun i => f i * b) n = sumTo f n * b := by
  induction n with
  | zero => simp [sumTo]
  | succ n ih => simp only [sumTo]; rw [ih, Nat.add_mul]
/-- the number whose digits are the counts of states -/
theorem gen_states (B : Nat) (l : List (Int × Int)) (n : Nat) (hn : l.length < n) : ∀ N, gen B (cntTo l N) n = sumTo (fun s => B ^ unlike s l) N := by
  intro N
  induction N with
  | zero =>
    unfold gen
    rw [sumTo_congr _ (fun _ => 0) _ (fun k _ => by rw [cntTo_zero, Nat.zero_mul]), sumTo_zero]
    rfl
  | succ N ih =>
    show _ = sumTo (fun s => B ^ unlike s l) N + B ^ unlike N l
    rw [← ih]
    unfold gen
    rw [sumTo_congr _ (fun k => cntTo l N k * B ^ k + (if k = unlike N l then B ^ unlike N l else 0)) _ (fun k _ => ?_), sumTo_add, sumTo_one _ _ _ (Nat.lt_of_le_of_lt (unlike_le N l) hn)]
    rw [cntTo_succ, Nat.add_mul]
    congr 1
    by_cases e : k = unlike N l
    · rw [if_pos e, if_pos e, Nat.one_mul, e]
    · rw [if_neg e, if_neg e, Nat.zero_mul]
theorem gen_shifted (B : Nat) (g : Nat → Nat) (up K : Nat) (h : ∀ k, K < k + up → g k = 0) : gen B (fun k => if up ≤ k then g (k - up) else 0) (K + 1) = gen B g (K + 1) * B ^ up := by
  unfold gen
  rw [← sumTo_mul, ← sumTo_shifted (fun k => g k * B ^ k * B ^ up) up K (fun k hk => by rw [h k hk]; simp)]
  refine sumTo_congr _ _ _ fun k _ => ?_
  show (if up ≤ k then g (k - up) else 0) * B ^ k = (if up ≤ k then g (k - up) * B ^ (k - up) * B ^ up else 0)
  by_cases e : up ≤ k
  · rw [if_pos e, if_pos e, Nat.mul_assoc, ← Nat.pow_add, Nat.sub_add_cancel e]
  · rw [if_neg e, if_neg e, Nat.zero_mul]
theorem gen_sum (B : Nat) (f : Nat → Nat → Nat) (m n : Nat) : gen B (fun k => sumTo (fun c => f c k) m) n = sumTo (fun c => gen B (f c) n) m := by
  unfold gen
  rw [sumTo_swap (fun c k => f c k * B ^ k)]
  refine sumTo_congr _ _ _ fun k _ => ?_
  rw [sumTo_mul]
/-- the ways, as one number -/
def wayN (B h first : Nat) : Nat → Nat → Nat
  | 0, c => if c = first then B ^ innerOf h first else 0
  | t + 1, d => sumTo (fun c => wayN B h first t c * B ^ (innerOf h d + ham c d)) (2 ^ h)
theorem gen_ways (B h first : Nat) (h1 : h ≤ 4) (hf : first < 2 ^ h) : ∀ t K d, d < 2 ^ h → (t + 1) * (h - 1) + t * h ≤ K → gen B (ways h first t d) (K + 1) = wayN B h first t d := by
  have h16 := two_pow_le16 h h1
  intro t
  induction t with
  | zero =>
    intro K d hd hK
    have hi := inner_le h (by omega) first (by omega)
    unfold gen
    simp only [wayN]
    by_cases e : d = first
    · rw [if_pos e, sumTo_congr _ (fun k => if k = innerOf h first then B ^ innerOf h first else 0) _ (fun k _ => ?_), sumTo_one _ _ _ (by omega)]
      by_cases e2 : k = innerOf h first
      · simp [ways, e, e2]
      · simp [ways, e2]
    · rw [if_neg e, sumTo_congr _ (fun _ => 0) _ (fun k _ => by simp [ways, e]), sumTo_zero]
  | succ t ih =>
    intro K d hd hK
    have e1 : (t + 1 + 1) * (h - 1) = (t + 1) * (h - 1) + (h - 1) := Nat.succ_mul _ _
    have e2 : (t + 1) * h = t * h + h := Nat.succ_mul _ _
    show gen B (fun k => sumTo (fun c => if innerOf h d + ham c d ≤ k then ways h first t c (k - (innerOf h d + ham c d)) else 0) (2 ^ h)) (K + 1) = sumTo (fun c => wayN B h first t c * B ^ (innerOf h d + ham c d)) (2 ^ h)
    rw [gen_sum B (fun c k => if innerOf h d + ham c d ≤ k then ways h first t c (k - (innerOf h d + ham c d)) else 0)]
    refine sumTo_congr _ _ _ fun c hc => ?_
    rw [gen_shifted B (ways h first t c), ih K c hc (by omega)]
    intro k hk
    refine ways_zero h first h1 hf t c k hc ?_
    have h3 := inner_le h (by omega) d (by omega)
    have h4 := ham_le h (by omega) c hc d hd
    omega
end Go.Proofs.YtngogonepjicpaaDoor
