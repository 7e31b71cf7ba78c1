/- Van der Waerden's identity: a system's states by unlike bonds, and its even sets of bonds; a quick way to count these. No condition. -/
import Derived.Test.YtngogonepjicpaaDoorStR
import Derived.Test.YtngogonepjicpaaDoorEvP
namespace Go.Proofs.YtngogonepjicpaaDoor

/-- the sum of f below n -/
def isum (f : Nat → Int) : Nat → Int
  | 0 => 0
  | n + 1 => isum f n + f n
theorem isum_congr (f g : Nat → Int) (n : Nat) (h : ∀ i, i < n → f i = g i) : isum f n = isum g n := by
  induction n with
  | zero => rfl
  | succ n ih => simp only [isum]; rw [ih (fun i hi => h i (by omega)), h n (by omega)]
theorem isum_add (f g : Nat → Int) (n : Nat) : isum (fun i => f i + g i) n = isum f n + isum g n := by
  induction n with
  | zero => rfl
  | succ n ih => simp only [isum]; rw [ih]; omega
theorem isum_mul (f : Nat → Int) (b : Int) (n : Nat) : isum (fun i => b * f i) n = b * isum f n := by
  induction n with
  | zero => simp [isum]
  | succ n ih => simp only [isum]; rw [ih, Int.mul_add]
theorem isum_pairs (f : Nat → Int) (n : Nat) : isum f (2 * n) = isum (fun i => f (2 * i) + f (2 * i + 1)) n := by
  induction n with
  | zero => rfl
  | succ n ih =>
    rw [show 2 * (n + 1) = 2 * n + 1 + 1 from rfl]
    simp only [isum]
    rw [ih]
    omega
theorem isum_zero (n : Nat) : isum (fun _ => 0) n = 0 := by
  induction n with
  | zero => rfl
  | succ n ih => simp only [isum]; omega
theorem isum_cast (f : Nat → Nat) (n : Nat) : isum (fun i => (f i : Int)) n = ((sumTo f n : Nat) : Int) := by
  induction n with
  | zero => rfl
  | succ n ih => simp only [isum, sumTo]; rw [ih]; push_cast; rfl
/-- the sign of the bits that two numbers share -/
def chi : Nat → Nat → Nat → Int
  | 0, _, _ => 1
  | n + 1, s, S => chi n (s / 2) (S / 2) * (if s % 2 = 1 ∧ S % 2 = 1 then -1 else 1)
theorem chi_zero (n : Nat) : ∀ s, chi n s 0 = 1 := by
  induction n with
  | zero => intro s; rfl
  | succ n ih => intro s; simp [chi, ih]
theorem xor_half (S T : Nat) : (S ^^^ T) / 2 = S / 2 ^^^ T / 2 := by
  apply Nat.eq_of_testBit_eq
  intro i
  rw [Nat.testBit_xor, Nat.testBit_div_two, Nat.testBit_div_two, Nat.testBit_div_two, Nat.testBit_xor]
theorem xor_low (S T : Nat) : (S ^^^ T) % 2 = (S % 2 + T % 2) % 2 := by
  have h2 : (S ^^^ T) % 2 = (S % 2) ^^^ (T % 2) := by simpa using Nat.xor_mod_two_pow (a := S) (b := T) (n := 1)
  rw [h2]
  rcases Nat.mod_two_eq_zero_or_one S with e | e <;> rcases Nat.mod_two_eq_zero_or_one T with f | f <;> rw [e, f] <;> rfl
theorem chi_xor (n : Nat) : ∀ s S T, chi n s (S ^^^ T) = chi n s S * chi n s T := by
  induction n with
  | zero => intro s S T; rfl
  | succ n ih =>
    intro s S T
    simp only [chi]
    rw [xor_half, ih, xor_low]
    generalize chi n (s / 2) (S / 2) = a
    generalize chi n (s / 2) (T / 2) = b
    rcases Nat.mod_two_eq_zero_or_one s with c | c <;> rcases Nat.mod_two_eq_zero_or_one S with d | d <;> rcases Nat.mod_two_eq_zero_or_one T with e | e <;> rw [c, d, e] <;> simp [Int.mul_neg, Int.neg_mul]
theorem chi_pow : ∀ p n s, p < n → chi n s (2 ^ p) = if s / 2 ^ p % 2 = 1 then -1 else 1 := by
  intro p
  induction p with
  | zero =>
    intro n s h
    obtain ⟨n, rfl⟩ : ∃ m, n = m + 1 := ⟨n - 1, by omega⟩
    simp only [chi]
    rw [show (2 : Nat) ^ 0 / 2 = 0 from rfl, chi_zero]
    simp
  | succ p ih =>
    intro n s h
    obtain ⟨n, rfl⟩ : ∃ m, n = m + 1 := ⟨n - 1, by omega⟩
    simp only [chi]
    have e1 : 2 ^ (p + 1) / 2 = 2 ^ p := by rw [Nat.pow_succ, Nat.mul_div_cancel _ (by decide)]
    have e2 : 2 ^ (p + 1) % 2 = 0 := by rw [Nat.pow_succ, Nat.mul_mod_left]
    rw [e1, e2, ih n (s / 2) (by omega), Nat.div_div_eq_div_mul, show 2 * 2 ^ p = 2 ^ (p + 1) by rw [Nat.pow_succ, Nat.mul_comm]]
    simp
theorem chi_sum : ∀ n S, S < 2 ^ n → isum (fun s => chi n s S) (2 ^ n) = if S = 0 then ((2 ^ n : Nat) : Int) else 0 := by
  intro n
  induction n with
  | zero =>
    intro S h
    obtain rfl : S = 0 := by simpa using h
    rfl
  | succ n ih =>
    intro S h
    have e0 : 2 ^ (n + 1) = 2 * 2 ^ n := by rw [Nat.pow_succ, Nat.mul_comm]
    rw [e0] at h ⊢
    rw [isum_pairs]
    have hi := ih (S / 2) (by omega)
    rcases Nat.mod_two_eq_zero_or_one S with e | e
    · rw [isum_congr _ (fun i => 2 * chi n i (S / 2)) _ (fun i _ => ?_), isum_mul, hi]
      · by_cases h0 : S = 0
        · subst h0; simp
        · rw [if_neg (by omega), if_neg h0]; rfl
      · simp only [chi]
        rw [e, show 2 * i / 2 = i by omega, show (2 * i + 1) / 2 = i by omega]
        simp
        omega
    · rw [isum_congr _ (fun _ => 0) _ (fun i _ => ?_), isum_zero, if_neg (by omega)]
      simp only [chi]
      rw [e, show 2 * i / 2 = i by omega, show (2 * i + 1) / 2 = i by omega, show 2 * i % 2 = 0 by omega, show (2 * i + 1) % 2 = 1 by omega]
      simp
      omega
/-- a state's sign at a bond -/
theorem chi_bond (n s : Nat) (p : Int × Int) (h0 : 0 ≤ p.1) (h1 : 0 ≤ p.2) (h2 : p.1 < n) (h3 : p.2 < n) : chi n s (mask p) = if unl s p = 1 then -1 else 1 := by
  unfold mask unl bitAt
  rw [chi_xor, chi_pow _ _ _ (by omega), chi_pow _ _ _ (by omega)]
  rcases Nat.mod_two_eq_zero_or_one (s / 2 ^ p.1.toNat) with e | e <;> rcases Nat.mod_two_eq_zero_or_one (s / 2 ^ p.2.toNat) with f | f <;> rw [e, f] <;> simp
/-- a state's weight: two for each bond, times y for each unlike one -/
def wt (y : Int) (s : Nat) : List (Int × Int) → Int
  | [] => 1
  | p :: l => wt y s l * (if unl s p = 1 then 2 * y else 2)
theorem wt_pow (y : Int) (s : Nat) (l : List (Int × Int)) : wt y s l = 2 ^ l.length * y ^ unlike s l := by
  induction l with
  | nil => simp [wt, unlike]
  | cons p l ih =>
    have e : unlike s (p :: l) = unl s p + unlike s l := rfl
    simp only [wt, List.length_cons]
    rw [ih, e]
    have hu := unl_le s p
    by_cases h : unl s p = 1
    · rw [if_pos h, h, Int.pow_succ, Nat.add_comm, Int.pow_succ]
      simp only [Int.mul_assoc, Int.mul_comm, Int.mul_left_comm]
    · have h0 : unl s p = 0 := by omega
      rw [if_neg h, h0, Nat.zero_add, Int.pow_succ]
      simp only [Int.mul_assoc, Int.mul_comm]
/-- even sets (of the odd spins S): a for each bond left out, b for each one taken -/
def ez (a b : Int) : List Nat → Nat → Int
  | [], S => if S = 0 then 1 else 0
  | t :: ts, S => a * ez a b ts S + b * ez a b ts (S ^^^ t)
/-- all pairs are right -/
def Rights (n : Nat) (l : List (Int × Int)) : Prop := ∀ p, p ∈ l → badPair n p = false
theorem Rights.of_good {n : Nat} {l : List (Int × Int)} (h : Good n l l.length) : Rights n l := fun p hp => by
  obtain ⟨i, hi, rfl⟩ := List.getElem_of_mem hp
  have := h.out i hi
  rw [getD_eq l i _ hi] at this
  exact this
theorem vdw (n : Nat) (y : Int) : ∀ (l : List (Int × Int)), Rights n l → ∀ S, S < 2 ^ n → isum (fun s => chi n s S * wt y s l) (2 ^ n) = ((2 ^ n : Nat) : Int) * ez (1 + y) (1 - y) (l.map mask) S := by
  intro l
  induction l with
  | nil =>
    intro _ S hS
    simp only [wt, Int.mul_one, List.map_nil, ez]
    rw [chi_sum n S hS]
    split <;> simp
  | cons p l ih =>
    intro hl S hS
    have hp := badPair_of_false (hl p (by simp))
    obtain ⟨g1, g2, g3, g4, _⟩ := hp
    have hl' : Rights n l := fun q hq => hl q (by simp [hq])
    have hm := mask_lt (p := p) g1 g2 g3 g4
    simp only [List.map_cons, ez]
    rw [Int.mul_add, Int.mul_left_comm, Int.mul_left_comm (((2 ^ n : Nat) : Int)), ← ih hl' S hS, ← ih hl' (S ^^^ mask p) (Nat.xor_lt_two_pow hS hm), ← isum_mul, ← isum_mul, ← isum_add]
    refine isum_congr _ _ _ fun s _ => ?_
    rw [chi_xor, chi_bond n s p g1 g2 g3 g4]
    simp only [wt]
    generalize chi n s S = c
    generalize wt y s l = v
    by_cases h : unl s p = 1
    · rw [if_pos h, if_pos h]
      grind
    · rw [if_neg h, if_neg h]
      grind
/-- states against even sets -/
theorem vdw_states (n : Nat) (y : Int) (l : List (Int × Int)) (hl : Rights n l) : 2 ^ l.length * isum (fun s => y ^ unlike s l) (2 ^ n) = ((2 ^ n : Nat) : Int) * ez (1 + y) (1 - y) (l.map mask) 0 := by
  rw [← vdw n y l hl 0 (Nat.two_pow_pos n), ← isum_mul]
  refine isum_congr _ _ _ fun s _ => ?_
  rw [chi_zero, Int.one_mul, wt_pow]
theorem pow_cast (B k : Nat) : ((B : Int)) ^ k = ((B ^ k : Nat) : Int) := by simp
theorem states_gen (B n : Nat) (l : List (Int × Int)) : isum (fun s => (B : Int) ^ unlike s l) (2 ^ n) = ((gen B (cntTo l (2 ^ n)) (l.length + 1) : Nat) : Int) := by
  rw [gen_states B l _ (by omega), ← isum_cast]
  exact isum_congr _ _ _ fun s _ => pow_cast B _
theorem ez_gen (B : Nat) : ∀ (l : List Nat) S n, l.length < n → ez 1 (B : Int) l S = ((gen B (ev l S) n : Nat) : Int) := by
  intro l
  induction l with
  | nil =>
    intro S n hn
    unfold gen
    simp only [ez]
    by_cases h : S = 0
    · rw [if_pos h, sumTo_congr _ (fun k => if k = 0 then 1 else 0) _ (fun k _ => by by_cases e : k = 0 <;> simp [ev, h, e]), sumTo_one _ _ _ (by simpa using hn)]
      rfl
    · rw [if_neg h, sumTo_congr _ (fun _ => 0) _ (fun k _ => by simp [ev, h]), sumTo_zero]
      rfl
  | cons t l ih =>
    intro S n hn
    obtain ⟨m, rfl⟩ : ∃ m, n = m + 1 := ⟨n - 1, by simp at hn; omega⟩
    have hlm : l.length < m := by simpa using hn
    simp only [ez]
    rw [ih S (m + 1) (by omega), ih (S ^^^ t) (m + 1) (by omega), Int.one_mul]
    have h1 : gen B (ev (t :: l) S) (m + 1) = gen B (ev l S) (m + 1) + gen B (fun k => if 1 ≤ k then ev l (S ^^^ t) (k - 1) else 0) (m + 1) := by
      unfold gen
      rw [← sumTo_add]
      refine sumTo_congr _ _ _ fun k _ => ?_
      rw [← Nat.add_mul]
      simp only [ev]
      by_cases e : k = 0
      · simp [e]
      · rw [if_neg e, if_pos (by omega)]
    rw [h1, gen_shifted B (ev l (S ^^^ t)) 1 m (fun k hk => ev_zero_of_gt l _ k (by omega)), Nat.pow_one]
    push_cast
    rw [Int.mul_comm]
/-- a list of odd spins, with weights -/
def put (S : Nat) (p : Int) : List (Nat × Int) → List (Nat × Int)
  | [] => [(S, p)]
  | (T, q) :: r => if S = T then (T, q + p) :: r else (T, q) :: put S p r
def orAll : List Nat → Nat
  | [] => 0
  | t :: ts => t ||| orAll ts
def putIf (o S : Nat) (p : Int) (r : List (Nat × Int)) : List (Nat × Int) := if S ||| o = o then put S p r else r
def ezStep (a b : Int) (o t : Nat) : List (Nat × Int) → List (Nat × Int)
  | [] => []
  | (S, p) :: r => putIf o S (a * p) (putIf o (S ^^^ t) (b * p) (ezStep a b o t r))
def ezRun (a b : Int) : List Nat → List (Nat × Int) → Int
  | [], es => (es.map fun e => if e.1 = 0 then e.2 else 0).sum
  | t :: ts, es => ezRun a b ts (ezStep a b (orAll ts) t es)
def tot (a b : Int) (l : List Nat) (es : List (Nat × Int)) : Int := (es.map fun e => e.2 * ez a b l e.1).sum
theorem tot_put (a b : Int) (l : List Nat) (S : Nat) (p : Int) : ∀ es, tot a b l (put S p es) = p * ez a b l S + tot a b l es := by
  intro es
  induction es with
  | nil => simp [put, tot]
  | cons e r ih =>
    obtain ⟨T, q⟩ := e
    simp only [put]
    by_cases h : S = T
    · subst h
      rw [if_pos rfl]
      simp only [tot, List.map_cons, List.sum_cons, Int.add_mul]
      omega
    · rw [if_neg h]
      simp only [tot, List.map_cons, List.sum_cons] at ih ⊢
      omega
theorem or_sub {S o : Nat} (h : S ||| o = o) (i : Nat) (hi : S.testBit i = true) : o.testBit i = true := by
  rw [← h, Nat.testBit_or, hi]
  rfl
theorem or_of_sub {S o : Nat} (h : ∀ i, S.testBit i = true → o.testBit i = true) : S ||| o = o := by
  apply Nat.eq_of_testBit_eq
  intro i
  rw [Nat.testBit_or]
  cases e : S.testBit i
  · rfl
  · rw [h i e]; rfl
theorem ez_out (a b : Int) : ∀ (l : List Nat) S, ¬ (S ||| orAll l = orAll l) → ez a b l S = 0 := by
  intro l
  induction l with
  | nil =>
    intro S h
    simp only [orAll, Nat.or_zero] at h
    simp [ez, h]
  | cons t ts ih =>
    intro S h
    simp only [ez]
    rw [ih S (fun e => h (or_of_sub fun i hi => by
      simp only [orAll]
      rw [Nat.testBit_or, or_sub e i hi, Bool.or_true])), ih (S ^^^ t) (fun e => h (or_of_sub fun i hi => by
      simp only [orAll]
      rw [Nat.testBit_or]
      cases ht : t.testBit i
      · rw [Bool.false_or]
        refine or_sub e i ?_
        rw [Nat.testBit_xor, hi, ht]
        rfl
      · rfl))]
    simp
theorem tot_putIf (a b : Int) (l : List Nat) (S : Nat) (p : Int) (es : List (Nat × Int)) : tot a b l (putIf (orAll l) S p es) = p * ez a b l S + tot a b l es := by
  unfold putIf
  by_cases h : S ||| orAll l = orAll l
  · rw [if_pos h, tot_put]
  · rw [if_neg h, ez_out a b l S h]
    simp
theorem tot_step (a b : Int) (t : Nat) (ts : List Nat) : ∀ es, tot a b ts (ezStep a b (orAll ts) t es) = tot a b (t :: ts) es := by
  intro es
  induction es with
  | nil => rfl
  | cons e r ih =>
    obtain ⟨S, p⟩ := e
    simp only [ezStep]
    rw [tot_putIf, tot_putIf, ih]
    simp only [tot, List.map_cons, List.sum_cons, ez, Int.mul_add]
    simp only [Int.mul_assoc, Int.mul_comm, Int.mul_left_comm]
    omega
theorem run_tot (a b : Int) : ∀ l es, ezRun a b l es = tot a b l es := by
  intro l
  induction l with
  | nil =>
    intro es
    unfold ezRun tot
    congr 1
    refine List.map_congr_left fun e _ => ?_
    simp only [ez]
    split <;> simp
  | cons t ts ih =>
    intro es
    simp only [ezRun]
    rw [ih, tot_step]
theorem ez_run (a b : Int) (l : List Nat) : ez a b l 0 = ezRun a b l [(0, 1)] := by
  rw [run_tot]
  simp [tot]
end Go.Proofs.YtngogonepjicpaaDoor
