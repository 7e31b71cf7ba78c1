/- Words, plain laws and walks behind the law SecretShamir, part 2. No condition. -/
import Derived.Test.YtieeefgkdfijdaaDoorPSecretSharex2
import Derived.Test.YtieeefgkdfijdaaDoorFlatSecretShamira
import Derived.Lib.RabinKarpLaws
import Derived.Test.YtieeefgkdfijdaaDoorPSecretTablex3
import Derived.Test.YtieeefgkdfijdaaDoorPSecretTablex4
import Derived.Test.YtieeefgkdfijdaaDoorPSecretTablex5

/- Plain words for fields and shares; what the printed functions on them answer. No condition. -/
namespace Go.Proofs.YtieeefgkdfijdaaDoor
open Go Go.RowKit Go.Proofs.YtieeefgkdfijdaaDoorW.PrintWords

/-- does no d, from the given one on, of so many, part p? -/
def trial (p : Int) : Nat → Nat → Bool
  | 0, _ => true
  | k + 1, d => if ((d * d : Nat) : Int) ≤ p then (if Int.tmod p d = 0 then false else trial p k (d + 1)) else true
/-- is p a prime number of at most 997? -/
def fieldOf (p : Int) : Bool := if p < 2 then false else if p > 997 then false else trial p 40 2
theorem wrap_sq (d : Nat) (h : d ≤ 100) : wrap64 ((d : Int) * (d : Int)) = ((d * d : Nat) : Int) := by
  have h2 : d * d ≤ 100 * 100 := Nat.mul_le_mul h h
  have e : ((d : Int) * (d : Int)) = ((d * d : Nat) : Int) := by push_cast; rfl
  rw [e]
  unfold wrap64
  omega
theorem sq_big (d : Nat) (h : 33 ≤ d) : 1089 ≤ d * d := Nat.le_trans (by decide : 1089 ≤ 33 * 33) (Nat.mul_le_mul h h)
theorem fieldP_l0 (p : Int) (hp : p ≤ 997) : ∀ (k d : Nat), 2 ≤ d → d ≤ 60 → 33 ≤ d + k → d + k ≤ 60 → PSecretShare.secret_field.l0 (k + 1) p d = some (trial p (k + 1) d) := by
  intro k
  induction k with
  | zero =>
    intro d h2 h60 h33 _
    have := sq_big d h33
    simp only [PSecretShare.secret_field.l0, trial]
    rw [wrap_sq d (by omega), if_neg (by omega), if_neg (by omega)]
  | succ k ih =>
    intro d h2 h60 h33 hk
    rw [PSecretShare.secret_field.l0, trial]
    rw [wrap_sq d (by omega)]
    by_cases h : ((d * d : Nat) : Int) ≤ p
    · rw [if_pos h, if_pos h, if_neg (by omega)]
      by_cases hm : Int.tmod p d = 0
      · rw [if_pos hm, if_pos hm]
      · rw [if_neg hm, if_neg hm, wrap_up d (by omega)]
        exact ih (d + 1) (by omega) (by omega) (by omega) (by omega)
    · rw [if_neg h, if_neg h]
theorem primeP_l0 (p : Int) (hp : p ≤ 997) : ∀ (k d : Nat), 2 ≤ d → d ≤ 60 → 33 ≤ d + k → d + k ≤ 60 → PSecretShare.demonref1_IsPrime.l0 (k + 1) p d = some (trial p (k + 1) d) := by
  intro k
  induction k with
  | zero =>
    intro d h2 h60 h33 _
    have := sq_big d h33
    simp only [PSecretShare.demonref1_IsPrime.l0, trial]
    rw [wrap_sq d (by omega), if_neg (by omega), if_neg (by omega)]
  | succ k ih =>
    intro d h2 h60 h33 hk
    rw [PSecretShare.demonref1_IsPrime.l0, trial]
    rw [wrap_sq d (by omega)]
    by_cases h : ((d * d : Nat) : Int) ≤ p
    · rw [if_pos h, if_pos h, if_neg (by omega)]
      by_cases hm : Int.tmod p d = 0
      · rw [if_pos hm, if_pos hm]
      · rw [if_neg hm, if_neg hm, wrap_up d (by omega)]
        exact ih (d + 1) (by omega) (by omega) (by omega) (by omega)
    · rw [if_neg h, if_neg h]
theorem fieldP_f (p : Int) : PSecretShare.secret_field.f 41 p = some (fieldOf p) := by
  unfold PSecretShare.secret_field.f fieldOf
  by_cases h : p < 2
  · rw [if_pos h, if_pos h, PSecretShare.secret_field.j0, if_pos rfl]
  · rw [if_neg h, if_neg h, PSecretShare.secret_field.j0]
    by_cases h2 : p > 997
    · rw [if_pos (decide_eq_true h2), if_pos h2]
    · rw [if_neg (by simp; omega), if_neg h2]
      exact fieldP_l0 p (by omega) 39 2 (by omega) (by omega) (by omega) (by omega)
theorem primeP_f (p : Int) (hp : p ≤ 997) (k : Nat) (hk : k = 41) : PSecretShare.demonref1_IsPrime.f k p = some (fieldOf p) := by
  subst hk
  unfold PSecretShare.demonref1_IsPrime.f fieldOf
  by_cases h : p < 2
  · rw [if_pos h, if_pos h, PSecretShare.demonref1_IsPrime.j0, if_pos rfl]
  · rw [if_neg h, if_neg h, PSecretShare.demonref1_IsPrime.j0, if_neg (by simp; omega), if_neg (by omega)]
    exact primeP_l0 p (by omega) 39 2 (by omega) (by omega) (by omega) (by omega)
theorem isField_f (p : Int) : PSecretShare.demonref3_IsField.f 41 p = some (fieldOf p) := by
  unfold PSecretShare.demonref3_IsField.f
  by_cases h : p ≤ 997
  · rw [if_pos h, primeP_f p h 41 rfl]
    rfl
  · rw [if_neg h]
    unfold fieldOf
    rw [if_neg (by omega), if_pos (by omega)]
/-- are all numbers from the least on below p? -/
def inside (l : List Int) (p least : Int) : Bool := !(l.any fun x => decide (x < least) || decide (x ≥ p))
theorem inField_l0 (l : List Int) (p least : Int) (hl : l.length ≤ 2000000) : ∀ (d i k : Nat), i + d = l.length → d < k → ((l.take i).any fun x => decide (x < least) || decide (x ≥ p)) = false → PSecretShare.demonref3_InField.l0 k l p least (i : Int) = some (inside l p least) := by
  intro d
  induction d with
  | zero =>
    intro i k hi hk hn
    obtain ⟨k, rfl⟩ : ∃ m, k = m + 1 := ⟨k - 1, by omega⟩
    obtain rfl : i = l.length := by omega
    rw [List.take_length] at hn
    simp only [PSecretShare.demonref3_InField.l0]
    rw [if_neg (by omega)]
    unfold inside
    rw [hn]
    rfl
  | succ d ih =>
    intro i k hi hk hn
    obtain ⟨k, rfl⟩ : ∃ m, k = m + 1 := ⟨k - 1, by omega⟩
    have hil : i < l.length := by omega
    have bad : (decide (l.getD i 0 < least) || decide (l.getD i 0 ≥ p)) = true → inside l p least = false := by
      intro h
      unfold inside
      rw [Bool.not_eq_false', List.any_eq_true]
      rw [getD_eq l i 0 hil] at h
      exact ⟨l[i], List.getElem_mem hil, h⟩
    simp only [PSecretShare.demonref3_InField.l0]
    rw [if_pos (by omega), if_pos (by omega), rd_nat, wrap_up i (by omega)]
    by_cases h1 : l.getD i 0 < least
    · rw [if_pos h1, bad (by rw [decide_eq_true h1, Bool.true_or])]
    · rw [if_neg h1]
      by_cases h2 : l.getD i 0 ≥ p
      · rw [if_pos h2, bad (by rw [decide_eq_true h2, Bool.or_true])]
      · rw [if_neg h2]
        refine ih (i + 1) k (by omega) (by omega) ?_
        rw [any_take _ l i hil, hn, decide_eq_false h1, decide_eq_false h2]
        rfl
theorem inField_f (l : List Int) (p least : Int) (hl : l.length ≤ 2000000) (k : Nat) (hk : l.length < k) : PSecretShare.demonref3_InField.f k l p least = some (inside l p least) :=
  inField_l0 l p least hl l.length 0 k (by omega) hk (by simp)
/-- the code of Share's error -/
def shErr (p : Int) (l : List Int) (n : Int) : Int := if fieldOf p = false then 8 else if n < 1 ∨ n > p - 1 ∨ n > 24 ∨ l.length = 0 ∨ 12 < l.length then 2 else if inside l p 0 = true then 0 else 3
theorem fieldOf_range {p : Int} (h : fieldOf p = true) : 2 ≤ p ∧ p ≤ 997 := by
  unfold fieldOf at h
  by_cases h1 : p < 2
  · rw [if_pos h1] at h; cases h
  · rw [if_neg h1] at h
    by_cases h2 : p > 997
    · rw [if_pos h2] at h; cases h
    · omega
theorem shareError_f (p : Int) (l : List Int) (n : Int) (hl : l.length ≤ 2000000) : PSecretShare.demonref3_ShareError.f 41 p l n = some (shErr p l n) := by
  unfold PSecretShare.demonref3_ShareError.f shErr
  rw [isField_f, Option.bind_some]
  cases hf : fieldOf p
  · rfl
  · obtain ⟨h2, h997⟩ := fieldOf_range hf
    have hw : wrap64 (p - 1) = p - 1 := by unfold wrap64; omega
    have ht : ∀ b : Bool, b = true → PSecretShare.demonref3_ShareError.j0 41 p l b = some 2 := fun b hb => by rw [PSecretShare.demonref3_ShareError.j0, if_pos hb]
    rw [if_pos rfl, hw, if_neg (show ¬ (true = false) by decide)]
    by_cases c1 : n < 1
    · rw [if_pos c1, ht true rfl, if_pos (.inl c1)]
    · rw [if_neg c1]
      by_cases c2 : n > p - 1
      · rw [if_pos c2, ht true rfl, if_pos (.inr (.inl c2))]
      · rw [if_neg c2]
        by_cases c3 : n > 24
        · rw [if_pos c3, ht true rfl, if_pos (.inr (.inr (.inl c3)))]
        · rw [if_neg c3]
          by_cases c4 : (l.length : Int) = 0
          · rw [if_pos c4, ht true rfl, if_pos (by omega)]
          · rw [if_neg c4]
            by_cases c5 : (l.length : Int) > 12
            · rw [ht _ (decide_eq_true c5), if_pos (by omega)]
            · rw [PSecretShare.demonref3_ShareError.j0, if_neg (by simp; omega), inField_f l p 0 hl 40 (by omega), Option.bind_some]
              have hc : ¬ (n < 1 ∨ n > p - 1 ∨ n > 24 ∨ l.length = 0 ∨ 12 < l.length) := by omega
              rw [if_neg hc]
              cases inside l p 0 <;> rfl
/-- a polynomial's value -/
def poly (x : Int) (l : List Int) : Int := l.foldr (fun c y => c + x * y) 0
def valRec (p x : Int) : List Int → Int → Int → Int
  | [], y, _ => y
  | c :: cs, y, pw => valRec p x cs ((y + c * pw) % p) (pw * x % p)
theorem valRec_eq (p x : Int) (hp : 0 < p) : ∀ (l : List Int) (y pw : Int), 0 ≤ y → y < p → valRec p x l y pw = (y + pw * poly x l) % p := by
  intro l
  induction l with
  | nil => intro y pw h0 h1; simp only [valRec, poly, List.foldr_nil, Int.mul_zero, Int.add_zero]; rw [Int.emod_eq_of_lt h0 h1]
  | cons c cs ih =>
    intro y pw _ _
    simp only [valRec]
    rw [ih _ _ (Int.emod_nonneg _ (by omega)) (Int.emod_lt_of_pos _ hp)]
    have e : poly x (c :: cs) = c + x * poly x cs := rfl
    rw [e]
    have e2 : ((y + c * pw) % p + pw * x % p * poly x cs) % p = ((y + c * pw) + pw * x * poly x cs) % p := by
      simp [Int.add_emod, Int.mul_emod]
    rw [e2]
    have e3 : (y + c * pw) + pw * x * poly x cs = y + pw * (c + x * poly x cs) := by grind
    rw [e3]
/-- by Horner's rule -/
def horner (p x : Int) (l : List Int) : Int := l.foldr (fun c y => (y * x + c) % p) 0
theorem horner_eq (p x : Int) (l : List Int) : horner p x l = poly x l % p := by
  induction l with
  | nil => simp [horner, poly]
  | cons c cs ih =>
    have e : horner p x (c :: cs) = (horner p x cs * x + c) % p := rfl
    have e2 : poly x (c :: cs) = c + x * poly x cs := rfl
    rw [e, e2, ih]
    have e3 : (poly x cs % p * x + c) % p = (poly x cs * x + c) % p := by simp [Int.add_emod, Int.mul_emod]
    rw [e3]
    have e4 : poly x cs * x + c = c + x * poly x cs := by grind
    rw [e4]
theorem valRec_horner (p x : Int) (hp : 0 < p) (l : List Int) : valRec p x l 0 1 = horner p x l := by
  rw [valRec_eq p x hp l 0 1 (by omega) hp, horner_eq p x, Int.zero_add, Int.one_mul]
theorem tmod_small (a p : Int) (ha : 0 ≤ a) : Int.tmod a p = a % p := Int.tmod_eq_emod_of_nonneg ha
theorem mul_le_997 {x y : Int} (hx : 0 ≤ x ∧ x ≤ 1000) (hy : 0 ≤ y ∧ y ≤ 1000) : 0 ≤ x * y ∧ x * y ≤ 1000000 := by
  obtain ⟨q, hq, hq2⟩ : ∃ q : Nat, x * y = q ∧ q ≤ 1000 * 1000 := by
    obtain ⟨a, rfl⟩ := Int.eq_ofNat_of_zero_le hx.1
    obtain ⟨b, rfl⟩ := Int.eq_ofNat_of_zero_le hy.1
    exact ⟨a * b, by push_cast; rfl, Nat.mul_le_mul (by omega) (by omega)⟩
  omega
theorem inside_get {l : List Int} {p least : Int} (h : inside l p least = true) (i : Nat) (hi : i < l.length) : least ≤ l.getD i 0 ∧ l.getD i 0 < p := by
  unfold inside at h
  rw [Bool.not_eq_true', List.any_eq_false] at h
  have := h l[i] (List.getElem_mem hi)
  rw [getD_eq l i 0 hi]
  simp at this
  omega
theorem valueAt_l0 (p : Int) (l : List Int) (x : Int) (hp : 2 ≤ p ∧ p ≤ 997) (hx : 0 ≤ x ∧ x ≤ 1000) (hl : l.length ≤ 2000000) (hin : inside l p 0 = true) : ∀ (d i k : Nat) (y pw : Int), i + d = l.length → d < k → 0 ≤ y → y < p → 0 ≤ pw → pw < p → PSecretShare.demonref3_ValueAt.l0 k p l x y pw (i : Int) = some (valRec p x (l.drop i) y pw) := by
  intro d
  induction d with
  | zero =>
    intro i k y pw hi hk _ _ _ _
    obtain ⟨k, rfl⟩ : ∃ m, k = m + 1 := ⟨k - 1, by omega⟩
    obtain rfl : i = l.length := by omega
    simp only [PSecretShare.demonref3_ValueAt.l0]
    rw [if_neg (by omega), List.drop_length]
    rfl
  | succ d ih =>
    intro i k y pw hi hk hy0 hy hw0 hw
    obtain ⟨k, rfl⟩ : ∃ m, k = m + 1 := ⟨k - 1, by omega⟩
    have hil : i < l.length := by omega
    obtain ⟨g0, g1⟩ := inside_get hin i hil
    have ed : l.drop i = l.getD i 0 :: l.drop (i + 1) := by rw [List.drop_eq_getElem_cons hil, getD_eq l i 0 hil]
    simp only [PSecretShare.demonref3_ValueAt.l0]
    rw [if_pos (by omega), if_pos (by omega), rd_nat, wrap_up i (by omega), if_neg (by omega), ed, valRec]
    generalize l.getD i 0 = c at g0 g1 ⊢
    have m1 := mul_le_997 (x := c) (y := pw) ⟨g0, by omega⟩ ⟨hw0, by omega⟩
    have m2 := mul_le_997 (x := pw) (y := x) ⟨hw0, by omega⟩ hx
    have w1 : wrap64 (c * pw) = c * pw := by unfold wrap64; omega
    have w2 : wrap64 (y + c * pw) = y + c * pw := by unfold wrap64; omega
    have w3 : wrap64 (pw * x) = pw * x := by unfold wrap64; omega
    rw [w1, w2, w3, tmod_small _ _ (by omega), tmod_small _ _ m2.1]
    exact ih (i + 1) k _ _ (by omega) (by omega) (Int.emod_nonneg _ (by omega)) (Int.emod_lt_of_pos _ (by omega)) (Int.emod_nonneg _ (by omega)) (Int.emod_lt_of_pos _ (by omega))
theorem valueAt_f (p : Int) (l : List Int) (x : Int) (hp : 2 ≤ p ∧ p ≤ 997) (hx : 0 ≤ x ∧ x ≤ 1000) (hl : l.length ≤ 2000000) (hin : inside l p 0 = true) : PSecretShare.demonref3_ValueAt.f (l.length + 1) p l x = some (horner p x l) := by
  unfold PSecretShare.demonref3_ValueAt.f
  rw [← valRec_horner p x (by omega) l]
  exact valueAt_l0 p l x hp hx hl hin l.length 0 _ 0 1 (by omega) (by omega) (by omega) (by omega) (by omega) (by omega)
end Go.Proofs.YtieeefgkdfijdaaDoor

/- Polynomials over a prime field, as lists of whole numbers: Fermat, roots, interpolation by Lagrange and by Newton. No condition. -/
namespace Go.Proofs.YtieeefgkdfijdaaDoor

/-- alike but for multiples of p -/
def Eqm (p a b : Int) : Prop := ∃ k, a - b = p * k
theorem Eqm.refl (p a : Int) : Eqm p a a := ⟨0, by omega⟩
theorem Eqm.of_eq {p a b : Int} (h : a = b) : Eqm p a b := h ▸ Eqm.refl p a
theorem Eqm.symm {p a b : Int} (h : Eqm p a b) : Eqm p b a := by
  obtain ⟨k, hk⟩ := h
  exact ⟨-k, by grind⟩
theorem Eqm.trans {p a b c : Int} (h : Eqm p a b) (g : Eqm p b c) : Eqm p a c := by
  obtain ⟨k, hk⟩ := h
  obtain ⟨m, hm⟩ := g
  exact ⟨k + m, by grind⟩
theorem Eqm.add {p a b c d : Int} (h : Eqm p a b) (g : Eqm p c d) : Eqm p (a + c) (b + d) := by
  obtain ⟨k, hk⟩ := h
  obtain ⟨m, hm⟩ := g
  exact ⟨k + m, by grind⟩
theorem Eqm.sub {p a b c d : Int} (h : Eqm p a b) (g : Eqm p c d) : Eqm p (a - c) (b - d) := by
  obtain ⟨k, hk⟩ := h
  obtain ⟨m, hm⟩ := g
  exact ⟨k - m, by grind⟩
theorem Eqm.mul {p a b c d : Int} (h : Eqm p a b) (g : Eqm p c d) : Eqm p (a * c) (b * d) := by
  obtain ⟨k, hk⟩ := h
  obtain ⟨m, hm⟩ := g
  exact ⟨k * c + b * m, by grind⟩
theorem Eqm.mod (p a : Int) : Eqm p (a % p) a := by
  refine ⟨-(a / p), ?_⟩
  have := Int.emod_add_mul_ediv a p
  grind
theorem Eqm.mod_eq {p a b : Int} (h : Eqm p a b) : a % p = b % p := by
  obtain ⟨k, hk⟩ := h
  have e : a = b + p * k := by omega
  rw [e, Int.add_mul_emod_self_left]
theorem Eqm.eq {p a b : Int} (h : Eqm p a b) (ha : 0 ≤ a ∧ a < p) (hb : 0 ≤ b ∧ b < p) : a = b := by
  have := h.mod_eq
  rwa [Int.emod_eq_of_lt ha.1 ha.2, Int.emod_eq_of_lt hb.1 hb.2] at this
theorem Eqm.of_mod {p a b : Int} (h : a % p = b % p) : Eqm p a b := (Eqm.mod p a).symm.trans (h ▸ Eqm.mod p b)
theorem Eqm.add_p (p a : Int) : Eqm p (a + p) a := ⟨1, by omega⟩
theorem Eqm.pow {p a b : Int} (h : Eqm p a b) : ∀ n : Nat, Eqm p (a ^ n) (b ^ n)
  | 0 => Eqm.of_eq (by rw [Int.pow_zero, Int.pow_zero])
  | n + 1 => by rw [Int.pow_succ, Int.pow_succ]; exact (Eqm.pow h n).mul h
theorem Eqm.mul_zero {p a : Int} (b : Int) (h : Eqm p a 0) : Eqm p (a * b) 0 := by
  have := h.mul (Eqm.refl p b)
  rwa [Int.zero_mul] at this
theorem Eqm.zero_mul {p a : Int} (b : Int) (h : Eqm p a 0) : Eqm p (b * a) 0 := by
  have := (Eqm.refl p b).mul h
  rwa [Int.mul_zero] at this
theorem Eqm.sub_zero {p a b : Int} (h : Eqm p a b) : Eqm p (a - b) 0 := by
  have := h.sub (Eqm.refl p b)
  rwa [Int.sub_self] at this
theorem Eqm.of_sub {p a b : Int} (h : Eqm p (a - b) 0) : Eqm p a b := by
  have := h.add (Eqm.refl p b)
  rwa [Int.sub_add_cancel, Int.zero_add] at this

/-- Fermat, for all these primes: looked at one by one -/
theorem fermat_all : ((List.range 998).all fun p => !(fieldOf (p : Int)) || (List.range p).all fun a => a == 0 || (a ^ (p - 1)) % p == 1) = true := by decide +kernel
theorem fermat_nat {p : Nat} (hf : fieldOf (p : Int) = true) (a : Nat) (h1 : 1 ≤ a) (h2 : a < p) : (a ^ (p - 1)) % p = 1 := by
  have hp := fieldOf_range hf
  have h := List.all_eq_true.1 fermat_all p (List.mem_range.2 (by omega))
  rw [hf, Bool.not_true, Bool.false_or] at h
  have h3 := List.all_eq_true.1 h a (List.mem_range.2 h2)
  simp only [Bool.or_eq_true, beq_iff_eq] at h3
  rcases h3 with h3 | h3
  · omega
  · exact h3
theorem fermat {p : Int} (hf : fieldOf p = true) {a : Int} (ha : ¬ Eqm p a 0) : Eqm p (a ^ (p.toNat - 1)) 1 := by
  have hp := fieldOf_range hf
  obtain ⟨q, rfl⟩ := Int.eq_ofNat_of_zero_le (show 0 ≤ p by omega)
  have h0 : 0 ≤ a % (q : Int) := Int.emod_nonneg _ (by omega)
  have h1 : a % (q : Int) < q := Int.emod_lt_of_pos _ (by omega)
  obtain ⟨r, hr⟩ := Int.eq_ofNat_of_zero_le h0
  have hr0 : r ≠ 0 := fun e => ha ((Eqm.mod q a).symm.trans (Eqm.of_eq (by rw [hr, e]; rfl)))
  have hfn := fermat_nat hf r (by omega) (by omega)
  have e1 : Eqm q (a ^ (q - 1)) ((r : Int) ^ (q - 1)) := ((Eqm.mod q a).symm.trans (Eqm.of_eq hr)).pow _
  rw [Int.toNat_natCast]
  refine e1.trans (Eqm.of_mod ?_)
  have e2 : ((r : Int) ^ (q - 1)) = ((r ^ (q - 1) : Nat) : Int) := by push_cast; rfl
  rw [e2]
  have e3 : (((r ^ (q - 1) : Nat) : Int) % (q : Int)) = (((r ^ (q - 1)) % q : Nat) : Int) := by push_cast; rfl
  rw [e3, hfn, Int.emod_eq_of_lt (by omega) (by omega)]
  rfl
/-- what is left of a power beside one factor is the factor's inverse -/
theorem fermat_inv {p : Int} (hf : fieldOf p = true) {a : Int} (ha : ¬ Eqm p a 0) : Eqm p (a * a ^ (p.toNat - 2)) 1 := by
  have hp := fieldOf_range hf
  have e : p.toNat - 1 = p.toNat - 2 + 1 := by omega
  have h := fermat hf ha
  rw [e, Int.pow_succ, Int.mul_comm] at h
  exact h
theorem cancel {p : Int} (hf : fieldOf p = true) {a b : Int} (ha : ¬ Eqm p a 0) (h : Eqm p (a * b) 0) : Eqm p b 0 := by
  have h1 := (fermat_inv hf ha).mul (Eqm.refl p b)
  have h2 := h.zero_mul (a ^ (p.toNat - 2))
  have e : a ^ (p.toNat - 2) * (a * b) = a * a ^ (p.toNat - 2) * b := by grind
  rw [e] at h2
  rw [Int.one_mul] at h1
  exact h1.symm.trans h2
theorem cancel_left {p : Int} (hf : fieldOf p = true) {a b c : Int} (ha : ¬ Eqm p a 0) (h : Eqm p (a * b) (a * c)) : Eqm p b c := by
  refine Eqm.of_sub (cancel hf ha ?_)
  have e : a * (b - c) = a * b - a * c := by grind
  rw [e]
  exact h.sub_zero

/-- what is left when a root is divided out -/
def quo (a : Int) : List Int → List Int
  | [] => []
  | [_] => []
  | _ :: d :: ds => poly a (d :: ds) :: quo a (d :: ds)
theorem poly_cons (x c : Int) (l : List Int) : poly x (c :: l) = c + x * poly x l := rfl
theorem poly_nil (x : Int) : poly x [] = 0 := rfl
theorem quo_length (a : Int) : ∀ l, (quo a l).length = l.length - 1
  | [] => rfl
  | [_] => rfl
  | _ :: d :: ds => by
    have := quo_length a (d :: ds)
    simp only [quo, List.length_cons] at this ⊢
    omega
theorem quo_eq (a x : Int) : ∀ l, poly x l = (x - a) * poly x (quo a l) + poly a l
  | [] => by simp [quo, poly]
  | [c] => by simp [quo, poly]
  | c :: d :: ds => by
    have h := quo_eq a x (d :: ds)
    simp only [quo]
    rw [poly_cons x c, poly_cons x (poly a (d :: ds)), poly_cons a c]
    generalize poly x (d :: ds) = X at h ⊢
    generalize poly x (quo a (d :: ds)) = Q at h ⊢
    generalize poly a (d :: ds) = A at h ⊢
    grind
theorem roots_zero {p : Int} (hf : fieldOf p = true) : ∀ (n : Nat) (l xs : List Int), l.length ≤ n → l.length ≤ xs.length → xs.Pairwise (fun a b => ¬ Eqm p (a - b) 0) → (∀ x, x ∈ xs → Eqm p (poly x l) 0) → ∀ y, Eqm p (poly y l) 0 := by
  intro n
  induction n with
  | zero =>
    intro l xs hl _ _ _ y
    rw [List.eq_nil_of_length_eq_zero (by omega : l.length = 0)]
    exact Eqm.refl _ _
  | succ n ih =>
    intro l xs hl hx hp hz y
    rcases Nat.eq_zero_or_pos l.length with h0 | h0
    · rw [List.eq_nil_of_length_eq_zero h0]
      exact Eqm.refl _ _
    · cases xs with
      | nil => rw [List.length_nil] at hx; omega
      | cons a xs =>
        rw [List.pairwise_cons] at hp
        have ha := hz a (List.mem_cons_self ..)
        have hq := ih (quo a l) xs (by rw [quo_length]; omega) (by rw [quo_length]; rw [List.length_cons] at hx; omega) hp.2 (fun x hxm => by
          have h1 := hz x (List.mem_cons_of_mem _ hxm)
          rw [quo_eq a x l] at h1
          have h2 := h1.sub ha
          rw [Int.add_sub_cancel, Int.sub_zero] at h2
          refine cancel hf (fun h3 => hp.1 x hxm ?_) h2
          have h4 := (Eqm.refl p 0).sub h3
          rwa [Int.sub_zero, show 0 - (x - a) = a - x by omega] at h4) y
        rw [quo_eq a y l]
        have h5 := (hq.zero_mul (y - a)).add ha
        rwa [Int.add_zero] at h5

def addP : List Int → List Int → List Int
  | [], m => m
  | a :: l, [] => a :: l
  | a :: l, b :: m => (a + b) :: addP l m
theorem addP_length : ∀ l m, (addP l m).length = max l.length m.length
  | [], m => by simp [addP]
  | a :: l, [] => by simp [addP]
  | a :: l, b :: m => by simp only [addP, List.length_cons, addP_length l m]; omega
theorem poly_addP (x : Int) : ∀ l m, poly x (addP l m) = poly x l + poly x m
  | [], m => by simp [addP, poly]
  | a :: l, [] => by simp [addP, poly]
  | a :: l, b :: m => by simp only [addP, poly_cons, poly_addP x l m]; grind
theorem poly_smul (x c : Int) : ∀ l, poly x (l.map (c * ·)) = c * poly x l
  | [] => by simp [poly]
  | a :: l => by simp only [List.map_cons, poly_cons, poly_smul x c l]; grind
theorem poly_mono (x v : Int) : ∀ n, poly x (List.replicate n 0 ++ [v]) = v * x ^ n
  | 0 => by simp [poly]
  | n + 1 => by
    rw [List.replicate_succ, List.cons_append, poly_cons, poly_mono x v n, Int.pow_succ]
    grind
/-- a polynomial with so many coefficients at most -/
def IsPoly (n : Nat) (f : Int → Int) : Prop := ∃ l : List Int, l.length ≤ n ∧ ∀ x, f x = poly x l
/-- a polynomial of degree n at most, with its coefficient there -/
def IsLead (n : Nat) (c : Int) (f : Int → Int) : Prop := ∃ l : List Int, l.length ≤ n ∧ ∀ x, f x = poly x l + c * x ^ n
theorem IsPoly.mono {n m : Nat} {f : Int → Int} (h : IsPoly n f) (hm : n ≤ m) : IsPoly m f := by
  obtain ⟨l, hl, hf⟩ := h
  exact ⟨l, Nat.le_trans hl hm, hf⟩
theorem IsPoly.congr {n : Nat} {f g : Int → Int} (h : IsPoly n f) (e : ∀ x, g x = f x) : IsPoly n g := by
  obtain ⟨l, hl, hf⟩ := h
  exact ⟨l, hl, fun x => by rw [e, hf]⟩
theorem IsPoly.add {n : Nat} {f g : Int → Int} (h : IsPoly n f) (k : IsPoly n g) : IsPoly n (fun x => f x + g x) := by
  obtain ⟨l, hl, hf⟩ := h
  obtain ⟨m, hm, hg⟩ := k
  exact ⟨addP l m, by rw [addP_length]; omega, fun x => by simp only [poly_addP, hf, hg]⟩
theorem IsPoly.smul {n : Nat} {f : Int → Int} (c : Int) (h : IsPoly n f) : IsPoly n (fun x => c * f x) := by
  obtain ⟨l, hl, hf⟩ := h
  exact ⟨l.map (c * ·), by rw [List.length_map]; omega, fun x => by simp only [poly_smul, hf]⟩
theorem IsPoly.one : IsPoly 1 (fun _ => 1) := ⟨[1], by simp, fun x => by simp [poly]⟩
theorem IsPoly.zero (n : Nat) : IsPoly n (fun _ => 0) := ⟨[], by simp, fun x => by simp [poly]⟩
theorem IsPoly.lin {n : Nat} {f : Int → Int} (a : Int) (h : IsPoly n f) : IsPoly (n + 1) (fun x => f x * (a - x)) := by
  obtain ⟨l, hl, hf⟩ := h
  refine ⟨addP (l.map (a * ·)) (0 :: l.map (-1 * ·)), by rw [addP_length, List.length_cons, List.length_map, List.length_map]; omega, fun x => ?_⟩
  simp only [poly_addP, poly_smul, poly_cons, hf]
  grind
theorem IsLead.const (c : Int) : IsLead 0 c (fun _ => c) := ⟨[], by simp, fun x => by simp [poly]⟩
theorem IsLead.add {n : Nat} {c d : Int} {f g : Int → Int} (h : IsLead n c f) (k : IsLead n d g) : IsLead n (c + d) (fun x => f x + g x) := by
  obtain ⟨l, hl, hf⟩ := h
  obtain ⟨m, hm, hg⟩ := k
  exact ⟨addP l m, by rw [addP_length]; omega, fun x => by simp only [poly_addP, hf, hg]; grind⟩
theorem IsLead.smul {n : Nat} {c : Int} {f : Int → Int} (a : Int) (h : IsLead n c f) : IsLead n (a * c) (fun x => a * f x) := by
  obtain ⟨l, hl, hf⟩ := h
  exact ⟨l.map (a * ·), by rw [List.length_map]; omega, fun x => by simp only [poly_smul, hf]; grind⟩
theorem IsLead.lin {n : Nat} {c : Int} {f : Int → Int} (a : Int) (h : IsLead n c f) : IsLead (n + 1) c (fun x => (x - a) * f x) := by
  obtain ⟨l, hl, hf⟩ := h
  refine ⟨addP (addP (0 :: l) (l.map (-a * ·))) (List.replicate n 0 ++ [-(a * c)]), ?_, fun x => ?_⟩
  · rw [addP_length, addP_length, List.length_cons, List.length_map, List.length_append, List.length_replicate, List.length_singleton]; omega
  · simp only [poly_addP, poly_mono, poly_smul, poly_cons, hf, Int.pow_succ]
    grind
/-- of degree at most one less -/
theorem IsLead.up {n : Nat} {c : Int} {f : Int → Int} (h : IsLead n c f) : IsLead (n + 1) 0 f := by
  obtain ⟨l, hl, hf⟩ := h
  refine ⟨addP l (List.replicate n 0 ++ [c]), ?_, fun x => ?_⟩
  · rw [addP_length, List.length_append, List.length_replicate, List.length_singleton]; omega
  · rw [poly_addP, poly_mono, hf]
    grind
theorem IsLead.poly {n : Nat} {c : Int} {f : Int → Int} (h : IsLead n c f) : IsPoly (n + 1) f := by
  obtain ⟨l, hl, hf⟩ := h.up
  exact ⟨l, hl, fun x => by rw [hf, Int.zero_mul, Int.add_zero]⟩

/-- points that are unlike -/
def Apart (p : Int) (X : Nat → Int) (s n : Nat) : Prop := ∀ i j, i < j → j < n → ¬ Eqm p (X (s + i) - X (s + j)) 0
theorem apart_list {p : Int} {X : Nat → Int} {s n : Nat} (h : Apart p X s n) : ((List.range n).map fun i => X (s + i)).Pairwise (fun a b => ¬ Eqm p (a - b) 0) := by
  rw [List.pairwise_map, List.pairwise_iff_getElem]
  intro i j hi hj hij
  rw [List.getElem_range, List.getElem_range]
  rw [List.length_range] at hj
  exact h i j hij hj
theorem vanish {p : Int} (hf : fieldOf p = true) {X : Nat → Int} {s n : Nat} (hX : Apart p X s n) {f : Int → Int} {l : List Int} (hl : l.length ≤ n) (he : ∀ x, Eqm p (f x) (poly x l)) (h : ∀ i, i < n → Eqm p (f (X (s + i))) 0) (y : Int) : Eqm p (f y) 0 := by
  refine (he y).trans (roots_zero hf l.length l ((List.range n).map fun i => X (s + i)) (Nat.le_refl _) (by simpa using hl) (apart_list hX) (fun x hx => ?_) y)
  obtain ⟨i, hi, rfl⟩ := List.mem_map.1 hx
  exact (he _).symm.trans (h i (List.mem_range.1 hi))
theorem agree {p : Int} (hf : fieldOf p = true) {X : Nat → Int} {n : Nat} (hX : Apart p X 0 n) {f g : Int → Int} (h1 : IsPoly n f) (h2 : IsPoly n g) (h : ∀ i, i < n → Eqm p (f (X i)) (g (X i))) (y : Int) : Eqm p (f y) (g y) := by
  obtain ⟨l, hl, hd⟩ := h1.add (h2.smul (-1))
  have := vanish (f := fun x => f x + -1 * g x) hf hX hl (fun x => Eqm.of_eq (hd x)) (fun i hi => by
    have h3 := (h i hi).sub_zero
    rw [Nat.zero_add]
    show Eqm p (f (X i) + -1 * g (X i)) 0
    rwa [show f (X i) + -1 * g (X i) = f (X i) - g (X i) by grind]) y
  refine Eqm.of_sub ?_
  have e : f y - g y = f y + -1 * g y := by grind
  rw [e]
  exact this

def prodTo (g : Nat → Int) : Nat → Int
  | 0 => 1
  | k + 1 => prodTo g k * g k
def sumTo (g : Nat → Int) : Nat → Int
  | 0 => 0
  | k + 1 => sumTo g k + g k
theorem prodTo_zero (g : Nat → Int) (i : Nat) (h : g i = 0) : ∀ n, i < n → prodTo g n = 0
  | 0, hi => by omega
  | n + 1, hi => by
    rw [prodTo]
    by_cases e : i = n
    · rw [← e, h, Int.mul_zero]
    · rw [prodTo_zero g i h n (by omega), Int.zero_mul]
theorem prodTo_ne {p : Int} (hf : fieldOf p = true) (g : Nat → Int) : ∀ n, (∀ i, i < n → ¬ Eqm p (g i) 0) → ¬ Eqm p (prodTo g n) 0
  | 0, _ => fun h => by
    have hp := fieldOf_range hf
    have := h.eq (p := p) (by simp only [prodTo]; omega) (by omega)
    simp [prodTo] at this
  | n + 1, h => fun h1 => by
    rw [prodTo] at h1
    exact h n (by omega) (cancel hf (prodTo_ne hf g n (fun i hi => h i (by omega))) h1)
theorem sumTo_zero {p : Int} (g : Nat → Int) : ∀ n, (∀ i, i < n → Eqm p (g i) 0) → Eqm p (sumTo g n) 0
  | 0, _ => Eqm.refl _ _
  | n + 1, h => by
    have := (sumTo_zero g n (fun i hi => h i (by omega))).add (h n (by omega))
    rwa [Int.add_zero] at this
theorem sumTo_one {p : Int} (g : Nat → Int) (v : Int) (j : Nat) (hv : Eqm p (g j) v) : ∀ n, j < n → (∀ i, i < n → i ≠ j → Eqm p (g i) 0) → Eqm p (sumTo g n) v
  | 0, hj, _ => by omega
  | n + 1, hj, h => by
    rw [sumTo]
    by_cases e : j = n
    · subst e
      have := (sumTo_zero g j (fun i hi => h i (by omega) (by omega))).add hv
      rwa [Int.zero_add] at this
    · have := (sumTo_one g v j hv n (by omega) (fun i hi => h i (by omega))).add (h n (by omega) (fun e' => e e'.symm))
      rwa [Int.add_zero] at this
theorem sumTo_poly {m : Nat} {f : Nat → Int → Int} : ∀ n, (∀ i, i < n → IsPoly m (f i)) → IsPoly m (fun x => sumTo (fun i => f i x) n)
  | 0, _ => IsPoly.zero m
  | n + 1, h => (sumTo_poly n (fun i hi => h i (by omega))).add (h n (by omega))

/-- the factors of Lagrange's term i -/
def skip (X : Nat → Int) (i : Nat) (x : Int) (k : Nat) : Int := if k = i then 1 else X k - x
theorem skip_poly (X : Nat → Int) (i : Nat) : ∀ n, IsPoly (if i < n then n else n + 1) (fun x => prodTo (skip X i x) n)
  | 0 => IsPoly.one
  | n + 1 => by
    have ih := skip_poly X i n
    by_cases e : i = n
    · subst e
      rw [if_neg (by omega)] at ih
      rw [if_pos (by omega)]
      refine ih.congr fun x => ?_
      rw [prodTo, skip, if_pos rfl, Int.mul_one]
    · have h1 := ih.lin (X n)
      have h2 : IsPoly (if i < n + 1 then n + 1 else n + 1 + 1) (fun x => prodTo (skip X i x) n * (X n - x)) := by
        by_cases hi : i < n
        · rw [if_pos hi] at h1
          rw [if_pos (by omega)]
          exact h1
        · rw [if_neg hi] at h1
          rw [if_neg (by omega)]
          exact h1
      refine h2.congr fun x => ?_
      rw [prodTo, skip, if_neg (fun e' => e e'.symm)]
/-- Lagrange's polynomial -/
def lagr (p : Int) (X V : Nat → Int) (n : Nat) (x : Int) : Int := sumTo (fun i => V i * prodTo (skip X i (X i)) n ^ (p.toNat - 2) * prodTo (skip X i x) n) n
theorem lagr_poly (p : Int) (X V : Nat → Int) (n : Nat) : IsPoly n (lagr p X V n) := by
  refine sumTo_poly n fun i hi => ?_
  have := skip_poly X i n
  rw [if_pos hi] at this
  exact this.smul _
theorem apart_sym {p : Int} {X : Nat → Int} {n : Nat} (hX : Apart p X 0 n) (i j : Nat) (hi : i < n) (hj : j < n) (h : i ≠ j) : ¬ Eqm p (X i - X j) 0 := by
  rcases Nat.lt_or_gt_of_ne h with h1 | h1
  · have := hX i j h1 hj
    rwa [Nat.zero_add, Nat.zero_add] at this
  · have := hX j i h1 hi
    rw [Nat.zero_add, Nat.zero_add] at this
    intro h2
    have h4 := (Eqm.refl p 0).sub h2
    rw [Int.sub_zero, show 0 - (X i - X j) = X j - X i by omega] at h4
    exact this h4
theorem lagr_at {p : Int} (hf : fieldOf p = true) {X : Nat → Int} (V : Nat → Int) {n : Nat} (hX : Apart p X 0 n) (j : Nat) (hj : j < n) : Eqm p (lagr p X V n (X j)) (V j) := by
  have hp := fieldOf_range hf
  refine sumTo_one _ _ j ?_ n hj fun i hi hij => ?_
  · have hne : ¬ Eqm p (prodTo (skip X j (X j)) n) 0 := prodTo_ne hf _ n fun i hi => by
      unfold skip
      by_cases e : i = j
      · rw [if_pos e]
        intro h
        have := h.eq (p := p) (by omega) (by omega)
        omega
      · rw [if_neg e]
        exact apart_sym hX i j hi hj e
    have h1 := (Eqm.refl p (V j)).mul (fermat_inv hf hne)
    rw [Int.mul_one] at h1
    refine (Eqm.of_eq ?_).trans h1
    grind
  · have : prodTo (skip X i (X j)) n = 0 := prodTo_zero _ j (by unfold skip; rw [if_neg (fun e => hij e.symm)]; omega) n hj
    show Eqm p (_ * prodTo (skip X i (X j)) n) 0
    rw [this, Int.mul_zero]
    exact Eqm.refl _ _

/-- Newton's polynomial of the points s, s + 1, .. -/
def newt (X : Nat → Int) (D : Nat → Nat → Int) (s : Nat) : Nat → Int → Int
  | 0, _ => D 0 s
  | k + 1, x => newt X D s k x + D (k + 1) (s + k + 1) * prodTo (fun m => x - X (s + m)) (k + 1)
theorem prod_lead (X : Nat → Int) (s : Nat) : ∀ k, IsLead k 1 (fun x => prodTo (fun m => x - X (s + m)) k)
  | 0 => IsLead.const 1
  | k + 1 => by
    obtain ⟨l, hl, h⟩ := (prod_lead X s k).lin (X (s + k))
    exact ⟨l, hl, fun x => (Int.mul_comm (prodTo (fun m => x - X (s + m)) k) (x - X (s + k))).trans (h x)⟩
theorem newt_lead (X : Nat → Int) (D : Nat → Nat → Int) (s : Nat) : ∀ k, IsLead k (D k (s + k)) (newt X D s k)
  | 0 => IsLead.const (D 0 s)
  | k + 1 => by
    have h := (newt_lead X D s k).up.add ((prod_lead X s (k + 1)).smul (D (k + 1) (s + k + 1)))
    rw [Int.zero_add, Int.mul_one] at h
    exact h
theorem newt_at {p : Int} (hf : fieldOf p = true) {X V : Nat → Int} {D : Nat → Nat → Int} {n : Nat} (hX : Apart p X 0 n) (h0 : ∀ i, i < n → Eqm p (D 0 i) (V i))
    (hs : ∀ k i, k + 1 ≤ i → i < n → Eqm p (D (k + 1) i * (X i - X (i - (k + 1)))) (D k i - D k (i - 1))) : ∀ k s, s + k < n → ∀ j, j ≤ k → Eqm p (newt X D s k (X (s + j))) (V (s + j)) := by
  intro k
  induction k with
  | zero =>
    intro s hsn j hj
    obtain rfl : j = 0 := by omega
    exact h0 _ (by omega)
  | succ k ih =>
    have ihs := ih
    intro s hsn j hj
    have early : ∀ j, j ≤ k → Eqm p (newt X D s (k + 1) (X (s + j))) (V (s + j)) := fun j hj => by
      have e : prodTo (fun m => X (s + j) - X (s + m)) (k + 1) = 0 := prodTo_zero _ j (by omega) _ (by omega)
      rw [newt, e, Int.mul_zero, Int.add_zero]
      exact ih s (by omega) j hj
    by_cases hjk : j ≤ k
    · exact early j hjk
    · obtain rfl : j = k + 1 := by omega
      have hl1 := ((newt_lead X D (s + 1) k).lin (X s)).add (((newt_lead X D s k).lin (X (s + (k + 1)))).smul (-1))
      have hl2 := hl1.add ((newt_lead X D s (k + 1)).smul (-(X (s + (k + 1)) - X s)))
      obtain ⟨l, hl, hR⟩ := hl2
      have hc : Eqm p (D k (s + 1 + k) + -1 * D k (s + k) + -(X (s + (k + 1)) - X s) * D (k + 1) (s + (k + 1))) 0 := by
        have h1 := hs k (s + (k + 1)) (by omega) hsn
        rw [show s + (k + 1) - (k + 1) = s by omega, show s + (k + 1) - 1 = s + k by omega] at h1
        have h2 := h1.symm.sub_zero
        refine (Eqm.of_eq ?_).trans h2
        rw [show s + 1 + k = s + (k + 1) by omega]
        grind
      have hAp : Apart p X s (k + 1) := fun i j hij hj => by
        have := hX (s + i) (s + j) (by omega) (by omega)
        rwa [Nat.zero_add, Nat.zero_add] at this
      have hv := vanish (s := s) hf hAp hl (f := fun x => (x - X s) * newt X D (s + 1) k x + -1 * ((x - X (s + (k + 1))) * newt X D s k x) + -(X (s + (k + 1)) - X s) * newt X D s (k + 1) x) (fun x => by
        have h1 := (Eqm.refl p (poly x l)).add (hc.mul_zero (x ^ (k + 1)))
        rw [Int.add_zero] at h1
        exact (Eqm.of_eq (hR x)).trans h1) (fun i hi => by
        have e1 := early i (by omega)
        have e2 := ih s (by omega) i (by omega)
        rcases Nat.eq_zero_or_pos i with hi0 | hi0
        · subst hi0
          rw [Nat.add_zero] at e1 e2 ⊢
          have g1 := ((Eqm.refl p (X s - X (s + (k + 1)))).mul e2)
          have g2 := ((Eqm.refl p (X (s + (k + 1)) - X s)).mul e1)
          refine (Eqm.of_eq ?_).trans (((g1.add g2).mul (Eqm.refl p (-1))).trans (Eqm.of_eq ?_))
          · show (X s - X s) * newt X D (s + 1) k (X s) + _ + _ = _
            grind
          · grind
        · have e3 := ihs (s + 1) (by omega) (i - 1) (by omega)
          rw [show s + 1 + (i - 1) = s + i by omega] at e3
          have g1 := (Eqm.refl p (X (s + i) - X s)).mul e3
          have g2 := ((Eqm.refl p (X (s + i) - X (s + (k + 1)))).mul e2).mul (Eqm.refl p (-1))
          have g3 := ((Eqm.refl p (X (s + (k + 1)) - X s)).mul e1).mul (Eqm.refl p (-1))
          refine (Eqm.of_eq ?_).trans (((g1.add g2).add g3).trans (Eqm.of_eq ?_))
          · grind
          · grind) (X (s + (k + 1)))
      have e4 := ihs (s + 1) (by omega) k (by omega)
      rw [show s + 1 + k = s + (k + 1) by omega] at e4
      have hne : ¬ Eqm p (X (s + (k + 1)) - X s) 0 := apart_sym hX _ _ hsn (by omega) (by omega)
      refine cancel_left hf hne ?_
      have g := (Eqm.refl p (X (s + (k + 1)) - X s)).mul e4
      exact (Eqm.of_eq (by grind)).trans ((g.sub hv).trans (Eqm.of_eq (Int.sub_zero _)))
end Go.Proofs.YtieeefgkdfijdaaDoor

/- Plain answers of the printed functions behind SecretJoin: powers, inverses, Newton's differences, the error. No condition. -/
namespace Go.Proofs.YtieeefgkdfijdaaDoor
open Go Go.RowKit Go.Proofs.YtieeefgkdfijdaaDoorW.PrintWords

theorem sq_pow (a : Int) : ∀ h : Nat, (a * a) ^ h = a ^ (2 * h)
  | 0 => by rw [Int.pow_zero, Nat.mul_zero, Int.pow_zero]
  | h + 1 => by
    rw [Int.pow_succ, sq_pow a h, show 2 * (h + 1) = 2 * h + 1 + 1 by omega, Int.pow_succ, Int.pow_succ]
    grind
theorem mod_range {p : Int} (hp : 2 ≤ p) (a : Int) : 0 ≤ a % p ∧ a % p < p := ⟨Int.emod_nonneg _ (by omega), Int.emod_lt_of_pos _ (by omega)⟩
theorem mul_mod_small {p x y : Int} (hp : 2 ≤ p ∧ p ≤ 997) (hx : 0 ≤ x ∧ x ≤ 1000) (hy : 0 ≤ y ∧ y ≤ 1000) : Int.tmod (wrap64 (x * y)) p = x * y % p := by
  have m := mul_le_997 hx hy
  have w : wrap64 (x * y) = x * y := by unfold wrap64; omega
  rw [w, tmod_small _ _ m.1]
theorem power_ev (p : Int) (hp : 2 ≤ p ∧ p ≤ 997) : ∀ (m n : Nat), n ≤ m → n ≤ 1000 → ∀ (a r : Int), 0 ≤ a → a < p → 0 ≤ r → r < p →
    ∃ s, Ev (fun k => PSecretJoin.secret_power.l0 k a n p r) s ∧ (0 ≤ s ∧ s < p) ∧ Eqm p s (r * a ^ n) := by
  intro m
  induction m with
  | zero =>
    intro n hn _ a r _ _ hr0 hr
    obtain rfl : n = 0 := by omega
    refine ⟨r, Ev.step (f := fun _ => some r) (fun k => ?_) (Ev.now r), ⟨hr0, hr⟩, Eqm.of_eq (by rw [Int.pow_zero, Int.mul_one])⟩
    simp only [PSecretJoin.secret_power.l0]
    rw [if_neg (by omega)]
  | succ m ih =>
    intro n hn hk a r ha0 ha hr0 hr
    rcases Nat.eq_zero_or_pos n with h0 | h0
    · exact ih n (by omega) hk a r ha0 ha hr0 hr
    · have ha2 := mod_range hp.1 (a * a)
      have hr2 := mod_range hp.1 (r * a)
      have e1 : Int.tmod (wrap64 (a * a)) p = a * a % p := mul_mod_small hp ⟨ha0, by omega⟩ ⟨ha0, by omega⟩
      have e2 : Int.tmod (wrap64 (r * a)) p = r * a % p := mul_mod_small hp ⟨hr0, by omega⟩ ⟨ha0, by omega⟩
      have e3 : (n : Int) / 2 = ((n / 2 : Nat) : Int) := by omega
      have hb := Go.Proofs.and_one n (by omega)
      by_cases ho : n % 2 = 1
      · obtain ⟨s, hs, hs0, hs1⟩ := ih (n / 2) (by omega) (by omega) (a * a % p) (r * a % p) ha2.1 ha2.2 hr2.1 hr2.2
        refine ⟨s, Ev.step (fun k => ?_) hs, hs0, hs1.trans ?_⟩
        · simp only [PSecretJoin.secret_power.l0]
          rw [if_pos (by omega), if_pos (by rw [hb, ho]; rfl), if_neg (by omega), e1, e2, e3]
        · have h1 := (Eqm.mod p (r * a)).mul ((Eqm.mod p (a * a)).pow (n / 2))
          refine h1.trans (Eqm.of_eq ?_)
          rw [sq_pow]
          have h2 : n = 2 * (n / 2) + 1 := by omega
          conv => rhs; rw [h2, Int.pow_succ]
          grind
      · obtain ⟨s, hs, hs0, hs1⟩ := ih (n / 2) (by omega) (by omega) (a * a % p) r ha2.1 ha2.2 hr0 hr
        refine ⟨s, Ev.step (fun k => ?_) hs, hs0, hs1.trans ?_⟩
        · simp only [PSecretJoin.secret_power.l0]
          rw [if_pos (by omega), if_neg (by rw [hb]; omega), if_neg (by omega), e1, e3]
        · have h1 := (Eqm.refl p r).mul ((Eqm.mod p (a * a)).pow (n / 2))
          refine h1.trans (Eqm.of_eq ?_)
          rw [sq_pow, show 2 * (n / 2) = n by omega]
theorem power_some (p : Int) (hp : 2 ≤ p ∧ p ≤ 997) (a : Int) (n : Nat) (hn : n ≤ 1000) (ha : 0 ≤ a ∧ a < p) : ∃ s, (∃ k, PSecretJoin.secret_power.f k a n p = some s) ∧ (0 ≤ s ∧ s < p) ∧ Eqm p s (a ^ n) := by
  have h1 := mod_range hp.1 1
  obtain ⟨s, hs, h2, h3⟩ := power_ev p hp n n (Nat.le_refl _) hn a (1 % p) ha.1 ha.2 h1.1 h1.2
  refine ⟨s, Ev.rounds (Ev.congr (fun k => ?_) hs), h2, h3.trans ?_⟩
  · unfold PSecretJoin.secret_power.f
    rw [if_neg (by omega)]
  · have h4 := (Eqm.mod p 1).mul (Eqm.refl p (a ^ n))
    rwa [Int.one_mul] at h4

/-- the inverse of a number in a field -/
def invM (p a : Int) : Int := a ^ (p.toNat - 2) % p
theorem invM_mul {p : Int} (hf : fieldOf p = true) {a : Int} (ha : ¬ Eqm p a 0) : Eqm p (a * invM p a) 1 := ((Eqm.refl p a).mul (Eqm.mod p _)).trans (fermat_inv hf ha)
theorem one_ne {p : Int} (hf : fieldOf p = true) : ¬ Eqm p 1 0 := fun h => by
  have hp := fieldOf_range hf
  have := h.eq (by omega) (by omega)
  omega
theorem invM_range {p : Int} (hf : fieldOf p = true) {a : Int} (ha : ¬ Eqm p a 0) : 1 ≤ invM p a ∧ invM p a < p := by
  have hp := fieldOf_range hf
  have h := mod_range hp.1 (a ^ (p.toNat - 2))
  refine ⟨?_, h.2⟩
  rcases Int.lt_or_le 0 (invM p a) with h1 | h1
  · exact h1
  · exfalso
    have e : invM p a = 0 := by have : 0 ≤ invM p a := h.1; omega
    have h2 := invM_mul hf ha
    rw [e, Int.mul_zero] at h2
    exact one_ne hf h2.symm
theorem inverse_ev {p : Int} (hf : fieldOf p = true) {a : Int} (ha0 : 0 ≤ a ∧ a < p) (ha : ¬ Eqm p a 0) : ∀ (d : Nat) (x : Int), 1 ≤ x → invM p a - x = d → Ev (fun k => PSecretJoin.demonref3_inverse.l0 k a p x) (invM p a) := by
  have hp := fieldOf_range hf
  have hr := invM_range hf ha
  have one : (1 : Int) % p = 1 := Int.emod_eq_of_lt (by omega) (by omega)
  intro d
  induction d with
  | zero =>
    intro x hx hd
    obtain rfl : x = invM p a := by omega
    refine Ev.step (f := fun _ => some (invM p a)) (fun k => ?_) (Ev.now _)
    simp only [PSecretJoin.demonref3_inverse.l0]
    rw [if_pos (by omega), if_neg (by omega), mul_mod_small hp ⟨ha0.1, by omega⟩ ⟨by omega, by omega⟩, (invM_mul hf ha).mod_eq, one, if_pos rfl]
  | succ d ih =>
    intro x hx hd
    refine Ev.step (fun k => ?_) (ih (x + 1) (by omega) (by omega))
    simp only [PSecretJoin.demonref3_inverse.l0]
    have hw : wrap64 (x + 1) = x + 1 := by unfold wrap64; omega
    rw [if_pos (by omega), if_neg (by omega), mul_mod_small hp ⟨ha0.1, by omega⟩ ⟨by omega, by omega⟩, hw, if_neg ?_]
    intro h
    have h1 : Eqm p (a * x) 1 := Eqm.of_mod (by rw [h, one])
    have h2 := cancel_left hf ha (h1.trans (invM_mul hf ha).symm)
    have := h2.eq ⟨by omega, by omega⟩ ⟨by omega, by omega⟩
    omega

/-- Newton's differences, as the reference reckons them -/
def ddT (p : Int) (X V : Nat → Int) : Nat → Nat → Int
  | 0, i => V i
  | k + 1, i => if i < k + 1 then ddT p X V k i else ((ddT p X V k i - ddT p X V k (i - 1) + p) % p * invM p ((X i - X (i - (k + 1)) + p) % p)) % p
theorem ddT_range {p : Int} (hp : 2 ≤ p) {X V : Nat → Int} (hV : ∀ i, 0 ≤ V i ∧ V i < p) : ∀ k i, 0 ≤ ddT p X V k i ∧ ddT p X V k i < p
  | 0, i => hV i
  | k + 1, i => by
    rw [ddT]
    split
    · exact ddT_range hp hV k i
    · exact mod_range hp _
theorem ddT_low (p : Int) (X V : Nat → Int) (i : Nat) : ∀ k, i ≤ k → ddT p X V k i = ddT p X V i i
  | 0, h => by
    obtain rfl : i = 0 := by omega
    rfl
  | k + 1, h => by
    by_cases e : i = k + 1
    · rw [e]
    · rw [ddT, if_pos (by omega), ddT_low p X V i k (by omega)]
theorem ddT_step {p : Int} (hf : fieldOf p = true) {X V : Nat → Int} {n : Nat} (hX : Apart p X 0 n) (k i : Nat) (hk : k + 1 ≤ i) (hi : i < n) :
    Eqm p (ddT p X V (k + 1) i * (X i - X (i - (k + 1)))) (ddT p X V k i - ddT p X V k (i - 1)) := by
  have hne := apart_sym hX i (i - (k + 1)) hi (by omega) (by omega)
  have e1 : Eqm p ((X i - X (i - (k + 1)) + p) % p) (X i - X (i - (k + 1))) := (Eqm.mod p _).trans (Eqm.add_p p _)
  have hinv := invM_mul hf (fun h => hne (e1.symm.trans h))
  rw [ddT, if_neg (by omega)]
  generalize invM p ((X i - X (i - (k + 1)) + p) % p) = I at hinv ⊢
  generalize (X i - X (i - (k + 1)) + p) % p = Y at e1 hinv
  generalize ddT p X V k i - ddT p X V k (i - 1) = Z
  have h1 := (((Eqm.mod p ((Z + p) % p * I)).trans (((Eqm.mod p _).trans (Eqm.add_p p Z)).mul (Eqm.refl p I))).mul e1.symm)
  have h2 := (Eqm.refl p Z).mul hinv
  rw [Int.mul_one] at h2
  exact h1.trans ((Eqm.of_eq (by grind)).trans h2)
theorem newt_sum (X : Nat → Int) (D : Nat → Nat → Int) : ∀ k, newt X D 0 k 0 = sumTo (fun j => D j j * prodTo (fun m => 0 - X m) j) (k + 1)
  | 0 => by simp [newt, sumTo, prodTo]
  | k + 1 => by
    rw [newt, newt_sum X D k]
    simp only [sumTo, Nat.zero_add]

theorem set_getD (d : List Int) (i j : Nat) (v : Int) (hi : i < d.length) : (d.set i v).getD j 0 = if i = j then v else d.getD j 0 := by
  rw [List.getD_eq_getElem?_getD, List.getD_eq_getElem?_getD, List.getElem?_set]
  by_cases e : i = j
  · rw [if_pos e, if_pos e, if_pos hi]; rfl
  · rw [if_neg e, if_neg e]
theorem joinOf_l2 {p : Int} (hp : 2 ≤ p ∧ p ≤ 997) (at_ d : List Int) (hl : d.length = at_.length) (h12 : at_.length ≤ 12) (hX : ∀ i, i < at_.length → 1 ≤ at_.getD i 0 ∧ at_.getD i 0 < p) (hd : ∀ i, i < at_.length → 0 ≤ d.getD i 0 ∧ d.getD i 0 < p) :
    ∀ (c : Nat) (y : Int), c ≤ at_.length → 0 ≤ y → y < p → ∃ s, Ev (fun k => PSecretJoin.demonref3_JoinOf.l2 k p at_ d y ((c : Int) - 1)) s ∧ (0 ≤ s ∧ s < p) ∧
      Eqm p s (sumTo (fun j => d.getD j 0 * prodTo (fun m => 0 - at_.getD m 0) j) c + prodTo (fun m => 0 - at_.getD m 0) c * y) := by
  intro c
  induction c with
  | zero =>
    intro y _ h0 h1
    refine ⟨y, Ev.step (f := fun _ => some y) (fun k => ?_) (Ev.now y), ⟨h0, h1⟩, Eqm.of_eq ?_⟩
    · simp only [PSecretJoin.demonref3_JoinOf.l2]
      rw [if_neg (by omega)]
    · simp only [sumTo, prodTo, Int.zero_add, Int.one_mul]
  | succ c ih =>
    intro y hc h0 h1
    obtain ⟨x0, x1⟩ := hX c (by omega)
    obtain ⟨d0, d1⟩ := hd c (by omega)
    have hr := mod_range hp.1 (y * (p - at_.getD c 0) + d.getD c 0)
    obtain ⟨s, hs, hs0, hs1⟩ := ih ((y * (p - at_.getD c 0) + d.getD c 0) % p) (by omega) hr.1 hr.2
    refine ⟨s, Ev.step (fun k => ?_) hs, hs0, hs1.trans ?_⟩
    · simp only [PSecretJoin.demonref3_JoinOf.l2]
      rw [show ((c + 1 : Nat) : Int) - 1 = (c : Int) by omega, if_pos (by omega), if_pos (by omega), if_pos (by omega), if_pos (by omega), if_neg (by omega), rd_nat, rd_nat]
      generalize at_.getD c 0 = X at x0 x1 ⊢
      generalize d.getD c 0 = D at d0 d1 ⊢
      have m := mul_le_997 (x := y) (y := p - X) ⟨h0, by omega⟩ ⟨by omega, by omega⟩
      have w1 : wrap64 (p - X) = p - X := by unfold wrap64; omega
      have w2 : wrap64 (y * (p - X)) = y * (p - X) := by unfold wrap64; omega
      have w3 : wrap64 (y * (p - X) + D) = y * (p - X) + D := by unfold wrap64; omega
      have w4 : wrap64 ((c : Int) - 1) = (c : Int) - 1 := by unfold wrap64; omega
      rw [w1, w2, w3, w4, tmod_small _ _ (by omega)]
    · simp only [sumTo, prodTo]
      generalize at_.getD c 0 = X
      generalize d.getD c 0 = D
      generalize sumTo (fun j => d.getD j 0 * prodTo (fun m => 0 - at_.getD m 0) j) c = S
      generalize prodTo (fun m => 0 - at_.getD m 0) c = P
      have h2 : Eqm p (p - X) (0 - X) := ⟨1, by omega⟩
      have h3 := (Eqm.refl p S).add ((Eqm.refl p P).mul ((Eqm.mod p _).trans (((Eqm.refl p y).mul h2).add (Eqm.refl p D))))
      exact h3.trans (Eqm.of_eq (by grind))
/-- the row holds the differences of stage m up to place i, and of the next one behind it -/
def Stage (p : Int) (X V : Nat → Int) (n m i : Nat) (d : List Int) : Prop := d.length = n ∧ ∀ j, j < n → d.getD j 0 = if i < j then ddT p X V (m + 1) j else ddT p X V m j
theorem stage_next {p : Int} {X V : Nat → Int} {n m : Nat} {d : List Int} (h : Stage p X V n m m d) (hn : 0 < n) : Stage p X V n (m + 1) (n - 1) d :=
  ⟨h.1, fun j hj => by
    rw [h.2 j hj, if_neg (by omega : ¬ n - 1 < j)]
    by_cases e : m < j
    · rw [if_pos e]
    · rw [if_neg e, ddT, if_pos (by omega)]⟩
theorem joinOf_l0 {p : Int} (hf : fieldOf p = true) (at_ : List Int) (V : Nat → Int) (h12 : at_.length ≤ 12) (hn : 0 < at_.length) (hV : ∀ i, 0 ≤ V i ∧ V i < p) (hX : ∀ i, i < at_.length → 1 ≤ at_.getD i 0 ∧ at_.getD i 0 < p) (hap : Apart p (fun i => at_.getD i 0) 0 at_.length) (s : Int)
    (fin : ∀ d, Stage p (fun i => at_.getD i 0) V at_.length (at_.length - 1) (at_.length - 1) d → Ev (fun k => PSecretJoin.demonref3_JoinOf.l2 k p at_ d 0 ((at_.length : Int) - 1)) s) :
    ∀ (c m : Nat), m + c = at_.length - 1 → ∀ d, Stage p (fun i => at_.getD i 0) V at_.length m (at_.length - 1) d → Ev (fun k => PSecretJoin.demonref3_JoinOf.l0 k p at_ d ((m : Int) + 1)) s := by
  have hp := fieldOf_range hf
  intro c
  induction c with
  | zero =>
    intro m hm d hd
    obtain rfl : m = at_.length - 1 := by omega
    refine Ev.step (fun k => ?_) (fin d hd)
    simp only [PSecretJoin.demonref3_JoinOf.l0]
    have w : wrap64 ((at_.length : Int) - 1) = (at_.length : Int) - 1 := by unfold wrap64; omega
    rw [if_neg (by omega), w]
  | succ c ih =>
    intro m hm d hd
    have inner : ∀ (e i : Nat), i = m + e → i < at_.length → ∀ d, Stage p (fun i => at_.getD i 0) V at_.length m i d → Ev (fun k => PSecretJoin.demonref3_JoinOf.l1 k p at_ d ((m : Int) + 1) (i : Int)) s := by
      intro e
      induction e with
      | zero =>
        intro i hi hin d hd
        obtain rfl : i = m := by omega
        refine Ev.step (fun k => ?_) (ih (i + 1) (by omega) d (stage_next hd hn))
        simp only [PSecretJoin.demonref3_JoinOf.l1]
        have w : wrap64 ((i : Int) + 1 + 1) = ((i + 1 : Nat) : Int) + 1 := by unfold wrap64; omega
        rw [if_neg (by omega), w]
      | succ e ihe =>
        intro i hi hin d hd
        have hdl := hd.1
        have a0 := hd.2 i hin
        have a1 := hd.2 (i - 1) (by omega)
        rw [if_neg (by omega)] at a0 a1
        obtain ⟨r0, r1⟩ := ddT_range (X := fun i => at_.getD i 0) hp.1 hV m i
        obtain ⟨q0, q1⟩ := ddT_range (X := fun i => at_.getD i 0) hp.1 hV m (i - 1)
        obtain ⟨x0, x1⟩ := hX i hin
        obtain ⟨y0, y1⟩ := hX (i - (m + 1)) (by omega)
        have hne := apart_sym hap i (i - (m + 1)) hin (by omega) (by omega)
        have e1 : Eqm p ((at_.getD i 0 - at_.getD (i - (m + 1)) 0 + p) % p) (at_.getD i 0 - at_.getD (i - (m + 1)) 0) := (Eqm.mod p _).trans (Eqm.add_p p _)
        have hrY := mod_range hp.1 (at_.getD i 0 - at_.getD (i - (m + 1)) 0 + p)
        have hneY : ¬ Eqm p ((at_.getD i 0 - at_.getD (i - (m + 1)) 0 + p) % p) 0 := fun h => hne (e1.symm.trans h)
        have hiv := inverse_ev hf hrY hneY (invM p ((at_.getD i 0 - at_.getD (i - (m + 1)) 0 + p) % p) - 1).toNat 1 (by omega) (by have := (invM_range hf hneY).1; omega)
        have hir := invM_range hf hneY
        have hnx := ihe (i - 1) (by omega) (by omega) (d.set i (ddT p (fun i => at_.getD i 0) V (m + 1) i)) ⟨by rw [List.length_set]; exact hdl, fun j hj => by
          rw [set_getD _ _ _ _ (by omega)]
          by_cases e : i = j
          · rw [if_pos e, if_pos (by omega), e]
          · rw [if_neg e, hd.2 j hj]
            by_cases e2 : i < j
            · rw [if_pos e2, if_pos (by omega)]
            · rw [if_neg e2, if_neg (by omega)]⟩
        have hdt : ddT p (fun i => at_.getD i 0) V (m + 1) i = ((ddT p (fun i => at_.getD i 0) V m i - ddT p (fun i => at_.getD i 0) V m (i - 1) + p) % p * invM p ((at_.getD i 0 - at_.getD (i - (m + 1)) 0 + p) % p)) % p := by
          rw [ddT, if_neg (by omega)]
        have w1 : wrap64 ((i : Int) - 1) = ((i - 1 : Nat) : Int) := by unfold wrap64; omega
        have w2 : wrap64 ((i : Int) - ((m : Int) + 1)) = ((i - (m + 1) : Nat) : Int) := by unfold wrap64; omega
        have v1 : wrap64 (at_.getD i 0 - at_.getD (i - (m + 1)) 0) = at_.getD i 0 - at_.getD (i - (m + 1)) 0 := by unfold wrap64; omega
        have v2 : wrap64 (at_.getD i 0 - at_.getD (i - (m + 1)) 0 + p) = at_.getD i 0 - at_.getD (i - (m + 1)) 0 + p := by unfold wrap64; omega
        have v3 : wrap64 (ddT p (fun i => at_.getD i 0) V m i - ddT p (fun i => at_.getD i 0) V m (i - 1)) = ddT p (fun i => at_.getD i 0) V m i - ddT p (fun i => at_.getD i 0) V m (i - 1) := by unfold wrap64; omega
        have v4 : wrap64 (ddT p (fun i => at_.getD i 0) V m i - ddT p (fun i => at_.getD i 0) V m (i - 1) + p) = ddT p (fun i => at_.getD i 0) V m i - ddT p (fun i => at_.getD i 0) V m (i - 1) + p := by unfold wrap64; omega
        have h5 := mod_range hp.1 (ddT p (fun i => at_.getD i 0) V m i - ddT p (fun i => at_.getD i 0) V m (i - 1) + p)
        have hval : Int.tmod (wrap64 ((ddT p (fun i => at_.getD i 0) V m i - ddT p (fun i => at_.getD i 0) V m (i - 1) + p) % p * invM p ((at_.getD i 0 - at_.getD (i - (m + 1)) 0 + p) % p))) p = ddT p (fun i => at_.getD i 0) V (m + 1) i := by
          rw [mul_mod_small hp ⟨h5.1, by omega⟩ ⟨by omega, by omega⟩, hdt]
        rw [← hval] at hnx
        refine Ev.step (f := fun k => (PSecretJoin.demonref3_inverse.l0 k ((at_.getD i 0 - at_.getD (i - (m + 1)) 0 + p) % p) p 1).bind fun t => PSecretJoin.demonref3_JoinOf.l1 k p at_ (d.set i (Int.tmod (wrap64 ((ddT p (fun i => at_.getD i 0) V m i - ddT p (fun i => at_.getD i 0) V m (i - 1) + p) % p * t)) p)) ((m : Int) + 1) ((i - 1 : Nat) : Int)) (fun k => ?_) (Ev.bind hiv hnx)
        simp only [PSecretJoin.demonref3_JoinOf.l1, PSecretJoin.demonref3_inverse.f]
        rw [w1, w2, if_pos (by omega), if_pos (by omega), if_pos (by omega), if_pos (by omega), if_pos (by omega), if_neg (by omega), if_pos (by omega), if_pos (by omega), if_pos (by omega), rd_nat, rd_nat, rd_nat, rd_nat, a0, a1, v1, v2, v3, v4, tmod_small (at_.getD i 0 - at_.getD (i - (m + 1)) 0 + p) _ (by omega), tmod_small (ddT p (fun i => at_.getD i 0) V m i - ddT p (fun i => at_.getD i 0) V m (i - 1) + p) _ (by omega), Int.toNat_natCast]
    refine Ev.step (fun k => ?_) (inner (at_.length - 1 - m) (at_.length - 1) (by omega) (by omega) d hd)
    simp only [PSecretJoin.demonref3_JoinOf.l0]
    have w : wrap64 ((at_.length : Int) - 1) = ((at_.length - 1 : Nat) : Int) := by unfold wrap64; omega
    rw [if_pos (by omega), w]
theorem points_apart {p : Int} (hp : 2 ≤ p) (at_ : List Int) (hX : ∀ i, i < at_.length → 1 ≤ at_.getD i 0 ∧ at_.getD i 0 < p) (hn : at_.Nodup) : Apart p (fun i => at_.getD i 0) 0 at_.length := by
  intro i j hij hj h
  rw [Nat.zero_add, Nat.zero_add] at h
  obtain ⟨a0, a1⟩ := hX i (by omega)
  obtain ⟨b0, b1⟩ := hX j hj
  have e : at_.getD i 0 = at_.getD j 0 := (Eqm.of_sub h).eq ⟨by show 0 ≤ at_.getD i 0; omega, a1⟩ ⟨by show 0 ≤ at_.getD j 0; omega, b1⟩
  rw [getD_eq at_ i 0 (by omega), getD_eq at_ j 0 hj] at e
  have := (List.pairwise_iff_getElem.1 hn) i j (by omega) hj hij
  exact this e
/-- what Join answers: Lagrange's polynomial at 0 -/
def joinV (p : Int) (at_ vs : List Int) : Int := lagr p (fun i => at_.getD i 0) (fun i => vs.getD i 0) at_.length 0 % p
theorem joinOf_some {p : Int} (hf : fieldOf p = true) (at_ vs : List Int) (h12 : at_.length ≤ 12) (hn : 0 < at_.length) (hl : at_.length = vs.length) (ha : inside at_ p 1 = true) (hv : inside vs p 0 = true) (hd : at_.Nodup) : ∃ k, PSecretJoin.demonref3_JoinOf.f k p at_ vs = some (joinV p at_ vs) := by
  have hp := fieldOf_range hf
  have hX := fun i hi => inside_get ha i hi
  have hap := points_apart hp.1 at_ hX hd
  have hV : ∀ i, 0 ≤ vs.getD i 0 ∧ vs.getD i 0 < p := fun i => by
    by_cases h : i < vs.length
    · exact inside_get hv i h
    · rw [List.getD_eq_getElem?_getD, List.getElem?_eq_none (by omega)]
      show (0 : Int) ≤ 0 ∧ (0 : Int) < p
      omega
  -- the last row of differences
  have hlast : ∀ d, Stage p (fun i => at_.getD i 0) (fun i => vs.getD i 0) at_.length (at_.length - 1) (at_.length - 1) d → ∀ j, j < at_.length → d.getD j 0 = ddT p (fun i => at_.getD i 0) (fun i => vs.getD i 0) j j := fun d h j hj => by
    rw [h.2 j hj, if_neg (by omega), ddT_low p _ _ j _ (by omega)]
  have hsum : ∀ d : List Int, (∀ j, j < at_.length → d.getD j 0 = ddT p (fun i => at_.getD i 0) (fun i => vs.getD i 0) j j) → ∀ c, c ≤ at_.length → sumTo (fun j => d.getD j 0 * prodTo (fun m => 0 - at_.getD m 0) j) c = sumTo (fun j => ddT p (fun i => at_.getD i 0) (fun i => vs.getD i 0) j j * prodTo (fun m => 0 - at_.getD m 0) j) c := by
    intro d h c
    induction c with
    | zero => intro _; rfl
    | succ c ih => intro hc; simp only [sumTo]; rw [ih (by omega), h c (by omega)]
  have hagree := agree hf hap (f := newt (fun i => at_.getD i 0) (ddT p (fun i => at_.getD i 0) (fun i => vs.getD i 0)) 0 (at_.length - 1)) (g := lagr p (fun i => at_.getD i 0) (fun i => vs.getD i 0) at_.length)
    (by have := (newt_lead (fun i => at_.getD i 0) (ddT p (fun i => at_.getD i 0) (fun i => vs.getD i 0)) 0 (at_.length - 1)).poly; rwa [show at_.length - 1 + 1 = at_.length by omega] at this) (lagr_poly p _ _ _)
    (fun i hi => by
      have h1 := newt_at hf hap (fun i _ => Eqm.refl p _) (fun k i hk hi => ddT_step (V := fun i => vs.getD i 0) hf hap k i hk hi) (at_.length - 1) 0 (by omega) i (by omega)
      rw [Nat.zero_add] at h1
      exact h1.trans (lagr_at hf (fun i => vs.getD i 0) hap i hi).symm) 0
  have fin : ∀ d, Stage p (fun i => at_.getD i 0) (fun i => vs.getD i 0) at_.length (at_.length - 1) (at_.length - 1) d → Ev (fun k => PSecretJoin.demonref3_JoinOf.l2 k p at_ d 0 ((at_.length : Int) - 1)) (joinV p at_ vs) := fun d h => by
    obtain ⟨s, hs, hs0, hs1⟩ := joinOf_l2 hp at_ d h.1 h12 hX (fun i hi => by rw [hlast d h i hi]; exact ddT_range hp.1 hV i i) at_.length 0 (Nat.le_refl _) (Int.le_refl _) (by omega)
    have e : s = joinV p at_ vs := by
      refine Eqm.eq (hs1.trans ?_) hs0 (mod_range hp.1 _)
      rw [Int.mul_zero, Int.add_zero, hsum d (hlast d h) _ (Nat.le_refl _)]
      have e2 := newt_sum (fun i => at_.getD i 0) (ddT p (fun i => at_.getD i 0) (fun i => vs.getD i 0)) (at_.length - 1)
      rw [show at_.length - 1 + 1 = at_.length by omega] at e2
      rw [← e2]
      exact hagree.trans (Eqm.mod p _).symm
    rwa [← e]
  have h0 := joinOf_l0 hf at_ (fun i => vs.getD i 0) h12 hn hV hX hap _ fin (at_.length - 1) 0 (by omega) vs ⟨by omega, fun j hj => by rw [if_neg (by omega)]; rfl⟩
  obtain ⟨k, hk⟩ := h0.rounds
  refine ⟨k, ?_⟩
  unfold PSecretJoin.demonref3_JoinOf.f
  rw [if_pos (by simp; omega), List.nil_append]
  exact hk

/-- the code of Join's error -/
def jErr (p : Int) (at_ vs : List Int) : Int :=
  if fieldOf p = false then 8 else if at_.length = 0 ∨ 12 < at_.length then 2 else if inside at_ p 1 = true ∧ inside vs p 0 = true ∧ at_.length = vs.length ∧ at_.Nodup then 0 else 3
theorem contains_ev (l : List Int) (a : Int) (hl : l.length ≤ 2000000) : ∀ (d i : Nat), i + d = l.length → a ∉ l.take i → Ev (fun k => PSecretJoin.demonref1_Contains.l0 k l a (i : Int)) (decide (a ∈ l)) := by
  intro d
  induction d with
  | zero =>
    intro i hi hn
    obtain rfl : i = l.length := by omega
    rw [List.take_length] at hn
    rw [decide_eq_false hn]
    refine Ev.step (f := fun _ => some false) (fun k => ?_) (Ev.now _)
    simp only [PSecretJoin.demonref1_Contains.l0]
    rw [if_neg (by omega)]
  | succ d ih =>
    intro i hi hn
    by_cases e : l.getD i 0 = a
    · have hm : a ∈ l := by rw [← e, getD_eq l i 0 (by omega)]; exact List.getElem_mem _
      rw [decide_eq_true hm]
      refine Ev.step (f := fun _ => some true) (fun k => ?_) (Ev.now _)
      simp only [PSecretJoin.demonref1_Contains.l0]
      rw [if_pos (by omega), if_pos (by omega), rd_nat, if_pos e]
    · refine Ev.step (fun k => ?_) (ih (i + 1) (by omega) ?_)
      · simp only [PSecretJoin.demonref1_Contains.l0]
        rw [if_pos (by omega), if_pos (by omega), rd_nat, if_neg e, wrap_up i (by omega)]
      · rw [List.take_succ_eq_append_getElem (by omega), List.mem_append, List.mem_singleton]
        rintro (h | h)
        · exact hn h
        · exact e (by rw [getD_eq l i 0 (by omega)]; exact h.symm)
theorem joinError_l0 (l : List Int) (hl : l.length ≤ 2000000) : ∀ (d i : Nat), i + d = l.length → (l.take i).Nodup → Ev (fun k => PSecretJoin.demonref3_JoinError.l0 k l (i : Int)) (if l.Nodup then 0 else 3) := by
  intro d
  induction d with
  | zero =>
    intro i hi hn
    obtain rfl : i = l.length := by omega
    rw [List.take_length] at hn
    rw [if_pos hn]
    refine Ev.step (f := fun _ => some 0) (fun k => ?_) (Ev.now _)
    simp only [PSecretJoin.demonref3_JoinError.l0]
    rw [if_neg (by omega)]
  | succ d ih =>
    intro i hi hn
    have hc := contains_ev (l.take i) (l.getD i 0) (by rw [List.length_take]; omega) (l.take i).length 0 (by omega) (by simp)
    have et : l.take (i + 1) = l.take i ++ [l.getD i 0] := by rw [List.take_succ_eq_append_getElem (by omega), getD_eq l i 0 (by omega)]
    by_cases hm : l.getD i 0 ∈ l.take i
    · have hnn : ¬ l.Nodup := fun h => by
        have h2 : (l.take (i + 1)).Nodup := h.sublist (List.take_sublist _ _)
        rw [et, List.nodup_append] at h2
        exact h2.2.2 _ hm _ (List.mem_singleton_self _) rfl
      rw [if_neg hnn]
      rw [decide_eq_true hm] at hc
      refine Ev.step (f := fun k => (PSecretJoin.demonref1_Contains.l0 k (l.take i) (l.getD i 0) 0).bind fun t => if t = true then some 3 else PSecretJoin.demonref3_JoinError.l0 k l (wrap64 ((i : Int) + 1))) (fun k => ?_) (Ev.bind hc (Ev.now _))
      simp only [PSecretJoin.demonref3_JoinError.l0, PSecretJoin.demonref1_Contains.f]
      rw [if_pos (by omega), if_pos (by omega), if_pos (by omega), Int.toNat_natCast, rd_nat]
    · rw [decide_eq_false hm] at hc
      have h2 := ih (i + 1) (by omega) (by
        rw [et, List.nodup_append]
        refine ⟨hn, by simp, fun a ha b hb e => ?_⟩
        rw [List.mem_singleton] at hb
        subst e hb
        exact hm ha)
      rw [← wrap_up i (by omega)] at h2
      refine Ev.step (f := fun k => (PSecretJoin.demonref1_Contains.l0 k (l.take i) (l.getD i 0) 0).bind fun t => if t = true then some 3 else PSecretJoin.demonref3_JoinError.l0 k l (wrap64 ((i : Int) + 1))) (fun k => ?_) (Ev.bind hc (Ev.congr (fun k => by rw [if_neg (by decide)]) h2))
      simp only [PSecretJoin.demonref3_JoinError.l0, PSecretJoin.demonref1_Contains.f]
      rw [if_pos (by omega), if_pos (by omega), if_pos (by omega), Int.toNat_natCast, rd_nat]
theorem isFieldJ_ev (p : Int) : Ev (fun k => PSecretJoin.demonref3_IsField.f k p) (fieldOf p) := Ev.of (fun k => PSecretJoin.demonref3_IsField.mono p k) (k := 41) (show PSecretJoin.demonref3_IsField.f 41 p = some (fieldOf p) from isField_f p)
theorem inFieldJ_l0 (p least : Int) (l : List Int) : ∀ (k : Nat) (i : Int), PSecretJoin.demonref3_InField.l0 k l p least i = PSecretShare.demonref3_InField.l0 k l p least i
  | 0, _ => rfl
  | k + 1, i => by simp only [PSecretJoin.demonref3_InField.l0, PSecretShare.demonref3_InField.l0, inFieldJ_l0 p least l k]
theorem inFieldJ_ev (l : List Int) (p least : Int) (hl : l.length ≤ 2000000) : Ev (fun k => PSecretJoin.demonref3_InField.f k l p least) (inside l p least) := ⟨l.length + 1, fun k hk => (inFieldJ_l0 p least l k 0).trans (inField_f l p least hl k (by omega))⟩
theorem joinError_some (p : Int) (at_ vs : List Int) (hl : at_.length ≤ 2000000) (hv : vs.length ≤ 2000000) : ∃ k, PSecretJoin.demonref3_JoinError.f k p at_ vs = some (jErr p at_ vs) := by
  refine Ev.rounds (Ev.bind (isFieldJ_ev p) ?_)
  have j1 : ∀ b : Bool, b = (!decide (inside at_ p 1 = true ∧ inside vs p 0 = true ∧ at_.length = vs.length)) → Ev (fun k => PSecretJoin.demonref3_JoinError.j1 k at_ b) (if inside at_ p 1 = true ∧ inside vs p 0 = true ∧ at_.length = vs.length ∧ at_.Nodup then 0 else 3) := fun b hb => by
    by_cases h : inside at_ p 1 = true ∧ inside vs p 0 = true ∧ at_.length = vs.length
    · rw [decide_eq_true h] at hb
      subst hb
      have h0 := joinError_l0 at_ hl at_.length 0 (by omega) (by simp)
      have e : (inside at_ p 1 = true ∧ inside vs p 0 = true ∧ at_.length = vs.length ∧ at_.Nodup) = at_.Nodup := propext ⟨fun g => g.2.2.2, fun g => ⟨h.1, h.2.1, h.2.2, g⟩⟩
      simp only [e]
      refine Ev.step (fun k => ?_) h0
      rw [PSecretJoin.demonref3_JoinError.j1, if_neg (by decide)]
      rfl
    · rw [decide_eq_false h] at hb
      subst hb
      rw [if_neg (fun g => h ⟨g.1, g.2.1, g.2.2.1⟩)]
      refine Ev.step (f := fun _ => some 3) (fun k => ?_) (Ev.now _)
      rw [PSecretJoin.demonref3_JoinError.j1, if_pos (by decide)]
  cases hf : fieldOf p
  · have e : jErr p at_ vs = 8 := by unfold jErr; rw [if_pos hf]
    rw [e]
    exact Ev.congr (fun k => by rw [if_neg (by decide)]) (Ev.now _)
  · have e : jErr p at_ vs = if at_.length = 0 ∨ 12 < at_.length then 2 else if inside at_ p 1 = true ∧ inside vs p 0 = true ∧ at_.length = vs.length ∧ at_.Nodup then 0 else 3 := by unfold jErr; rw [if_neg (by rw [hf]; decide)]
    rw [e]
    have two : ∀ b : Bool, b = true → Ev (fun k => PSecretJoin.demonref3_JoinError.j0 k p at_ vs b) 2 := fun b hb => Ev.step (f := fun _ => some 2) (fun k => by rw [PSecretJoin.demonref3_JoinError.j0, if_pos hb]) (Ev.now _)
    by_cases c1 : (at_.length : Int) = 0
    · rw [if_pos (by omega)]
      exact Ev.congr (fun k => by rw [if_pos rfl, if_pos c1]) (two true rfl)
    · by_cases c2 : (at_.length : Int) > 12
      · rw [if_pos (by omega)]
        exact Ev.congr (fun k => by rw [if_pos rfl, if_neg c1]) (two _ (decide_eq_true c2))
      · rw [if_neg (by omega)]
        refine Ev.congr (f := fun k => PSecretJoin.demonref3_JoinError.j0 k p at_ vs (decide ((at_.length : Int) > 12))) (fun k => by rw [if_pos rfl, if_neg c1]) ?_
        refine Ev.step (fun k => by rw [PSecretJoin.demonref3_JoinError.j0, if_neg (by simp; omega)]) (Ev.bind (inFieldJ_ev at_ p 1 hl) (Ev.bind (inFieldJ_ev vs p 0 hv) ?_))
        by_cases h1 : inside at_ p 1 = true
        · by_cases h2 : inside vs p 0 = true
          · refine Ev.congr (fun k => by rw [if_pos h1, if_pos h2]) (j1 _ ?_)
            simp only [h1, h2, true_and]
            by_cases h3 : at_.length = vs.length
            · rw [h3]; simp
            · simp [h3]
              omega
          · refine Ev.congr (fun k => by rw [if_pos h1, if_neg h2]) (j1 true ?_)
            simp [h2]
        · refine Ev.congr (fun k => by rw [if_neg h1]) (j1 true ?_)
          simp [h1]
end Go.Proofs.YtieeefgkdfijdaaDoor

/- What the printed functions on tables answer: one list of all, the same lists, copies, a table's error. No condition. -/
namespace Go.Proofs.YtieeefgkdfijdaaDoor
open Go Go.RowKit Go.Proofs.YtieeefgkdfijdaaDoorW.PrintWords

theorem rdL_nat (l : List (List Int)) (i : Nat) : PSecretTable.rd_L1 l (i : Int) = l.getD i [] := rfl
theorem row_le (l : List (List Int)) (i : Nat) : (l.getD i []).length ≤ l.flatten.length := by
  rcases Nat.lt_or_ge i l.length with h | h
  · rw [getD_eq l i _ h]
    have : l[i] ∈ l := List.getElem_mem h
    exact List.Sublist.length_le (List.sublist_flatten_of_mem this)
  · rw [List.getD_eq_getElem?_getD, List.getElem?_eq_none h]
    simp
theorem takeL_at (l : List (List Int)) (i : Nat) (h : i < l.length) : l.take (i + 1) = l.take i ++ [l.getD i []] := by
  rw [List.take_succ_eq_append_getElem h, getD_eq l i [] h]
theorem flat_take (l : List (List Int)) (i : Nat) (h : i < l.length) : (l.take (i + 1)).flatten = (l.take i).flatten ++ l.getD i [] := by
  rw [takeL_at l i h, List.flatten_append]
  simp
theorem flat_take_le (l : List (List Int)) (i : Nat) : (l.take i).flatten.length ≤ l.flatten.length := by
  have : l.flatten = (l.take i).flatten ++ (l.drop i).flatten := by rw [← List.flatten_append, List.take_append_drop]
  rw [this, List.length_append]
  omega
theorem flat_l0 (l : List (List Int)) (hl : l.length ≤ 2000000) (hf : l.flatten.length ≤ 2000000) : ∀ (d i k : Nat), i + d = l.length → d < k → PSecretTable.demonref1_Flat.l0 k l (l.take i).flatten (i : Int) = some l.flatten := by
  intro d
  induction d with
  | zero =>
    intro i k hi hk
    obtain ⟨k, rfl⟩ : ∃ m, k = m + 1 := ⟨k - 1, by omega⟩
    obtain rfl : i = l.length := by omega
    simp only [PSecretTable.demonref1_Flat.l0]
    rw [if_neg (by omega), List.take_length]
  | succ d ih =>
    intro i k hi hk
    obtain ⟨k, rfl⟩ : ∃ m, k = m + 1 := ⟨k - 1, by omega⟩
    have hil : i < l.length := by omega
    have h1 := flat_take_le l i
    have h2 := row_le l i
    simp only [PSecretTable.demonref1_Flat.l0]
    rw [if_pos (by omega), if_pos (by omega), rdL_nat, if_pos (by omega), wrap_up i (by omega), ← flat_take l i hil]
    exact ih (i + 1) k (by omega) (by omega)
theorem flat_f (l : List (List Int)) (hl : l.length ≤ 2000000) (hf : l.flatten.length ≤ 2000000) (k : Nat) (hk : l.length < k) : PSecretTable.demonref1_Flat.f k l = some l.flatten :=
  flat_l0 l hl hf l.length 0 k (by omega) hk
theorem all_l0 (l : List (List Int)) (hl : l.length ≤ 2000000) (hf : l.flatten.length ≤ 2000000) : ∀ (d i k : Nat), i + d = l.length → d < k → PSecretTable.dist_all.l0 k (l.take i).flatten l (l.length : Int) (i : Int) = some l.flatten := by
  intro d
  induction d with
  | zero =>
    intro i k hi hk
    obtain ⟨k, rfl⟩ : ∃ m, k = m + 1 := ⟨k - 1, by omega⟩
    obtain rfl : i = l.length := by omega
    simp only [PSecretTable.dist_all.l0]
    rw [if_neg (by omega), List.take_length]
  | succ d ih =>
    intro i k hi hk
    obtain ⟨k, rfl⟩ : ∃ m, k = m + 1 := ⟨k - 1, by omega⟩
    have hil : i < l.length := by omega
    have h1 := flat_take_le l i
    have h2 := row_le l i
    simp only [PSecretTable.dist_all.l0]
    rw [if_pos (by omega), if_pos (by omega), if_pos (by omega), rdL_nat, if_pos (by omega), wrap_up i (by omega), ← flat_take l i hil]
    exact ih (i + 1) k (by omega) (by omega)
theorem all_f (l : List (List Int)) (hl : l.length ≤ 2000000) (hf : l.flatten.length ≤ 2000000) : PSecretTable.dist_all.f (l.length + 1) l = some l.flatten :=
  all_l0 l hl hf l.length 0 _ (by omega) (by omega)
/-- is a table of few rows and few numbers? -/
def fewOf (l : List (List Int)) : Bool := decide (l.length ≤ 40) && decide (l.flatten.length ≤ 400)
theorem few_f (l : List (List Int)) (hl : l.length ≤ 2000000) (hf : l.flatten.length ≤ 2000000) (k : Nat) (hk : l.length < k) : PSecretTable.demonlaw3_few.f k l = some (fewOf l) := by
  unfold PSecretTable.demonlaw3_few.f fewOf
  by_cases h : l.length ≤ 40
  · rw [if_pos (by omega), flat_f l hl hf k hk]
    have e : decide ((l.flatten.length : Int) ≤ 400) = decide (l.flatten.length ≤ 400) := by
      by_cases h2 : l.flatten.length ≤ 400
      · rw [decide_eq_true h2, decide_eq_true (by omega)]
      · rw [decide_eq_false h2, decide_eq_false (by omega)]
    show some (decide ((l.flatten.length : Int) ≤ 400)) = _
    rw [e, decide_eq_true h, Bool.true_and]
  · rw [if_neg (by omega), decide_eq_false h, Bool.false_and]
def fewKeysOf (K : List Int) (L : List (List Int)) : Bool := decide (K.length ≤ 100) && fewOf L
theorem fewKeys_f (K : List Int) (L : List (List Int)) (hl : L.length ≤ 2000000) (hf : L.flatten.length ≤ 2000000) : PSecretTable.demonlaw3_fewKeys.f (L.length + 1) K L = some (fewKeysOf K L) := by
  unfold PSecretTable.demonlaw3_fewKeys.f fewKeysOf
  by_cases h : K.length ≤ 100
  · rw [if_pos (by omega), few_f L hl hf _ (by omega), decide_eq_true h, Bool.true_and]
    rfl
  · rw [if_neg (by omega), decide_eq_false h, Bool.false_and]
theorem ints_f (l : List Int) (hl : l.length ≤ 2000000) : PSecretTable.demonlaw3_ints.f l = some l := by
  unfold PSecretTable.demonlaw3_ints.f
  rw [if_pos (by simp; omega)]
  rfl
theorem lists_l0 (l : List (List Int)) (hl : l.length ≤ 2000000) (hf : l.flatten.length ≤ 2000000) : ∀ (d i k : Nat), i + d = l.length → d < k → PSecretTable.demonlaw3_lists.l0 k l (l.take i) (i : Int) = some l := by
  intro d
  induction d with
  | zero =>
    intro i k hi hk
    obtain ⟨k, rfl⟩ : ∃ m, k = m + 1 := ⟨k - 1, by omega⟩
    obtain rfl : i = l.length := by omega
    simp only [PSecretTable.demonlaw3_lists.l0]
    rw [if_neg (by omega), List.take_length]
  | succ d ih =>
    intro i k hi hk
    obtain ⟨k, rfl⟩ : ∃ m, k = m + 1 := ⟨k - 1, by omega⟩
    have hil : i < l.length := by omega
    have h2 := row_le l i
    have h3 : (l.take i).length ≤ i := by simp; omega
    simp only [PSecretTable.demonlaw3_lists.l0]
    rw [if_pos (by omega), if_pos (by omega), rdL_nat, ints_f _ (by omega), Option.bind_some, if_pos (by omega), wrap_up i (by omega), ← takeL_at l i hil]
    exact ih (i + 1) k (by omega) (by omega)
theorem lists_f (l : List (List Int)) (hl : l.length ≤ 2000000) (hf : l.flatten.length ≤ 2000000) (k : Nat) (hk : l.length < k) : PSecretTable.demonlaw3_lists.f k l = some l :=
  lists_l0 l hl hf l.length 0 k (by omega) hk
theorem cipher_f (K : List Int) (L : List (List Int)) (hK : K.length ≤ 2000000) (hl : L.length ≤ 2000000) (hf : L.flatten.length ≤ 2000000) : PSecretTable.demonlaw3_cipher.f (L.length + 1) K L = some (K, L) := by
  unfold PSecretTable.demonlaw3_cipher.f
  rw [ints_f K hK, Option.bind_some, lists_f L hl hf _ (by omega), Option.bind_some]
theorem same_step (a b : List Int) (h : a.length = b.length) (i : Nat) (hi : i < a.length) (hp : a.take i = b.take i) : (a.getD i 0 = b.getD i 0 → a.take (i + 1) = b.take (i + 1)) ∧ (a.getD i 0 ≠ b.getD i 0 → a ≠ b) :=
  ⟨fun e => by rw [take_at a i hi, take_at b i (by omega), hp, e], fun e h2 => e (by rw [h2])⟩
theorem equal_l0 (a b : List Int) (hab : a.length = b.length) (hl : a.length ≤ 2000000) : ∀ (d i k : Nat), i + d = a.length → d < k → a.take i = b.take i → PSecretTable.slices_Equal_int_int.l0 k a b (a.length : Int) (i : Int) = some (decide (a = b)) := by
  intro d
  induction d with
  | zero =>
    intro i k hi hk hp
    obtain ⟨k, rfl⟩ : ∃ m, k = m + 1 := ⟨k - 1, by omega⟩
    obtain rfl : i = a.length := by omega
    simp only [PSecretTable.slices_Equal_int_int.l0]
    rw [List.take_length, hab, List.take_length] at hp
    rw [if_neg (by omega), decide_eq_true hp]
  | succ d ih =>
    intro i k hi hk hp
    obtain ⟨k, rfl⟩ : ∃ m, k = m + 1 := ⟨k - 1, by omega⟩
    have hil : i < a.length := by omega
    obtain ⟨s1, s2⟩ := same_step a b hab i hil hp
    simp only [PSecretTable.slices_Equal_int_int.l0]
    rw [if_pos (by omega), if_pos (by omega), if_pos (by omega), if_pos (by omega), rd_nat, rd_nat, wrap_up i (by omega)]
    by_cases e : a.getD i 0 = b.getD i 0
    · rw [if_pos e]; exact ih (i + 1) k (by omega) (by omega) (s1 e)
    · rw [if_neg e, decide_eq_false (s2 e)]
theorem equal_f (a b : List Int) (hl : a.length ≤ 2000000) : PSecretTable.slices_Equal_int_int.f (a.length + 1) a b = some (decide (a = b)) := by
  unfold PSecretTable.slices_Equal_int_int.f
  by_cases h : a.length = b.length
  · rw [if_pos (by omega)]; exact equal_l0 a b h hl a.length 0 _ (by omega) (by omega) (by simp)
  · rw [if_neg (by omega), decide_eq_false (fun e => h (by rw [e]))]
theorem sameInts_l0 (a b : List Int) (hab : a.length = b.length) (hl : a.length ≤ 2000000) : ∀ (d i k : Nat), i + d = a.length → d < k → a.take i = b.take i → PSecretTable.demonref1_SameInts.l0 k a b (i : Int) = some (decide (a = b)) := by
  intro d
  induction d with
  | zero =>
    intro i k hi hk hp
    obtain ⟨k, rfl⟩ : ∃ m, k = m + 1 := ⟨k - 1, by omega⟩
    obtain rfl : i = a.length := by omega
    simp only [PSecretTable.demonref1_SameInts.l0]
    rw [List.take_length, hab, List.take_length] at hp
    rw [if_neg (by omega), decide_eq_true hp]
  | succ d ih =>
    intro i k hi hk hp
    obtain ⟨k, rfl⟩ : ∃ m, k = m + 1 := ⟨k - 1, by omega⟩
    have hil : i < a.length := by omega
    obtain ⟨s1, s2⟩ := same_step a b hab i hil hp
    simp only [PSecretTable.demonref1_SameInts.l0]
    rw [if_pos (by omega), if_pos (by omega), if_pos (by omega), rd_nat, rd_nat, wrap_up i (by omega)]
    by_cases e : a.getD i 0 = b.getD i 0
    · rw [if_pos e]; exact ih (i + 1) k (by omega) (by omega) (s1 e)
    · rw [if_neg e, decide_eq_false (s2 e)]
theorem sameInts_f (a b : List Int) (hl : a.length ≤ 2000000) (k : Nat) (hk : a.length < k) : PSecretTable.demonref1_SameInts.f k a b = some (decide (a = b)) := by
  unfold PSecretTable.demonref1_SameInts.f
  by_cases h : a.length = b.length
  · rw [if_pos (by omega)]; exact sameInts_l0 a b h hl a.length 0 _ (by omega) hk (by simp)
  · rw [if_neg (by omega), decide_eq_false (fun e => h (by rw [e]))]
theorem sameLists_l0 (a b : List (List Int)) (hab : a.length = b.length) (hl : a.length ≤ 2000000) (hf : a.flatten.length ≤ 2000000) : ∀ (d i k : Nat), i + d = a.length → d + a.flatten.length < k → a.take i = b.take i → PSecretTable.demonref1_SameLists.l0 k a b (i : Int) = some (decide (a = b)) := by
  intro d
  induction d with
  | zero =>
    intro i k hi hk hp
    obtain ⟨k, rfl⟩ : ∃ m, k = m + 1 := ⟨k - 1, by omega⟩
    obtain rfl : i = a.length := by omega
    simp only [PSecretTable.demonref1_SameLists.l0]
    rw [List.take_length, hab, List.take_length] at hp
    rw [if_neg (by omega), decide_eq_true hp]
  | succ d ih =>
    intro i k hi hk hp
    obtain ⟨k, rfl⟩ : ∃ m, k = m + 1 := ⟨k - 1, by omega⟩
    have hil : i < a.length := by omega
    have h2 := row_le a i
    simp only [PSecretTable.demonref1_SameLists.l0]
    rw [if_pos (by omega), if_pos (by omega), if_pos (by omega), rdL_nat, rdL_nat, sameInts_f _ _ (by omega) k (by omega), Option.bind_some, wrap_up i (by omega)]
    by_cases e : a.getD i [] = b.getD i []
    · rw [decide_eq_true e, if_pos rfl]
      exact ih (i + 1) k (by omega) (by omega) (by rw [takeL_at a i hil, takeL_at b i (by omega), hp, e])
    · rw [decide_eq_false e, decide_eq_false (fun h3 => e (by rw [h3]))]
      rfl
theorem sameLists_f (a b : List (List Int)) (hl : a.length ≤ 2000000) (hf : a.flatten.length ≤ 2000000) : PSecretTable.demonref1_SameLists.f (a.length + a.flatten.length + 1) a b = some (decide (a = b)) := by
  unfold PSecretTable.demonref1_SameLists.f
  by_cases h : a.length = b.length
  · rw [if_pos (by omega)]; exact sameLists_l0 a b h hl hf a.length 0 _ (by omega) (by omega) (by simp)
  · rw [if_neg (by omega), decide_eq_false (fun e => h (by rw [e]))]
end Go.Proofs.YtieeefgkdfijdaaDoor

/- A table's error; a right cipher, its signs: what the printed functions answer. No condition. -/
namespace Go.Proofs.YtieeefgkdfijdaaDoor
open Go Go.RowKit Go.Proofs.YtieeefgkdfijdaaDoorW.PrintWords

def tErr (t : List (List Int)) : Int := if 16 < t.length then 2 else if t.any (fun r => decide (16 < r.length)) then 2 else if t.any (fun r => decide (r.length ≠ (t.getD 0 []).length)) then 3 else wcode 4096 t.flatten
theorem anyL_take (p : List Int → Bool) (l : List (List Int)) (i : Nat) (h : i < l.length) : (l.take (i + 1)).any p = ((l.take i).any p || p (l.getD i [])) := by
  rw [takeL_at l i h, List.any_append]
  simp
theorem tableError_l0 (t : List (List Int)) (hf : t.flatten.length ≤ 2000000) (h16 : t.length ≤ 16) : ∀ (d i k : Nat) (u : Bool), i + d = t.length → d + t.length + t.flatten.length + 2 < k → (t.take i).any (fun r => decide (16 < r.length)) = false →
    u = (t.take i).any (fun r => decide (r.length ≠ (t.getD 0 []).length)) → PSecretTable.demonref1_TableError.l0 k t u (i : Int) = some (tErr t) := by
  intro d
  induction d with
  | zero =>
    intro i k u hi hk hb hu
    obtain ⟨k, rfl⟩ : ∃ m, k = m + 1 := ⟨k - 1, by omega⟩
    obtain rfl : i = t.length := by omega
    rw [List.take_length] at hb hu
    simp only [PSecretTable.demonref1_TableError.l0]
    rw [if_neg (by omega)]
    have he : tErr t = if u = true then 3 else wcode 4096 t.flatten := by
      unfold tErr
      rw [if_neg (by omega), hb, if_neg (by simp), ← hu]
    rw [he]
    cases u
    · simp only [Bool.false_eq_true, if_false]
      have hl := listError_f t.flatten 4096 (by decide) (by decide) hf
      have hm : ∀ j, ∃ r, PSecretTable.demonref1_listError.f (t.flatten.length + 1 + j) t.flatten 4096 = some r ∧ r = wcode 4096 t.flatten := fun j => by
        induction j with
        | zero => exact ⟨_, hl, rfl⟩
        | succ j ih =>
          obtain ⟨r, hr, e⟩ := ih
          exact ⟨r, PSecretTable.demonref1_listError.mono t.flatten 4096 (t.flatten.length + 1 + j) r hr, e⟩
      rw [flat_f t (by omega) hf k (by omega), Option.bind_some]
      obtain ⟨r, hr, e⟩ := hm (k - (t.flatten.length + 1))
      rw [show t.flatten.length + 1 + (k - (t.flatten.length + 1)) = k by omega] at hr
      rw [hr, Option.bind_some, e]
    · simp
  | succ d ih =>
    intro i k u hi hk hb hu
    obtain ⟨k, rfl⟩ : ∃ m, k = m + 1 := ⟨k - 1, by omega⟩
    have hil : i < t.length := by omega
    simp only [PSecretTable.demonref1_TableError.l0]
    rw [if_pos (by omega), if_pos (by omega), rdL_nat, wrap_up i (by omega)]
    by_cases hx : 16 < (t.getD i []).length
    · rw [if_pos (by omega)]
      unfold tErr
      rw [if_neg (by omega), if_pos]
      rw [List.any_eq_true]
      rw [getD_eq t i [] hil] at hx
      exact ⟨t[i], List.getElem_mem hil, decide_eq_true hx⟩
    · rw [if_neg (by omega)]
      have hb' : (t.take (i + 1)).any (fun r => decide (16 < r.length)) = false := by rw [anyL_take _ t i hil, hb, decide_eq_false hx]; rfl
      have hu' := anyL_take (fun r => decide (r.length ≠ (t.getD 0 []).length)) t i hil
      rw [← hu] at hu'
      cases u
      · simp only [Bool.false_eq_true, if_false]
        rw [if_pos (by omega)]
        refine ih (i + 1) k _ (by omega) (by omega) hb' ?_
        rw [hu', Bool.false_or]
        show (((t.getD i []).length : Int) != ((t.getD 0 []).length : Int)) = decide ((t.getD i []).length ≠ (t.getD 0 []).length)
        by_cases e : (t.getD i []).length = (t.getD 0 []).length
        · rw [e]; simp
        · rw [decide_eq_true e, bne_iff_ne]; omega
      · simp only [if_true]
        refine ih (i + 1) k _ (by omega) (by omega) hb' ?_
        rw [hu', Bool.true_or]
theorem tableError_f (t : List (List Int)) (hf : t.flatten.length ≤ 2000000) : ∃ k, PSecretTable.demonref1_TableError.f k t = some (tErr t) := by
  refine ⟨t.length + t.length + t.flatten.length + 3, ?_⟩
  unfold PSecretTable.demonref1_TableError.f
  by_cases h : 16 < t.length
  · rw [if_pos (by omega)]
    unfold tErr
    rw [if_pos h]
  · rw [if_neg (by omega)]
    exact tableError_l0 t hf (by omega) t.length 0 _ false (by omega) (by omega) (by simp) (by simp)

/-- a right row of a cipher -/
structure GoodRow (n : Nat) (r : List Int) : Prop where
  pos : 0 < r.length
  most : r.length ≤ 16
  len : r.length = n
  sign : ∀ k, k < r.length → 0 ≤ r.getD k 0 ∧ r.getD k 0 ≤ 15
  once : ∀ k, k < r.length → (r.take k).contains (r.getD k 0) = false
/-- a right cipher -/
structure GoodCipher (K : List Int) (L : List (List Int)) : Prop where
  keys : wErr K = 0
  len : L.length = K.length
  row : ∀ i, i < L.length → GoodRow (L.getD 0 []).length (L.getD i [])
theorem keys_good {K : List Int} (h : wErr K = 0) : K.length ≤ 16 ∧ anyNeg K = false ∧ K.sum ≤ 4096 ∧ 0 < K.length := by
  unfold wErr at h
  by_cases c : 16 < K.length
  · rw [if_pos c] at h; cases h
  · rw [if_neg c] at h
    unfold wcode at h
    cases hn : anyNeg K
    · rw [hn, if_neg (by simp)] at h
      cases hp : anyPos K
      · rw [hp, if_neg (by simp)] at h; cases h
      · rw [hp, if_pos rfl] at h
        refine ⟨by omega, rfl, ?_, ?_⟩
        · by_cases hs : 4096 < K.sum
          · rw [if_pos hs] at h; cases h
          · omega
        · cases K with
          | nil => simp [anyPos] at hp
          | cons x r => simp
    · rw [hn, if_pos rfl] at h; cases h
theorem key_nonneg {K : List Int} (h : anyNeg K = false) (i : Nat) : 0 ≤ K.getD i 0 := by
  rcases Nat.lt_or_ge i K.length with hi | hi
  · rw [getD_eq K i 0 hi]
    unfold anyNeg at h
    have h1 := List.any_eq_false.1 h K[i] (List.getElem_mem hi)
    simpa using h1
  · rw [List.getD_eq_getElem?_getD, List.getElem?_eq_none hi]
    exact Int.le_refl 0
/-- how much weight of the first n keys goes from message m to sign s -/
def sgn (K : List Int) (L : List (List Int)) (m : Nat) (s : Int) : Nat → Int
  | 0 => 0
  | n + 1 => sgn K L m s n + if (L.getD n []).getD m 0 = s then K.getD n 0 else 0
theorem sgn_bound (K : List Int) (L : List (List Int)) (m : Nat) (s : Int) (h : anyNeg K = false) : ∀ n, n ≤ K.length → 0 ≤ sgn K L m s n ∧ sgn K L m s n ≤ (K.take n).sum := by
  intro n
  induction n with
  | zero => intro _; simp [sgn]
  | succ n ih =>
    intro hn
    have h1 := ih (by omega)
    have h2 := key_nonneg h n
    have h3 := sum_take K n (by omega)
    simp only [sgn]
    split <;> omega
theorem take_sum_le (K : List Int) (h : anyNeg K = false) (n : Nat) : (K.take n).sum ≤ K.sum := by
  have e : K = K.take n ++ K.drop n := (List.take_append_drop n K).symm
  have hd : anyNeg (K.drop n) = false := by
    unfold anyNeg at h ⊢
    rw [e, List.any_append, Bool.or_eq_false_iff] at h
    exact h.2
  have h2 := sum_nonneg _ hd
  have h3 : K.sum = (K.take n).sum + (K.drop n).sum := by rw [← List.sum_append, List.take_append_drop]
  omega
theorem sgn_le {K : List Int} {L : List (List Int)} (h : GoodCipher K L) (m : Nat) (s : Int) (n : Nat) (hn : n ≤ K.length) : 0 ≤ sgn K L m s n ∧ sgn K L m s n ≤ 4096 := by
  obtain ⟨_, h1, h2, _⟩ := keys_good h.keys
  have h3 := sgn_bound K L m s h1 n hn
  have h4 := take_sum_le K h1 n
  omega
/-- the greatest sign -/
def topOf (l : List Int) (t : Int) : Int := l.foldl (fun a b => if b > a then b else a) t
theorem topOf_append (l m : List Int) (t : Int) : topOf (l ++ m) t = topOf m (topOf l t) := by simp [topOf, List.foldl_append]
theorem topOf_take (l : List Int) (i : Nat) (h : i < l.length) (t : Int) : topOf (l.take (i + 1)) t = if l.getD i 0 > topOf (l.take i) t then l.getD i 0 else topOf (l.take i) t := by
  rw [take_at l i h, topOf_append]
  rfl
def signRow (K : List Int) (L : List (List Int)) (m n : Nat) : List Int := (List.range n).map fun s => sgn K L m (s : Nat) L.length
def signTab (K : List Int) (L : List (List Int)) (n : Nat) : List (List Int) := (List.range n).map fun m => signRow K L m (topOf L.flatten 0 + 1).toNat
/-- of each message the weight of keys for each sign -/
def signsOf (K : List Int) (L : List (List Int)) : List (List Int) := signTab K L (L.getD 0 []).length
theorem signRow_succ (K : List Int) (L : List (List Int)) (m n : Nat) : signRow K L m (n + 1) = signRow K L m n ++ [sgn K L m (n : Nat) L.length] := by simp [signRow, List.range_succ]
theorem signTab_succ (K : List Int) (L : List (List Int)) (n : Nat) : signTab K L (n + 1) = signTab K L n ++ [signRow K L n (topOf L.flatten 0 + 1).toNat] := by simp [signTab, List.range_succ]
theorem signRow_len (K : List Int) (L : List (List Int)) (m n : Nat) : (signRow K L m n).length = n := by simp [signRow]
theorem signTab_len (K : List Int) (L : List (List Int)) (n : Nat) : (signTab K L n).length = n := by simp [signTab]
theorem topOf_range (l : List Int) (t : Int) (ht : 0 ≤ t ∧ t ≤ 15) (h : ∀ x, x ∈ l → x ≤ 15) : 0 ≤ topOf l t ∧ topOf l t ≤ 15 := by
  induction l generalizing t with
  | nil => exact ht
  | cons x r ih =>
    have hx := h x (by simp)
    show 0 ≤ topOf r (if x > t then x else t) ∧ _
    refine ih _ ?_ (fun y hy => h y (by simp [hy]))
    split <;> omega
theorem GoodCipher.top {K : List Int} {L : List (List Int)} (h : GoodCipher K L) : 0 ≤ topOf L.flatten 0 ∧ topOf L.flatten 0 ≤ 15 := by
  refine topOf_range _ _ (by omega) fun x hx => ?_
  obtain ⟨r, hr, hxr⟩ := List.mem_flatten.1 hx
  obtain ⟨i, hi, rfl⟩ := List.getElem_of_mem hr
  obtain ⟨k, hk, rfl⟩ := List.getElem_of_mem hxr
  have := (h.row i hi).sign k (by rw [getD_eq L i [] hi]; exact hk)
  rw [getD_eq L i [] hi, getD_eq _ k 0 hk] at this
  exact this.2
section
variable {K : List Int} {L : List (List Int)} (hg : GoodCipher K L)
include hg
theorem signs_l4 (T : Int) (acc : List (List Int)) (m : Nat) (cells : List Int) (s : Nat) (R : List (List Int)) (hm : m < (L.getD 0 []).length) (hs : s ≤ 2000000) (hc : cells.length ≤ 2000000)
    (next : ∃ k, PSecretTable.demonref3_SignsOf.l3 k T acc (m : Int) (cells ++ [sgn K L m (s : Nat) L.length]) ((s + 1 : Nat) : Int) K L = some R) :
    ∀ d i, i + d = L.length → ∃ k, PSecretTable.demonref3_SignsOf.l4 k T acc (m : Int) cells (s : Int) (sgn K L m (s : Nat) i) (i : Int) K L = some R := by
  obtain ⟨hK16, _, _, _⟩ := keys_good hg.keys
  have hlen := hg.len
  intro d
  induction d with
  | zero =>
    intro i hi
    obtain ⟨k, hk⟩ := next
    refine ⟨k + 1, ?_⟩
    obtain rfl : i = L.length := by omega
    simp only [PSecretTable.demonref3_SignsOf.l4]
    rw [if_neg (by omega), if_pos (by omega), wrap_up s hs]
    exact hk
  | succ d ih =>
    intro i hi
    obtain ⟨k, hk⟩ := ih (i + 1) (by omega)
    refine ⟨k + 1, ?_⟩
    have hil : i < L.length := by omega
    have hr := (hg.row i hil).len
    have hb := sgn_le hg m (s : Nat) (i + 1) (by omega)
    simp only [PSecretTable.demonref3_SignsOf.l4]
    rw [if_pos (by omega), if_pos (by omega), if_pos (by omega), rdL_nat, if_pos (by omega), rd_nat, wrap_up i (by omega)]
    simp only [sgn] at hk hb
    by_cases e : (L.getD i []).getD m 0 = (s : Int)
    · rw [if_pos e, if_pos (by omega), rd_nat]
      rw [if_pos e] at hk hb
      have hw : wrap64 (sgn K L m (s : Nat) i + K.getD i 0) = sgn K L m (s : Nat) i + K.getD i 0 := by unfold wrap64; omega
      rw [hw]
      exact hk
    · rw [if_neg e]
      rw [if_neg e, Int.add_zero] at hk
      exact hk
theorem signs_l3 (acc : List (List Int)) (m : Nat) (R : List (List Int)) (hm : m < (L.getD 0 []).length) (hacc : acc.length ≤ 2000000) (N : Nat) (hN : (N : Int) = topOf L.flatten 0 + 1)
    (next : ∃ k, PSecretTable.demonref3_SignsOf.l2 k (topOf L.flatten 0) (acc ++ [signRow K L m N]) ((m + 1 : Nat) : Int) K L = some R) :
    ∀ d s, s + d = N → ∃ k, PSecretTable.demonref3_SignsOf.l3 k (topOf L.flatten 0) acc (m : Int) (signRow K L m s) (s : Int) K L = some R := by
  have ht := hg.top
  have hm16 := (hg.row 0 (by have := (keys_good hg.keys).2.2.2; have := hg.len; omega)).most
  intro d
  induction d with
  | zero =>
    intro s hs
    obtain ⟨k, hk⟩ := next
    refine ⟨k + 1, ?_⟩
    obtain rfl : s = N := by omega
    simp only [PSecretTable.demonref3_SignsOf.l3]
    rw [if_neg (by omega), if_pos (by omega), wrap_up m (by omega)]
    exact hk
  | succ d ih =>
    intro s hs
    obtain ⟨k, hk⟩ := signs_l4 hg (topOf L.flatten 0) acc m (signRow K L m s) s R hm (by omega) (by rw [signRow_len]; omega) (by
      have := ih (s + 1) (by omega)
      rw [signRow_succ] at this
      exact this) L.length 0 (by omega)
    refine ⟨k + 1, ?_⟩
    simp only [PSecretTable.demonref3_SignsOf.l3]
    rw [if_pos (by omega)]
    exact hk
theorem signs_l2 : ∀ d m, m + d = (L.getD 0 []).length → ∃ k, PSecretTable.demonref3_SignsOf.l2 k (topOf L.flatten 0) (signTab K L m) (m : Int) K L = some (signsOf K L) := by
  have ht := hg.top
  have hL := (keys_good hg.keys).2.2.2
  have hlen := hg.len
  have hm16 := (hg.row 0 (by omega)).most
  intro d
  induction d with
  | zero =>
    intro m hm
    refine ⟨1, ?_⟩
    simp only [PSecretTable.demonref3_SignsOf.l2]
    rw [if_pos (by omega), if_neg (by rw [show (0 : Int) = ((0 : Nat) : Int) from rfl, rdL_nat]; omega)]
    unfold signsOf
    rw [show m = (L.getD 0 []).length by omega]
  | succ d ih =>
    intro m hm
    obtain ⟨k, hk⟩ := signs_l3 hg (signTab K L m) m (signsOf K L) (by omega) (by rw [signTab_len]; omega) (topOf L.flatten 0 + 1).toNat (by omega) (by
      have := ih (m + 1) (by omega)
      rw [signTab_succ] at this
      exact this) (topOf L.flatten 0 + 1).toNat 0 (by omega)
    refine ⟨k + 1, ?_⟩
    simp only [PSecretTable.demonref3_SignsOf.l2]
    rw [if_pos (by omega), if_pos (by rw [show (0 : Int) = ((0 : Nat) : Int) from rfl, rdL_nat]; omega)]
    exact hk
theorem signs_l1 (i : Nat) (hi : i < L.length) (t : Int) (next : ∃ k, PSecretTable.demonref3_SignsOf.l0 k (topOf (L.getD i []) t) ((i + 1 : Nat) : Int) K L = some (signsOf K L)) :
    ∀ d j, j + d = (L.getD i []).length → ∃ k, PSecretTable.demonref3_SignsOf.l1 k (topOf ((L.getD i []).take j) t) (i : Int) (j : Int) K L = some (signsOf K L) := by
  have hm16 := (hg.row i hi).most
  have hK16 := (keys_good hg.keys).1
  have hlen := hg.len
  intro d
  induction d with
  | zero =>
    intro j hj
    obtain ⟨k, hk⟩ := next
    refine ⟨k + 1, ?_⟩
    obtain rfl : j = (L.getD i []).length := by omega
    simp only [PSecretTable.demonref3_SignsOf.l1]
    rw [if_pos (by omega), if_pos (by omega), rdL_nat, if_neg (by omega), List.take_length, wrap_up i (by omega)]
    exact hk
  | succ d ih =>
    intro j hj
    obtain ⟨k, hk⟩ := ih (j + 1) (by omega)
    refine ⟨k + 1, ?_⟩
    simp only [PSecretTable.demonref3_SignsOf.l1]
    rw [if_pos (by omega), if_pos (by omega), rdL_nat, if_pos (by omega), if_pos (by omega), rd_nat, wrap_up j (by omega)]
    rw [topOf_take _ j (by omega)] at hk
    by_cases e : (L.getD i []).getD j 0 > topOf ((L.getD i []).take j) t
    · rw [if_pos e]; rw [if_pos e] at hk; exact hk
    · rw [if_neg e]; rw [if_neg e] at hk; exact hk
theorem signs_l0 : ∀ d i, i + d = L.length → ∃ k, PSecretTable.demonref3_SignsOf.l0 k (topOf (L.take i).flatten 0) (i : Int) K L = some (signsOf K L) := by
  intro d
  induction d with
  | zero =>
    intro i hi
    obtain ⟨k, hk⟩ := signs_l2 hg (L.getD 0 []).length 0 (by omega)
    refine ⟨k + 1, ?_⟩
    simp only [PSecretTable.demonref3_SignsOf.l0]
    obtain rfl : i = L.length := by omega
    rw [if_neg (by omega), List.take_length]
    exact hk
  | succ d ih =>
    intro i hi
    have hil : i < L.length := by omega
    obtain ⟨k, hk⟩ := signs_l1 hg i hil (topOf (L.take i).flatten 0) (by
      have := ih (i + 1) (by omega)
      rw [flat_take L i hil, topOf_append] at this
      exact this) (L.getD i []).length 0 (by omega)
    refine ⟨k + 1, ?_⟩
    simp only [PSecretTable.demonref3_SignsOf.l0]
    rw [if_pos (by omega)]
    exact hk
theorem signs_f : ∃ k, PSecretTable.demonref3_SignsOf.f k K L = some (signsOf K L) := signs_l0 hg L.length 0 (by omega)
end
end Go.Proofs.YtieeefgkdfijdaaDoor
