/- Words, plain laws and walks behind the law ZeroAlone, part 4. No condition. -/
import Derived.Test.YtehheklbibocjaaDoorFlatZeroAlonec
import Derived.Test.YtehheklbibocjaaDoorFlatZeroAlonea
import Derived.LaidEql
import Derived.Stop.Asserts
import Derived.RowKitTokens

/- Products of graphs, plain: a right graph; how many of its vertices stand alone. No condition. -/
namespace Go.Proofs.YtehheklbibocjaaDoor

theorem mem_rowTo {P : Nat → Nat → Bool} {v w : Nat} {e : Int × Int} : e ∈ rowTo P v w ↔ ∃ j : Nat, e = ((v : Int), (j : Int)) ∧ v < j ∧ j < w ∧ P v j = true := by
  unfold rowTo
  rw [List.mem_map]
  constructor
  · rintro ⟨j, hj, rfl⟩
    obtain ⟨h1, h2⟩ := List.mem_filter.1 hj
    obtain ⟨h3, h4⟩ := Bool.and_eq_true_iff.1 h2
    exact ⟨j, rfl, of_decide_eq_true h3, List.mem_range.1 h1, h4⟩
  · rintro ⟨j, rfl, h1, h2, h3⟩
    exact ⟨j, List.mem_filter.2 ⟨List.mem_range.2 h2, by rw [decide_eq_true h1, h3]; rfl⟩, rfl⟩
theorem mem_allTo {P : Nat → Nat → Bool} {N v : Nat} {e : Int × Int} : e ∈ allTo P N v ↔ ∃ i j : Nat, e = ((i : Int), (j : Int)) ∧ i < v ∧ i < j ∧ j < N ∧ P i j = true := by
  unfold allTo
  rw [List.mem_flatMap]
  constructor
  · rintro ⟨i, hi, h⟩
    obtain ⟨j, h1, h2, h3, h4⟩ := mem_rowTo.1 h
    exact ⟨i, j, h1, List.mem_range.1 hi, h2, h3, h4⟩
  · rintro ⟨i, j, h1, h2, h3, h4, h5⟩
    exact ⟨i, List.mem_range.2 h2, mem_rowTo.2 ⟨j, h1, h3, h4, h5⟩⟩
/-- one edge stands ahead of another one -/
def lexE (a b : Int × Int) : Prop := a.1 < b.1 ∨ (a.1 = b.1 ∧ a.2 < b.2)
theorem rowTo_order (P : Nat → Nat → Bool) (v w : Nat) : (rowTo P v w).Pairwise lexE := by
  unfold rowTo
  refine List.Pairwise.map _ (fun a b h => ?_) (List.Pairwise.filter _ List.pairwise_lt_range)
  exact .inr ⟨rfl, by show (a : Int) < (b : Int); omega⟩
theorem allTo_order (P : Nat → Nat → Bool) (N v : Nat) : (allTo P N v).Pairwise lexE := by
  induction v with
  | zero => exact List.Pairwise.nil
  | succ v ih =>
    rw [allTo_succ]
    refine List.pairwise_append.2 ⟨ih, rowTo_order P v N, fun a ha b hb => ?_⟩
    obtain ⟨i, j, rfl, h1, _⟩ := mem_allTo.1 ha
    obtain ⟨q, rfl, _⟩ := mem_rowTo.1 hb
    exact .inl (by show (i : Int) < (v : Int); omega)
theorem allTo_right {P : Nat → Nat → Bool} {N : Nat} (hN : N ≤ 16) : gErr N (allTo P N N) = 0 := by
  refine gErr_good (Int.natCast_nonneg _) (by omega) ⟨fun j hj => ?_⟩
  have he := getD_eq (allTo P N N) j (0, 0) hj
  have hm : (allTo P N N).getD j (0, 0) ∈ allTo P N N := by rw [he]; exact List.getElem_mem hj
  obtain ⟨a, b, hab, h1, h2, h3, _⟩ := mem_allTo.1 hm
  have hlex : 0 < j → lexE ((allTo P N N).getD (j - 1) (0, 0)) ((allTo P N N).getD j (0, 0)) := fun h0 => by
    rw [he, getD_eq _ (j - 1) _ (by omega)]
    exact List.pairwise_iff_getElem.1 (allTo_order P N N) (j - 1) j (by omega) hj (by omega)
  unfold lexE at hlex
  rw [hab] at hlex
  simp only at hlex
  unfold edgeBad
  rw [hab]
  refine decide_eq_false ?_
  simp only
  rintro (c | c | c | ⟨c0, c⟩)
  · omega
  · omega
  · omega
  · have := hlex c0
    omega
theorem allTo_adj {P : Nat → Nat → Bool} {N i j : Nat} (hij : i < j) (hj : j < N) : adjL (allTo P N N) (i : Int) (j : Int) = P i j := by
  rw [Bool.eq_iff_iff]
  unfold adjL
  rw [List.any_eq_true]
  constructor
  · rintro ⟨e, he, h⟩
    obtain ⟨a, b, rfl, h1, h2, h3, h4⟩ := mem_allTo.1 he
    unfold adjAt at h
    rcases Bool.or_eq_true_iff.1 h with h | h
    · obtain ⟨q1, q2⟩ := Bool.and_eq_true_iff.1 h
      have e1 : (a : Int) = (i : Int) := by simpa using q1
      have e2 : (b : Int) = (j : Int) := by simpa using q2
      obtain rfl : a = i := by omega
      obtain rfl : b = j := by omega
      exact h4
    · obtain ⟨q1, q2⟩ := Bool.and_eq_true_iff.1 h
      have e1 : (a : Int) = (j : Int) := by simpa using q1
      have e2 : (b : Int) = (i : Int) := by simpa using q2
      omega
  · intro h
    exact ⟨_, mem_allTo.2 ⟨i, j, rfl, by omega, hij, hj, h⟩, by unfold adjAt; simp⟩
/-- a set alone, by lists of edges -/
theorem ind_adj {n : Nat} {l : List (Int × Int)} (hg : GoodE n l l.length) {t : List Nat} : Ind (nearL n l) n t ↔ (∀ u, u ∈ t → u < n) ∧ t.Pairwise fun (u w : Nat) => u < w ∧ adjL l (u : Int) (w : Int) = false := by
  constructor
  · intro h
    exact ⟨h.mem, h.pair.imp fun h => by rw [near_bit hg] at h; exact h⟩
  · rintro ⟨h1, h2⟩
    exact ⟨h1, h2.imp fun h => by rw [near_bit hg]; exact h⟩
theorem toI_length (t : List Nat) : (toI t).length = t.length := by unfold toI; rw [List.length_map]
theorem First.le {M : List Nat} {n : Nat} {r : List Int} (h : First M n r) {t : List Nat} (ht : Ind M n t) : t.length ≤ r.length := by
  have := h.first t ht
  rw [toI_length] at this
  rcases this with h | h | h
  · omega
  · have := toI_length t
    rw [h] at this
    omega
  · omega

/-- a set alone in the product -/
theorem ind_strong {N : Nat} {l k : List (Int × Int)} {m : Nat} (hN : N ≤ 16) {t : List Nat} : Ind (nearL N (allTo (strongQ l k m) N N)) N t ↔ (∀ u, u ∈ t → u < N) ∧ t.Pairwise fun (u w : Nat) => u < w ∧ strongQ l k m u w = false := by
  rw [ind_adj (gErr_zero (allTo_right hN)).2.2]
  constructor
  · rintro ⟨h1, h2⟩
    refine ⟨h1, List.Pairwise.imp_of_mem (fun {a b} ha hb h => ?_) h2⟩
    rw [allTo_adj h.1 (h1 b hb)] at h
    exact h
  · rintro ⟨h1, h2⟩
    refine ⟨h1, List.Pairwise.imp_of_mem (fun {a b} ha hb h => ?_) h2⟩
    rw [allTo_adj h.1 (h1 b hb)]
    exact h
/-- both, multiplied -/
def both (m : Nat) (t s : List Nat) : List Nat := t.flatMap fun g => s.map fun h => g * m + h
theorem both_length (m : Nat) (t s : List Nat) : (both m t s).length = t.length * s.length := by
  unfold both
  induction t with
  | nil => simp
  | cons g t ih =>
    rw [List.flatMap_cons, List.length_append, ih, List.length_map, List.length_cons, Nat.succ_mul]
    omega
theorem split_at {m g h : Nat} (hh : h < m) : (g * m + h) / m = g ∧ (g * m + h) % m = h := by
  have hm : 0 < m := by omega
  constructor
  · rw [Nat.mul_comm, Nat.mul_add_div hm, Nat.div_eq_of_lt hh, Nat.add_zero]
  · rw [Nat.mul_comm, Nat.mul_add_mod, Nat.mod_eq_of_lt hh]
theorem both_ind {n m : Nat} {l k : List (Int × Int)} (hN : n * m ≤ 16) (hg : GoodE n l l.length) (hk : GoodE m k k.length) {t s : List Nat} (ht : Ind (nearL n l) n t) (hs : Ind (nearL m k) m s) : Ind (nearL (n * m) (allTo (strongQ l k m) (n * m) (n * m))) (n * m) (both m t s) := by
  obtain ⟨t1, t2⟩ := (ind_adj hg).1 ht
  obtain ⟨s1, s2⟩ := (ind_adj hk).1 hs
  rw [ind_strong hN]
  constructor
  · intro u hu
    unfold both at hu
    obtain ⟨g, hg', hu⟩ := List.mem_flatMap.1 hu
    obtain ⟨h, hh, rfl⟩ := List.mem_map.1 hu
    have h1 := t1 g hg'
    have h2 := s1 h hh
    have h3 : (g + 1) * m ≤ n * m := Nat.mul_le_mul_right _ h1
    rw [Nat.succ_mul] at h3
    omega
  · unfold both
    refine List.pairwise_flatMap.2 ⟨fun g hg' => ?_, ?_⟩
    · refine List.pairwise_map.2 (List.Pairwise.imp_of_mem (fun {a b} ha hb h => ?_) s2)
      obtain ⟨p1, p2⟩ := split_at (g := g) (s1 a ha)
      obtain ⟨q1, q2⟩ := split_at (g := g) (s1 b hb)
      refine ⟨by omega, ?_⟩
      unfold strongQ
      rw [p1, p2, q1, q2, h.2, decide_eq_false (show a ≠ b by omega)]
      simp
    · refine List.Pairwise.imp_of_mem (fun {a b} ha hb h => ?_) t2
      intro x hx y hy
      obtain ⟨i, hi, rfl⟩ := List.mem_map.1 hx
      obtain ⟨j, hj, rfl⟩ := List.mem_map.1 hy
      obtain ⟨p1, p2⟩ := split_at (g := a) (s1 i hi)
      obtain ⟨q1, q2⟩ := split_at (g := b) (s1 j hj)
      have h3 : (a + 1) * m ≤ b * m := Nat.mul_le_mul_right _ h.1
      rw [Nat.succ_mul] at h3
      have := s1 i hi
      refine ⟨by omega, ?_⟩
      unfold strongQ
      rw [p1, q1, h.2, decide_eq_false (show a ≠ b by omega)]
      simp
/-- a list, counted by parts -/
theorem count_parts (f : Nat → Nat) (c : Nat) : ∀ (n : Nat) (t : List Nat), (∀ u, u ∈ t → f u < n) → (∀ g, g < n → (t.filter fun u => f u == g).length ≤ c) → t.length ≤ n * c := by
  intro n
  induction n with
  | zero =>
    intro t h _
    cases t with
    | nil => simp
    | cons u t => have := h u (List.mem_cons_self ..); omega
  | succ n ih =>
    intro t h hc
    have h1 := ih (t.filter fun u => !(f u == n)) (fun u hu => by
      obtain ⟨q1, q2⟩ := List.mem_filter.1 hu
      have := h u q1
      have q3 : f u ≠ n := by simpa using q2
      omega) (fun g hg => by
      rw [List.filter_filter]
      refine Nat.le_trans (filter_mono _ _ (fun u hu => ?_) _) (hc g (by omega))
      exact (Bool.and_eq_true_iff.1 hu).1)
    have h2 := hc n (by omega)
    have h3 : t.length = (t.filter fun u => f u == n).length + (t.filter fun u => !(f u == n)).length := by
      clear h hc h1 h2 ih
      induction t with
      | nil => rfl
      | cons u t ih =>
        rw [List.filter_cons, List.filter_cons]
        cases f u == n <;> simp <;> omega
    rw [Nat.succ_mul]
    omega
theorem part_first {n m : Nat} {l k : List (Int × Int)} (hN : n * m ≤ 16) (hk : GoodE m k k.length) {t : List Nat} (ht : Ind (nearL (n * m) (allTo (strongQ l k m) (n * m) (n * m))) (n * m) t) (g : Nat) : Ind (nearL m k) m ((t.filter fun u => u / m == g).map fun u => u % m) := by
  obtain ⟨t1, t2⟩ := (ind_strong hN).1 ht
  rw [ind_adj hk]
  constructor
  · intro u hu
    obtain ⟨x, hx, rfl⟩ := List.mem_map.1 hu
    have := t1 x (List.mem_filter.1 hx).1
    exact Nat.mod_lt _ (Nat.pos_of_ne_zero fun e => by rw [e, Nat.mul_zero] at this; omega)
  · refine List.pairwise_map.2 (List.Pairwise.imp_of_mem (fun {a b} ha hb h => ?_) (t2.filter _))
    have ea : a / m = g := by simpa using (List.mem_filter.1 ha).2
    have eb : b / m = g := by simpa using (List.mem_filter.1 hb).2
    have h1 := Nat.div_add_mod a m
    have h2 := Nat.div_add_mod b m
    rw [ea] at h1
    rw [eb] at h2
    have hlt : a % m < b % m := by omega
    refine ⟨hlt, ?_⟩
    have h3 := h.2
    unfold strongQ at h3
    rw [ea, eb, decide_eq_true rfl, Bool.true_or, Bool.true_and] at h3
    exact (Bool.or_eq_false_iff.1 h3).2
theorem part_second {n m : Nat} {l k : List (Int × Int)} (hN : n * m ≤ 16) (hg : GoodE n l l.length) {t : List Nat} (ht : Ind (nearL (n * m) (allTo (strongQ l k m) (n * m) (n * m))) (n * m) t) (h : Nat) : Ind (nearL n l) n ((t.filter fun u => u % m == h).map fun u => u / m) := by
  obtain ⟨t1, t2⟩ := (ind_strong hN).1 ht
  rw [ind_adj hg]
  constructor
  · intro u hu
    obtain ⟨x, hx, rfl⟩ := List.mem_map.1 hu
    have := t1 x (List.mem_filter.1 hx).1
    exact Nat.div_lt_of_lt_mul (by rw [Nat.mul_comm]; exact this)
  · refine List.pairwise_map.2 (List.Pairwise.imp_of_mem (fun {a b} ha hb q => ?_) (t2.filter _))
    have ea : a % m = h := by simpa using (List.mem_filter.1 ha).2
    have eb : b % m = h := by simpa using (List.mem_filter.1 hb).2
    have h1 := Nat.div_add_mod a m
    have h2 := Nat.div_add_mod b m
    have hlt : a / m < b / m := by
      rcases Nat.lt_or_ge (a / m) (b / m) with r | r
      · exact r
      · have := Nat.mul_le_mul_left m r
        omega
    refine ⟨hlt, ?_⟩
    have h3 := q.2
    unfold strongQ at h3
    rw [ea, eb, decide_eq_true (rfl : h = h), Bool.true_or, Bool.and_true] at h3
    exact (Bool.or_eq_false_iff.1 h3).2
/-- what Shannon's law says of the three answers -/
theorem shannon {n m : Nat} {l k : List (Int × Int)} (hN : n * m ≤ 16) (hg : GoodE n l l.length) (hk : GoodE m k k.length) {x y z : List Int} (hx : First (nearL n l) n x) (hy : First (nearL m k) m y) (hz : First (nearL (n * m) (allTo (strongQ l k m) (n * m) (n * m))) (n * m) z) :
    x.length * y.length ≤ z.length ∧ z.length ≤ n * y.length ∧ z.length ≤ x.length * m := by
  obtain ⟨tx, ex, ix⟩ := hx.is_
  obtain ⟨ty, ey, iy⟩ := hy.is_
  obtain ⟨tz, ez, iz⟩ := hz.is_
  have lz : z.length = tz.length := by rw [ez, toI_length]
  refine ⟨?_, ?_, ?_⟩
  · have h := hz.le (both_ind hN hg hk ix iy)
    rw [both_length] at h
    rw [ex, ey, toI_length, toI_length]
    exact h
  · rw [lz]
    refine count_parts (fun u => u / m) _ n tz (fun u hu => Nat.div_lt_of_lt_mul (by rw [Nat.mul_comm]; exact iz.mem u hu)) fun g _ => ?_
    have h := hy.le (part_first hN hk iz g)
    rw [List.length_map] at h
    exact h
  · rw [lz, Nat.mul_comm]
    refine count_parts (fun u => u % m) _ m tz (fun u hu => Nat.mod_lt _ (Nat.pos_of_ne_zero fun e => by have := iz.mem u hu; rw [e, Nat.mul_zero] at this; omega)) fun h _ => ?_
    have h := hx.le (part_second hN hg iz h)
    rw [List.length_map] at h
    exact h
end Go.Proofs.YtehheklbibocjaaDoor

/- AloneOf, plain: of all sets, as bits, the longest one alone, of these the first. No condition. -/
namespace Go.Proofs.YtehheklbibocjaaDoor

def bitsL (n x : Nat) : List Nat := (List.range n).filter fun v => x.testBit v
def freeB (l : List (Int × Int)) (x : Nat) : Bool := l.all fun e => !x.testBit e.1.toNat || !x.testBit e.2.toNat
def stepB (n : Nat) (l : List (Int × Int)) (best : List Int) (x : Nat) : List Int :=
  if (toI (bitsL n x)).length < best.length ∨ ((toI (bitsL n x)).length = best.length ∧ aheadL (toI (bitsL n x)) best = false) then best else if freeB l x = true then toI (bitsL n x) else best
def bestTo (n : Nat) (l : List (Int × Int)) (k : Nat) : List Int := (List.range k).foldl (stepB n l) []
theorem bestTo_succ (n : Nat) (l : List (Int × Int)) (k : Nat) : bestTo n l (k + 1) = stepB n l (bestTo n l k) k := by
  unfold bestTo
  rw [List.range_succ, List.foldl_append]
  rfl
theorem aheadL_cons (x y : Int) (a b : List Int) : aheadL (x :: a) (y :: b) = if x = y then aheadL a b else decide (x < y) := rfl
theorem aheadL_total : ∀ a b : List Int, a.length = b.length → a ≠ b → aheadL a b = false → aheadL b a = true
  | [], [], _, h, _ => absurd rfl h
  | [], _ :: _, h, _, _ => by simp at h
  | _ :: _, [], h, _, _ => by simp at h
  | x :: a, y :: b, hl, hne, h => by
    rw [aheadL_cons] at h ⊢
    by_cases q : x = y
    · subst q
      rw [if_pos rfl] at h ⊢
      exact aheadL_total a b (by simpa using hl) (fun e => hne (by rw [e])) h
    · rw [if_neg q] at h
      rw [if_neg (Ne.symm q)]
      have := of_decide_eq_false h
      exact decide_eq_true (by omega)
theorem aheadL_trans : ∀ a b c : List Int, aheadL a b = true → aheadL b c = true → aheadL a c = true
  | [], _, _, h, _ => by cases h
  | _ :: _, [], _, h, _ => by cases h
  | _ :: _, _ :: _, [], _, h => by cases h
  | x :: a, y :: b, z :: c, h, k => by
    rw [aheadL_cons] at h k ⊢
    by_cases q : x = y
    · subst q
      rw [if_pos rfl] at h
      by_cases r : x = z
      · subst r
        rw [if_pos rfl] at k ⊢
        exact aheadL_trans a b c h k
      · rw [if_neg r] at k ⊢
        exact k
    · rw [if_neg q] at h
      have h' := of_decide_eq_true h
      by_cases r : y = z
      · subst r
        rw [if_neg q]
        exact h
      · rw [if_neg r] at k
        have k' := of_decide_eq_true k
        rw [if_neg (by omega)]
        exact decide_eq_true (by omega)
theorem lt_of_asc : ∀ (a b : List Nat), a.Pairwise (fun u w => u < w) → b.Pairwise (fun u w => u < w) → (∀ u, u ∈ a ↔ u ∈ b) → a = b
  | [], [], _, _, _ => rfl
  | [], y :: b, _, _, h => absurd ((h y).2 (List.mem_cons_self ..)) (by simp)
  | x :: a, [], _, _, h => absurd ((h x).1 (List.mem_cons_self ..)) (by simp)
  | x :: a, y :: b, ha, hb, h => by
    obtain ⟨a1, a2⟩ := List.pairwise_cons.1 ha
    obtain ⟨b1, b2⟩ := List.pairwise_cons.1 hb
    have e : x = y := by
      rcases List.mem_cons.1 ((h x).1 (List.mem_cons_self ..)) with q | q
      · exact q
      · rcases List.mem_cons.1 ((h y).2 (List.mem_cons_self ..)) with r | r
        · exact r.symm
        · have := a1 y r
          have := b1 x q
          omega
    subst e
    congr 1
    refine lt_of_asc a b a2 b2 fun u => ⟨fun hu => ?_, fun hu => ?_⟩
    · rcases List.mem_cons.1 ((h u).1 (List.mem_cons_of_mem _ hu)) with q | q
      · have := a1 u hu
        omega
      · exact q
    · rcases List.mem_cons.1 ((h u).2 (List.mem_cons_of_mem _ hu)) with q | q
      · have := b1 u hu
        omega
      · exact q

structure BestI (n : Nat) (l : List (Int × Int)) (k : Nat) (b : List Int) : Prop where
  is_ : ∃ x, x < 2 ^ n ∧ freeB l x = true ∧ b = toI (bitsL n x)
  first : ∀ y, y < k → freeB l y = true → (toI (bitsL n y)).length < b.length ∨ toI (bitsL n y) = b ∨ ((toI (bitsL n y)).length = b.length ∧ aheadL b (toI (bitsL n y)) = true)
theorem free_zero (l : List (Int × Int)) : freeB l 0 = true := by
  unfold freeB
  rw [List.all_eq_true]
  intro e _
  rw [Nat.zero_testBit]
  rfl
theorem bits_zero (n : Nat) : bitsL n 0 = [] := by
  unfold bitsL
  rw [List.filter_eq_nil_iff]
  intro v _
  rw [Nat.zero_testBit]
  decide
theorem bestTo_spec (n : Nat) (l : List (Int × Int)) : ∀ k, k ≤ 2 ^ n → BestI n l k (bestTo n l k)
  | 0, _ => ⟨⟨0, Nat.two_pow_pos n, free_zero l, by rw [bits_zero]; rfl⟩, fun y h => absurd h (by omega)⟩
  | k + 1, hk => by
    have ih := bestTo_spec n l k (by omega)
    rw [bestTo_succ]
    generalize bestTo n l k = b at ih
    unfold stepB
    by_cases c : (toI (bitsL n k)).length < b.length ∨ ((toI (bitsL n k)).length = b.length ∧ aheadL (toI (bitsL n k)) b = false)
    · rw [if_pos c]
      refine ⟨ih.is_, fun y hy hf => ?_⟩
      by_cases e : y = k
      · subst e
        rcases c with c | ⟨c, d⟩
        · exact .inl c
        · by_cases q : toI (bitsL n y) = b
          · exact .inr (.inl q)
          · exact .inr (.inr ⟨c, aheadL_total _ _ c q d⟩)
      · exact ih.first y (by omega) hf
    · rw [if_neg c]
      by_cases hf : freeB l k = true
      · rw [if_pos hf]
        refine ⟨⟨k, by omega, hf, rfl⟩, fun y hy hy' => ?_⟩
        by_cases e : y = k
        · exact .inr (.inl (by rw [e]))
        · have h := ih.first y (by omega) hy'
          have c1 : ¬ (toI (bitsL n k)).length < b.length := fun q => c (.inl q)
          by_cases c2 : (toI (bitsL n k)).length = b.length
          · have c3 : aheadL (toI (bitsL n k)) b = true := by
              cases q : aheadL (toI (bitsL n k)) b
              · exact absurd (.inr ⟨c2, q⟩) c
              · rfl
            rcases h with h | h | ⟨h, h'⟩
            · exact .inl (by omega)
            · rw [h]
              exact .inr (.inr ⟨c2.symm, c3⟩)
            · exact .inr (.inr ⟨by omega, aheadL_trans _ _ _ c3 h'⟩)
          · rcases h with h | h | ⟨h, _⟩
            · exact .inl (by omega)
            · rw [h]
              exact .inl (by omega)
            · exact .inl (by omega)
      · rw [if_neg hf]
        refine ⟨ih.is_, fun y hy hy' => ?_⟩
        by_cases e : y = k
        · subst e
          exact absurd hy' hf
        · exact ih.first y (by omega) hy'

theorem bits_asc (n x : Nat) : (bitsL n x).Pairwise fun u w => u < w := List.Pairwise.filter _ List.pairwise_lt_range
theorem mem_bits {n x u : Nat} : u ∈ bitsL n x ↔ u < n ∧ x.testBit u = true := by
  unfold bitsL
  rw [List.mem_filter, List.mem_range]
theorem free_adj {l : List (Int × Int)} {x u w : Nat} (hf : freeB l x = true) (hu : x.testBit u = true) (hw : x.testBit w = true) : adjL l (u : Int) (w : Int) = false := by
  unfold adjL
  rw [List.any_eq_false]
  intro e he h
  have := List.all_eq_true.1 hf e he
  unfold adjAt at h
  rw [Bool.or_eq_true, Bool.and_eq_true, Bool.and_eq_true, beq_iff_eq, beq_iff_eq, beq_iff_eq, beq_iff_eq] at h
  rcases h with ⟨h1, h2⟩ | ⟨h1, h2⟩ <;> rw [h1, h2, Int.toNat_natCast, Int.toNat_natCast, hu, hw] at this <;> cases this
theorem bits_ind {n : Nat} {l : List (Int × Int)} (hg : GoodE n l l.length) {x : Nat} (hf : freeB l x = true) : Ind (nearL n l) n (bitsL n x) := by
  rw [ind_adj hg]
  refine ⟨fun u hu => (mem_bits.1 hu).1, ?_⟩
  refine (List.pairwise_iff_forall_sublist.2 fun {u w} h => ?_)
  have hu := mem_bits.1 (h.subset (List.mem_cons_self ..))
  have hw := mem_bits.1 (h.subset (List.mem_cons_of_mem _ (List.mem_cons_self ..)))
  exact ⟨List.pairwise_iff_forall_sublist.1 (bits_asc n x) h, free_adj hf hu.2 hw.2⟩
def ofB (t : List Nat) : Nat := t.foldr (fun u y => 2 ^ u ||| y) 0
theorem ofB_bit (v : Nat) : ∀ t : List Nat, (ofB t).testBit v = decide (v ∈ t)
  | [] => by
    show (0 : Nat).testBit v = _
    rw [Nat.zero_testBit]
    rfl
  | u :: t => by
    show (2 ^ u ||| ofB t).testBit v = _
    rw [Nat.testBit_or, Nat.testBit_two_pow, ofB_bit v t]
    by_cases e : u = v
    · simp [e]
    · simp [e, Ne.symm e]
theorem ind_bits {n : Nat} {l : List (Int × Int)} (hg : GoodE n l l.length) {t : List Nat} (ht : Ind (nearL n l) n t) : ∃ y, y < 2 ^ n ∧ freeB l y = true ∧ bitsL n y = t := by
  obtain ⟨h1, h2⟩ := (ind_adj hg).1 ht
  refine ⟨ofB t, Nat.lt_pow_two_of_testBit _ fun i hi => ?_, ?_, ?_⟩
  · rw [ofB_bit]
    exact decide_eq_false fun h => by have := h1 i h; omega
  · unfold freeB
    rw [List.all_eq_true]
    intro e he
    obtain ⟨k, hk, rfl⟩ := List.getElem_of_mem he
    have hed := hg.edge hk
    rw [getD_eq l k _ hk] at hed
    cases ha : (ofB t).testBit l[k].1.toNat
    · rfl
    · cases hb : (ofB t).testBit l[k].2.toNat
      · rfl
      · rw [ofB_bit] at ha hb
        have ma := of_decide_eq_true ha
        have mb := of_decide_eq_true hb
        have hp : ∀ u w, u ∈ t → w ∈ t → u < w → adjL l (u : Int) (w : Int) = false := by
          intro u w hu hw huw
          obtain ⟨i, hi, rfl⟩ := List.getElem_of_mem hu
          obtain ⟨j, hj, rfl⟩ := List.getElem_of_mem hw
          have h3 := List.pairwise_iff_getElem.1 h2
          rcases Nat.lt_trichotomy i j with q | q | q
          · exact (h3 i j hi hj q).2
          · subst q
            omega
          · have := (h3 j i hj hi q).1
            omega
        have h4 := hp _ _ ma mb (by omega)
        unfold adjL at h4
        rw [List.any_eq_false] at h4
        have h5 := h4 l[k] he
        rw [Int.toNat_of_nonneg hed.1, Int.toNat_of_nonneg (by omega)] at h5
        exact absurd (by unfold adjAt; simp) h5
  · refine lt_of_asc _ _ (bits_asc _ _) (h2.imp fun h => h.1) fun u => ?_
    rw [mem_bits, ofB_bit, decide_eq_true_eq]
    exact ⟨fun h => h.2, fun h => ⟨h1 u h, h⟩⟩
theorem aloneOf_same {n : Nat} {l : List (Int × Int)} (hn : n ≤ 16) (hM : Low (nearL n l)) (hg : GoodE n l l.length) : bestTo n l (2 ^ n) = aloneL n l := by
  have h := bestTo_spec n l (2 ^ n) (Nat.le_refl _)
  have f : First (nearL n l) n (bestTo n l (2 ^ n)) := by
    obtain ⟨x, _, hx, e⟩ := h.is_
    refine ⟨⟨bitsL n x, e, bits_ind hg hx⟩, fun t ht => ?_⟩
    obtain ⟨y, hy, hf, rfl⟩ := ind_bits hg ht
    exact h.first y hy hf
  exact f.same (alone_first hn hM)
end Go.Proofs.YtehheklbibocjaaDoor

/- The walks of Ahead and AloneOf. No condition. -/
namespace Go.Proofs.YtehheklbibocjaaDoor
open Go.RowKit Go.Deep Go.Proofs.YtehheklbibocjaaDoorW.PrintWords

theorem aheadL_step {l m : List Int} {k : Nat} (h1 : k < l.length) (h2 : k < m.length) : aheadL (l.drop k) (m.drop k) = if l.getD k 0 = m.getD k 0 then aheadL (l.drop (k + 1)) (m.drop (k + 1)) else decide (l.getD k 0 < m.getD k 0) := by
  rw [List.drop_eq_getElem_cons h1, List.drop_eq_getElem_cons h2, getD_eq l k _ h1, getD_eq m k _ h2]
  rfl
theorem aheadL_end1 {l : List Int} {k : Nat} (x : List Int) (h : l.length ≤ k) : aheadL (l.drop k) x = false := by
  rw [List.drop_eq_nil_of_le h]
  cases x <;> rfl
theorem aheadL_end2 {l : List Int} {k : Nat} (x : List Int) (h : l.length ≤ k) : aheadL x (l.drop k) = false := by
  rw [List.drop_eq_nil_of_le h]
  cases x <;> rfl

set_option maxHeartbeats 2000000 in
theorem ahead_any (A B : Option Addr) (l m : List Int) (c d : Nat) (w : World) (hA : Ints w A l) (hB : Ints w B m) :
    Calls Tryd.prog 29 #[.slice A l.length c, .slice B m.length d] w fun e w' => e = .returned (.bool (aheadL l m)) ∧ Below w.heap.size w w' := by
  have hl := hA.len
  have hm := hB.len
  obtain ⟨r, hr⟩ : ∃ r, aheadL l m = r := ⟨_, rfl⟩
  have HR := hide hr
  rw [hr]
  clear hr
  go_enter Tryd.func29, Tryd.ntmps29
  go_wp2
  go_loopw [5] (fun i wr => ∃ k : Nat, k ≤ l.length ∧ k ≤ m.length ∧ i = .int .i64 k ∧ Hid (aheadL (l.drop k) (m.drop k) = r) ∧ Below w.heap.size w wr) (fun i _ => l.length - (intOf i).toNat)
  case atStart => exact ⟨0, Nat.zero_le _, Nat.zero_le _, rfl, HR, Below.refl _ _⟩
  case round =>
    obtain ⟨k, hk, hk2, rfl, HK, hb⟩ := hrel
    by_cases h1 : k < l.length
    · by_cases h2 : k < m.length
      · obtain ⟨b, o, rfl, hbl, c1⟩ := (hA.below hb).at_ k h1
        obtain ⟨b', o', rfl, hbl', c2⟩ := (hB.below hb).at_ k h2
        have h := HK.out
        rw [aheadL_step h1 h2] at h
        generalize l.getD k 0 = x at c1 h
        generalize m.getD k 0 = y at c2 h
        by_cases hx : x = y
        · subst hx
          rw [if_pos rfl] at h
          have hx' : (x != x) = false := by simp
          have HN := hide h
          clear h
          go_wp2
          go_quiet (fail)
          go_wp2
          go_roundw
          case rel => exact ⟨k + 1, by omega, by omega, by go_num, HN, below_drewN' hb _⟩
          case measure => simp [intOf]; omega
        · rw [if_neg hx] at h
          have hx' : (x != y) = true := by simpa using hx
          have HN := hide h
          clear h hx
          go_wp2
          go_quiet (fail)
          go_wp2
          go_quiet (fail)
          go_wp2
          go_ret
          exact ⟨ret_bool HN.out, below_drewN' (below_drewN' hb _) _⟩
      · obtain rfl : k = m.length := by omega
        have HN := hide (HK.out.symm.trans (aheadL_end2 _ (Nat.le_refl _)))
        go_wp2
        go_ret
        exact ⟨ret_bool HN.out.symm, hb⟩
    · obtain rfl : k = l.length := by omega
      have HN := hide (HK.out.symm.trans (aheadL_end1 _ (Nat.le_refl _)))
      go_wp2
      go_ret
      exact ⟨ret_bool HN.out.symm, hb⟩

theorem bitsL_yes {v x : Nat} (h : x.testBit v = true) : toI (bitsL (v + 1) x) = toI (bitsL v x) ++ [(v : Int)] := by
  unfold bitsL
  rw [List.range_succ, List.filter_append, show List.filter (fun v => x.testBit v) [v] = [v] by simp [h]]
  unfold toI
  rw [List.map_append]
  rfl
theorem bitsL_no {v x : Nat} (h : x.testBit v = false) : bitsL (v + 1) x = bitsL v x := by
  unfold bitsL
  rw [List.range_succ, List.filter_append, show List.filter (fun v => x.testBit v) [v] = [] by simp [h]]
  exact List.append_nil _
theorem bitsL_len (v x : Nat) : (toI (bitsL v x)).length ≤ v := by
  rw [toI_length]
  have := List.length_filter_le (fun i => x.testBit i) (List.range v)
  rw [List.length_range] at this
  exact this
theorem tbit (k v : Nat) : ((k : Int) / 2 ^ v).tmod 2 = if k.testBit v = true then 1 else 0 := by
  have e1 : ((k : Int) / 2 ^ v) = ((k / 2 ^ v : Nat) : Int) := by push_cast; rfl
  rw [e1, Int.tmod_eq_emod_of_nonneg (Int.natCast_nonneg _)]
  by_cases h : k / 2 ^ v % 2 = 1
  · rw [if_pos (by rw [bit_div]; exact decide_eq_true h)]
    omega
  · rw [if_neg (by rw [bit_div, decide_eq_false h]; decide)]
    omega
theorem pow10 (n : Nat) (h : n ≤ 10) : ∃ M : Nat, wrap64 ((2 : Int) ^ n) = (M : Int) ∧ M ≤ 1024 ∧ Hid (M = 2 ^ n) := by
  have h1 : 2 ^ n ≤ 2 ^ 10 := Nat.pow_le_pow_right (by decide) h
  have h2 : (2 : Int) ^ n = ((2 ^ n : Nat) : Int) := by rw [Int.natCast_pow]; rfl
  refine ⟨2 ^ n, ?_, h1, hide rfl⟩
  rw [h2]
  generalize 2 ^ n = x at h1
  unfold wrap64
  omega
theorem free_take {l : List (Int × Int)} {i x : Nat} (hi : i < l.length) : freeB (l.take (i + 1)) x = (freeB (l.take i) x && (!x.testBit (l.getD i (0, 0)).1.toNat || !x.testBit (l.getD i (0, 0)).2.toNat)) := by
  unfold freeB
  rw [List.take_add_one, List.getElem?_eq_getElem hi, getD_eq l i _ hi, List.all_append]
  show _ = _
  simp
theorem free_false {l : List (Int × Int)} {i x : Nat} (h : freeB (l.take i) x = false) : freeB l x = false := by
  rw [← List.take_append_drop i l]
  unfold freeB at h ⊢
  rw [List.all_append, h]
  rfl

set_option maxRecDepth 100000 in
set_option maxHeartbeats 8000000 in
theorem aloneOf_ok (n : Nat) (A : Option Addr) (l : List (Int × Int)) (c : Nat) (w : World) (hA : Pairs w A l) (hn : n ≤ 10) (hg : GoodE n l l.length) :
    Calls Tryd.prog 13 #[.agg #[.int .i64 n, .slice A l.length c]] w fun e w' => ∃ B d, e = .returned (.slice B (bestTo n l (2 ^ n)).length d) ∧ Ints w' B (bestTo n l (2 ^ n)) ∧ Below w.heap.size w w' := by
  have hl := hA.len
  obtain ⟨M, hM, hM2, HM⟩ := pow10 n hn
  have hcl : ∀ w1, Below (w.heap.size + 1) (w.alloc (gObj n A l.length c)) w1 →
      w1.cell? ⟨w.heap.size, 0, none⟩ = some (.int .i64 (n : Int)) ∧ w1.cell? ⟨w.heap.size, 1, none⟩ = some (.slice A l.length c) ∧ Below w.heap.size w w1 ∧ w.heap.size + 1 ≤ w1.heap.size := fun w1 h =>
    ⟨(h.cell (p := ⟨w.heap.size, 0, none⟩) (by show w.heap.size < _; omega)).trans (by unfold gObj; simp), (h.cell (p := ⟨w.heap.size, 1, none⟩) (by show w.heap.size < _; omega)).trans (by unfold gObj; simp), (below_alloc' (Below.refl _ _) _).trans (h.mono (Nat.le_succ _)), by have := h.size; rw [World.size_alloc] at this; omega⟩
  have HCL := hide hcl
  have HA := hide hA
  have HG := hide hg
  have n0 : (0 : Int) ≤ (n : Int) := Int.natCast_nonneg _
  have n1 : (n : Int) < 64 := by omega
  clear hcl hA hg
  go_enter Tryd.func13, Tryd.ntmps13
  go_wp2_with (fail)
  go_loopw [3, 4] (fun bv kv wr => ∃ (k : Nat) (B : Option Addr) (d : Nat), k ≤ M ∧ kv = .int .i64 k ∧ bv = .slice B (bestTo n l k).length d ∧ Hid (Ints wr B (bestTo n l k)) ∧ Hid (Below (w.heap.size + 1) (w.alloc (gObj n A l.length c)) wr)) (fun _ kv _ => M - (intOf kv).toNat)
  case atStart => exact ⟨0, none, 0, Nat.zero_le _, rfl, rfl, hide (Ints.nil _ _), hide (Below.refl _ _)⟩
  case round =>
    obtain ⟨k, B, d, hk, rfl, rfl, HI, HB⟩ := hrel
    obtain ⟨wi, rfl⟩ : ∃ wi : World, wi = wr := ⟨_, rfl⟩
    obtain ⟨y0, y1, hbw, hsz⟩ := HCL.out wi HB.out
    have k0 : (0 : Int) ≤ (k : Int) := Int.natCast_nonneg _
    have zw : w.heap.size < wi.heap.size := by omega
    by_cases hlt : k < M
    · have k1 : (k : Int) < (M : Int) := by omega
      obtain ⟨best, hbest⟩ : ∃ b, bestTo n l k = b := ⟨_, rfl⟩
      have HST := hide (bestTo_succ n l k)
      rw [hbest] at HI
      rw [hbest] at HST ⊢
      have hbl := HI.out.len
      clear hbest hbw
      go_wp2_with (fail)
      rw [hM]
      go_loopw [5, 6] (fun lv vv wr => ∃ (v : Nat) (L : Option Addr) (e : Nat), v ≤ n ∧ vv = .int .i64 v ∧ lv = .slice L (toI (bitsL v k)).length e ∧ Hid (wr.ownsRow wi.heap.size 3 1 (.slice L (toI (bitsL v k)).length e) (toI (bitsL v k)).length (intCells (toI (bitsL v k)))) ∧ Hid (Below wi.heap.size wi wr)) (fun _ vv _ => n - (intOf vv).toNat)
      case atStart => exact ⟨0, none, 0, Nat.zero_le _, rfl, rfl, hide (nil_own _ _ _ _), hide (Below.refl _ _)⟩
      case round =>
        obtain ⟨v, L, e, hv, rfl, rfl, HO, HBi⟩ := hrel
        obtain ⟨wj, rfl⟩ : ∃ wj : World, wj = wr := ⟨_, rfl⟩
        have hBj := HB.out.trans (HBi.out.mono hsz)
        obtain ⟨z0, z1, hbwj, hszj⟩ := HCL.out wj hBj
        have HBJ := hide (And.intro hBj hbwj)
        have v0 : (0 : Int) ≤ (v : Int) := Int.natCast_nonneg _
        have zj : w.heap.size < wj.heap.size := by omega
        clear hBj hbwj y0 y1
        have hTl := bitsL_len v k
        by_cases hvl : v < n
        · have v1 : (v : Int) < (n : Int) := by omega
          have v64 : v < 64 := by omega
          have HSZ := hide HBi.out.size
          cases hbit : k.testBit v with
          | false =>
            have hb2 : ((((k : Int) / 2 ^ v).tmod 2) == 1) = false := by rw [tbit, hbit]; rfl
            have HN := hide (bitsL_no hbit)
            clear hbit
            go_wp2_with (fail)
            go_roundw
            case rel => exact ⟨v + 1, L, e, by omega, by go_num, by rw [HN.out], by rw [HN.out]; exact HO, HBi⟩
            case measure => simp [intOf]; omega
          | true =>
            have hb2 : ((((k : Int) / 2 ^ v).tmod 2) == 1) = true := by rw [tbit, hbit]; rfl
            have HN := hide (bitsL_yes hbit)
            have HC3 := hide (show ((toI (bitsL v k)).length + 1) * 8 ≤ 140737488355328 by omega)
            clear hbit
            generalize toI (bitsL v k) = T at HO HN HC3 hTl ⊢
            go_wp2_with (at_builtin; refine wp_app_ints _ rfl _ _ rfl wi.heap.size (.slice L T.length e) _ rfl (HO.out.alloc _) _ 1 1 [(v : Int)] rfl rfl (ints_one (b := wj.heap.size) (by simp) (by simp)) HC3.out (by rw [World.size_alloc]; exact Nat.le_succ_of_le HSZ.out) ?_; intro A' c' w5 hc5 ho5 hg5 hob5)
            have hb5 : Below wi.heap.size wi w5 := (HBi.out.alloc HSZ.out _).grown hg5 (by rw [World.size_alloc]; exact Nat.le_succ_of_le HSZ.out) (fun j hj => (HO.out.lt j hj).1)
            rw [← HN.out] at ho5
            go_roundw
            case rel => exact ⟨v + 1, A', c', by omega, by go_num, by rw [HN.out, List.length_append]; rfl, hide ho5, hide hb5⟩
            case measure => simp [intOf]; omega
        · obtain rfl : n = v := by omega
          have HIT := hide (Ints.own HO.out)
          have HIB := hide (HI.out.below HBi.out)
          obtain ⟨T, hT⟩ : ∃ T, toI (bitsL n k) = T := ⟨_, rfl⟩
          have HS : Hid (bestTo n l (k + 1) = if T.length < best.length ∨ (T.length = best.length ∧ aheadL T best = false) then best else if freeB l k = true then T else best) := by
            have h := HST.out
            unfold stepB at h
            rw [hT] at h
            exact hide h
          rw [hT] at HIT hTl ⊢
          clear HO hT HST
          have HAH := hide (ahead_any L B T best e d wj HIT.out HIB.out)
          have HIW := hide (HIB.out.below (w' := wj) (Below.refl _ _))
          have hTl2 : T.length ≤ n := hTl
          clear hTl
          by_cases c1 : T.length < best.length
          · have HN : Hid (bestTo n l (k + 1) = best) := hide (by rw [HS.out, if_pos (.inl c1)])
            have c1' : (T.length : Int) < (best.length : Int) := by omega
            clear c1
            go_wp2_with (fail)
            go_roundw
            case rel => exact ⟨k + 1, B, d, by omega, by go_num, by rw [HN.out], by rw [HN.out]; exact HIB, hide HBJ.out.1⟩
            case measure => simp [intOf]; omega
          · by_cases c2 : T.length = best.length
            · have c2' : ((T.length : Int) == (best.length : Int)) = true := by rw [beq_iff_eq]; omega
              have c1' : ¬ ((T.length : Int) < (best.length : Int)) := by omega
              cases hah : aheadL T best with
              | false =>
                have HN : Hid (bestTo n l (k + 1) = best) := hide (by rw [HS.out, if_pos (.inr ⟨c2, hah⟩)])
                rw [hah] at HAH
                clear hah c1 c2
                go_wp2_with (go_at_call 29; refine Calls.mono HAH.out ?_; rintro e' w6 ⟨rfl, hb6⟩)
                go_roundw
                case rel => exact ⟨k + 1, B, d, by omega, by go_num, by rw [HN.out], by rw [HN.out]; exact hide (HIB.out.below hb6), hide (HBJ.out.1.trans (hb6.mono (by omega)))⟩
                case measure => simp [intOf]; omega
              | true =>
                have HN : Hid (bestTo n l (k + 1) = if freeB l k = true then T else best) := hide (by rw [HS.out, if_neg (fun h => h.elim c1 (fun h => by rw [hah] at h; exact absurd h.2 (by decide)))])
                rw [hah] at HAH
                clear hah c1 c2
                go_wp2_with (go_at_call 29; refine Calls.mono HAH.out ?_; rintro e' w6 ⟨rfl, hb6⟩)
                have HIB6 := hide (HIB.out.below hb6)
                have HIT6 := hide (HIT.out.below hb6)
                have HBB6 := hide (HBJ.out.1.trans (hb6.mono (show w.heap.size + 1 ≤ wj.heap.size by omega)))
                obtain ⟨x0, x1, hbw6, hsz6⟩ := HCL.out w6 HBB6.out
                have HBW6 := hide hbw6
                have z6 : w.heap.size < w6.heap.size := by omega
                clear hbw6 z0 z1
                have HFL := hide (show freeB l k = freeB l k from rfl)
                go_loop [7, 8] (fun fv iv => ∃ i : Nat, i ≤ l.length ∧ iv = .int .i64 i ∧ fv = .bool (freeB (l.take i) k)) (fun _ iv => l.length - (intOf iv).toNat)
                case atStart => exact ⟨0, Nat.zero_le _, rfl, rfl⟩
                case round =>
                  obtain ⟨i, hi, rfl, rfl⟩ := hrel
                  have i0 : (0 : Int) ≤ (i : Int) := Int.natCast_nonneg _
                  by_cases hil : i < l.length
                  · have i1 : (i : Int) < (l.length : Int) := by omega
                    have HTK := hide (free_take (x := k) hil)
                    have HFF := hide (fun h => free_false (l := l) (i := i) (x := k) h)
                    obtain ⟨g, off, rfl, hgb, d1, d2⟩ := (HA.out.below HBW6.out).at_ i hil
                    have hed := HG.out.edge hil
                    obtain ⟨p1, e1⟩ : ∃ p : Nat, (l.getD i (0,0)).1 = (p : Int) := ⟨(l.getD i (0,0)).1.toNat, by omega⟩
                    obtain ⟨p2, e2⟩ : ∃ p : Nat, (l.getD i (0,0)).2 = (p : Int) := ⟨(l.getD i (0,0)).2.toNat, by omega⟩
                    rw [e1] at d1
                    rw [e2] at d2
                    rw [e1, e2] at hed
                    have htk := HTK.out
                    rw [e1, e2, Int.toNat_natCast, Int.toNat_natCast] at htk
                    have hq1 : p1 < 64 := by omega
                    have hq2 : p2 < 64 := by omega
                    have b1 : ((((k : Int) / 2 ^ p1).tmod 2) == 0) = !k.testBit p1 := by rw [tbit]; cases k.testBit p1 <;> rfl
                    have b2 : ((((k : Int) / 2 ^ p2).tmod 2) == 0) = !k.testBit p2 := by rw [tbit]; cases k.testBit p2 <;> rfl
                    clear e1 e2 HTK
                    cases hf : freeB (l.take i) k with
                    | false =>
                      have HNN := hide (HN.out.trans (if_neg (by rw [HFF.out hf]; decide)))
                      clear htk
                      go_wp2_with (fail)
                      go_roundw
                      case rel => exact ⟨k + 1, B, d, by omega, by go_num, by rw [HNN.out], by rw [HNN.out]; exact HIB6, HBB6⟩
                      case measure => simp [intOf]; omega
                    | true =>
                      rw [hf, Bool.true_and] at htk
                      cases hb1 : k.testBit p1 <;> cases hb2 : k.testBit p2 <;> rw [hb1] at b1 htk <;> rw [hb2] at b2 htk
                      all_goals
                        have HTK := hide htk
                        clear htk hf hb1 hb2
                        go_wp2_with (fail)
                        go_round
                        case rel => exact ⟨i + 1, by omega, by go_num, by rw [HTK.out]; rfl⟩
                        case measure => simp [intOf]; omega
                  · obtain rfl : i = l.length := by omega
                    rw [List.take_length]
                    cases hf : freeB l k with
                    | false =>
                      have HNN := hide (HN.out.trans (if_neg (by rw [hf]; decide)))
                      go_wp2_with (fail)
                      go_roundw
                      case rel => exact ⟨k + 1, B, d, by omega, by go_num, by rw [HNN.out], by rw [HNN.out]; exact HIB6, HBB6⟩
                      case measure => simp [intOf]; omega
                    | true =>
                      have HNN := hide (HN.out.trans (if_pos hf))
                      go_wp2_with (fail)
                      go_roundw
                      case rel => exact ⟨k + 1, L, e, by omega, by go_num, by rw [HNN.out], by rw [HNN.out]; exact HIT6, HBB6⟩
                      case measure => simp [intOf]; omega
            · have c2' : ((T.length : Int) == (best.length : Int)) = false := by rw [beq_eq_false_iff_ne]; omega
              have c1' : ¬ ((T.length : Int) < (best.length : Int)) := by omega
              have HN : Hid (bestTo n l (k + 1) = if freeB l k = true then T else best) := hide (by rw [HS.out, if_neg (fun h => h.elim c1 (fun h => c2 h.1))])
              clear c1 c2
              go_wp2_with (fail)
              have HIB6 := HIB
              have HIT6 := HIT
              have HBB6 := hide HBJ.out.1
              have HBW6 := hide HBJ.out.2
              have HFL := hide (show freeB l k = freeB l k from rfl)
              go_loop [7, 8] (fun fv iv => ∃ i : Nat, i ≤ l.length ∧ iv = .int .i64 i ∧ fv = .bool (freeB (l.take i) k)) (fun _ iv => l.length - (intOf iv).toNat)
              case atStart => exact ⟨0, Nat.zero_le _, rfl, rfl⟩
              case round =>
                obtain ⟨i, hi, rfl, rfl⟩ := hrel
                have i0 : (0 : Int) ≤ (i : Int) := Int.natCast_nonneg _
                by_cases hil : i < l.length
                · have i1 : (i : Int) < (l.length : Int) := by omega
                  have HTK := hide (free_take (x := k) hil)
                  have HFF := hide (fun h => free_false (l := l) (i := i) (x := k) h)
                  obtain ⟨g, off, rfl, hgb, d1, d2⟩ := (HA.out.below HBW6.out).at_ i hil
                  have hed := HG.out.edge hil
                  obtain ⟨p1, e1⟩ : ∃ p : Nat, (l.getD i (0,0)).1 = (p : Int) := ⟨(l.getD i (0,0)).1.toNat, by omega⟩
                  obtain ⟨p2, e2⟩ : ∃ p : Nat, (l.getD i (0,0)).2 = (p : Int) := ⟨(l.getD i (0,0)).2.toNat, by omega⟩
                  rw [e1] at d1
                  rw [e2] at d2
                  rw [e1, e2] at hed
                  have htk := HTK.out
                  rw [e1, e2, Int.toNat_natCast, Int.toNat_natCast] at htk
                  have hq1 : p1 < 64 := by omega
                  have hq2 : p2 < 64 := by omega
                  have b1 : ((((k : Int) / 2 ^ p1).tmod 2) == 0) = !k.testBit p1 := by rw [tbit]; cases k.testBit p1 <;> rfl
                  have b2 : ((((k : Int) / 2 ^ p2).tmod 2) == 0) = !k.testBit p2 := by rw [tbit]; cases k.testBit p2 <;> rfl
                  clear e1 e2 HTK
                  cases hf : freeB (l.take i) k with
                  | false =>
                    have HNN := hide (HN.out.trans (if_neg (by rw [HFF.out hf]; decide)))
                    clear htk
                    go_wp2_with (fail)
                    go_roundw
                    case rel => exact ⟨k + 1, B, d, by omega, by go_num, by rw [HNN.out], by rw [HNN.out]; exact HIB6, HBB6⟩
                    case measure => simp [intOf]; omega
                  | true =>
                    rw [hf, Bool.true_and] at htk
                    cases hb1 : k.testBit p1 <;> cases hb2 : k.testBit p2 <;> rw [hb1] at b1 htk <;> rw [hb2] at b2 htk
                    all_goals
                      have HTK := hide htk
                      clear htk hf hb1 hb2
                      go_wp2_with (fail)
                      go_round
                      case rel => exact ⟨i + 1, by omega, by go_num, by rw [HTK.out]; rfl⟩
                      case measure => simp [intOf]; omega
                · obtain rfl : i = l.length := by omega
                  rw [List.take_length]
                  cases hf : freeB l k with
                  | false =>
                    have HNN := hide (HN.out.trans (if_neg (by rw [hf]; decide)))
                    go_wp2_with (fail)
                    go_roundw
                    case rel => exact ⟨k + 1, B, d, by omega, by go_num, by rw [HNN.out], by rw [HNN.out]; exact HIB6, HBB6⟩
                    case measure => simp [intOf]; omega
                  | true =>
                    have HNN := hide (HN.out.trans (if_pos hf))
                    go_wp2_with (fail)
                    go_roundw
                    case rel => exact ⟨k + 1, L, e, by omega, by go_num, by rw [HNN.out], by rw [HNN.out]; exact HIT6, HBB6⟩
                    case measure => simp [intOf]; omega
    · obtain rfl : k = M := by omega
      have HK := hide HM.out
      have HW := hide hbw
      clear hbw
      go_wp2_with (fail)
      rw [← HK.out]
      go_ret
      exact ⟨B, d, rfl, HI.out, HW.out⟩
end Go.Proofs.YtehheklbibocjaaDoor

/- The walks of errors.Is and errors.As at the errors of this program: a sentinel (a pointer to an errors.errorString) and a *api.Fault (after the kit's worked Sentry and Toyas). Condition: the variables read as laid. -/
namespace Go.Proofs.YtehheklbibocjaaDoor
open Go.RowKit Go.Deep Go.Extern.Stop Go.Stop Go.Extern

/-- the sentinels of the codes S: their cells, their blocks, none twice -/
structure Sent (S : List Nat) (w : World) (a : Nat → Addr) : Prop extends Env S w a where
  blk : ∀ c, c ∈ S → ∃ ca ta, w.heap[(a c).block]? = some (.cells ca ta (0, 0))
  inj : ∀ c, c ∈ S → ∀ d, d ∈ S → a c = a d → c = d
theorem Sent.lt {S : List Nat} {w : World} {a : Nat → Addr} (h : Sent S w a) {c : Nat} (hc : c ∈ S) : (a c).block < w.heap.size := by
  obtain ⟨ca, ta, hb⟩ := h.blk c hc
  exact (Array.getElem?_eq_some_iff.1 hb).1
theorem Sent.below {S : List Nat} {w w' : World} {a : Nat → Addr} (h : Sent S w a) (hb : Below w.heap.size w w') : Sent S w' a :=
  ⟨h.toEnv.below hb, fun c hc => by
    obtain ⟨ca, ta, hx⟩ := h.blk c hc
    exact ⟨ca, ta, (hb.block _ (h.lt hc)).trans hx⟩, h.inj⟩
/-- the handle of the type error -/
def Handle (w : World) : Prop := w.cell? ⟨8, 0, none⟩ = some (.iface 94 (.agg #[.pointer (some ⟨9, 29, none⟩)]))
theorem Handle.below {w w' : World} (h : Handle w) (hb : Below w.heap.size w w') : Handle w' :=
  (hb.cell (p := ⟨8, 0, none⟩) (World.block_lt_of_cell? w _ h)).trans h

/-! ### errors.Is -/
theorem is_typeOf (v : Value) (w : World) : (Extern.ReflectliteType.typeOf #[.iface 108 v]).run Tryd.prog w = .ok (.iface 94 (.agg #[.pointer (some ⟨9, 108, none⟩)])) w := by kernel_rfl
/-- the model's own entry for (rtype).Comparable, behind a name -/
def compExt : TypeId → Sem Value := fun t => do Rtype.noPackHeld "Comparable" t; pure (.bool (← typeInfo t).comparable)
theorem is_comparable (w : World) : (Extern.ReflectliteType.method compExt #[.agg #[.pointer (some ⟨9, 108, none⟩)]]).run Tryd.prog w = .ok (.bool true) w := by kernel_rfl
theorem is_methodComparable (v : Value) (w : World) : (Go.method 247 94 v "Comparable").run Tryd.prog w = .ok (76, v) w := by kernel_rfl
theorem is_comp : (Tryd.prog.info? 108).map (·.comparable) = some true := by kernel_rfl
theorem is_size : (Tryd.prog.info? 131).map (·.size) = some 1 := by kernel_rfl
theorem no_is_E (v : Value) (xT : TypeId) (w : World) : (Instr.typeAssert (.iface 108 v) xT 105 true).run Tryd.prog w = .ok (.tuple #[.nilIface, .bool false]) w := run_typeAssert_lacksB Tryd.underlying105 (by kernel_rfl) (by kernel_rfl) v xT w
theorem no_unwrap_E (v : Value) (xT : TypeId) (w : World) : (Instr.typeAssert (.iface 108 v) xT 101 true).run Tryd.prog w = .ok (.tuple #[.nilIface, .bool false]) w := run_typeAssert_lacksB Tryd.underlying101 (by kernel_rfl) (by kernel_rfl) v xT w
theorem no_unwraps_E (v : Value) (xT : TypeId) (w : World) : (Instr.typeAssert (.iface 108 v) xT 103 true).run Tryd.prog w = .ok (.tuple #[.nilIface, .bool false]) w := run_typeAssert_lacksB Tryd.underlying103 (by kernel_rfl) (by kernel_rfl) v xT w
theorem no_is_F (v : Value) (xT : TypeId) (w : World) : (Instr.typeAssert (.iface 69 v) xT 105 true).run Tryd.prog w = .ok (.tuple #[.nilIface, .bool false]) w := run_typeAssert_lacksB Tryd.underlying105 (by kernel_rfl) (by kernel_rfl) v xT w
theorem has_unwrap_F (v : Value) (xT : TypeId) (w : World) : (Instr.typeAssert (.iface 69 v) xT 101 true).run Tryd.prog w = .ok (.tuple #[.iface 69 v, .bool true]) w := run_typeAssert_hasB Tryd.underlying101 (by kernel_rfl) v xT w
theorem method_unwrap_F (v : Value) (w : World) : (Go.method 247 69 v "Unwrap").run Tryd.prog w = .ok (70, v) w := by kernel_rfl

set_option maxHeartbeats 1000000 in
theorem is_same (a : Addr) (w : World) :
    Calls Tryd.prog 39 #[.iface 108 (.pointer (some a)), .iface 108 (.pointer (some a))] w fun e w' => e = .returned (.bool true) ∧ w' = w := by
  obtain ⟨i, hi, hcmp⟩ := Option.map_eq_some_iff.1 is_comp
  obtain ⟨j, hj, hjs⟩ := Option.map_eq_some_iff.1 is_size
  have h8 := @run_callFunc_extern Tryd.prog 47 _ Extern.ReflectliteType.typeOf Tryd.func47 (by kernel_rfl) (by kernel_rfl) (by kernel_rfl) (by kernel_rfl)
  have h32 := @run_callFunc_extern Tryd.prog 76 _ (Extern.ReflectliteType.method compExt) Tryd.func76 (by kernel_rfl) (by kernel_rfl) (by kernel_rfl) (by kernel_rfl)
  have tT := is_typeOf
  have cT := is_comparable
  have mR := is_methodComparable
  have heq := run_eql_iface_ptr_same (P := Tryd.prog) w a Tryd.underlying29 Tryd.underlying108 hi hcmp hj
  clear hi hcmp hj hjs
  go_enter Tryd.func39, Tryd.ntmps39
  go_wp2
  refine wp_loop_rounds 1 ?_
  rw [rounds_succ]
  go_wp2
  go_ret
  exact ⟨rfl, rfl⟩

set_option maxHeartbeats 1000000 in
theorem is_other (a b : Addr) (ca cb : Array Value) (ta tb : TypeId) (w : World) (hne : a ≠ b) (ha : w.heap[a.block]? = some (.cells ca ta (0, 0))) (hb : w.heap[b.block]? = some (.cells cb tb (0, 0))) :
    Calls Tryd.prog 39 #[.iface 108 (.pointer (some a)), .iface 108 (.pointer (some b))] w fun e w' => e = .returned (.bool false) ∧ w' = w := by
  obtain ⟨i, hi, hcmp⟩ := Option.map_eq_some_iff.1 is_comp
  obtain ⟨j, hj, hjs⟩ := Option.map_eq_some_iff.1 is_size
  have h8 := @run_callFunc_extern Tryd.prog 47 _ Extern.ReflectliteType.typeOf Tryd.func47 (by kernel_rfl) (by kernel_rfl) (by kernel_rfl) (by kernel_rfl)
  have h32 := @run_callFunc_extern Tryd.prog 76 _ (Extern.ReflectliteType.method compExt) Tryd.func76 (by kernel_rfl) (by kernel_rfl) (by kernel_rfl) (by kernel_rfl)
  have tT := is_typeOf
  have cT := is_comparable
  have mR := is_methodComparable
  have nE := no_is_E
  have uE := no_unwrap_E
  have vE := no_unwraps_E
  have heq := run_eql_iface_ptr_other (P := Tryd.prog) w Tryd.underlying29 Tryd.underlying108 hi hcmp hj (by rw [hjs]; decide) hne ha hb
  clear hi hcmp hj hjs
  go_enter Tryd.func39, Tryd.ntmps39
  go_wp2
  refine wp_loop_rounds 1 ?_
  rw [rounds_succ]
  go_wp2
  go_ret
  exact ⟨rfl, rfl⟩

/-- errors.Is between sentinels -/
theorem is_sent {S : List Nat} (w : World) (a : Nat → Addr) (h : Sent S w a) (c d : Nat) (hc : c ∈ S) (hd : d ∈ S) :
    Calls Tryd.prog 39 #[.iface 108 (.pointer (some (a c))), .iface 108 (.pointer (some (a d)))] w fun e w' => e = .returned (.bool (decide (c = d))) ∧ w' = w := by
  by_cases e : c = d
  · subst e
    rw [decide_eq_true rfl]
    exact is_same (a c) w
  · rw [decide_eq_false e]
    obtain ⟨ca, ta, ha⟩ := h.blk c hc
    obtain ⟨cb, tb, hb⟩ := h.blk d hd
    exact is_other (a c) (a d) ca cb ta tb w (fun x => e (h.inj c hc d hd x)) ha hb

set_option maxHeartbeats 1000000 in
theorem is_fault_same (pb po : Nat) (b : Addr) (w : World) (h1 : w.cell? ⟨pb, po + 1, none⟩ = some (.iface 108 (.pointer (some b)))) :
    Calls Tryd.prog 39 #[.iface 69 (.pointer (some ⟨pb, po, none⟩)), .iface 108 (.pointer (some b))] w fun e w' => e = .returned (.bool true) ∧ w' = w := by
  obtain ⟨i, hi, hcmp⟩ := Option.map_eq_some_iff.1 is_comp
  obtain ⟨j, hj, hjs⟩ := Option.map_eq_some_iff.1 is_size
  have h8 := @run_callFunc_extern Tryd.prog 47 _ Extern.ReflectliteType.typeOf Tryd.func47 (by kernel_rfl) (by kernel_rfl) (by kernel_rfl) (by kernel_rfl)
  have h32 := @run_callFunc_extern Tryd.prog 76 _ (Extern.ReflectliteType.method compExt) Tryd.func76 (by kernel_rfl) (by kernel_rfl) (by kernel_rfl) (by kernel_rfl)
  have tT := is_typeOf
  have cT := is_comparable
  have mR := is_methodComparable
  have nE := no_is_E
  have uE := no_unwrap_E
  have vE := no_unwraps_E
  have nW := no_is_F
  have uW := has_unwrap_F
  have mU := method_unwrap_F
  have heq := run_eql_iface_ptr_same (P := Tryd.prog) w b Tryd.underlying29 Tryd.underlying108 hi hcmp hj
  have hty := run_eql_iface_types (P := Tryd.prog) 69 108 (.pointer (some ⟨pb, po, none⟩)) (.pointer (some b)) Tryd.underlying29 (by decide) w
  clear hi hcmp hj hjs
  go_enter Tryd.func39, Tryd.ntmps39
  go_wp2
  refine wp_loop_rounds 2 ?_
  rw [rounds_succ]
  go_wp2
  rw [rounds_succ]
  go_wp2
  go_ret
  exact ⟨rfl, rfl⟩

set_option maxHeartbeats 1000000 in
theorem is_fault_other (pb po : Nat) (b a : Addr) (ca cb : Array Value) (ta tb : TypeId) (w : World) (h1 : w.cell? ⟨pb, po + 1, none⟩ = some (.iface 108 (.pointer (some a)))) (hne : a ≠ b) (ha : w.heap[a.block]? = some (.cells ca ta (0, 0))) (hb : w.heap[b.block]? = some (.cells cb tb (0, 0))) :
    Calls Tryd.prog 39 #[.iface 69 (.pointer (some ⟨pb, po, none⟩)), .iface 108 (.pointer (some b))] w fun e w' => e = .returned (.bool false) ∧ w' = w := by
  obtain ⟨i, hi, hcmp⟩ := Option.map_eq_some_iff.1 is_comp
  obtain ⟨j, hj, hjs⟩ := Option.map_eq_some_iff.1 is_size
  have h8 := @run_callFunc_extern Tryd.prog 47 _ Extern.ReflectliteType.typeOf Tryd.func47 (by kernel_rfl) (by kernel_rfl) (by kernel_rfl) (by kernel_rfl)
  have h32 := @run_callFunc_extern Tryd.prog 76 _ (Extern.ReflectliteType.method compExt) Tryd.func76 (by kernel_rfl) (by kernel_rfl) (by kernel_rfl) (by kernel_rfl)
  have tT := is_typeOf
  have cT := is_comparable
  have mR := is_methodComparable
  have nE := no_is_E
  have uE := no_unwrap_E
  have vE := no_unwraps_E
  have nW := no_is_F
  have uW := has_unwrap_F
  have mU := method_unwrap_F
  have heq := run_eql_iface_ptr_other (P := Tryd.prog) w Tryd.underlying29 Tryd.underlying108 hi hcmp hj (by rw [hjs]; decide) hne ha hb
  have hty := run_eql_iface_types (P := Tryd.prog) 69 108 (.pointer (some ⟨pb, po, none⟩)) (.pointer (some b)) Tryd.underlying29 (by decide) w
  clear hi hcmp hj hjs
  go_enter Tryd.func39, Tryd.ntmps39
  go_wp2
  refine wp_loop_rounds 2 ?_
  rw [rounds_succ]
  go_wp2
  rw [rounds_succ]
  go_wp2
  go_ret
  exact ⟨rfl, rfl⟩

/-- errors.Is of a fault whose error is a sentinel -/
theorem is_fault {S : List Nat} (w : World) (a : Nat → Addr) (h : Sent S w a) (pb po : Nat) (c d : Nat) (hc : c ∈ S) (hd : d ∈ S) (h1 : w.cell? ⟨pb, po + 1, none⟩ = some (.iface 108 (.pointer (some (a c))))) :
    Calls Tryd.prog 39 #[.iface 69 (.pointer (some ⟨pb, po, none⟩)), .iface 108 (.pointer (some (a d)))] w fun e w' => e = .returned (.bool (decide (c = d))) ∧ w' = w := by
  by_cases e : c = d
  · subst e
    rw [decide_eq_true rfl]
    exact is_fault_same pb po (a c) w h1
  · rw [decide_eq_false e]
    obtain ⟨ca, ta, ha⟩ := h.blk c hc
    obtain ⟨cb, tb, hb⟩ := h.blk d hd
    exact is_fault_other pb po (a d) (a c) ca cb ta tb w h1 (fun x => e (h.inj c hc d hd x)) ha hb
end Go.Proofs.YtehheklbibocjaaDoor

/- The walks of errors.As with a target of the type **api.Fault: at a sentinel it is false, at a fault true (after the kit's worked Toyas). Condition: the handle of the type error is laid. -/
namespace Go.Proofs.YtehheklbibocjaaDoor
open Go.RowKit Go.Deep Go.Extern.Stop Go.Stop Go.Extern

/-! ### closed facts on the model's entries for internal/reflectlite, at this program's types -/
def kindExt : TypeId → Sem Value := fun t => do pure (.int .u8 (← Rtype.kind t))
def vTypeExt : TypeId → Addr → Nat → Nat → Sem Value := fun t _ _ _ => ReflectliteType.toType t
def unpackExt : Array Value → Sem Value := fun args => ReflectliteValue.unpack (args.getD 0 (.tuple #[]))
theorem as_valueOfT (t : Addr) (w : World) : (unpackExt #[.iface 71 (.pointer (some t))]).run Tryd.prog w
    = .ok (.agg #[.pointer (some ⟨9, 71, none⟩), .pointer (some ⟨w.heap.size, 0, none⟩), .int .u64 150]) (w.alloc (.cells #[.pointer (some t)] 71)) := by kernel_rfl
theorem as_typeT (a : Addr) (w : World) : (ReflectliteValue.methodAny (ReflectliteValue.valueError "reflectlite.Value.Type" 0) vTypeExt #[.agg #[.pointer (some ⟨9, 71, none⟩), .pointer (some a), .int .u64 150]]).run Tryd.prog w
    = .ok (.iface 94 (.agg #[.pointer (some ⟨9, 71, none⟩)])) w := by kernel_rfl
theorem as_methodKind (h : Value) (w : World) : (Go.method 247 94 (.agg #[h]) "Kind").run Tryd.prog w = .ok (66, h) w := by kernel_rfl
theorem as_kindT (w : World) : (ReflectliteType.abiMethod kindExt #[.pointer (some ⟨9, 71, none⟩)]).run Tryd.prog w = .ok (.int .u8 22) w := by kernel_rfl
theorem as_kindF (w : World) : (ReflectliteType.abiMethod kindExt #[.pointer (some ⟨9, 69, none⟩)]).run Tryd.prog w = .ok (.int .u8 22) w := by kernel_rfl
theorem rlm (z : Sem Value) (f : TypeId → Addr → Nat → Nat → Sem Value) (v : Value) :
    ReflectliteValue.method z f #[v] = (do match ← ReflectliteValue.parts v with | none => z | some (t, a, fl) => f t a fl (fl % 32)) := rfl
theorem as_partsT (a : Addr) (w : World) : (ReflectliteValue.parts (.agg #[.pointer (some ⟨9, 71, none⟩), .pointer (some a), .int .u64 150])).run Tryd.prog w = .ok (some (71, a, 150)) w := by kernel_rfl
theorem as_isNilT (a p : Addr) (W : World) (ha : W.cell? a = some (.pointer (some p))) :
    (ReflectliteValue.method (ReflectliteValue.valueError "reflectlite.Value.IsNil" 0) ReflectliteValue.isNil #[.agg #[.pointer (some ⟨9, 71, none⟩), .pointer (some a), .int .u64 150]]).run Tryd.prog W = .ok (.bool false) W := by
  rw [rlm]
  simp only [Sem.run_bind, as_partsT, Result.andThen]
  simp [ReflectliteValue.isNil, loadVar, isAgg, underlying, Tryd.underlying71, ha, Result.andThen]
theorem as_methodElem (h : Value) (w : World) : (Go.method 247 94 (.agg #[h]) "Elem").run Tryd.prog w = .ok (77, .agg #[h]) w := by kernel_rfl
theorem as_methodImplements (h : Value) (w : World) : (Go.method 247 94 (.agg #[h]) "Implements").run Tryd.prog w = .ok (78, .agg #[h]) w := by kernel_rfl
theorem as_methodAssignableTo (h : Value) (w : World) : (Go.method 247 94 (.agg #[h]) "AssignableTo").run Tryd.prog w = .ok (75, .agg #[h]) w := by kernel_rfl
theorem as_elemT (w : World) : (ReflectliteType.method ReflectliteType.elem #[.agg #[.pointer (some ⟨9, 71, none⟩)]]).run Tryd.prog w = .ok (.iface 94 (.agg #[.pointer (some ⟨9, 69, none⟩)])) w := by kernel_rfl
theorem as_implementsF (w : World) : (ReflectliteType.relation "Implements" ReflectliteType.implements_ #[.agg #[.pointer (some ⟨9, 69, none⟩)], .iface 94 (.agg #[.pointer (some ⟨9, 29, none⟩)])]).run Tryd.prog w = .ok (.bool true) w := by kernel_rfl
theorem as_typeOfF (v : Value) (w : World) : (ReflectliteType.typeOf #[.iface 69 v]).run Tryd.prog w = .ok (.iface 94 (.agg #[.pointer (some ⟨9, 69, none⟩)])) w := by kernel_rfl
theorem as_assignF (w : World) : (ReflectliteType.relation "AssignableTo" ReflectliteType.assignableTo #[.agg #[.pointer (some ⟨9, 69, none⟩)], .iface 94 (.agg #[.pointer (some ⟨9, 69, none⟩)])]).run Tryd.prog w = .ok (.bool true) w := by kernel_rfl
theorem as_assignE (w : World) : (ReflectliteType.relation "AssignableTo" ReflectliteType.assignableTo #[.agg #[.pointer (some ⟨9, 108, none⟩)], .iface 94 (.agg #[.pointer (some ⟨9, 69, none⟩)])]).run Tryd.prog w = .ok (.bool false) w := by kernel_rfl
theorem as_valueOfF (e : Addr) (w : World) : (unpackExt #[.iface 69 (.pointer (some e))]).run Tryd.prog w
    = .ok (.agg #[.pointer (some ⟨9, 69, none⟩), .pointer (some ⟨w.heap.size, 0, none⟩), .int .u64 150]) (w.alloc (.cells #[.pointer (some e)] 69)) := by kernel_rfl
theorem as_elemOfT (w : World) : (Rtype.elem? 71).run Tryd.prog w = .ok (some 69) w := by kernel_rfl
theorem as_mkF (p : Addr) (w : World) : (ReflectliteValue.mk 69 p ReflectliteValue.flagAddr).run Tryd.prog w = .ok (.agg #[.pointer (some ⟨9, 69, none⟩), .pointer (some p), .int .u64 406]) w := by kernel_rfl
theorem as_elemVT (a p : Addr) (W : World) (ha : W.cell? a = some (.pointer (some p))) :
    (ReflectliteValue.method (ReflectliteValue.valueError "reflectlite.Value.Elem" 0) ReflectliteValue.elem #[.agg #[.pointer (some ⟨9, 71, none⟩), .pointer (some a), .int .u64 150]]).run Tryd.prog W
      = .ok (.agg #[.pointer (some ⟨9, 69, none⟩), .pointer (some p), .int .u64 406]) W := by
  rw [rlm]
  simp only [Sem.run_bind, as_partsT, Result.andThen]
  simp [ReflectliteValue.elem, loadVar, isAgg, underlying, Tryd.underlying71, ha, Result.andThen, as_elemOfT, as_mkF]
theorem rls (v x : Value) : ReflectliteValue.set #[v, x] = (do
    let (some (dst, a, fl), some (src, b, _)) := (← ReflectliteValue.parts v, ← ReflectliteValue.parts x)
      | unsupported (.noEntry "extern/(internal/reflectlite.Value).Set.zeroValue")
    if fl / ReflectliteValue.flagAddr % 2 == 0 then unsupported (.noEntry "extern/(internal/reflectlite.Value).Set.unaddressable")
    let val ← loadVar src b
    if ← Rtype.directlyAssignable dst src then storeVar dst a val
    else if ← Rtype.implements dst src then
      if (← Rtype.kind src) == 20 then
        match val with
        | .nilIface => unsupported (.noEntry "extern/reflectlite: a nil value of one interface type handed on as a value of another")
        | _ => storeVar dst a val
      else storeVar dst a (.iface src val)
    else panicString ("reflectlite.Set: value of type " ++ (← Rtype.spelt src) ++ " is not assignable to type " ++ (← Rtype.spelt dst))
    pure (.tuple #[])) := rfl
theorem as_partsFa (a : Addr) (w : World) : (ReflectliteValue.parts (.agg #[.pointer (some ⟨9, 69, none⟩), .pointer (some a), .int .u64 406])).run Tryd.prog w = .ok (some (69, a, 406)) w := by kernel_rfl
theorem as_partsF (a : Addr) (w : World) : (ReflectliteValue.parts (.agg #[.pointer (some ⟨9, 69, none⟩), .pointer (some a), .int .u64 150])).run Tryd.prog w = .ok (some (69, a, 150)) w := by kernel_rfl
theorem as_directF (w : World) : (Rtype.directlyAssignable 69 69).run Tryd.prog w = .ok true w := by kernel_rfl
theorem as_setF (ta b e : Addr) (old : Value) (W : World) (hb : W.cell? b = some (.pointer (some e))) (ht : W.cell? ta = some old) (hf : W.frozen? ta = false) :
    (ReflectliteValue.set #[.agg #[.pointer (some ⟨9, 69, none⟩), .pointer (some ta), .int .u64 406], .agg #[.pointer (some ⟨9, 69, none⟩), .pointer (some b), .int .u64 150]]).run Tryd.prog W
      = .ok (.tuple #[]) (W.setCell ta (.pointer (some e))) := by
  rw [rls]
  simp only [Sem.run_bind, as_partsFa, as_partsF, Result.andThen]
  simp [ReflectliteValue.flagAddr, loadVar, isAgg, underlying, Tryd.underlying69, hb, Result.andThen, as_directF, storeVar, Value.cells, storeCells, Addr.add]
  rw [run_store Tryd.prog W ta _ _ (by rfl)]
  simp [ht, hf]

theorem no_as_E (v : Value) (xT : TypeId) (w : World) : (Instr.typeAssert (.iface 108 v) xT 98 true).run Tryd.prog w = .ok (.tuple #[.nilIface, .bool false]) w := run_typeAssert_lacksB Tryd.underlying98 (by kernel_rfl) (by kernel_rfl) v xT w

set_option maxHeartbeats 4000000 in
/-- errors.As at a sentinel: false; what was there is as it was -/
theorem as_sent (e t : Addr) (w : World) (hg : Handle w) :
    Calls Tryd.prog 38 #[.iface 108 (.pointer (some e)), .iface 71 (.pointer (some t))] w fun ev w' => ev = .returned (.bool false) ∧ Below w.heap.size w w' := by
  have h6 := @run_callFunc_extern Tryd.prog 43 _ unpackExt Tryd.func43 (by kernel_rfl) (by kernel_rfl) (by kernel_rfl) (by kernel_rfl)
  have h7 := @run_callFunc_extern Tryd.prog 44 _ (ReflectliteValue.methodAny (ReflectliteValue.valueError "reflectlite.Value.Type" 0) vTypeExt) Tryd.func44 (by kernel_rfl) (by kernel_rfl) (by kernel_rfl) (by kernel_rfl)
  have h8 := @run_callFunc_extern Tryd.prog 45 _ (ReflectliteValue.method (ReflectliteValue.valueError "reflectlite.Value.IsNil" 0) ReflectliteValue.isNil) Tryd.func45 (by kernel_rfl) (by kernel_rfl) (by kernel_rfl) (by kernel_rfl)
  have h27 := @run_callFunc_extern Tryd.prog 66 _ (ReflectliteType.abiMethod kindExt) Tryd.func66 (by kernel_rfl) (by kernel_rfl) (by kernel_rfl) (by kernel_rfl)
  have h37 := @run_callFunc_extern Tryd.prog 77 _ (ReflectliteType.method ReflectliteType.elem) Tryd.func77 (by kernel_rfl) (by kernel_rfl) (by kernel_rfl) (by kernel_rfl)
  have h38 := @run_callFunc_extern Tryd.prog 78 _ (ReflectliteType.relation "Implements" ReflectliteType.implements_) Tryd.func78 (by kernel_rfl) (by kernel_rfl) (by kernel_rfl) (by kernel_rfl)
  have h10 := @run_callFunc_extern Tryd.prog 47 _ ReflectliteType.typeOf Tryd.func47 (by kernel_rfl) (by kernel_rfl) (by kernel_rfl) (by kernel_rfl)
  have h35 := @run_callFunc_extern Tryd.prog 75 _ (ReflectliteType.relation "AssignableTo" ReflectliteType.assignableTo) Tryd.func75 (by kernel_rfl) (by kernel_rfl) (by kernel_rfl) (by kernel_rfl)
  have tO := is_typeOf
  have mA := as_methodAssignableTo
  have aE := as_assignE
  have f6 := as_valueOfT
  have f7 := as_typeT
  have mK := as_methodKind
  have mE := as_methodElem
  have mI := as_methodImplements
  have kT := as_kindT
  have kF := as_kindF
  have eT := as_elemT
  have iF := as_implementsF
  have nA := no_as_E
  have uE := no_unwrap_E
  have vE := no_unwraps_E
  have n8 := as_isNilT ⟨w.heap.size, 0, none⟩ t ((w.alloc (.cells #[.pointer (some t)] 71)).alloc (.cells #[.pointer (some ⟨9, 71, none⟩), .pointer (some ⟨w.heap.size, 0, none⟩), .int .u64 150] 81)) (by simp)
  have hlt : 8 < w.heap.size := World.block_lt_of_cell? w _ hg
  have hg2 : ((w.alloc (.cells #[.pointer (some t)] 71)).alloc (.cells #[.pointer (some ⟨9, 71, none⟩), .pointer (some ⟨w.heap.size, 0, none⟩), .int .u64 150] 81)).cell? ⟨8, 0, none⟩ = some (.iface 94 (.agg #[.pointer (some ⟨9, 29, none⟩)])) := by
    rw [World.cell?_alloc_lt _ _ ⟨8, 0, none⟩ (by simp; omega), World.cell?_alloc_lt _ _ ⟨8, 0, none⟩ hlt]; exact hg
  go_enter Tryd.func38, Tryd.ntmps38
  go_wp2
  refine wp_loop_rounds 1 ?_
  rw [rounds_succ]
  go_wp2
  go_ret
  exact ⟨rfl, below_alloc' (below_alloc' (below_alloc' (Below.refl _ _) _) _) _⟩

set_option maxHeartbeats 4000000 in
/-- errors.As at a fault: true; the target points to it -/
theorem as_fault (e t : Addr) (old : Value) (w : World) (hg : Handle w) (ht0 : w.cell? t = some old) (hf0 : w.frozen? t = false) :
    Calls Tryd.prog 38 #[.iface 69 (.pointer (some e)), .iface 71 (.pointer (some t))] w fun ev w' => ev = .returned (.bool true) ∧ w' = ((((w.alloc (.cells #[.pointer (some t)] 71)).alloc (.cells #[.pointer (some ⟨9, 71, none⟩), .pointer (some ⟨w.heap.size, 0, none⟩), .int .u64 150] 81)).alloc (.cells #[.pointer (some ⟨9, 71, none⟩), .pointer (some ⟨w.heap.size, 0, none⟩), .int .u64 150] 81)).alloc (.cells #[.pointer (some e)] 69)).setCell t (.pointer (some e)) := by
  have h6 := @run_callFunc_extern Tryd.prog 43 _ unpackExt Tryd.func43 (by kernel_rfl) (by kernel_rfl) (by kernel_rfl) (by kernel_rfl)
  have h7 := @run_callFunc_extern Tryd.prog 44 _ (ReflectliteValue.methodAny (ReflectliteValue.valueError "reflectlite.Value.Type" 0) vTypeExt) Tryd.func44 (by kernel_rfl) (by kernel_rfl) (by kernel_rfl) (by kernel_rfl)
  have h8 := @run_callFunc_extern Tryd.prog 45 _ (ReflectliteValue.method (ReflectliteValue.valueError "reflectlite.Value.IsNil" 0) ReflectliteValue.isNil) Tryd.func45 (by kernel_rfl) (by kernel_rfl) (by kernel_rfl) (by kernel_rfl)
  have h27 := @run_callFunc_extern Tryd.prog 66 _ (ReflectliteType.abiMethod kindExt) Tryd.func66 (by kernel_rfl) (by kernel_rfl) (by kernel_rfl) (by kernel_rfl)
  have h37 := @run_callFunc_extern Tryd.prog 77 _ (ReflectliteType.method ReflectliteType.elem) Tryd.func77 (by kernel_rfl) (by kernel_rfl) (by kernel_rfl) (by kernel_rfl)
  have h38 := @run_callFunc_extern Tryd.prog 78 _ (ReflectliteType.relation "Implements" ReflectliteType.implements_) Tryd.func78 (by kernel_rfl) (by kernel_rfl) (by kernel_rfl) (by kernel_rfl)
  have h10 := @run_callFunc_extern Tryd.prog 47 _ ReflectliteType.typeOf Tryd.func47 (by kernel_rfl) (by kernel_rfl) (by kernel_rfl) (by kernel_rfl)
  have h35 := @run_callFunc_extern Tryd.prog 75 _ (ReflectliteType.relation "AssignableTo" ReflectliteType.assignableTo) Tryd.func75 (by kernel_rfl) (by kernel_rfl) (by kernel_rfl) (by kernel_rfl)
  have h11 := @run_callFunc_extern Tryd.prog 50 _ (ReflectliteValue.method (ReflectliteValue.valueError "reflectlite.Value.Elem" 0) ReflectliteValue.elem) Tryd.func50 (by kernel_rfl) (by kernel_rfl) (by kernel_rfl) (by kernel_rfl)
  have h12 := @run_callFunc_extern Tryd.prog 51 _ ReflectliteValue.set Tryd.func51 (by kernel_rfl) (by kernel_rfl) (by kernel_rfl) (by kernel_rfl)
  have tO := as_typeOfF
  have mA := as_methodAssignableTo
  have aE := as_assignF
  have vF := as_valueOfF
  have f6 := as_valueOfT
  have f7 := as_typeT
  have mK := as_methodKind
  have mE := as_methodElem
  have mI := as_methodImplements
  have kT := as_kindT
  have kF := as_kindF
  have eT := as_elemT
  have iF := as_implementsF
  have n8 := as_isNilT ⟨w.heap.size, 0, none⟩ t ((w.alloc (.cells #[.pointer (some t)] 71)).alloc (.cells #[.pointer (some ⟨9, 71, none⟩), .pointer (some ⟨w.heap.size, 0, none⟩), .int .u64 150] 81)) (by simp)
  have hlt : 8 < w.heap.size := World.block_lt_of_cell? w _ hg
  have hg2 : ((w.alloc (.cells #[.pointer (some t)] 71)).alloc (.cells #[.pointer (some ⟨9, 71, none⟩), .pointer (some ⟨w.heap.size, 0, none⟩), .int .u64 150] 81)).cell? ⟨8, 0, none⟩ = some (.iface 94 (.agg #[.pointer (some ⟨9, 29, none⟩)])) := by
    rw [World.cell?_alloc_lt _ _ ⟨8, 0, none⟩ (by simp; omega), World.cell?_alloc_lt _ _ ⟨8, 0, none⟩ hlt]; exact hg
  have htl : t.block < w.heap.size := World.block_lt_of_cell? w _ ht0
  have el := as_elemVT ⟨w.heap.size, 0, none⟩ t (((w.alloc (.cells #[.pointer (some t)] 71)).alloc (.cells #[.pointer (some ⟨9, 71, none⟩), .pointer (some ⟨w.heap.size, 0, none⟩), .int .u64 150] 81)).alloc (.cells #[.pointer (some ⟨9, 71, none⟩), .pointer (some ⟨w.heap.size, 0, none⟩), .int .u64 150] 81)) (by rw [World.cell?_alloc_lt _ _ ⟨w.heap.size, 0, none⟩ (by simp; omega)]; simp)
  have st := as_setF t ⟨w.heap.size + 1 + 1 + 1, 0, none⟩ e old ((((w.alloc (.cells #[.pointer (some t)] 71)).alloc (.cells #[.pointer (some ⟨9, 71, none⟩), .pointer (some ⟨w.heap.size, 0, none⟩), .int .u64 150] 81)).alloc (.cells #[.pointer (some ⟨9, 71, none⟩), .pointer (some ⟨w.heap.size, 0, none⟩), .int .u64 150] 81)).alloc (.cells #[.pointer (some e)] 69))
    (by rw [World.cell?_alloc_at _ _ _ _ (by simp)]; rfl)
    (by rw [World.cell?_alloc_lt _ _ t (by simp; omega), World.cell?_alloc_lt _ _ t (by simp; omega), World.cell?_alloc_lt _ _ t (by simp; omega), World.cell?_alloc_lt _ _ t htl]; exact ht0)
    (by rw [World.frozen?_alloc_old _ _ t (by simp; omega), World.frozen?_alloc_old _ _ t (by simp; omega), World.frozen?_alloc_old _ _ t (by simp; omega), World.frozen?_alloc_old _ _ t (Nat.ne_of_lt htl)]; exact hf0)
  go_enter Tryd.func38, Tryd.ntmps38
  go_wp2
  refine wp_loop_rounds 1 ?_
  rw [rounds_succ]
  go_wp2
  go_ret
  exact ⟨rfl, rfl⟩
end Go.Proofs.YtehheklbibocjaaDoor

/- The walks of plain.Code and coded. Condition: the variables read as laid. -/
namespace Go.Proofs.YtehheklbibocjaaDoor
open Go.RowKit Go.Deep

def codes : List Nat := [1, 2, 3, 4, 5, 6, 7, 8]
theorem mem_codes {c : Nat} (h1 : 1 ≤ c) (h8 : c ≤ 8) : c ∈ codes := by
  unfold codes
  simp
  omega

theorem code_nil (w : World) : Calls Tryd.prog 30 #[.nilIface] w fun e w' => e = .returned (.tuple #[.int .i64 0, .int .i64 (-1)]) ∧ w = w' := by
  go_enter Tryd.func30, Tryd.ntmps30
  go_wp2
  go_ret2
  exact ⟨rfl, rfl⟩

set_option maxHeartbeats 4000000 in
theorem code_sent (w : World) (a : Nat → Addr) (hS : Sent codes w a) (hH : Handle w) (c : Nat) (h1 : 1 ≤ c) (h8 : c ≤ 8) :
    Calls Tryd.prog 30 #[.iface 108 (.pointer (some (a c)))] w fun e w' => e = .returned (.tuple #[.int .i64 c, .int .i64 (-1)]) ∧ Below w.heap.size w w' := by
  have has := as_sent (a c) ⟨w.heap.size, 0, none⟩ (w.alloc (.cells #[.pointer none] 69)) (hH.below (below_alloc' (Below.refl _ _) _))
  have HAS := hide has
  clear has
  have hn := fun X => run_eql_iface_nil_left (P := Tryd.prog) X 108 (.pointer (some (a c))) Tryd.underlying29
  go_enter Tryd.func30, Tryd.ntmps30
  go_wp2_with
    (go_at_call 38
     refine HAS.out.mono ?_
     rintro e w1 ⟨rfl, hb1⟩
     have hS1 := hS.below (below_trans (below_alloc' (Below.refl _ _) (.cells #[.pointer none] 69)) hb1)
     have e1 := hS1.cell 1 (by decide)
     have e2 := hS1.cell 2 (by decide)
     have e3 := hS1.cell 3 (by decide)
     have e4 := hS1.cell 4 (by decide)
     have e5 := hS1.cell 5 (by decide)
     have e6 := hS1.cell 6 (by decide)
     have e7 := hS1.cell 7 (by decide)
     have e8 := hS1.cell 8 (by decide)
     simp only [glob] at e1 e2 e3 e4 e5 e6 e7 e8)
  clear e1 e2 e3 e4 e5 e6 e7 e8
  have hB0 : Below w.heap.size w w1 := below_trans (below_alloc' (Below.refl _ _) (.cells #[.pointer none] 69)) hb1
  clear hb1
  go_loopw [3, 26] (fun at3 i wr => ∃ k : Nat, k < c ∧ i = .int .i64 k ∧ at3 = .int .i64 (-1) ∧ Below (w1.heap.size + 1) (w1.alloc (.cells #[.iface 108 (.pointer (some (a 1))), .iface 108 (.pointer (some (a 2))), .iface 108 (.pointer (some (a 3))), .iface 108 (.pointer (some (a 4))), .iface 108 (.pointer (some (a 5))), .iface 108 (.pointer (some (a 6))), .iface 108 (.pointer (some (a 7))), .iface 108 (.pointer (some (a 8)))] 29)) wr) (fun _ i _ => 8 - (intOf i).toNat)
  case atStart => exact ⟨0, by omega, rfl, rfl, Below.refl _ _⟩
  case round =>
    obtain ⟨k, hk, rfl, rfl, hB⟩ := hrel
    have hcell : wr.cell? ⟨w1.heap.size, k, none⟩ = some (.iface 108 (.pointer (some (a (k + 1))))) := by
      rw [hB.cell (p := ⟨w1.heap.size, k, none⟩) (by show w1.heap.size < _; omega), World.cell?_alloc_at _ _ _ _ rfl]
      have hk8 : k < 8 := by omega
      clear hk hB
      match k, hk8 with
      | 0, _ => rfl
      | 1, _ => rfl
      | 2, _ => rfl
      | 3, _ => rfl
      | 4, _ => rfl
      | 5, _ => rfl
      | 6, _ => rfl
      | 7, _ => rfl
    have hSr : Sent codes wr a := hS.below (below_trans (below_alloc' hB0 _) (hB.mono (by simp)))
    have his := is_sent wr a hSr c (k + 1) (mem_codes h1 h8) (mem_codes (by omega) (by omega))
    by_cases e : c = k + 1
    · rw [decide_eq_true e] at his
      have HIS := hide his
      clear his
      have HE := hide e
      clear e
      go_wp2_with (go_at_call 39; refine HIS.out.mono ?_; rintro e w2 ⟨rfl, rfl⟩)
      go_ret2
      refine ⟨?_, ?_⟩
      · have := HE.out
        subst this
        rfl
      · exact (below_alloc' hB0 _).trans (hB.mono (by have := hB0.size; omega))
    · rw [decide_eq_false e] at his
      have HIS := hide his
      clear his
      have hk2 : k + 1 < c := by omega
      clear e
      go_wp2_with (go_at_call 39; refine HIS.out.mono ?_; rintro e w2 ⟨rfl, rfl⟩)
      go_roundw
      case rel => exact ⟨k + 1, hk2, by go_num, rfl, hB⟩
      case measure => simp [intOf]; omega

set_option maxHeartbeats 4000000 in
theorem code_fault (w : World) (a : Nat → Addr) (hS : Sent codes w a) (hH : Handle w) (c : Nat) (h1 : 1 ≤ c) (h8 : c ≤ 8) (pb po : Nat) (at_ : Int) (hpb : pb < w.heap.size) (hat : w.cell? ⟨pb, po, none⟩ = some (.int .i64 at_)) (herr : w.cell? ⟨pb, po + 1, none⟩ = some (.iface 108 (.pointer (some (a c))))) :
    Calls Tryd.prog 30 #[.iface 69 (.pointer (some ⟨pb, po, none⟩))] w fun e w' => e = .returned (.tuple #[.int .i64 c, .int .i64 at_]) ∧ Below w.heap.size w w' := by
  have has := as_fault ⟨pb, po, none⟩ ⟨w.heap.size, 0, none⟩ (.pointer none) (w.alloc (.cells #[.pointer none] 69)) (hH.below (below_alloc' (Below.refl _ _) _)) (by simp) (by simp)
  have HAS := hide has
  clear has
  have hn := fun X => run_eql_iface_nil_left (P := Tryd.prog) X 69 (.pointer (some ⟨pb, po, none⟩)) Tryd.underlying29
  go_enter Tryd.func30, Tryd.ntmps30
  go_wp2_with
    (go_at_call 38
     refine HAS.out.mono ?_
     rintro e w1 ⟨rfl, hw1⟩
     have hB0 : Below w.heap.size w w1 := by
       rw [hw1]
       refine Below.setCell ?_ (by simp) _
       exact below_alloc' (below_alloc' (below_alloc' (below_alloc' (below_alloc' (Below.refl _ _) _) _) _) _) _
     have hf1 : w1.cell? ⟨w.heap.size, 0, none⟩ = some (.pointer (some ⟨pb, po, none⟩)) := by
       rw [hw1, World.cell?_setCell_same (u := .pointer none)]
       rw [World.cell?_alloc_lt _ _ ⟨w.heap.size, 0, none⟩ (by simp; omega), World.cell?_alloc_lt _ _ ⟨w.heap.size, 0, none⟩ (by simp; omega), World.cell?_alloc_lt _ _ ⟨w.heap.size, 0, none⟩ (by simp; omega), World.cell?_alloc_lt _ _ ⟨w.heap.size, 0, none⟩ (by simp)]
       simp
     clear hw1
     have hat1 : w1.cell? ⟨pb, po, none⟩ = some (.int .i64 at_) := (hB0.cell (p := ⟨pb, po, none⟩) hpb).trans hat
     have hS1 := hS.below hB0
     have e1 := hS1.cell 1 (by decide)
     have e2 := hS1.cell 2 (by decide)
     have e3 := hS1.cell 3 (by decide)
     have e4 := hS1.cell 4 (by decide)
     have e5 := hS1.cell 5 (by decide)
     have e6 := hS1.cell 6 (by decide)
     have e7 := hS1.cell 7 (by decide)
     have e8 := hS1.cell 8 (by decide)
     simp only [glob] at e1 e2 e3 e4 e5 e6 e7 e8)
  clear e1 e2 e3 e4 e5 e6 e7 e8
  go_loopw [3, 26] (fun at3 i wr => ∃ k : Nat, k < c ∧ i = .int .i64 k ∧ at3 = .int .i64 at_ ∧ Below (w1.heap.size + 1) (w1.alloc (.cells #[.iface 108 (.pointer (some (a 1))), .iface 108 (.pointer (some (a 2))), .iface 108 (.pointer (some (a 3))), .iface 108 (.pointer (some (a 4))), .iface 108 (.pointer (some (a 5))), .iface 108 (.pointer (some (a 6))), .iface 108 (.pointer (some (a 7))), .iface 108 (.pointer (some (a 8)))] 29)) wr) (fun _ i _ => 8 - (intOf i).toNat)
  case atStart => exact ⟨0, by omega, rfl, rfl, Below.refl _ _⟩
  case round =>
    obtain ⟨k, hk, rfl, rfl, hB⟩ := hrel
    have hcell : wr.cell? ⟨w1.heap.size, k, none⟩ = some (.iface 108 (.pointer (some (a (k + 1))))) := by
      rw [hB.cell (p := ⟨w1.heap.size, k, none⟩) (by show w1.heap.size < _; omega), World.cell?_alloc_at _ _ _ _ rfl]
      have hk8 : k < 8 := by omega
      clear hk hB
      match k, hk8 with
      | 0, _ => rfl
      | 1, _ => rfl
      | 2, _ => rfl
      | 3, _ => rfl
      | 4, _ => rfl
      | 5, _ => rfl
      | 6, _ => rfl
      | 7, _ => rfl
    have hSr : Sent codes wr a := hS.below (below_trans (below_alloc' hB0 _) (hB.mono (by simp)))
    have herr1 : wr.cell? ⟨pb, po + 1, none⟩ = some (.iface 108 (.pointer (some (a c)))) := ((below_trans (below_alloc' hB0 _) (hB.mono (by simp))).cell (p := ⟨pb, po + 1, none⟩) hpb).trans herr
    have his := is_fault wr a hSr pb po c (k + 1) (mem_codes h1 h8) (mem_codes (by omega) (by omega)) herr1
    clear herr1
    by_cases e : c = k + 1
    · rw [decide_eq_true e] at his
      have HIS := hide his
      clear his
      have HE := hide e
      clear e
      go_wp2_with (go_at_call 39; refine HIS.out.mono ?_; rintro e w2 ⟨rfl, rfl⟩)
      go_ret2
      refine ⟨?_, ?_⟩
      · have := HE.out
        subst this
        rfl
      · exact (below_alloc' hB0 _).trans (hB.mono (by have := hB0.size; omega))
    · rw [decide_eq_false e] at his
      have HIS := hide his
      clear his
      have hk2 : k + 1 < c := by omega
      clear e
      go_wp2_with (go_at_call 39; refine HIS.out.mono ?_; rintro e w2 ⟨rfl, rfl⟩)
      go_roundw
      case rel => exact ⟨k + 1, hk2, by go_num, rfl, hB⟩
      case measure => simp [intOf]; omega

set_option maxHeartbeats 1000000 in
/-- coded: is the error's code this one? -/
theorem coded_any (w : World) (a : Nat → Addr) (hS : Sent codes w a) (hH : Handle w) (c : Nat) (hc : c ≤ 8) (x : Int) :
    Calls Tryd.prog 14 #[errC a c, .int .i64 x] w fun e w' => e = .returned (.bool (decide ((c : Int) = x))) ∧ Below w.heap.size w w' := by
  by_cases h0 : c = 0
  · subst h0
    have e0 : errC a ((0 : Nat) : Int) = .nilIface := rfl
    rw [e0]
    by_cases hx : x = 0
    · subst hx
      go_enter Tryd.func14, Tryd.ntmps14
      go_wp2_with (go_at_call 30; refine (code_nil _).mono ?_; rintro e w' ⟨rfl, rfl⟩)
      go_ret
      exact ⟨rfl, Below.refl _ _⟩
    · have h1 : (0 == x) = false := by simpa using fun h : 0 = x => hx h.symm
      have h2 : decide (((0 : Nat) : Int) = x) = false := decide_eq_false (fun h => hx h.symm)
      rw [h2]
      clear hx h2
      go_enter Tryd.func14, Tryd.ntmps14
      go_wp2_with (go_at_call 30; refine (code_nil _).mono ?_; rintro e w' ⟨rfl, rfl⟩)
      go_ret
      exact ⟨rfl, Below.refl _ _⟩
  · have e0 : errC a (c : Int) = .iface 108 (.pointer (some (a c))) := by unfold errC; rw [if_neg (by omega)]; rfl
    rw [e0]
    have hcode := code_sent w a hS hH c (by omega) hc
    have HC := hide hcode
    clear hcode e0 h0
    generalize a c = a0 at HC ⊢
    have hcc : ∃ y : Int, y = (c : Int) := ⟨_, rfl⟩
    obtain ⟨y, hy⟩ := hcc
    rw [← hy] at HC ⊢
    clear hy hc
    by_cases hx : y = x
    · subst hx
      rw [decide_eq_true rfl]
      go_enter Tryd.func14, Tryd.ntmps14
      go_wp2_with (go_at_call 30; refine HC.out.mono ?_; rintro e w' ⟨rfl, hb⟩)
      go_ret
      exact ⟨rfl, hb⟩
    · have h1 : (y == x) = false := by simpa using hx
      rw [decide_eq_false hx]
      clear hx
      go_enter Tryd.func14, Tryd.ntmps14
      go_wp2_with (go_at_call 30; refine HC.out.mono ?_; rintro e w' ⟨rfl, hb⟩)
      go_ret
      exact ⟨rfl, hb⟩
end Go.Proofs.YtehheklbibocjaaDoor
