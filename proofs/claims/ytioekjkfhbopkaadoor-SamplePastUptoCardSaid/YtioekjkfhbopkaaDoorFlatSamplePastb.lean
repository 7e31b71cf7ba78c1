/- Words, plain laws and walks behind the law SamplePast, part 2. No condition. -/
import Derived.Test.YtioekjkfhbopkaaDoorFlatSamplePasta
import Derived.Test.YtioekjkfhbopkaaDoorPSamplePastx2
import Derived.Test.YtioekjkfhbopkaaDoorPSamplePastx3
import Derived.Test.YtioekjkfhbopkaaDoorPSamplePastx4
import Derived.Shelf.Strings.Trim
import Derived.Shelf.Small.Utf8
import Derived.Shelf.Small.Bits
import Derived.Shelf.Small.Strs
import Derived.Shelf.Small.Wraps
import Derived.Shelf.Strconv.Itoa0
import Derived.Shelf.Strings.Search1
import Derived.Shelf.Strings.Runes
import Derived.Shelf.Strings.AsciiSet
import Derived.Shelf.Unicode.DecodeSlow
import Derived.Shelf.Slices.Turned
import Derived.Ground.Names2Prog
import Derived.Shelf.Slices.Clone
import Derived.Test.YtioekjkfhbopkaaDoorProg
import Derived.Lib.BitFns

/- Rules: right ones, plain; what the reference answers of them; what few and lists answer. No condition. -/
namespace Go.Proofs.YtioekjkfhbopkaaDoor
open Go Go.RowKit Go.Proofs.YtioekjkfhbopkaaDoorW.PrintWords

theorem rdL_nat (m : List (List Int)) (i : Nat) : PSamplePast.rd_L1 m (i : Int) = m.getD i [] := rfl
theorem getDL_eq (l : List (List Int)) (i : Nat) (h : i < l.length) : l.getD i [] = l[i] := by simp [List.getD_eq_getElem?_getD, h]
theorem takeL_at (l : List (List Int)) (i : Nat) (h : i < l.length) : l.take (i + 1) = l.take i ++ [l.getD i []] := by
  rw [List.take_succ_eq_append_getElem h, getDL_eq l i h]
theorem row_le (l : List (List Int)) (i : Nat) : (l.getD i []).length ≤ l.flatten.length := by
  rcases Nat.lt_or_ge i l.length with h | h
  · rw [getDL_eq l i h]
    have : l[i] ∈ l := List.getElem_mem h
    exact List.Sublist.length_le (List.sublist_flatten_of_mem this)
  · rw [List.getD_eq_getElem?_getD, List.getElem?_eq_none h]
    simp
theorem flat_take (l : List (List Int)) (i : Nat) (h : i < l.length) : (l.take (i + 1)).flatten = (l.take i).flatten ++ l.getD i [] := by
  rw [takeL_at l i h, List.flatten_append]
  simp
theorem flat_take_le (l : List (List Int)) (i : Nat) : (l.take i).flatten.length ≤ l.flatten.length := by
  have : l.flatten = (l.take i).flatten ++ (l.drop i).flatten := by rw [← List.flatten_append, List.take_append_drop]
  rw [this, List.length_append]
  omega
theorem flat_l0 (l : List (List Int)) (hl : l.length ≤ 2000000) (hf : l.flatten.length ≤ 2000000) : ∀ (d i k : Nat), i + d = l.length → d < k → PSamplePast.demonref1_Flat.l0 k l (l.take i).flatten (i : Int) = some l.flatten := by
  intro d
  induction d with
  | zero =>
    intro i k hi hk
    obtain ⟨k, rfl⟩ : ∃ m, k = m + 1 := ⟨k - 1, by omega⟩
    obtain rfl : i = l.length := by omega
    simp only [PSamplePast.demonref1_Flat.l0]
    rw [if_neg (by omega), List.take_length]
  | succ d ih =>
    intro i k hi hk
    obtain ⟨k, rfl⟩ : ∃ m, k = m + 1 := ⟨k - 1, by omega⟩
    have hil : i < l.length := by omega
    have h1 := flat_take_le l i
    have h2 := row_le l i
    simp only [PSamplePast.demonref1_Flat.l0]
    rw [if_pos (by omega), if_pos (by omega), rdL_nat, if_pos (by omega), wrap_up i (by omega), ← flat_take l i hil]
    exact ih (i + 1) k (by omega) (by omega)
theorem flat_f (l : List (List Int)) (hl : l.length ≤ 2000000) (hf : l.flatten.length ≤ 2000000) (k : Nat) (hk : l.length < k) : PSamplePast.demonref1_Flat.f k l = some l.flatten :=
  flat_l0 l hl hf l.length 0 k (by omega) hk
/-- is a table of few rows and few numbers? -/
def fewS (l : List (List Int)) : Bool := decide (l.length ≤ 70) && decide (l.flatten.length ≤ 600)
theorem few_f (l : List (List Int)) (hl : l.length ≤ 2000000) (hf : l.flatten.length ≤ 2000000) (k : Nat) (hk : l.length < k) : PSamplePast.demonlaw4_few.f k l = some (fewS l) := by
  unfold PSamplePast.demonlaw4_few.f fewS
  by_cases h : l.length ≤ 70
  · rw [if_pos (by omega), flat_f l hl hf k hk]
    have e : decide ((l.flatten.length : Int) ≤ 600) = decide (l.flatten.length ≤ 600) := by
      by_cases h2 : l.flatten.length ≤ 600
      · rw [decide_eq_true h2, decide_eq_true (by omega)]
      · rw [decide_eq_false h2, decide_eq_false (by omega)]
    show some (decide ((l.flatten.length : Int) ≤ 600)) = _
    rw [e, decide_eq_true h, Bool.true_and]
  · rw [if_neg (by omega), decide_eq_false h, Bool.false_and]
theorem intsS_f (l : List Int) (hl : l.length ≤ 2000000) : PSamplePast.demonlaw4_ints.f l = some l := by
  unfold PSamplePast.demonlaw4_ints.f
  rw [if_pos (by simp; omega)]
  rfl
theorem lists_l0 (l : List (List Int)) (hl : l.length ≤ 2000000) (hf : l.flatten.length ≤ 2000000) : ∀ (d i k : Nat), i + d = l.length → d < k → PSamplePast.demonlaw4_lists.l0 k l (l.take i) (i : Int) = some l := by
  intro d
  induction d with
  | zero =>
    intro i k hi hk
    obtain ⟨k, rfl⟩ : ∃ m, k = m + 1 := ⟨k - 1, by omega⟩
    obtain rfl : i = l.length := by omega
    simp only [PSamplePast.demonlaw4_lists.l0]
    rw [if_neg (by omega), List.take_length]
  | succ d ih =>
    intro i k hi hk
    obtain ⟨k, rfl⟩ : ∃ m, k = m + 1 := ⟨k - 1, by omega⟩
    have hil : i < l.length := by omega
    have h2 := row_le l i
    have h3 : (l.take i).length ≤ i := by simp; omega
    simp only [PSamplePast.demonlaw4_lists.l0]
    rw [if_pos (by omega), if_pos (by omega), rdL_nat, intsS_f _ (by omega), Option.bind_some, if_pos (by omega), wrap_up i (by omega), ← takeL_at l i hil]
    exact ih (i + 1) k (by omega) (by omega)
theorem lists_f (l : List (List Int)) (hl : l.length ≤ 2000000) (hf : l.flatten.length ≤ 2000000) (k : Nat) (hk : l.length < k) : PSamplePast.demonlaw4_lists.f k l = some l :=
  lists_l0 l hl hf l.length 0 k (by omega) hk

/-- the first k numbers do not fall -/
def asc (f : List Int) (k : Nat) : Bool := (List.range k).all fun j => decide (j = 0 ∨ f.getD (j - 1) 0 ≤ f.getD j 0)
theorem asc_succ (f : List Int) (k : Nat) : asc f (k + 1) = (asc f k && decide (k = 0 ∨ f.getD (k - 1) 0 ≤ f.getD k 0)) := by
  unfold asc
  rw [List.range_succ, List.all_append]
  simp
theorem asc_bad (f : List Int) (i n : Nat) (h : i < n) (hb : ¬ (i = 0 ∨ f.getD (i - 1) 0 ≤ f.getD i 0)) : asc f n = false := by
  unfold asc
  rw [List.all_eq_false]
  exact ⟨i, List.mem_range.2 h, by simpa using hb⟩
theorem asc_good (f : List Int) (n : Nat) (h : ∀ j, j < n → j = 0 ∨ f.getD (j - 1) 0 ≤ f.getD j 0) : asc f n = true := by
  unfold asc
  rw [List.all_eq_true]
  exact fun j hj => decide_eq_true (h j (List.mem_range.1 hj))
theorem isSorted_l0 (f : List Int) (hl : f.length ≤ 2000000) : ∀ i, i < f.length → (∀ j, i < j → j < f.length → f.getD (j - 1) 0 ≤ f.getD j 0) → Ev (fun k => PSamplePast.slices_IsSorted_int_int.l0 k f (i : Int)) (asc f f.length) := by
  intro i
  induction i with
  | zero =>
    intro hi h
    refine Ev.step (f := fun _ => some (asc f f.length)) (fun k => ?_) (Ev.now _)
    simp only [PSamplePast.slices_IsSorted_int_int.l0]
    rw [if_neg (by omega), asc_good f _ (fun j hj => by
      rcases Nat.eq_zero_or_pos j with q | q
      · exact .inl q
      · exact .inr (h j q hj))]
  | succ i ih =>
    intro hi h
    have hw : wrap64 (((i + 1 : Nat) : Int) - 1) = (i : Int) := by unfold wrap64; omega
    have hless : PSamplePast.cmp_Less_int.f (f.getD (i + 1) 0) (f.getD i 0) = some (decide (f.getD (i + 1) 0 < f.getD i 0)) := by
      unfold PSamplePast.cmp_Less_int.f PSamplePast.cmp_isNaN_int.f
      simp
    by_cases hb : f.getD (i + 1) 0 < f.getD i 0
    · refine Ev.step (f := fun _ => some (asc f f.length)) (fun k => ?_) (Ev.now _)
      simp only [PSamplePast.slices_IsSorted_int_int.l0]
      rw [hw, if_pos (by omega), if_pos (by omega), if_pos (by omega), if_pos (by omega), if_pos (by omega), rd_nat, rd_nat, hless, decide_eq_true hb, asc_bad f (i + 1) _ hi (by
        rintro (q | q)
        · omega
        · rw [Nat.add_sub_cancel] at q; omega)]
      rfl
    · refine Ev.step (fun k => ?_) (ih (by omega) (fun j hj hj2 => by
        by_cases e : j = i + 1
        · subst e; rw [Nat.add_sub_cancel]; omega
        · exact h j (by omega) hj2))
      simp only [PSamplePast.slices_IsSorted_int_int.l0]
      rw [hw, if_pos (by omega), if_pos (by omega), if_pos (by omega), if_pos (by omega), if_pos (by omega), rd_nat, rd_nat, hless, decide_eq_false hb]
      rfl
theorem isSorted_f (f : List Int) (hl : f.length ≤ 2000000) : Ev (fun k => PSamplePast.slices_IsSorted_int_int.f k f) (asc f f.length) := by
  rcases Nat.eq_zero_or_pos f.length with q | q
  · have e : f = [] := List.length_eq_zero_iff.1 q
    subst e
    have e : wrap64 ((([] : List Int).length : Int) - 1) = -1 := by unfold wrap64; decide
    refine Ev.step (f := fun _ => some (asc [] 0)) (fun k => ?_) (Ev.now _)
    unfold PSamplePast.slices_IsSorted_int_int.f
    rw [e]
    simp only [PSamplePast.slices_IsSorted_int_int.l0]
    rw [if_neg (by omega)]
    rfl
  · have e : wrap64 ((f.length : Int) - 1) = ((f.length - 1 : Nat) : Int) := by unfold wrap64; omega
    refine Ev.congr (fun k => ?_) (isSorted_l0 f hl (f.length - 1) (by omega) (fun j h1 h2 => by omega))
    unfold PSamplePast.slices_IsSorted_int_int.f
    rw [e]
/-- a right rule of n states -/
def goodR (n : Nat) (f : List Int) : Bool := decide (f.length = n) && decide (0 < f.length) && f.all fun x => decide (0 ≤ x) && decide (x < f.length)
/-- the code of rules' error -/
def rErr (r : List (List Int)) : Int := if 16 < r.length then 2 else if r.any (fun f => decide (16 < f.length)) then 2 else if r.length = 0 then 3 else if r.all (goodR (r.getD 0 []).length) then (if r.all (fun f => asc f f.length) then 0 else 7) else 3
theorem rErr_bad {r : List (List Int)} (h1 : r.length ≤ 16) (h2 : r.any (fun f => decide (16 < f.length)) = false) {i : Nat} (hi : i < r.length) (hb : goodR (r.getD 0 []).length (r.getD i []) = false) : rErr r = 3 := by
  have h3 : r.all (goodR (r.getD 0 []).length) = false := by
    rw [List.all_eq_false]
    exact ⟨r.getD i [], by rw [getDL_eq r i hi]; exact List.getElem_mem hi, by rw [hb]; decide⟩
  unfold rErr
  rw [if_neg (by omega), if_neg (by rw [h2]; decide), if_neg (by omega), if_neg (by rw [h3]; decide)]
theorem rErr_end {r : List (List Int)} (h1 : r.length ≤ 16) (h2 : r.any (fun f => decide (16 < f.length)) = false) (h0 : r.length ≠ 0) (h3 : r.all (goodR (r.getD 0 []).length) = true) : rErr r = if r.all (fun f => asc f f.length) then 0 else 7 := by
  unfold rErr
  rw [if_neg (by omega), if_neg (by rw [h2]; decide), if_neg h0, if_pos h3]
theorem all_upto {r : List (List Int)} (p : List Int → Bool) (h : ∀ j, j < r.length → p (r.getD j []) = true) : r.all p = true := by
  rw [List.all_eq_true]
  intro f hf
  obtain ⟨j, hj, rfl⟩ := List.getElem_of_mem hf
  rw [← getDL_eq r j hj]
  exact h j hj
theorem goodR_range {n : Nat} {f : List Int} (hl : f.length = n) (h0 : 0 < f.length) (h : ∀ j, j < f.length → 0 ≤ f.getD j 0 ∧ f.getD j 0 < f.length) : goodR n f = true := by
  unfold goodR
  rw [decide_eq_true hl, decide_eq_true h0, Bool.true_and, Bool.true_and, List.all_eq_true]
  intro x hx
  obtain ⟨j, hj, rfl⟩ := List.getElem_of_mem hx
  have := h j hj
  rw [getD_eq f j 0 hj] at this
  rw [decide_eq_true this.1, decide_eq_true this.2]
  rfl
theorem goodR_bad {n : Nat} {f : List Int} {j : Nat} (hj : j < f.length) (h : f.getD j 0 < 0 ∨ (f.length : Int) ≤ f.getD j 0) : goodR n f = false := by
  unfold goodR
  have : (f.all fun x => decide (0 ≤ x) && decide (x < f.length)) = false := by
    rw [List.all_eq_false]
    refine ⟨f[j], List.getElem_mem hj, ?_⟩
    rw [getD_eq f j 0 hj] at h
    rcases h with h | h
    · rw [decide_eq_false (by omega)]; simp
    · rw [decide_eq_false (by omega : ¬ f[j] < (f.length : Int))]; simp
  rw [this, Bool.and_false]
theorem goodR_of {n : Nat} {f : List Int} (h : goodR n f = true) : f.length = n ∧ 0 < f.length ∧ ∀ j, j < f.length → 0 ≤ f.getD j 0 ∧ f.getD j 0 < f.length := by
  unfold goodR at h
  rw [Bool.and_eq_true, Bool.and_eq_true, decide_eq_true_eq, decide_eq_true_eq, List.all_eq_true] at h
  refine ⟨h.1.1, h.1.2, fun j hj => ?_⟩
  have := h.2 _ (List.getElem_mem hj)
  rw [Bool.and_eq_true, decide_eq_true_eq, decide_eq_true_eq] at this
  rw [getD_eq f j 0 hj]
  exact this
theorem rules_l2 {r : List (List Int)} (h1 : r.length ≤ 16) (h2 : r.any (fun f => decide (16 < f.length)) = false) (i : Nat) (hi : i < r.length) (hlen : (r.getD i []).length = (r.getD 0 []).length) (hpos : 0 < (r.getD i []).length) (h16 : (r.getD i []).length ≤ 16)
    (next : goodR (r.getD 0 []).length (r.getD i []) = true → ∀ b, b = !((r.take (i + 1)).all fun f => asc f f.length) → Ev (fun k => PSamplePast.demonref4_RulesError.l1 k r b ((i + 1 : Nat) : Int)) (rErr r)) :
    ∀ (e k : Nat) (b : Bool), k + e = (r.getD i []).length → b = !(((r.take i).all fun f => asc f f.length) && asc (r.getD i []) k) → (∀ j, j < k → 0 ≤ (r.getD i []).getD j 0 ∧ (r.getD i []).getD j 0 < (r.getD i []).length) →
      Ev (fun n => PSamplePast.demonref4_RulesError.l2 n r b (i : Int) (k : Int)) (rErr r) := by
  intro e
  induction e with
  | zero =>
    intro k b hk hb hr
    obtain rfl : k = (r.getD i []).length := by omega
    refine Ev.step (fun n => ?_) (next (goodR_range hlen hpos hr) b (by rw [hb, takeL_at r i hi, List.all_append]; simp))
    simp only [PSamplePast.demonref4_RulesError.l2]
    rw [if_pos (by omega), if_pos (by omega), rdL_nat, if_neg (by omega), wrap_up i (by omega)]
  | succ e ih =>
    intro k b hk hb hr
    have hkl : k < (r.getD i []).length := by omega
    by_cases hx0 : (r.getD i []).getD k 0 < 0
    · refine Ev.step (f := fun _ => some (rErr r)) (fun n => ?_) (Ev.now _)
      simp only [PSamplePast.demonref4_RulesError.l2]
      rw [if_pos (by omega), if_pos (by omega), rdL_nat, if_pos (by omega), if_pos (by omega), rd_nat, if_pos hx0, rErr_bad h1 h2 hi (goodR_bad hkl (.inl hx0))]
    · by_cases hx1 : (r.getD i []).getD k 0 ≥ ((r.getD i []).length : Int)
      · refine Ev.step (f := fun _ => some (rErr r)) (fun n => ?_) (Ev.now _)
        simp only [PSamplePast.demonref4_RulesError.l2]
        rw [if_pos (by omega), if_pos (by omega), rdL_nat, if_pos (by omega), if_pos (by omega), rd_nat, if_neg hx0, if_pos hx1, rErr_bad h1 h2 hi (goodR_bad hkl (.inr hx1))]
      · have hr' : ∀ j, j < k + 1 → 0 ≤ (r.getD i []).getD j 0 ∧ (r.getD i []).getD j 0 < (r.getD i []).length := fun j hj => by
          by_cases q : j = k
          · subst q; exact ⟨by omega, by omega⟩
          · exact hr j (by omega)
        have hsu := asc_succ (r.getD i []) k
        cases b with
        | true =>
          have hb' : (((r.take i).all fun f => asc f f.length) && asc (r.getD i []) k) = false := by have := hb.symm; rwa [Bool.not_eq_true'] at this
          refine Ev.step (fun n => ?_) (ih (k + 1) true (by omega) (by rw [hsu, ← Bool.and_assoc, hb']; rfl) hr')
          simp only [PSamplePast.demonref4_RulesError.l2]
          rw [if_pos (by omega), if_pos (by omega), rdL_nat, if_pos (by omega), if_pos (by omega), rd_nat, if_neg hx0, if_neg hx1, if_pos (by trivial), wrap_up k (by omega)]
        | false =>
          have hb' : (((r.take i).all fun f => asc f f.length) && asc (r.getD i []) k) = true := by have := hb.symm; rwa [Bool.not_eq_false'] at this
          rw [Bool.and_eq_true] at hb'
          rcases Nat.eq_zero_or_pos k with q | q
          · subst q
            refine Ev.step (fun n => ?_) (ih 1 false (by omega) (by rw [hsu, hb'.1, hb'.2]; rfl) hr')
            simp only [PSamplePast.demonref4_RulesError.l2]
            rw [if_pos (by omega), if_pos (by omega), rdL_nat, if_pos (by omega), if_pos (by omega), rd_nat, if_neg hx0, if_neg hx1, if_neg (by decide), if_neg (by omega), wrap_up 0 (by omega)]
          · have hw : wrap64 ((k : Int) - 1) = ((k - 1 : Nat) : Int) := by unfold wrap64; omega
            refine Ev.step (fun n => ?_) (ih (k + 1) (decide ((r.getD i []).getD (k - 1) 0 > (r.getD i []).getD k 0)) (by omega) (by
              rw [hsu, hb'.1, hb'.2, Bool.true_and, Bool.true_and]
              by_cases g : (r.getD i []).getD (k - 1) 0 ≤ (r.getD i []).getD k 0
              · rw [decide_eq_true (.inr g : k = 0 ∨ _), decide_eq_false (by omega)]; rfl
              · rw [decide_eq_false (fun (h : k = 0 ∨ (r.getD i []).getD (k - 1) 0 ≤ (r.getD i []).getD k 0) => by rcases h with h | h <;> omega), decide_eq_true (by omega)]; rfl) hr')
            simp only [PSamplePast.demonref4_RulesError.l2]
            rw [hw, if_pos (by omega), if_pos (by omega), rdL_nat, if_pos (by omega), if_pos (by omega), rd_nat, rd_nat, if_neg hx0, if_neg hx1, if_neg (by decide), if_pos (by omega), if_pos (by omega), if_pos (by omega), wrap_up k (by omega)]
theorem rules_l1 {r : List (List Int)} (h1 : r.length ≤ 16) (h0 : 0 < r.length) (h2 : r.any (fun f => decide (16 < f.length)) = false) : ∀ (e i : Nat) (b : Bool), i + e = r.length → b = !((r.take i).all fun f => asc f f.length) → (∀ j, j < i → goodR (r.getD 0 []).length (r.getD j []) = true) →
    Ev (fun k => PSamplePast.demonref4_RulesError.l1 k r b (i : Int)) (rErr r) := by
  have h16 : ∀ i, i < r.length → (r.getD i []).length ≤ 16 := fun i hi => by
    rw [List.any_eq_false] at h2
    have := h2 (r.getD i []) (by rw [getDL_eq r i hi]; exact List.getElem_mem hi)
    simpa using this
  intro e
  induction e with
  | zero =>
    intro i b hi hb hg
    obtain rfl : i = r.length := by omega
    have hend := rErr_end h1 h2 (by omega) (all_upto _ hg)
    rw [List.take_length] at hb
    refine Ev.step (f := fun _ => some (rErr r)) (fun n => ?_) (Ev.now _)
    simp only [PSamplePast.demonref4_RulesError.l1]
    rw [if_neg (by omega), hend, hb]
    cases (r.all fun f => asc f f.length) <;> rfl
  | succ e ih =>
    intro i b hi hb hg
    have hil : i < r.length := by omega
    have h16i := h16 i hil
    by_cases hz : (r.getD i []).length = 0
    · have hbad : goodR (r.getD 0 []).length (r.getD i []) = false := by unfold goodR; rw [decide_eq_false (by omega : ¬ 0 < (r.getD i []).length)]; simp
      refine Ev.step (f := fun n => PSamplePast.demonref4_RulesError.j2 n r b (i : Int) true) (fun n => ?_) (Ev.step (f := fun _ => some (rErr r)) (fun n => ?_) (Ev.now _))
      · simp only [PSamplePast.demonref4_RulesError.l1]
        rw [if_pos (by omega), if_pos (by omega), rdL_nat, if_pos (by omega)]
      · simp only [PSamplePast.demonref4_RulesError.j2]
        rw [if_pos (by trivial), rErr_bad h1 h2 hil hbad]
    · have e0 : PSamplePast.rd_L1 r 0 = r.getD 0 [] := rfl
      refine Ev.step (f := fun n => PSamplePast.demonref4_RulesError.j2 n r b (i : Int) (((r.getD i []).length : Int) != ((r.getD 0 []).length : Int))) (fun n => ?_) ?_
      · simp only [PSamplePast.demonref4_RulesError.l1]
        rw [if_pos (by omega), if_pos (by omega), rdL_nat, e0, if_neg (by omega), if_pos (by omega)]
      · by_cases hne : (r.getD i []).length = (r.getD 0 []).length
        · have e1 : (((r.getD i []).length : Int) != ((r.getD 0 []).length : Int)) = false := by rw [hne]; exact bne_self_eq_false _
          rw [e1]
          refine Ev.step (fun n => ?_) (rules_l2 h1 h2 i hil hne (by omega) h16i (fun hgd b' hb' => ih (i + 1) b' (by omega) hb' (fun j hj => by
            by_cases q : j = i
            · subst q; exact hgd
            · exact hg j (by omega))) (r.getD i []).length 0 b (by omega) (by rw [hb]; simp [asc]) (fun j hj => absurd hj (Nat.not_lt_zero _)))
          simp only [PSamplePast.demonref4_RulesError.j2]
          rw [if_neg (by decide)]
          rfl
        · have e1 : (((r.getD i []).length : Int) != ((r.getD 0 []).length : Int)) = true := bne_iff_ne.2 (by omega)
          have hbad : goodR (r.getD 0 []).length (r.getD i []) = false := by unfold goodR; rw [decide_eq_false hne]; simp
          rw [e1]
          refine Ev.step (f := fun _ => some (rErr r)) (fun n => ?_) (Ev.now _)
          simp only [PSamplePast.demonref4_RulesError.j2]
          rw [if_pos (by trivial), rErr_bad h1 h2 hil hbad]
theorem rules_l0 {r : List (List Int)} (h1 : r.length ≤ 16) : ∀ (e i : Nat), i + e = r.length → (∀ j, j < i → (r.getD j []).length ≤ 16) → Ev (fun k => PSamplePast.demonref4_RulesError.l0 k r (i : Int)) (rErr r) := by
  intro e
  induction e with
  | zero =>
    intro i hi hs
    obtain rfl : i = r.length := by omega
    have h2 : r.any (fun f => decide (16 < f.length)) = false := by
      rw [List.any_eq_false]
      intro f hf
      obtain ⟨j, hj, rfl⟩ := List.getElem_of_mem hf
      have := hs j hj
      rw [getDL_eq r j hj] at this
      simpa using this
    rcases Nat.eq_zero_or_pos r.length with q | q
    · refine Ev.step (f := fun _ => some (rErr r)) (fun n => ?_) (Ev.now _)
      simp only [PSamplePast.demonref4_RulesError.l0]
      rw [if_neg (by omega), if_pos (by omega)]
      unfold rErr
      rw [if_neg (by omega), if_neg (by rw [h2]; decide), if_pos q]
    · refine Ev.step (fun n => ?_) (rules_l1 h1 q h2 r.length 0 false (by omega) (by simp) (fun j hj => absurd hj (Nat.not_lt_zero _)))
      simp only [PSamplePast.demonref4_RulesError.l0]
      rw [if_neg (by omega), if_neg (by omega)]
      rfl
  | succ e ih =>
    intro i hi hs
    have hil : i < r.length := by omega
    by_cases hb : 16 < (r.getD i []).length
    · have h2 : r.any (fun f => decide (16 < f.length)) = true := by
        rw [List.any_eq_true]
        exact ⟨r.getD i [], by rw [getDL_eq r i hil]; exact List.getElem_mem hil, decide_eq_true hb⟩
      refine Ev.step (f := fun _ => some (rErr r)) (fun n => ?_) (Ev.now _)
      simp only [PSamplePast.demonref4_RulesError.l0]
      rw [if_pos (by omega), if_pos (by omega), rdL_nat, if_pos (by omega)]
      unfold rErr
      rw [if_neg (by omega), if_pos h2]
    · refine Ev.step (fun n => ?_) (ih (i + 1) (by omega) (fun j hj => by
        by_cases q : j = i
        · subst q; omega
        · exact hs j (by omega)))
      simp only [PSamplePast.demonref4_RulesError.l0]
      rw [if_pos (by omega), if_pos (by omega), rdL_nat, if_neg (by omega), wrap_up i (by omega)]
theorem rules_f (r : List (List Int)) : Ev (fun k => PSamplePast.demonref4_RulesError.f k r) (rErr r) := by
  by_cases h1 : 16 < r.length
  · refine Ev.congr (f := fun _ => some (rErr r)) (fun k => ?_) (Ev.now _)
    unfold PSamplePast.demonref4_RulesError.f rErr
    rw [if_pos (by omega), if_pos h1]
  · refine Ev.congr (fun k => ?_) (rules_l0 (by omega) r.length 0 (by omega) (fun j hj => absurd hj (Nat.not_lt_zero _)))
    unfold PSamplePast.demonref4_RulesError.f
    rw [if_neg (by omega)]
    rfl
theorem rErr_nat (r : List (List Int)) : ∃ c : Nat, rErr r = c ∧ c ≤ 8 := by
  unfold rErr
  repeat' split
  all_goals first | exact ⟨2, rfl, by decide⟩ | exact ⟨3, rfl, by decide⟩ | exact ⟨0, rfl, by decide⟩ | exact ⟨7, rfl, by decide⟩
end Go.Proofs.YtioekjkfhbopkaaDoor

/-
  DERIVED: THE SHELF's CONTRACTS AT THIS DUMP, IN PLAIN WORDS (tools/lay-plain.mjs out of 'TrydpShelf.lean', which tools/lay-shelf.mjs wrote): THE SAME DECLARATIONS UNDER THE SAME NAMES: 'import', 'namespace', 'open', 'def', 'theorem' AND NOTHING ELSE: no command of the shelf's: FOR A HAND-IN. Each laying: the table of numbers ('.._ren') and one theorem, a field a fact of the dump's own or the kernel's comparison; each contract: ONE APPLICATION.
-/
namespace Go.Proofs
open Go.Shelf
def Tryd.lays231_ren : Go.Shelf.Ren := ⟨fun | 231 => 56 | n => n, fun | 9 => 9 | 5 => 5 | 3 => 3 | 4 => 4 | n => n, fun | n => n⟩
theorem Tryd.lays231 : Go.Proofs.Lays.n231 Tryd.prog Tryd.lays231_ren := {
  mixed := by kernel_rfl
  f231 := Tryd.func56.trans (congrArg some (by kernel_rfl))
  t3 := Tryd.underlying3
  a3 := Tryd.isAgg3
  z3 := Tryd.sizeOf3
  v3 := Tryd.zeroValue3
  t4 := Tryd.underlying4
  a4 := Tryd.isAgg4
  z4 := Tryd.sizeOf4
  v4 := Tryd.zeroValue4
  t5 := Tryd.underlying5
  a5 := Tryd.isAgg5
  z5 := Tryd.sizeOf5
  v5 := Tryd.zeroValue5
  t9 := Tryd.underlying9
  a9 := Tryd.isAgg9
  z9 := Tryd.sizeOf9
  v9 := Tryd.zeroValue9 }
open Go.RowKit in
/-- strings.trimLeftByte (no doc; what TrimLeft and Trim call at a cutset of one ASCII byte): the leading bytes that are c are cut off. The world is as it was. (LAID: no walk: one application.) -/
theorem Tryd.strings_trimLeftByte (s : ByteArray) (c : UInt8) (w : World) :
    Calls Tryd.prog 56 #[.string s, .int .u8 c.toNat] w fun e w' => e = .returned (.string ⟨(Lib.trimLeftB s.data.toList c).toArray⟩) ∧ w' = w := Any.strings_trimLeftByte Tryd.lays231 s c w
def Tryd.lays232_ren : Go.Shelf.Ren := ⟨fun | 232 => 57 | n => n, fun | 9 => 9 | 5 => 5 | 3 => 3 | 4 => 4 | n => n, fun | n => n⟩
theorem Tryd.lays232 : Go.Proofs.Lays.n232 Tryd.prog Tryd.lays232_ren := {
  mixed := by kernel_rfl
  f232 := Tryd.func57.trans (congrArg some (by kernel_rfl))
  t3 := Tryd.underlying3
  a3 := Tryd.isAgg3
  z3 := Tryd.sizeOf3
  v3 := Tryd.zeroValue3
  t4 := Tryd.underlying4
  a4 := Tryd.isAgg4
  z4 := Tryd.sizeOf4
  v4 := Tryd.zeroValue4
  t5 := Tryd.underlying5
  a5 := Tryd.isAgg5
  z5 := Tryd.sizeOf5
  v5 := Tryd.zeroValue5
  t9 := Tryd.underlying9
  a9 := Tryd.isAgg9
  z9 := Tryd.sizeOf9
  v9 := Tryd.zeroValue9 }
open Go.RowKit in
/-- strings.trimRightByte (no doc; what TrimRight and Trim call at a cutset of one ASCII byte): the trailing bytes that are c are cut off. The world is as it was. ('hs': a string's length is a number that an int holds.) (LAID: no walk: one application.) -/
theorem Tryd.strings_trimRightByte (s : ByteArray) (c : UInt8) (w : World) (hs : s.size ≤ 9223372036854775807) :
    Calls Tryd.prog 57 #[.string s, .int .u8 c.toNat] w fun e w' => e = .returned (.string ⟨(Lib.trimRightB s.data.toList c).toArray⟩) ∧ w' = w := Any.strings_trimRightByte Tryd.lays232 s c w hs
def Tryd.lays160_ren : Go.Shelf.Ren := ⟨fun | 160 => 37 | 232 => 57 | 231 => 56 | 227 => 58 | 234 => 60 | 233 => 59 | 236 => 62 | 235 => 61 | 228 => 77 | 271 => 80 | 151 => 79 | 197 => 78 | 120 => 92 | 152 => 91 | 260 => 90 | 137 => 95 | 119 => 96 | 224 => 97 | 225 => 98 | 217 => 99 | 266 => 100 | n => n, fun | 9 => 9 | 4 => 4 | 3 => 3 | 5 => 5 | 117 => 97 | 116 => 96 | 0 => 0 | 124 => 100 | 21 => 21 | 105 => 114 | 46 => 102 | 119 => 152 | 139 => 155 | 138 => 154 | n => n, fun | 3 => 9 | 4 => 10 | n => n⟩
theorem Tryd.lays160 : Go.Proofs.Lays.n160 Tryd.prog Tryd.lays160_ren := {
  mixed := by kernel_rfl
  f119 := Tryd.func96.trans (congrArg some (by kernel_rfl))
  f120 := Tryd.func92.trans (congrArg some (by kernel_rfl))
  f137 := Tryd.func95.trans (congrArg some (by kernel_rfl))
  f151 := Tryd.func79.trans (congrArg some (by kernel_rfl))
  f152 := Tryd.func91.trans (congrArg some (by kernel_rfl))
  f160 := Tryd.func37.trans (congrArg some (by kernel_rfl))
  f197 := Tryd.func78.trans (congrArg some (by kernel_rfl))
  f217 := Tryd.func99.trans (congrArg some (by kernel_rfl))
  f224 := Tryd.func97.trans (congrArg some (by kernel_rfl))
  f225 := Tryd.func98.trans (congrArg some (by kernel_rfl))
  f227 := Tryd.func58.trans (congrArg some (by kernel_rfl))
  f228 := Tryd.func77.trans (congrArg some (by kernel_rfl))
  f231 := Tryd.func56.trans (congrArg some (by kernel_rfl))
  f232 := Tryd.func57.trans (congrArg some (by kernel_rfl))
  f233 := Tryd.func59.trans (congrArg some (by kernel_rfl))
  f234 := Tryd.func60.trans (congrArg some (by kernel_rfl))
  f235 := Tryd.func61.trans (congrArg some (by kernel_rfl))
  f236 := Tryd.func62.trans (congrArg some (by kernel_rfl))
  f260 := Tryd.func90.trans (congrArg some (by kernel_rfl))
  f266 := Tryd.func100.trans (congrArg some (by kernel_rfl))
  f271 := Tryd.func80.trans (congrArg some (by kernel_rfl))
  t0 := Tryd.underlying0
  a0 := Tryd.isAgg0
  z0 := Tryd.sizeOf0
  v0 := Tryd.zeroValue0
  t3 := Tryd.underlying3
  a3 := Tryd.isAgg3
  z3 := Tryd.sizeOf3
  v3 := Tryd.zeroValue3
  t4 := Tryd.underlying4
  a4 := Tryd.isAgg4
  z4 := Tryd.sizeOf4
  v4 := Tryd.zeroValue4
  t5 := Tryd.underlying5
  a5 := Tryd.isAgg5
  z5 := Tryd.sizeOf5
  v5 := Tryd.zeroValue5
  t9 := Tryd.underlying9
  a9 := Tryd.isAgg9
  z9 := Tryd.sizeOf9
  v9 := Tryd.zeroValue9
  t21 := Tryd.underlying21
  a21 := Tryd.isAgg21
  z21 := Tryd.sizeOf21
  v21 := Tryd.zeroValue21
  t46 := Tryd.underlying102
  a46 := Tryd.isAgg102
  z46 := Tryd.sizeOf102
  v46 := Tryd.zeroValue102
  t105 := Tryd.underlying114
  a105 := Tryd.isAgg114
  z105 := Tryd.sizeOf114
  v105 := Tryd.zeroValue114
  t116 := Tryd.underlying96
  a116 := Tryd.isAgg96
  z116 := Tryd.sizeOf96
  t117 := Tryd.underlying97
  a117 := Tryd.isAgg97
  z117 := Tryd.sizeOf97
  v117 := Tryd.zeroValue97
  t119 := Tryd.underlying152
  a119 := Tryd.isAgg152
  z119 := Tryd.sizeOf152
  t124 := Tryd.underlying100
  a124 := Tryd.isAgg100
  z124 := Tryd.sizeOf100
  v124 := Tryd.zeroValue100
  t138 := Tryd.underlying154
  a138 := Tryd.isAgg154
  z138 := Tryd.sizeOf154
  v138 := Tryd.zeroValue154
  t139 := Tryd.underlying155
  a139 := Tryd.isAgg155
  z139 := Tryd.sizeOf155
  v139 := Tryd.zeroValue155
  g3 := by kernel_rfl
  g4 := by kernel_rfl }
open Go.RowKit in
/-- strings.Trim: "Trim returns a slice of the string s with all leading and trailing Unicode code points contained in cutset removed.": AT A cutset OF ONE ASCII BYTE. THE WORLD BEHIND IT: as it was, or (where s is not empty) with ONE DRAW MORE off the tape: the statement 'return trimLeftByte(trimRightByte(s, c), c)' draws its order of evaluation. (LAID: no walk: one application.) -/
theorem Tryd.strings_Trim_one (s : ByteArray) (c : UInt8) (hc : c.toNat < 128) (w : World) (hs : s.size ≤ 9223372036854775807) :
    Calls Tryd.prog 37 #[.string s, .string ⟨#[c]⟩] w fun e w' => e = .returned (.string ⟨(Lib.trimB s.data.toList c).toArray⟩) ∧ (w' = w ∨ w' = w.drew) := Any.strings_Trim_one Tryd.lays160 s c hc w hs
def Tryd.lays119_ren : Go.Shelf.Ren := ⟨fun | 119 => 96 | n => n, fun | 21 => 21 | 4 => 4 | n => n, fun | n => n⟩
theorem Tryd.lays119 : Go.Proofs.Lays.n119 Tryd.prog Tryd.lays119_ren := {
  mixed := by kernel_rfl
  f119 := Tryd.func96.trans (congrArg some (by kernel_rfl))
  t4 := Tryd.underlying4
  a4 := Tryd.isAgg4
  z4 := Tryd.sizeOf4
  v4 := Tryd.zeroValue4
  t21 := Tryd.underlying21
  a21 := Tryd.isAgg21
  z21 := Tryd.sizeOf21
  v21 := Tryd.zeroValue21 }
/-- utf8.ValidRune: "ValidRune reports whether r can be legally encoded as UTF-8. Code points that are out of range or a surrogate half are illegal.": IT RETURNS 'Lib.validRune r'; the world is as it was. (LAID: no walk: one application.) -/
theorem Tryd.utf8_ValidRune (r : Int) (w : World) :
    Calls Tryd.prog 96 #[.int .i32 r] w fun e w' => e = .returned (.bool (Lib.validRune r)) ∧ w' = w := Any.utf8_ValidRune Tryd.lays119 r w
def Tryd.lays120_ren : Go.Shelf.Ren := ⟨fun | 120 => 92 | n => n, fun | 5 => 5 | 4 => 4 | n => n, fun | n => n⟩
theorem Tryd.lays120 : Go.Proofs.Lays.n120 Tryd.prog Tryd.lays120_ren := {
  mixed := by kernel_rfl
  f120 := Tryd.func92.trans (congrArg some (by kernel_rfl))
  t4 := Tryd.underlying4
  a4 := Tryd.isAgg4
  z4 := Tryd.sizeOf4
  v4 := Tryd.zeroValue4
  t5 := Tryd.underlying5
  a5 := Tryd.isAgg5
  z5 := Tryd.sizeOf5
  v5 := Tryd.zeroValue5 }
/-- utf8.RuneStart: "RuneStart reports whether the byte could be the first byte of an encoded, possibly invalid rune. Second and subsequent bytes always have the top two bits set to 10.": IT RETURNS 'Lib.runeStart b'; the world is as it was. ('h0', 'h1': b is a byte: a caller has it of every byte that it was handed.) (LAID: no walk: one application.) -/
theorem Tryd.utf8_RuneStart (b : Int) (w : World) (h0 : 0 ≤ b) (h1 : b < 256) :
    Calls Tryd.prog 92 #[.int .u8 b] w fun e w' => e = .returned (.bool (Lib.runeStart b)) ∧ w' = w := Any.utf8_RuneStart Tryd.lays120 b w h0 h1
def Tryd.lays128_ren : Go.Shelf.Ren := ⟨fun | 128 => 81 | n => n, fun | 51 => 118 | 3 => 3 | 4 => 4 | 46 => 102 | 5 => 5 | 9 => 9 | n => n, fun | n => n⟩
theorem Tryd.lays128 : Go.Proofs.Lays.n128 Tryd.prog Tryd.lays128_ren := {
  mixed := by kernel_rfl
  f128 := Tryd.func81.trans (congrArg some (by kernel_rfl))
  t3 := Tryd.underlying3
  a3 := Tryd.isAgg3
  z3 := Tryd.sizeOf3
  v3 := Tryd.zeroValue3
  t4 := Tryd.underlying4
  a4 := Tryd.isAgg4
  z4 := Tryd.sizeOf4
  v4 := Tryd.zeroValue4
  t5 := Tryd.underlying5
  a5 := Tryd.isAgg5
  z5 := Tryd.sizeOf5
  v5 := Tryd.zeroValue5
  t9 := Tryd.underlying9
  a9 := Tryd.isAgg9
  z9 := Tryd.sizeOf9
  v9 := Tryd.zeroValue9
  t46 := Tryd.underlying102
  a46 := Tryd.isAgg102
  z46 := Tryd.sizeOf102
  v46 := Tryd.zeroValue102
  t51 := Tryd.underlying118
  a51 := Tryd.isAgg118
  z51 := Tryd.sizeOf118
  v51 := Tryd.zeroValue118 }
/-- bits.Len32: "Len32 returns the minimum number of bits required to represent x; the result is 0 for x == 0.": IT RETURNS 'Lib.bitLen x'; the world is as it was. ('h0', 'h1': x is a uint32.) (LAID: no walk: one application.) -/
theorem Tryd.bits_Len32 (x : Int) (w : World) (h0 : 0 ≤ x) (h1 : x ≤ 4294967295) :
    Calls Tryd.prog 81 #[.int .u32 x] w fun e w' => e = .returned (.int .i64 (Lib.bitLen x.toNat)) ∧ w' = w := Any.bits_Len32 Tryd.lays128 x w h0 h1
def Tryd.lays125_ren : Go.Shelf.Ren := ⟨fun | 125 => 64 | 128 => 81 | 129 => 82 | n => n, fun | 46 => 102 | 3 => 3 | 51 => 118 | 53 => 120 | 4 => 4 | 5 => 5 | 9 => 9 | n => n, fun | n => n⟩
theorem Tryd.lays125 : Go.Proofs.Lays.n125 Tryd.prog Tryd.lays125_ren := {
  mixed := by kernel_rfl
  f125 := Tryd.func64.trans (congrArg some (by kernel_rfl))
  f128 := Tryd.func81.trans (congrArg some (by kernel_rfl))
  f129 := Tryd.func82.trans (congrArg some (by kernel_rfl))
  t3 := Tryd.underlying3
  a3 := Tryd.isAgg3
  z3 := Tryd.sizeOf3
  v3 := Tryd.zeroValue3
  t4 := Tryd.underlying4
  a4 := Tryd.isAgg4
  z4 := Tryd.sizeOf4
  v4 := Tryd.zeroValue4
  t5 := Tryd.underlying5
  a5 := Tryd.isAgg5
  z5 := Tryd.sizeOf5
  v5 := Tryd.zeroValue5
  t9 := Tryd.underlying9
  a9 := Tryd.isAgg9
  z9 := Tryd.sizeOf9
  v9 := Tryd.zeroValue9
  t46 := Tryd.underlying102
  a46 := Tryd.isAgg102
  z46 := Tryd.sizeOf102
  v46 := Tryd.zeroValue102
  t51 := Tryd.underlying118
  a51 := Tryd.isAgg118
  z51 := Tryd.sizeOf118
  v51 := Tryd.zeroValue118
  t53 := Tryd.underlying120
  a53 := Tryd.isAgg120
  z53 := Tryd.sizeOf120
  v53 := Tryd.zeroValue120 }
/-- bits.Len: "Len returns the minimum number of bits required to represent x; the result is 0 for x == 0.": IT RETURNS 'Lib.bitLen x'; the world is as it was. (A uint has 64 bits in the model.) ITS CALLEE bits.Len64 IS MET BY ITS OWN CONTRACT OFF THE SHELF (lay that first). (LAID: no walk: one application.) -/
theorem Tryd.bits_Len (x : Int) (w : World) (h0 : 0 ≤ x) (h1 : x ≤ 18446744073709551615) :
    Calls Tryd.prog 64 #[.int .u64 x] w fun e w' => e = .returned (.int .i64 (Lib.bitLen x.toNat)) ∧ w' = w := Any.bits_Len Tryd.lays125 x w h0 h1
def Tryd.lays137_ren : Go.Shelf.Ren := ⟨fun | 137 => 95 | 217 => 99 | 266 => 100 | n => n, fun | 9 => 9 | 5 => 5 | 3 => 3 | n => n, fun | n => n⟩
theorem Tryd.lays137 : Go.Proofs.Lays.n137 Tryd.prog Tryd.lays137_ren := {
  mixed := by kernel_rfl
  f137 := Tryd.func95.trans (congrArg some (by kernel_rfl))
  f217 := Tryd.func99.trans (congrArg some (by kernel_rfl))
  f266 := Tryd.func100.trans (congrArg some (by kernel_rfl))
  t3 := Tryd.underlying3
  a3 := Tryd.isAgg3
  z3 := Tryd.sizeOf3
  v3 := Tryd.zeroValue3
  t5 := Tryd.underlying5
  a5 := Tryd.isAgg5
  z5 := Tryd.sizeOf5
  v5 := Tryd.zeroValue5
  t9 := Tryd.underlying9
  a9 := Tryd.isAgg9
  z9 := Tryd.sizeOf9
  v9 := Tryd.zeroValue9 }
open Go.RowKit in
/-- strings.IndexByte: "IndexByte returns the index of the first instance of c in s, or -1 if c is not present in s.": IT RETURNS 'Lib.indexByte s c'; the world is as it was. (LAID: no walk: one application.) -/
theorem Tryd.strings_IndexByte (s : ByteArray) (c : Int) (w : World) :
    Calls Tryd.prog 95 #[.string s, .int .u8 c] w fun e w' => e = .returned (.int .i64 (Lib.indexByte s.data.toList c.toNat.toUInt8)) ∧ w' = w := Any.strings_IndexByte Tryd.lays137 s c w
def Tryd.lays215_ren : Go.Shelf.Ren := ⟨fun | 215 => 89 | n => n, fun | 3 => 3 | 4 => 4 | n => n, fun | n => n⟩
theorem Tryd.lays215 : Go.Proofs.Lays.n215 Tryd.prog Tryd.lays215_ren := {
  mixed := by kernel_rfl
  f215 := Tryd.func89.trans (congrArg some (by kernel_rfl))
  t3 := Tryd.underlying3
  a3 := Tryd.isAgg3
  z3 := Tryd.sizeOf3
  v3 := Tryd.zeroValue3
  t4 := Tryd.underlying4
  a4 := Tryd.isAgg4
  z4 := Tryd.sizeOf4
  v4 := Tryd.zeroValue4 }
open Go.RowKit in
/-- cmp.isNaN at int: 'x != x': false. (LAID: no walk: one application.) -/
theorem Tryd.cmp_isNaN_int (x : Int) (w : World) :
    Calls Tryd.prog 89 #[.int .i64 x] w fun e w' => e = .returned (.bool false) ∧ w' = w := Any.cmp_isNaN_int Tryd.lays215 x w
def Tryd.lays129_ren : Go.Shelf.Ren := ⟨fun | 129 => 82 | n => n, fun | 53 => 120 | 3 => 3 | 4 => 4 | 46 => 102 | 5 => 5 | 9 => 9 | n => n, fun | n => n⟩
theorem Tryd.lays129 : Go.Proofs.Lays.n129 Tryd.prog Tryd.lays129_ren := {
  mixed := by kernel_rfl
  f129 := Tryd.func82.trans (congrArg some (by kernel_rfl))
  t3 := Tryd.underlying3
  a3 := Tryd.isAgg3
  z3 := Tryd.sizeOf3
  v3 := Tryd.zeroValue3
  t4 := Tryd.underlying4
  a4 := Tryd.isAgg4
  z4 := Tryd.sizeOf4
  v4 := Tryd.zeroValue4
  t5 := Tryd.underlying5
  a5 := Tryd.isAgg5
  z5 := Tryd.sizeOf5
  v5 := Tryd.zeroValue5
  t9 := Tryd.underlying9
  a9 := Tryd.isAgg9
  z9 := Tryd.sizeOf9
  v9 := Tryd.zeroValue9
  t46 := Tryd.underlying102
  a46 := Tryd.isAgg102
  z46 := Tryd.sizeOf102
  v46 := Tryd.zeroValue102
  t53 := Tryd.underlying120
  a53 := Tryd.isAgg120
  z53 := Tryd.sizeOf120
  v53 := Tryd.zeroValue120 }
/-- bits.Len64: "Len64 returns the minimum number of bits required to represent x; the result is 0 for x == 0.": IT RETURNS 'Lib.bitLen x'; the world is as it was. ('h0', 'h1': x is a uint64.) (LAID: no walk: one application.) -/
theorem Tryd.bits_Len64 (x : Int) (w : World) (h0 : 0 ≤ x) (h1 : x ≤ 18446744073709551615) :
    Calls Tryd.prog 82 #[.int .u64 x] w fun e w' => e = .returned (.int .i64 (Lib.bitLen x.toNat)) ∧ w' = w := Any.bits_Len64 Tryd.lays129 x w h0 h1
def Tryd.lays217_ren : Go.Shelf.Ren := ⟨fun | 217 => 99 | 266 => 100 | n => n, fun | 9 => 9 | 5 => 5 | 3 => 3 | n => n, fun | n => n⟩
theorem Tryd.lays217 : Go.Proofs.Lays.n217 Tryd.prog Tryd.lays217_ren := {
  mixed := by kernel_rfl
  f217 := Tryd.func99.trans (congrArg some (by kernel_rfl))
  f266 := Tryd.func100.trans (congrArg some (by kernel_rfl))
  t3 := Tryd.underlying3
  a3 := Tryd.isAgg3
  z3 := Tryd.sizeOf3
  v3 := Tryd.zeroValue3
  t5 := Tryd.underlying5
  a5 := Tryd.isAgg5
  z5 := Tryd.sizeOf5
  v5 := Tryd.zeroValue5
  t9 := Tryd.underlying9
  a9 := Tryd.isAgg9
  z9 := Tryd.sizeOf9
  v9 := Tryd.zeroValue9 }
open Go.RowKit Go.Lib in
/-- internal/stringslite.IndexByte (what strings.IndexByte calls): IT RETURNS 'Lib.indexByte s c'; the world is as it was. (LAID: no walk: one application.) -/
theorem Tryd.stringslite_IndexByte (s : ByteArray) (c : Int) (w : World) :
    Calls Tryd.prog 99 #[.string s, .int .u8 c] w fun e w' => e = .returned (.int .i64 (Lib.indexByte s.data.toList c.toNat.toUInt8)) ∧ w' = w := Any.stringslite_IndexByte Tryd.lays217 s c w
def Tryd.lays224_ren : Go.Shelf.Ren := ⟨fun | 224 => 97 | n => n, fun | 3 => 3 | n => n, fun | n => n⟩
theorem Tryd.lays224 : Go.Proofs.Lays.n224 Tryd.prog Tryd.lays224_ren := {
  mixed := by kernel_rfl
  f224 := Tryd.func97.trans (congrArg some (by kernel_rfl))
  t3 := Tryd.underlying3
  a3 := Tryd.isAgg3
  z3 := Tryd.sizeOf3
  v3 := Tryd.zeroValue3 }
open Go.RowKit Go.Lib in
/-- internal/bytealg.Cutover: "Cutover reports the number of failures of IndexByte we should tolerate before switching over to Index. n is the number of bytes processed so far.": on amd64: (n + 16) / 8. (LAID: no walk: one application.) -/
theorem Tryd.bytealg_Cutover (n : Int) (h0 : 0 ≤ n) (h1 : n < 4611686018427387904) (w : World) :
    Calls Tryd.prog 97 #[.int .i64 n] w fun e w' => e = .returned (.int .i64 ((n + 16) / 8)) ∧ w' = w := Any.bytealg_Cutover Tryd.lays224 n h0 h1 w
def Tryd.lays152_ren : Go.Shelf.Ren := ⟨fun | 152 => 91 | 137 => 95 | 119 => 96 | 224 => 97 | 225 => 98 | 217 => 99 | 266 => 100 | n => n, fun | 9 => 9 | 21 => 21 | 3 => 3 | 4 => 4 | 5 => 5 | 0 => 0 | 46 => 102 | n => n, fun | n => n⟩
theorem Tryd.lays152 : Go.Proofs.Lays.n152 Tryd.prog Tryd.lays152_ren := {
  mixed := by kernel_rfl
  f119 := Tryd.func96.trans (congrArg some (by kernel_rfl))
  f137 := Tryd.func95.trans (congrArg some (by kernel_rfl))
  f152 := Tryd.func91.trans (congrArg some (by kernel_rfl))
  f217 := Tryd.func99.trans (congrArg some (by kernel_rfl))
  f224 := Tryd.func97.trans (congrArg some (by kernel_rfl))
  f225 := Tryd.func98.trans (congrArg some (by kernel_rfl))
  f266 := Tryd.func100.trans (congrArg some (by kernel_rfl))
  t0 := Tryd.underlying0
  a0 := Tryd.isAgg0
  z0 := Tryd.sizeOf0
  v0 := Tryd.zeroValue0
  t3 := Tryd.underlying3
  a3 := Tryd.isAgg3
  z3 := Tryd.sizeOf3
  v3 := Tryd.zeroValue3
  t4 := Tryd.underlying4
  a4 := Tryd.isAgg4
  z4 := Tryd.sizeOf4
  v4 := Tryd.zeroValue4
  t5 := Tryd.underlying5
  a5 := Tryd.isAgg5
  z5 := Tryd.sizeOf5
  v5 := Tryd.zeroValue5
  t9 := Tryd.underlying9
  a9 := Tryd.isAgg9
  z9 := Tryd.sizeOf9
  v9 := Tryd.zeroValue9
  t21 := Tryd.underlying21
  a21 := Tryd.isAgg21
  z21 := Tryd.sizeOf21
  v21 := Tryd.zeroValue21
  t46 := Tryd.underlying102
  a46 := Tryd.isAgg102
  z46 := Tryd.sizeOf102
  v46 := Tryd.zeroValue102 }
open Go.RowKit Go.Lib in
theorem Tryd.strings_IndexRune_ascii (s : ByteArray) (r : Int) (w : World) (h0 : 0 ≤ r) (h1 : r < 128) :
    Calls Tryd.prog 91 #[.string s, .int .i32 r] w fun e w' => e = .returned (.int .i64 (Lib.indexByte s.data.toList r.toNat.toUInt8)) ∧ w' = w := Any.strings_IndexRune_ascii Tryd.lays152 s r w h0 h1
def Tryd.lays151_ren : Go.Shelf.Ren := ⟨fun | 151 => 79 | 152 => 91 | 137 => 95 | 119 => 96 | 224 => 97 | 225 => 98 | 217 => 99 | 266 => 100 | n => n, fun | 9 => 9 | 21 => 21 | 4 => 4 | 3 => 3 | 5 => 5 | 0 => 0 | 46 => 102 | n => n, fun | n => n⟩
theorem Tryd.lays151 : Go.Proofs.Lays.n151 Tryd.prog Tryd.lays151_ren := {
  mixed := by kernel_rfl
  f119 := Tryd.func96.trans (congrArg some (by kernel_rfl))
  f137 := Tryd.func95.trans (congrArg some (by kernel_rfl))
  f151 := Tryd.func79.trans (congrArg some (by kernel_rfl))
  f152 := Tryd.func91.trans (congrArg some (by kernel_rfl))
  f217 := Tryd.func99.trans (congrArg some (by kernel_rfl))
  f224 := Tryd.func97.trans (congrArg some (by kernel_rfl))
  f225 := Tryd.func98.trans (congrArg some (by kernel_rfl))
  f266 := Tryd.func100.trans (congrArg some (by kernel_rfl))
  t0 := Tryd.underlying0
  a0 := Tryd.isAgg0
  z0 := Tryd.sizeOf0
  v0 := Tryd.zeroValue0
  t3 := Tryd.underlying3
  a3 := Tryd.isAgg3
  z3 := Tryd.sizeOf3
  v3 := Tryd.zeroValue3
  t4 := Tryd.underlying4
  a4 := Tryd.isAgg4
  z4 := Tryd.sizeOf4
  v4 := Tryd.zeroValue4
  t5 := Tryd.underlying5
  a5 := Tryd.isAgg5
  z5 := Tryd.sizeOf5
  v5 := Tryd.zeroValue5
  t9 := Tryd.underlying9
  a9 := Tryd.isAgg9
  z9 := Tryd.sizeOf9
  v9 := Tryd.zeroValue9
  t21 := Tryd.underlying21
  a21 := Tryd.isAgg21
  z21 := Tryd.sizeOf21
  v21 := Tryd.zeroValue21
  t46 := Tryd.underlying102
  a46 := Tryd.isAgg102
  z46 := Tryd.sizeOf102
  v46 := Tryd.zeroValue102 }
open Go.RowKit Go.Lib in
theorem Tryd.strings_ContainsRune_ascii (s : ByteArray) (r : Int) (w : World) (h0 : 0 ≤ r) (h1 : r < 128) :
    Calls Tryd.prog 79 #[.string s, .int .i32 r] w fun e w' => e = .returned (.bool (decide (0 ≤ Lib.indexByte s.data.toList r.toNat.toUInt8))) ∧ w' = w := Any.strings_ContainsRune_ascii Tryd.lays151 s r w h0 h1
def Tryd.lays227_ren : Go.Shelf.Ren := ⟨fun | 227 => 58 | n => n, fun | 9 => 9 | 116 => 96 | 4 => 4 | 0 => 0 | 3 => 3 | 5 => 5 | n => n, fun | n => n⟩
theorem Tryd.lays227 : Go.Proofs.Lays.n227 Tryd.prog Tryd.lays227_ren := {
  mixed := by kernel_rfl
  f227 := Tryd.func58.trans (congrArg some (by kernel_rfl))
  t0 := Tryd.underlying0
  a0 := Tryd.isAgg0
  z0 := Tryd.sizeOf0
  v0 := Tryd.zeroValue0
  t3 := Tryd.underlying3
  a3 := Tryd.isAgg3
  z3 := Tryd.sizeOf3
  v3 := Tryd.zeroValue3
  t4 := Tryd.underlying4
  a4 := Tryd.isAgg4
  z4 := Tryd.sizeOf4
  v4 := Tryd.zeroValue4
  t5 := Tryd.underlying5
  a5 := Tryd.isAgg5
  z5 := Tryd.sizeOf5
  v5 := Tryd.zeroValue5
  t9 := Tryd.underlying9
  a9 := Tryd.isAgg9
  z9 := Tryd.sizeOf9
  v9 := Tryd.zeroValue9
  t116 := Tryd.underlying96
  a116 := Tryd.isAgg96
  z116 := Tryd.sizeOf96 }
open Go.RowKit Go.Lib in
theorem Tryd.strings_makeASCIISet (hv116 : ∀ w, (zeroValue 96).run Tryd.prog w = .ok (.agg (Array.replicate 256 (.bool false))) w) (chars : ByteArray) (w : World) (hs : chars.size < 4294967281) (hascii : ∀ (j : Nat) b, chars.data.toList[j]? = some b → b.toNat < 128) :
    Calls Tryd.prog 58 #[.string chars] w fun e w' => e = .returned (.tuple #[.agg (Lib.setCells chars.data.toList), .bool true]) ∧ w' = w.alloc (.cells (Lib.setCells chars.data.toList) 96) := Any.strings_makeASCIISet Tryd.lays227 hv116 (by kernel_rfl) chars w hs hascii
def Tryd.lays228_ren : Go.Shelf.Ren := ⟨fun | 228 => 77 | n => n, fun | 124 => 100 | 5 => 5 | 4 => 4 | 0 => 0 | 116 => 96 | n => n, fun | n => n⟩
theorem Tryd.lays228 : Go.Proofs.Lays.n228 Tryd.prog Tryd.lays228_ren := {
  mixed := by kernel_rfl
  f228 := Tryd.func77.trans (congrArg some (by kernel_rfl))
  t0 := Tryd.underlying0
  a0 := Tryd.isAgg0
  z0 := Tryd.sizeOf0
  v0 := Tryd.zeroValue0
  t4 := Tryd.underlying4
  a4 := Tryd.isAgg4
  z4 := Tryd.sizeOf4
  v4 := Tryd.zeroValue4
  t5 := Tryd.underlying5
  a5 := Tryd.isAgg5
  z5 := Tryd.sizeOf5
  v5 := Tryd.zeroValue5
  t116 := Tryd.underlying96
  a116 := Tryd.isAgg96
  z116 := Tryd.sizeOf96
  t124 := Tryd.underlying100
  a124 := Tryd.isAgg100
  z124 := Tryd.sizeOf100
  v124 := Tryd.zeroValue100 }
open Go.RowKit Go.Lib in
/-- '(as *asciiSet) contains(c)': 'as[c]': the set lies at block b, whole. (LAID: no walk: one application.) -/
theorem Tryd.asciiSet_contains (b : Nat) (x : UInt8) (v : Bool) (w : World) (hc : w.cell? ⟨b, x.toNat, none⟩ = some (.bool v)) :
    Calls Tryd.prog 77 #[.pointer (some ⟨b, 0, none⟩), .int .u8 x.toNat] w fun e w' => e = .returned (.bool v) ∧ w' = w := Any.asciiSet_contains Tryd.lays228 b x v w hc
def Tryd.lays260_ren : Go.Shelf.Ren := ⟨fun | 260 => 90 | n => n, fun | 9 => 9 | 21 => 21 | 3 => 3 | 4 => 4 | 5 => 5 | 119 => 152 | 0 => 0 | 46 => 102 | 139 => 155 | 138 => 154 | n => n, fun | 3 => 9 | 4 => 10 | n => n⟩
theorem Tryd.lays260 : Go.Proofs.Lays.n260 Tryd.prog Tryd.lays260_ren := {
  mixed := by kernel_rfl
  f260 := Tryd.func90.trans (congrArg some (by kernel_rfl))
  t0 := Tryd.underlying0
  a0 := Tryd.isAgg0
  z0 := Tryd.sizeOf0
  v0 := Tryd.zeroValue0
  t3 := Tryd.underlying3
  a3 := Tryd.isAgg3
  z3 := Tryd.sizeOf3
  v3 := Tryd.zeroValue3
  t4 := Tryd.underlying4
  a4 := Tryd.isAgg4
  z4 := Tryd.sizeOf4
  v4 := Tryd.zeroValue4
  t5 := Tryd.underlying5
  a5 := Tryd.isAgg5
  z5 := Tryd.sizeOf5
  v5 := Tryd.zeroValue5
  t9 := Tryd.underlying9
  a9 := Tryd.isAgg9
  z9 := Tryd.sizeOf9
  v9 := Tryd.zeroValue9
  t21 := Tryd.underlying21
  a21 := Tryd.isAgg21
  z21 := Tryd.sizeOf21
  v21 := Tryd.zeroValue21
  t46 := Tryd.underlying102
  a46 := Tryd.isAgg102
  z46 := Tryd.sizeOf102
  v46 := Tryd.zeroValue102
  t119 := Tryd.underlying152
  a119 := Tryd.isAgg152
  z119 := Tryd.sizeOf152
  t138 := Tryd.underlying154
  a138 := Tryd.isAgg154
  z138 := Tryd.sizeOf154
  v138 := Tryd.zeroValue154
  t139 := Tryd.underlying155
  a139 := Tryd.isAgg155
  z139 := Tryd.sizeOf155
  v139 := Tryd.zeroValue155
  g3 := by kernel_rfl
  g4 := by kernel_rfl }
open Go.RowKit Go.Lib in
theorem Tryd.utf8_decodeRuneInStringSlow (s : ByteArray) (w : World) (hT : Lib.Utf8Tabs 9 10 w) :
    Calls Tryd.prog 90 #[.string s] w fun e w' => e = .returned (.tuple #[.int .i32 (Lib.decodeGo s).1, .int .i64 (Lib.decodeGo s).2]) ∧ Below w.heap.size w w' := Any.utf8_decodeRuneInStringSlow Tryd.lays260 s w hT
def Tryd.lays113_ren : Go.Shelf.Ren := ⟨fun | 113 => 49 | n => n, fun | 28 => 23 | 3 => 3 | 4 => 4 | 9 => 9 | 20 => 20 | 0 => 0 | n => n, fun | n => n⟩
theorem Tryd.lays113 : Go.Proofs.Lays.n113 Tryd.prog Tryd.lays113_ren := {
  mixed := by kernel_rfl
  f113 := Tryd.func49.trans (congrArg some (by kernel_rfl))
  t0 := Tryd.underlying0
  a0 := Tryd.isAgg0
  z0 := Tryd.sizeOf0
  v0 := Tryd.zeroValue0
  t3 := Tryd.underlying3
  a3 := Tryd.isAgg3
  z3 := Tryd.sizeOf3
  v3 := Tryd.zeroValue3
  t4 := Tryd.underlying4
  a4 := Tryd.isAgg4
  z4 := Tryd.sizeOf4
  v4 := Tryd.zeroValue4
  t9 := Tryd.underlying9
  a9 := Tryd.isAgg9
  z9 := Tryd.sizeOf9
  v9 := Tryd.zeroValue9
  t20 := Tryd.underlying20
  a20 := Tryd.isAgg20
  z20 := Tryd.sizeOf20
  v20 := Tryd.zeroValue20
  t28 := Tryd.underlying23
  a28 := Tryd.isAgg23
  z28 := Tryd.sizeOf23
  v28 := Tryd.zeroValue23 }
open Go.Lib in
/-- slices.Max at []int: "Max returns the maximal value in x. It panics if x is empty.": OF A SLICE THAT IS NOT EMPTY IT RETURNS 'Lib.maxOf (the elements)'; the world is as it was. (Of an empty one it panics: no contract here.) (LAID: no walk: one application.) -/
theorem Tryd.slices_Max_int (b off n c : Nat) (zs : List Int) (w : World) (hn : 0 < n) (hz : n ≤ zs.length) (hbig : n ≤ 9223372036854775807) (hc : ∀ j, j < zs.length → w.cell? ⟨b, off + j, none⟩ = some (.int .i64 (zs.getD j 0))) :
    Calls Tryd.prog 49 #[.slice (some ⟨b, off, none⟩) n c] w fun e w' => e = .returned (.int .i64 (Lib.maxOf (zs.take n))) ∧ w' = w := Any.slices_Max_int Tryd.lays113 b off n c zs w hn hz hbig hc
def Tryd.lays114_ren : Go.Shelf.Ren := ⟨fun | 114 => 48 | n => n, fun | 28 => 23 | 3 => 3 | 4 => 4 | 9 => 9 | 20 => 20 | 0 => 0 | n => n, fun | n => n⟩
theorem Tryd.lays114 : Go.Proofs.Lays.n114 Tryd.prog Tryd.lays114_ren := {
  mixed := by kernel_rfl
  f114 := Tryd.func48.trans (congrArg some (by kernel_rfl))
  t0 := Tryd.underlying0
  a0 := Tryd.isAgg0
  z0 := Tryd.sizeOf0
  v0 := Tryd.zeroValue0
  t3 := Tryd.underlying3
  a3 := Tryd.isAgg3
  z3 := Tryd.sizeOf3
  v3 := Tryd.zeroValue3
  t4 := Tryd.underlying4
  a4 := Tryd.isAgg4
  z4 := Tryd.sizeOf4
  v4 := Tryd.zeroValue4
  t9 := Tryd.underlying9
  a9 := Tryd.isAgg9
  z9 := Tryd.sizeOf9
  v9 := Tryd.zeroValue9
  t20 := Tryd.underlying20
  a20 := Tryd.isAgg20
  z20 := Tryd.sizeOf20
  v20 := Tryd.zeroValue20
  t28 := Tryd.underlying23
  a28 := Tryd.isAgg23
  z28 := Tryd.sizeOf23
  v28 := Tryd.zeroValue23 }
open Go.Lib in
/-- slices.Min at []int: "Min returns the minimal value in x. It panics if x is empty.": OF A SLICE THAT IS NOT EMPTY IT RETURNS 'Lib.minOf (the elements)'; the world is as it was. (Of an empty one it panics: no contract here.) (LAID: no walk: one application.) -/
theorem Tryd.slices_Min_int (b off n c : Nat) (zs : List Int) (w : World) (hn : 0 < n) (hz : n ≤ zs.length) (hbig : n ≤ 9223372036854775807) (hc : ∀ j, j < zs.length → w.cell? ⟨b, off + j, none⟩ = some (.int .i64 (zs.getD j 0))) :
    Calls Tryd.prog 48 #[.slice (some ⟨b, off, none⟩) n c] w fun e w' => e = .returned (.int .i64 (Lib.minOf (zs.take n))) ∧ w' = w := Any.slices_Min_int Tryd.lays114 b off n c zs w hn hz hbig hc
def Tryd.laysNm215_ren : Go.Shelf.Ren := ⟨fun | 15 => 65 | n => n, fun | 22 => 23 | 3 => 3 | 4 => 4 | n => n, fun | n => n⟩
theorem Tryd.laysNm215 : Go.Proofs.Lays2.n15 Tryd.prog Tryd.laysNm215_ren := {
  mixed := by kernel_rfl
  f15 := Tryd.func65.trans (congrArg some (by kernel_rfl))
  t3 := Tryd.underlying3
  a3 := Tryd.isAgg3
  z3 := Tryd.sizeOf3
  v3 := Tryd.zeroValue3
  t4 := Tryd.underlying4
  a4 := Tryd.isAgg4
  z4 := Tryd.sizeOf4
  v4 := Tryd.zeroValue4
  t22 := Tryd.underlying23
  a22 := Tryd.isAgg23
  z22 := Tryd.sizeOf23
  v22 := Tryd.zeroValue23
  i3 := by kernel_rfl }
open Go.RowKit Go.Lib in
/-- slices.Clone at []int: "Clone returns a copy of the slice. The elements are copied using assignment, so this is a shallow clone. The result may have additional unused capacity. The result preserves the nilness of s.": OF A SLICE THAT IS NOT nil IT RETURNS A SLICE THAT IS NOT nil, OF THE SAME ELEMENTS, IN MEMORY OF THE CALL's OWN: in the how-to's words (6f): 'w'.ownsRow B e 1 v' n cells': v' begins at the head of a row among the blocks from B on (B: the heap's size at the call), not frozen, whose first cells are the elements · 'Below B w w'': below B all is as it was. The capacity is whatever the run-time gives. 'zs': what the cells behind the slice's address hold; 'zs.take n': its elements. (LAID: no walk: one application.) -/
theorem Tryd.slices_Clone_int (b off n c : Nat) (zs : List Int) (w : World) (hz : n ≤ zs.length) (hbig : n * 8 ≤ 140737488355328) (hc : ∀ j, j < zs.length → w.cell? ⟨b, off + j, none⟩ = some (.int .i64 (zs.getD j 0))) :
    Calls Tryd.prog 65 #[.slice (some ⟨b, off, none⟩) n c] w fun e w' => ∃ v', e = .returned v' ∧ w'.ownsRow w.heap.size 3 1 v' n ((zs.take n).map (Value.int .i64)) ∧ v' ≠ .slice none 0 0 ∧ Below w.heap.size w w' := Any.slices_Clone_int Tryd.laysNm215 b off n c zs w hz hbig hc
open Go.RowKit Go.Lib in
/-- The same at nil: nil comes back; the world is as it was. (LAID: no walk: one application.) -/
theorem Tryd.slices_Clone_int_nil (n c : Nat) (w : World) :
    Calls Tryd.prog 65 #[.slice none n c] w fun e w' => e = .returned (.slice none 0 0) ∧ w' = w := Any.slices_Clone_int_nil Tryd.laysNm215 n c w
open Go.RowKit Go.Lib in
/-- The same at a slice of length 0 that is not nil, WHATEVER ITS ADDRESS (no cell is asked for): a slice that is not nil and owns nothing comes back. (LAID: no walk: one application.) -/
theorem Tryd.slices_Clone_int_zero (a : Addr) (c : Nat) (w : World) :
    Calls Tryd.prog 65 #[.slice (some a) 0 c] w fun e w' => ∃ v', e = .returned v' ∧ w'.ownsRow w.heap.size 3 1 v' 0 [] ∧ v' ≠ .slice none 0 0 ∧ Below w.heap.size w w' := Any.slices_Clone_int_zero Tryd.laysNm215 a c w
end Go.Proofs

/- KNUTH and YAO's tree of right weights: what the reference's functions answer. No condition. -/
namespace Go.Proofs.YtioekjkfhbopkaaDoor
open Go Go.RowKit Go.Proofs.YtioekjkfhbopkaaDoorW.PrintWords

theorem bitLen_bounds : ∀ (m : Nat), m < 2 ^ 13 → m < 2 ^ Lib.bitLen m ∧ (∀ k, k < Lib.bitLen m → 2 ^ k ≤ m) ∧ Lib.bitLen m ≤ 13 := by
  have key : ∀ (n m : Nat), m < 2 ^ n → n ≤ 13 → m < 2 ^ Lib.bitLen m ∧ (∀ k, k < Lib.bitLen m → 2 ^ k ≤ m) ∧ Lib.bitLen m ≤ n := by
    intro n
    induction n with
    | zero =>
      intro m hm _
      obtain rfl : m = 0 := by simpa using hm
      have e : Lib.bitLen 0 = 0 := by decide
      rw [e]
      exact ⟨by decide, fun k h => absurd h (Nat.not_lt_zero _), Nat.le_refl _⟩
    | succ n ih =>
      intro m hm hn
      by_cases h0 : m = 0
      · subst h0
        have e : Lib.bitLen 0 = 0 := by decide
        rw [e]
        exact ⟨by decide, fun k h => absurd h (Nat.not_lt_zero _), Nat.zero_le _⟩
      · have h13 : (2 : Nat) ^ (n + 1) ≤ 2 ^ 13 := Nat.pow_le_pow_right (by decide) hn
        have hb := Lib.bitLen_half m h0 (by
          have : (2 : Nat) ^ 13 ≤ 2 ^ 64 := Nat.pow_le_pow_right (by decide) (by decide)
          omega)
        obtain ⟨a, b, c⟩ := ih (m / 2) (by rw [Nat.pow_succ] at hm; omega) (by omega)
        rw [hb]
        generalize Lib.bitLen (m / 2) = q at a b c
        refine ⟨by rw [Nat.add_comm, Nat.pow_succ]; omega, fun k hk => ?_, by omega⟩
        cases k with
        | zero => simp; omega
        | succ k => have := b k (by omega); rw [Nat.pow_succ]; omega
  exact fun m hm => key 13 m hm (Nat.le_refl _)
/-- the depth of the tree -/
def dep (W : List Int) : Nat := Lib.bitLen (W.sum - 1).toNat
theorem dep_le {W : List Int} (h : GoodW W) : W.sum ≤ (2 ^ dep W : Nat) ∧ (∀ k, k < dep W → ((2 ^ k : Nat) : Int) < W.sum) ∧ dep W ≤ 12 := by
  have h1 := h.pos
  have h2 := h.le
  obtain ⟨a, b, c⟩ := bitLen_bounds (W.sum - 1).toNat (by omega)
  unfold dep
  refine ⟨by omega, fun k hk => by have := b k hk; omega, ?_⟩
  rcases Nat.lt_or_ge 12 (Lib.bitLen (W.sum - 1).toNat) with q | q
  · have := b 12 q
    omega
  · exact q
/-- the parts: the weights, and what is left over -/
def parts (W : List Int) : List Nat := W.map Int.toNat ++ [(((2 ^ dep W : Nat) : Int) - W.sum).toNat]
theorem parts_len (W : List Int) : (parts W).length = W.length + 1 := by simp [parts]
theorem parts_at {W : List Int} (h : GoodW W) (i : Nat) (hi : i < W.length) : ((parts W).getD i 0 : Int) = W.getD i 0 := by
  unfold parts
  have h0 := h.nn i
  rw [List.getD_eq_getElem?_getD, List.getElem?_append_left (by simpa using hi), List.getElem?_map]
  rw [List.getD_eq_getElem?_getD] at h0 ⊢
  rw [List.getElem?_eq_getElem hi] at h0 ⊢
  simp at h0 ⊢
  omega
theorem parts_last {W : List Int} (h : GoodW W) : ((parts W).getD W.length 0 : Int) = ((2 ^ dep W : Nat) : Int) - W.sum := by
  have := (dep_le h).1
  unfold parts
  generalize 2 ^ dep W = q at this ⊢
  rw [List.getD_eq_getElem?_getD, List.getElem?_append_right (by simp)]
  simp
  omega
theorem sum_toNat {W : List Int} (h : ∀ i, 0 ≤ W.getD i 0) : ((W.map Int.toNat).sum : Int) = W.sum := by
  induction W with
  | nil => rfl
  | cons x l ih =>
    have h0 := h 0
    have := ih (fun i => by have := h (i + 1); simpa using this)
    simp at h0
    rw [List.map_cons, List.sum_cons, List.sum_cons]
    omega
theorem parts_sum {W : List Int} (h : GoodW W) : (parts W).sum = 2 ^ dep W := by
  have h1 := sum_toNat h.nn
  have h2 := (dep_le h).1
  unfold parts
  generalize 2 ^ dep W = q at h2 ⊢
  rw [List.sum_append, List.sum_cons, List.sum_nil]
  generalize (W.map Int.toNat).sum = s at h1 ⊢
  omega
theorem parts_le {W : List Int} (h : GoodW W) (i : Nat) : (parts W).getD i 0 ≤ 4096 := by
  by_cases hi : i < (parts W).length
  · have h1 : (parts W).getD i 0 ∈ parts W := by
      rw [List.getD_eq_getElem?_getD, List.getElem?_eq_getElem hi]
      exact List.getElem_mem hi
    have h2 := le_sumN _ _ h1
    rw [parts_sum h] at h2
    have h3 : (2 : Nat) ^ dep W ≤ 2 ^ 12 := Nat.pow_le_pow_right (by decide) (dep_le h).2.2
    omega
  · rw [List.getD_eq_getElem?_getD, List.getElem?_eq_none (by omega)]
    exact Nat.zero_le _
theorem powerAbove_l0 {W : List Int} (h : GoodW W) : ∀ (e k : Nat), k + e = dep W → Ev (fun n => PSampleDraw.demonref4_PowerAbove.l0 n W.sum ((2 ^ k : Nat) : Int) (k : Int)) (((2 ^ dep W : Nat) : Int), (dep W : Int)) := by
  obtain ⟨h1, h2, h3⟩ := dep_le h
  intro e
  induction e with
  | zero =>
    intro k hk
    obtain rfl : k = dep W := by omega
    refine Ev.step (f := fun _ => some _) (fun n => ?_) (Ev.now _)
    simp only [PSampleDraw.demonref4_PowerAbove.l0]
    rw [if_neg (by omega)]
  | succ e ih =>
    intro k hk
    refine Ev.step (fun n => ?_) (ih (k + 1) (by omega))
    have h4 := h2 k (by omega)
    have h5 := h.le
    have hw : wrap64 (((2 ^ k : Nat) : Int) * 2) = ((2 ^ (k + 1) : Nat) : Int) := by rw [Nat.pow_succ]; unfold wrap64; omega
    simp only [PSampleDraw.demonref4_PowerAbove.l0]
    rw [if_pos h4, hw, wrap_up k (by omega)]
theorem powerAbove_f {W : List Int} (h : GoodW W) : Ev (fun n => PSampleDraw.demonref4_PowerAbove.f n W.sum) (((2 ^ dep W : Nat) : Int), (dep W : Int)) := powerAbove_l0 h (dep W) 0 (by omega)
/-- the places of the leaves among the first i -/
def leafTo (P : List Nat) (k i : Nat) : List Int := ((List.range i).filter fun j => bitAt (P.getD j 0) k).map fun (j : Nat) => (j : Int)
theorem leafTo_succ (P : List Nat) (k i : Nat) : leafTo P k (i + 1) = if bitAt (P.getD i 0) k = true then leafTo P k i ++ [(i : Int)] else leafTo P k i := by
  unfold leafTo
  rw [List.range_succ, List.filter_append, List.map_append]
  by_cases h : bitAt (P.getD i 0) k = true
  · rw [if_pos h, List.filter_cons_of_pos (p := fun j => bitAt (P.getD j 0) k) h]
    rfl
  · rw [if_neg h, List.filter_cons_of_neg (p := fun j => bitAt (P.getD j 0) k) h]
    simp
theorem leafTo_len (P : List Nat) (k : Nat) : ∀ i, (leafTo P k i).length ≤ i
  | 0 => by simp [leafTo]
  | i + 1 => by
    rw [leafTo_succ]
    have := leafTo_len P k i
    split
    · rw [List.length_append]; simp; omega
    · omega
theorem leafTo_all (P : List Nat) (D d : Nat) : leafTo P (D - d) P.length = (leafs P D d).map fun (j : Nat) => (j : Int) := rfl
theorem bit_test (x k : Nat) (hx : x ≤ 4096) (hk : k ≤ 12) : Int.tmod (wrap64 (Int.tdiv (x : Int) ((2 ^ k : Nat) : Int))) 2 = 1 ↔ bitAt x k = true := by
  have e : Int.tdiv (x : Int) ((2 ^ k : Nat) : Int) = ((x / 2 ^ k : Nat) : Int) := by
    rw [Int.tdiv_eq_ediv_of_nonneg (by omega)]
    rfl
  have hle : x / 2 ^ k ≤ x := Nat.div_le_self _ _
  unfold bitAt
  rw [e, decide_eq_true_iff]
  generalize x / 2 ^ k = q at hle ⊢
  have ew : wrap64 (q : Int) = (q : Int) := by unfold wrap64; omega
  rw [ew, Int.tmod_eq_emod_of_nonneg (by omega)]
  omega
theorem leavesAt_l1 {W : List Int} (h : GoodW W) (k : Nat) (hk : k ≤ 12) : ∀ (e i : Nat), i + e = W.length + 1 →
    Ev (fun n => PSampleDraw.demonref4_LeavesAt.l1 n W ((2 ^ dep W : Nat) : Int) (leafTo (parts W) k i) ((2 ^ k : Nat) : Int) (i : Int)) (leafTo (parts W) k (W.length + 1)) := by
  have hpow : 0 < 2 ^ k := Nat.two_pow_pos k
  have hlen := h.len
  intro e
  induction e with
  | zero =>
    intro i hi
    obtain rfl : i = W.length + 1 := by omega
    refine Ev.step (f := fun _ => some _) (fun n => ?_) (Ev.now _)
    simp only [PSampleDraw.demonref4_LeavesAt.l1]
    rw [if_neg (by omega)]
  | succ e ih =>
    intro i hi
    have hih := ih (i + 1) (by omega)
    have hx := parts_le h i
    have hlt := leafTo_len (parts W) k i
    have bt := bit_test ((parts W).getD i 0) k hx hk
    rw [leafTo_succ] at hih
    have step : ∀ y : Int, y = ((parts W).getD i 0 : Int) → Ev (fun n => if (((2 ^ k : Nat) : Int)) > 0 then (if ((2 ^ k : Nat) : Int) = 0 then (none) else (if (Int.tmod (wrap64 (Int.tdiv y ((2 ^ k : Nat) : Int))) 2) = 1 then (if (leafTo (parts W) k i).length < 17592186044416 then (PSampleDraw.demonref4_LeavesAt.l1 n W ((2 ^ dep W : Nat) : Int) (leafTo (parts W) k i ++ [(i : Int)]) ((2 ^ k : Nat) : Int) (wrap64 ((i : Int) + 1))) else (none)) else (PSampleDraw.demonref4_LeavesAt.l1 n W ((2 ^ dep W : Nat) : Int) (leafTo (parts W) k i) ((2 ^ k : Nat) : Int) (wrap64 ((i : Int) + 1))))) else (PSampleDraw.demonref4_LeavesAt.l1 n W ((2 ^ dep W : Nat) : Int) (leafTo (parts W) k i) ((2 ^ k : Nat) : Int) (wrap64 ((i : Int) + 1)))) (leafTo (parts W) k (W.length + 1)) := by
      intro y hy
      subst hy
      by_cases hb : bitAt ((parts W).getD i 0) k = true
      · rw [if_pos hb] at hih
        exact Ev.congr (fun n => by rw [if_pos (by omega), if_neg (by omega), if_pos (bt.2 hb), if_pos (by omega), wrap_up i (by omega)]) hih
      · rw [if_neg hb] at hih
        exact Ev.congr (fun n => by rw [if_pos (by omega), if_neg (by omega), if_neg (fun q => hb (bt.1 q)), wrap_up i (by omega)]) hih
    by_cases hi2 : i < W.length
    · have hy := parts_at h i hi2
      refine Ev.step (f := fun n => (PSampleDraw.demonref1_Sum.f n W).bind fun t => _) (fun n => ?_) (Ev.bind (sum_f h) (step _ hy.symm))
      simp only [PSampleDraw.demonref4_LeavesAt.l1]
      rw [if_pos (by omega)]
      congr 1
      funext t
      rw [if_pos (by omega), if_pos (by omega), rd_nat]
    · obtain rfl : i = W.length := by omega
      have hy := parts_last h
      have hs := h.le
      have hs0 := h.pos
      have hd := dep_le h
      have hp12 : (2 : Nat) ^ dep W ≤ 2 ^ 12 := Nat.pow_le_pow_right (by decide) hd.2.2
      have hw : wrap64 (((2 ^ dep W : Nat) : Int) - W.sum) = ((2 ^ dep W : Nat) : Int) - W.sum := by unfold wrap64; omega
      refine Ev.step (f := fun n => (PSampleDraw.demonref1_Sum.f n W).bind fun t => _) (fun n => ?_) (Ev.bind (f := fun n t => if (((2 ^ k : Nat) : Int)) > 0 then (if ((2 ^ k : Nat) : Int) = 0 then (none) else (if (Int.tmod (wrap64 (Int.tdiv (wrap64 (((2 ^ dep W : Nat) : Int) - t)) ((2 ^ k : Nat) : Int))) 2) = 1 then (if (leafTo (parts W) k W.length).length < 17592186044416 then (PSampleDraw.demonref4_LeavesAt.l1 n W ((2 ^ dep W : Nat) : Int) (leafTo (parts W) k W.length ++ [(W.length : Int)]) ((2 ^ k : Nat) : Int) (wrap64 ((W.length : Int) + 1))) else (none)) else (PSampleDraw.demonref4_LeavesAt.l1 n W ((2 ^ dep W : Nat) : Int) (leafTo (parts W) k W.length) ((2 ^ k : Nat) : Int) (wrap64 ((W.length : Int) + 1))))) else (PSampleDraw.demonref4_LeavesAt.l1 n W ((2 ^ dep W : Nat) : Int) (leafTo (parts W) k W.length) ((2 ^ k : Nat) : Int) (wrap64 ((W.length : Int) + 1)))) (sum_f h) (step _ (by rw [hw]; exact hy.symm)))
      simp only [PSampleDraw.demonref4_LeavesAt.l1]
      rw [if_pos (by omega)]
      congr 1
      funext t
      rw [if_neg (by omega)]
theorem leavesAt_l0 {W : List Int} (h : GoodW W) (d : Nat) (hd : d ≤ dep W) : ∀ (e i : Nat), i + e = d →
    Ev (fun n => PSampleDraw.demonref4_LeavesAt.l0 n W (d : Int) ((2 ^ dep W : Nat) : Int) ((2 ^ (dep W - i) : Nat) : Int) (i : Int)) (leafTo (parts W) (dep W - d) (W.length + 1)) := by
  have h12 := (dep_le h).2.2
  intro e
  induction e with
  | zero =>
    intro i hi
    obtain rfl : i = d := by omega
    refine Ev.step (fun n => ?_) (leavesAt_l1 h (dep W - i) (by omega) (W.length + 1) 0 (by omega))
    simp only [PSampleDraw.demonref4_LeavesAt.l0]
    rw [if_neg (by omega)]
    rfl
  | succ e ih =>
    intro i hi
    refine Ev.step (fun n => ?_) (ih (i + 1) (by omega))
    have hp : (2 : Nat) ^ (dep W - i) = 2 ^ (dep W - (i + 1)) * 2 := by
      rw [← Nat.pow_succ]
      congr 1
      omega
    have hp12 : (2 : Nat) ^ (dep W - i) ≤ 2 ^ 12 := Nat.pow_le_pow_right (by decide) (by omega)
    have hw : wrap64 (Int.tdiv ((2 ^ (dep W - i) : Nat) : Int) 2) = ((2 ^ (dep W - (i + 1)) : Nat) : Int) := by
      rw [Int.tdiv_eq_ediv_of_nonneg (by omega)]
      unfold wrap64
      omega
    simp only [PSampleDraw.demonref4_LeavesAt.l0]
    rw [if_pos (by omega), hw, wrap_up i (by omega)]
theorem leavesAt_f {W : List Int} (h : GoodW W) (d : Nat) (hd : d ≤ dep W) : Ev (fun n => PSampleDraw.demonref4_LeavesAt.f n W (d : Int)) ((leafs (parts W) (dep W) d).map fun (j : Nat) => (j : Int)) := by
  have h0 := leavesAt_l0 h d hd d 0 (by omega)
  rw [Nat.sub_zero, show W.length + 1 = (parts W).length from (parts_len W).symm, leafTo_all] at h0
  exact Ev.bind (sum_f h) (Ev.bind (powerAbove_f h) h0)
end Go.Proofs.YtioekjkfhbopkaaDoor

/- What the reference draws: the walk along the tree. No condition. -/
namespace Go.Proofs.YtioekjkfhbopkaaDoor
open Go Go.RowKit Go.Proofs.YtioekjkfhbopkaaDoorW.PrintWords

/-- a text's bits -/
def bitsOf (s : ByteArray) : List Nat := s.data.toList.map fun b => if b = 49 then 1 else 0
theorem bitsOf_len (s : ByteArray) : (bitsOf s).length = s.size := by
  unfold bitsOf
  rw [List.length_map]
  rfl
theorem bitsOf_drop (s : ByteArray) (i : Nat) (hi : i < s.size) : (bitsOf s).drop i = (if bt s (i : Int) = 49 then 1 else 0) :: (bitsOf s).drop (i + 1) := by
  have hl : s.data.toList.length = s.size := rfl
  rw [List.drop_eq_getElem_cons (by rw [bitsOf_len]; exact hi)]
  congr 1
  unfold bitsOf
  rw [List.getElem_map, bt_list, List.getD_eq_getElem?_getD, List.getElem?_eq_getElem (by rw [hl]; exact hi)]
  simp only [Option.getD_some]
  generalize s.data.toList[i]'(by rw [hl]; exact hi) = b
  by_cases h : b = 49
  · subst h; rfl
  · rw [if_neg h, if_neg]
    intro e
    apply h
    apply UInt8.toNat_inj.1
    have : b.toNat = 49 := by omega
    rw [this]
    rfl
theorem modSum_le (l : List Nat) (m : Nat) : modSum l m ≤ l.sum := by
  induction l with
  | nil => exact Nat.le_refl _
  | cons x r ih =>
    unfold modSum at *
    rw [List.map_cons, List.sum_cons, List.sum_cons]
    have := Nat.mod_le x m
    omega
theorem nodes_le {l : List Nat} {D : Nat} (h : l.sum = 2 ^ D) (d : Nat) (hd : d ≤ D) : nodesAt l D d ≤ 2 ^ D := by
  have h1 := nodes_mod l D h d hd
  have h2 := modSum_le l (2 ^ (D - d + 1))
  rw [h] at h2
  rw [← h1] at h2
  exact Nat.le_trans (Nat.le_mul_of_pos_right _ (Nat.two_pow_pos _)) h2
theorem nodes_le' {W : List Int} (h : GoodW W) (d : Nat) (hd : d ≤ dep W) : nodesAt (parts W) (dep W) d ≤ 4096 := by
  have h1 := nodes_le (parts_sum h) d hd
  have h2 : (2 : Nat) ^ dep W ≤ 2 ^ 12 := Nat.pow_le_pow_right (by decide) (dep_le h).2.2
  omega
theorem getD_le_of_sum (l : List Nat) (i : Nat) : l.getD i 0 ≤ l.sum := by
  by_cases hi : i < l.length
  · rw [List.getD_eq_getElem?_getD, List.getElem?_eq_getElem hi]
    exact le_sumN _ _ (List.getElem_mem hi)
  · rw [List.getD_eq_getElem?_getD, List.getElem?_eq_none (by omega)]
    exact Nat.zero_le _
theorem leaf_mem (P : List Nat) (D d v : Nat) (hv : v < (leafs P D d).length) : (leafs P D d).getD v 0 < P.length ∧ bitAt (P.getD ((leafs P D d).getD v 0) 0) (D - d) = true := by
  have hm : (leafs P D d).getD v 0 ∈ leafs P D d := by
    rw [List.getD_eq_getElem?_getD, List.getElem?_eq_getElem hv]
    exact List.getElem_mem hv
  obtain ⟨h1, h2⟩ := List.mem_filter.1 hm
  exact ⟨List.mem_range.1 h1, h2⟩
/-- where the tree begins again it has two nodes at depth one -/
theorem again_nodes {W : List Int} (h : GoodW W) {d v : Nat} (hv : v < (leafs (parts W) (dep W) d).length) (ha : ¬ (leafs (parts W) (dep W) d).getD v 0 + 1 < (parts W).length) :
    1 ≤ dep W ∧ nodesAt (parts W) (dep W) 1 = 2 ∧ (leafs (parts W) (dep W) 0).length = 0 := by
  obtain ⟨h1, h2⟩ := leaf_mem _ _ _ _ hv
  have hl := parts_len W
  have e : (leafs (parts W) (dep W) d).getD v 0 = W.length := by omega
  rw [e] at h2
  have h3 := parts_last h
  have h4 := h.pos
  have hx : 0 < (parts W).getD W.length 0 := by
    rcases Nat.eq_zero_or_pos ((parts W).getD W.length 0) with q | q
    · rw [q] at h2
      unfold bitAt at h2
      simp at h2
    · exact q
  have hlast : (parts W).getD W.length 0 < 2 ^ dep W := by omega
  have hsum := parts_sum h
  -- no part is the whole
  have small : ∀ i, (parts W).getD i 0 < 2 ^ dep W := by
    intro i
    have hle := getD_le_of_sum (parts W) i
    by_cases hi : i < W.length
    · have h5 := parts_at h i hi
      have h6 : W.getD i 0 ≤ W.sum := by
        have := take_le h.nn (i + 1) (by omega)
        rw [sum_take W i hi] at this
        have := (take_le h.nn i (by omega)).1
        omega
      omega
    · by_cases hi2 : i = W.length
      · subst hi2; exact hlast
      · rw [List.getD_eq_getElem?_getD, List.getElem?_eq_none (by omega)]
        exact Nat.two_pow_pos _
  have hc : (leafs (parts W) (dep W) 0).length = 0 := by
    rw [List.length_eq_zero_iff]
    unfold leafs
    rw [List.filter_eq_nil_iff]
    intro i _
    have := small i
    unfold bitAt
    rw [Nat.sub_zero, Nat.div_eq_of_lt this]
    decide
  refine ⟨?_, ?_, hc⟩
  · rcases Nat.eq_zero_or_pos (dep W) with q | q
    · rw [q] at hlast; omega
    · exact q
  · rw [nodesAt, nodesAt, ← leafs_len, hc]
/-- what is drawn, in the program's words -/
def drawn (o : Option (Nat × Nat)) : Int × Int × Bool := match o with
  | some (k, n) => ((k : Int), (n : Int), true)
  | none => (0, 0, false)
/-- what a round does with the leaves of its depth -/
def drawK (k : Nat) (x0 : List Int) (x1 : ByteArray) (x7 x8 x9 : Int) (l : List Int) : Option (Int × Int × Bool) :=
  if x7 < (l.length : Int) then (if 0 ≤ x7 then (if (rd l x7) < (x0.length : Int) then (some (rd l x7, x9, true)) else ((PSampleDraw.demonref4_LeavesAt.f k x0 0).bind fun t139 => (PSampleDraw.demonref4_DrawOf.j1 k x0 x1 0 0 x9 t139))) else (none)) else (PSampleDraw.demonref4_DrawOf.j1 k x0 x1 x7 x8 x9 l)
theorem draw_round {W : List Int} {s : ByteArray} {v d used : Int} {L : List Int} {r : Int × Int × Bool} (hL : Ev (fun n => PSampleDraw.demonref4_LeavesAt.f n W d) L) (h : Ev (fun n => drawK n W s v d used L) r) : Ev (fun n => PSampleDraw.demonref4_DrawOf.l0 n W s v d used) r :=
  Ev.step (f := fun n => (PSampleDraw.demonref4_LeavesAt.f n W d).bind (drawK n W s v d used)) (fun n => by simp only [PSampleDraw.demonref4_DrawOf.l0]; rfl) (Ev.bind hL h)
theorem drawOf_l0 {W : List Int} (h : GoodW W) (s : ByteArray) (hs : s.size ≤ 2000000) (hb : isBits s = true) : ∀ (e used v d : Nat), used + e = s.size → d ≤ dep W → v < nodesAt (parts W) (dep W) d →
    Ev (fun n => PSampleDraw.demonref4_DrawOf.l0 n W s (v : Int) (d : Int) (used : Int)) (drawn (drawB (parts W) (dep W) ((bitsOf s).drop used) v d used)) := by
  have hD := dep_le h
  have hbits := (isBits_iff s).1 hb
  intro e
  induction e with
  | zero =>
    intro used v d hu hd hv
    obtain rfl : used = s.size := by omega
    have hdrop : (bitsOf s).drop s.size = [] := List.drop_eq_nil_of_le (by rw [bitsOf_len]; exact Nat.le_refl _)
    have hv4 := nodes_le' h d hd
    rw [hdrop]
    have fin2 : ∀ (v8 d8 : Int), Ev (fun n => PSampleDraw.demonref4_DrawOf.j2 n W s v8 d8 (s.size : Int)) (0, 0, false) := fun v8 d8 =>
      Ev.step (f := fun _ => some (0, 0, false)) (fun n => by simp only [PSampleDraw.demonref4_DrawOf.j2]; rw [if_pos (by simp)]) (Ev.now _)
    have fin1 : ∀ (v8 d8 : Int) (l : List Int), Ev (fun n => PSampleDraw.demonref4_DrawOf.j1 n W s v8 d8 (s.size : Int) l) (0, 0, false) := fun v8 d8 l => by
      by_cases q : d8 = 0
      · exact Ev.step (fun n => by simp only [PSampleDraw.demonref4_DrawOf.j1]; rw [if_pos q]) (fin2 _ _)
      · exact Ev.step (fun n => by simp only [PSampleDraw.demonref4_DrawOf.j1]; rw [if_neg q]) (fin2 _ _)
    have hL := leavesAt_f h d hd
    unfold drawB
    generalize hLs : leafs (parts W) (dep W) d = L at hL ⊢
    by_cases c1 : v < L.length
    · have c1' : (v : Int) < ((L.map fun (j : Nat) => (j : Int)).length : Int) := by rw [List.length_map]; omega
      have hr : rd (L.map fun (j : Nat) => (j : Int)) (v : Int) = ((L.getD v 0 : Nat) : Int) := by
        rw [rd_nat]; simp [List.getD_eq_getElem?_getD, c1]
      by_cases c2 : L.getD v 0 + 1 < (parts W).length
      · rw [if_pos ⟨c1, c2⟩]
        rw [parts_len] at c2
        exact draw_round hL (Ev.congr (fun n => by unfold drawK; rw [if_pos c1', if_pos (by omega), hr, if_pos (by omega)]; rfl) (Ev.now _))
      · rw [if_neg (fun q => c2 q.2)]
        rw [parts_len] at c2
        exact draw_round hL (Ev.congr (f := fun n => (PSampleDraw.demonref4_LeavesAt.f n W ((0 : Nat) : Int)).bind fun t => PSampleDraw.demonref4_DrawOf.j1 n W s 0 0 (s.size : Int) t) (fun n => by unfold drawK; rw [if_pos c1', if_pos (by omega), hr, if_neg (by omega)]; rfl) (Ev.bind (leavesAt_f h 0 (by omega)) (fin1 _ _ _)))
    · rw [if_neg (fun q => c1 q.1)]
      exact draw_round hL (Ev.congr (fun n => by unfold drawK; rw [if_neg (by rw [List.length_map]; omega)]) (fin1 _ _ _))
  | succ e ih =>
    intro used v d hu hd hv
    have hlt : used < s.size := by omega
    have hv4 := nodes_le' h d hd
    rw [bitsOf_drop s used hlt]
    have hbt := hbits used hlt
    obtain ⟨b, hb1, hb2, hbe⟩ : ∃ b : Nat, (if bt s (used : Int) = 49 then 1 else 0) = b ∧ b ≤ 1 ∧ (bt s (used : Int) = 49 ↔ b = 1) := by
      by_cases q : bt s (used : Int) = 49
      · exact ⟨1, by rw [if_pos q], by decide, by simp [q]⟩
      · exact ⟨0, by rw [if_neg q], by decide, by simp [q]⟩
    rw [hb1]
    have step2 : ∀ (v8 d8 : Nat), v8 ≤ 4096 → d8 ≤ 4096 → d8 + 1 ≤ dep W → 2 * v8 + b < nodesAt (parts W) (dep W) (d8 + 1) → Ev (fun n => PSampleDraw.demonref4_DrawOf.j2 n W s (v8 : Int) (d8 : Int) (used : Int)) (drawn (drawB (parts W) (dep W) ((bitsOf s).drop (used + 1)) (2 * v8 + b) (d8 + 1) (used + 1))) := by
      intro v8 d8 h8 h9 g1 g2
      have hih := ih (used + 1) (2 * v8 + b) (d8 + 1) (by omega) g1 g2
      have hw2 : wrap64 (2 * (v8 : Int)) = ((2 * v8 : Nat) : Int) := by unfold wrap64; omega
      by_cases q : bt s (used : Int) = 49
      · have := hbe.1 q
        subst this
        exact Ev.step (fun n => by simp only [PSampleDraw.demonref4_DrawOf.j2]; rw [if_neg (by omega), if_pos (by omega), if_pos (by omega), if_pos q, hw2, wrap_up _ (by omega), wrap_up d8 (by omega), wrap_up used (by omega)]) hih
      · obtain rfl : b = 0 := by
          rcases Nat.eq_zero_or_pos b with r | r
          · exact r
          · exact absurd (hbe.2 (by omega)) q
        exact Ev.step (fun n => by simp only [PSampleDraw.demonref4_DrawOf.j2]; rw [if_neg (by omega), if_pos (by omega), if_pos (by omega), if_neg q, hw2, wrap_up d8 (by omega), wrap_up used (by omega)]; rfl) hih
    have hL := leavesAt_f h d hd
    unfold drawB
    by_cases c1 : v < (leafs (parts W) (dep W) d).length
    · have hag := fun c2 => again_nodes h c1 c2
      rw [if_pos c1]
      generalize hLs : leafs (parts W) (dep W) d = L at hL c1 hag ⊢
      have c1' : (v : Int) < ((L.map fun (j : Nat) => (j : Int)).length : Int) := by rw [List.length_map]; omega
      have hr : rd (L.map fun (j : Nat) => (j : Int)) (v : Int) = ((L.getD v 0 : Nat) : Int) := by
        rw [rd_nat]; simp [List.getD_eq_getElem?_getD, c1]
      by_cases c2 : L.getD v 0 + 1 < (parts W).length
      · rw [if_pos c2]
        rw [parts_len] at c2
        exact draw_round hL (Ev.congr (fun n => by unfold drawK; rw [if_pos c1', if_pos (by omega), hr, if_pos (by omega)]; rfl) (Ev.now _))
      · rw [if_neg c2]
        obtain ⟨a1, a2, a3⟩ := hag c2
        rw [parts_len] at c2
        have := step2 0 0 (by omega) (by omega) (by omega) (by rw [a2]; omega)
        rw [Nat.mul_zero, Nat.zero_add, Nat.zero_add] at this
        exact draw_round hL (Ev.congr (f := fun n => (PSampleDraw.demonref4_LeavesAt.f n W ((0 : Nat) : Int)).bind fun t => PSampleDraw.demonref4_DrawOf.j1 n W s 0 0 (used : Int) t) (fun n => by unfold drawK; rw [if_pos c1', if_pos (by omega), hr, if_neg (by omega)]; rfl) (Ev.bind (leavesAt_f h 0 (by omega)) (Ev.step (f := fun n => PSampleDraw.demonref4_DrawOf.j2 n W s 0 0 (used : Int)) (fun n => by simp only [PSampleDraw.demonref4_DrawOf.j1]; rw [if_pos (by trivial)]) this)))
    · rw [if_neg c1]
      obtain ⟨n1, n2⟩ := next_node (parts_sum h) hd hv c1 hb2
      have hn4 := nodes_le' h (d + 1) n1
      generalize hLs : leafs (parts W) (dep W) d = L at hL c1 n2 ⊢
      have hst := step2 (v - L.length) d (by omega) (by omega) n1 n2
      refine draw_round hL (Ev.congr (fun n => by unfold drawK; rw [if_neg (by rw [List.length_map]; omega)]) ?_)
      by_cases q : d = 0
      · subst q
        have hv0 : v = 0 := by rw [nodesAt] at hv; omega
        have hz : v - L.length = 0 := by omega
        rw [hz] at hst ⊢
        exact Ev.step (fun n => by simp only [PSampleDraw.demonref4_DrawOf.j1]; rw [if_pos (by simp)]; rfl) hst
      · have hw : wrap64 ((v : Int) - ((L.map fun (j : Nat) => (j : Int)).length : Int)) = ((v - L.length : Nat) : Int) := by rw [List.length_map]; unfold wrap64; omega
        exact Ev.step (fun n => by simp only [PSampleDraw.demonref4_DrawOf.j1]; rw [if_neg (by omega), hw]) hst
theorem drawOf_f {W : List Int} (h : GoodW W) (s : ByteArray) (hs : s.size ≤ 2000000) (hb : isBits s = true) : Ev (fun n => PSampleDraw.demonref4_DrawOf.f n W s) (drawn (drawB (parts W) (dep W) (bitsOf s) 0 0 0)) :=
  drawOf_l0 h s hs hb s.size 0 0 0 (by omega) (Nat.zero_le _) (by rw [nodesAt]; omega)
end Go.Proofs.YtioekjkfhbopkaaDoor
