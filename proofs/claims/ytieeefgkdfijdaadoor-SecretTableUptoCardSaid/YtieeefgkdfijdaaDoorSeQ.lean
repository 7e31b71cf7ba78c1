/- What the printed functions on tables answer: one list of all, the same lists, copies, a table's error. No condition. -/
import Derived.Test.YtieeefgkdfijdaaDoorSeP
import Derived.Test.YtieeefgkdfijdaaDoorPSecretTablex3
import Derived.Test.YtieeefgkdfijdaaDoorPSecretTablex4
import Derived.Test.YtieeefgkdfijdaaDoorPSecretTablex5
namespace Go.Proofs.YtieeefgkdfijdaaDoor
open Go Go.RowKit Go.Proofs.YtieeefgkdfijdaaDoorW.PrintWords

theorem rdL_nat (l : List (List Int)) (i : Nat) : PSecretTable.rd_L1 l (i : Int) = l.getD i [] := rfl
theorem row_le (l : List (List Int)) (i : Nat) : (l.getD i []).length ≤ l.flatten.length := by
  rcases Nat.lt_or_ge i l.length with h | h
  · rw [getD_eq l i _ h]
    have : l[i] ∈ l := List.getElem_mem h
    exact List.Sublist.length_le (List.sublist_flatten_of_mem this)
  · rw [List.getD_eq_getElem?_getD, List.getElem?_eq_none h]
    simp
theorem takeL_at (l : List (List Int)) (i : Nat) (h : i < l.length) : l.take (i + 1) = l.take i ++ [l.getD i []] := by
  rw [List.take_succ_eq_append_getElem h, getD_eq l i [] h]
theorem flat_take (l : List (List Int)) (i : Nat) (h : i < l.length) : (l.take (i + 1)).flatten = (l.take i).flatten ++ l.getD i [] := by
  rw [takeL_at l i h, List.flatten_append]
  simp
theorem flat_take_le (l : List (List Int)) (i : Nat) : (l.take i).flatten.length ≤ l.flatten.length := by
  have : l.flatten = (l.take i).flatten ++ (l.drop i).flatten := by rw [← List.flatten_append, List.take_append_drop]
  rw [this, List.length_append]
  omega
theorem flat_l0 (l : List (List Int)) (hl : l.length ≤ 2000000) (hf : l.flatten.length ≤ 2000000) : ∀ (d i k : Nat), i + d = l.length → d < k → PSecretTable.demonref1_Flat.l0 k l (l.take i).flatten (i : Int) = some l.flatten := by
  intro d
  induction d with
  | zero =>
    intro i k hi hk
    obtain ⟨k, rfl⟩ : ∃ m, k = m + 1 := ⟨k - 1, by omega⟩
    obtain rfl : i = l.length := by omega
    simp only [PSecretTable.demonref1_Flat.l0]
    rw [if_neg (by omega), List.take_length]
  | succ d ih =>
    intro i k hi hk
    obtain ⟨k, rfl⟩ : ∃ m, k = m + 1 := ⟨k - 1, by omega⟩
    have hil : i < l.length := by omega
    have h1 := flat_take_le l i
    have h2 := row_le l i
    simp only [PSecretTable.demonref1_Flat.l0]
    rw [if_pos (by omega), if_pos (by omega), rdL_nat, if_pos (by omega), wrap_up i (by omega), ← flat_take l i hil]
    exact ih (i + 1) k (by omega) (by omega)
theorem flat_f (l : List (List Int)) (hl : l.length ≤ 2000000) (hf : l.flatten.length ≤ 2000000) (k : Nat) (hk : l.length < k) : PSecretTable.demonref1_Flat.f k l = some l.flatten :=
  flat_l0 l hl hf l.length 0 k (by omega) hk
theorem all_l0 (l : List (List Int)) (hl : l.length ≤ 2000000) (hf : l.flatten.length ≤ 2000000) : ∀ (d i k : Nat), i + d = l.length → d < k → PSecretTable.dist_all.l0 k (l.take i).flatten l (l.length : Int) (i : Int) = some l.flatten := by
  intro d
  induction d with
  | zero =>
    intro i k hi hk
    obtain ⟨k, rfl⟩ : ∃ m, k = m + 1 := ⟨k - 1, by omega⟩
    obtain rfl : i = l.length := by omega
    simp only [PSecretTable.dist_all.l0]
    rw [if_neg (by omega), List.take_length]
  | succ d ih =>
    intro i k hi hk
    obtain ⟨k, rfl⟩ : ∃ m, k = m + 1 := ⟨k - 1, by omega⟩
    have hil : i < l.length := by omega
    have h1 := flat_take_le l i
    have h2 := row_le l i
    simp only [PSecretTable.dist_all.l0]
    rw [if_pos (by omega), if_pos (by omega), if_pos (by omega), rdL_nat, if_pos (by omega), wrap_up i (by omega), ← flat_take l i hil]
    exact ih (i + 1) k (by omega) (by omega)
theorem all_f (l : List (List Int)) (hl : l.length ≤ 2000000) (hf : l.flatten.length ≤ 2000000) : PSecretTable.dist_all.f (l.length + 1) l = some l.flatten :=
  all_l0 l hl hf l.length 0 _ (by omega) (by omega)
/-- is a table of few rows and few numbers? -/
def fewOf (l : List (List Int)) : Bool := decide (l.length ≤ 40) && decide (l.flatten.length ≤ 400)
theorem few_f (l : List (List Int)) (hl : l.length ≤ 2000000) (hf : l.flatten.length ≤ 2000000) (k : Nat) (hk : l.length < k) : PSecretTable.demonlaw3_few.f k l = some (fewOf l) := by
  unfold PSecretTable.demonlaw3_few.f fewOf
  by_cases h : l.length ≤ 40
  · rw [if_pos (by omega), flat_f l hl hf k hk]
    have e : decide ((l.flatten.length : Int) ≤ 400) = decide (l.flatten.length ≤ 400) := by
      by_cases h2 : l.flatten.length ≤ 400
      · rw [decide_eq_true h2, decide_eq_true (by omega)]
      · rw [decide_eq_false h2, decide_eq_false (by omega)]
    show some (decide ((l.flatten.length : Int) ≤ 400)) = _
    rw [e, decide_eq_true h, Bool.true_and]
  · rw [if_neg (by omega), decide_eq_false h, Bool.false_and]
def fewKeysOf (K : List Int) (L : List (List Int)) : Bool := decide (K.length ≤ 100) && fewOf L
theorem fewKeys_f (K : List Int) (L : List (List Int)) (hl : L.length ≤ 2000000) (hf : L.flatten.length ≤ 2000000) : PSecretTable.demonlaw3_fewKeys.f (L.length + 1) K L = some (fewKeysOf K L) := by
  unfold PSecretTable.demonlaw3_fewKeys.f fewKeysOf
  by_cases h : K.length ≤ 100
  · rw [if_pos (by omega), few_f L hl hf _ (by omega), decide_eq_true h, Bool.true_and]
    rfl
  · rw [if_neg (by omega), decide_eq_false h, Bool.false_and]
theorem ints_f (l : List Int) (hl : l.length ≤ 2000000) : PSecretTable.demonlaw3_ints.f l = some l := by
  unfold PSecretTable.demonlaw3_ints.f
  rw [if_pos (by simp; omega)]
  rfl
theorem lists_l0 (l : List (List Int)) (hl : l.length ≤ 2000000) (hf : l.flatten.length ≤ 2000000) : ∀ (d i k : Nat), i + d = l.length → d < k → PSecretTable.demonlaw3_lists.l0 k l (l.take i) (i : Int) = some l := by
  intro d
  induction d with
  | zero =>
    intro i k hi hk
    obtain ⟨k, rfl⟩ : ∃ m, k = m + 1 := ⟨k - 1, by omega⟩
    obtain rfl : i = l.length := by omega
    simp only [PSecretTable.demonlaw3_lists.l0]
    rw [if_neg (by omega), List.take_length]
  | succ d ih =>
    intro i k hi hk
    obtain ⟨k, rfl⟩ : ∃ m, k = m + 1 := ⟨k - 1, by omega⟩
    have hil : i < l.length := by omega
    have h2 := row_le l i
    have h3 : (l.take i).length ≤ i := by simp; omega
    simp only [PSecretTable.demonlaw3_lists.l0]
    rw [if_pos (by omega), if_pos (by omega), rdL_nat, ints_f _ (by omega), Option.bind_some, if_pos (by omega), wrap_up i (by omega), ← takeL_at l i hil]
    exact ih (i + 1) k (by omega) (by omega)
theorem lists_f (l : List (List Int)) (hl : l.length ≤ 2000000) (hf : l.flatten.length ≤ 2000000) (k : Nat) (hk : l.length < k) : PSecretTable.demonlaw3_lists.f k l = some l :=
  lists_l0 l hl hf l.length 0 k (by omega) hk
theorem cipher_f (K : List Int) (L : List (List Int)) (hK : K.length ≤ 2000000) (hl : L.length ≤ 2000000) (hf : L.flatten.length ≤ 2000000) : PSecretTable.demonlaw3_cipher.f (L.length + 1) K L = some (K, L) := by
  unfold PSecretTable.demonlaw3_cipher.f
  rw [ints_f K hK, Option.bind_some, lists_f L hl hf _ (by omega), Option.bind_some]
theorem same_step (a b : List Int) (h : a.length = b.length) (i : Nat) (hi : i < a.length) (hp : a.take i = b.take i) : (a.getD i 0 = b.getD i 0 → a.take (i + 1) = b.take (i + 1)) ∧ (a.getD i 0 ≠ b.getD i 0 → a ≠ b) :=
  ⟨fun e => by rw [take_at a i hi, take_at b i (by omega), hp, e], fun e h2 => e (by rw [h2])⟩
theorem equal_l0 (a b : List Int) (hab : a.length = b.length) (hl : a.length ≤ 2000000) : ∀ (d i k : Nat), i + d = a.length → d < k → a.take i = b.take i → PSecretTable.slices_Equal_int_int.l0 k a b (a.length : Int) (i : Int) = some (decide (a = b)) := by
  intro d
  induction d with
  | zero =>
    intro i k hi hk hp
    obtain ⟨k, rfl⟩ : ∃ m, k = m + 1 := ⟨k - 1, by omega⟩
    obtain rfl : i = a.length := by omega
    simp only [PSecretTable.slices_Equal_int_int.l0]
    rw [List.take_length, hab, List.take_length] at hp
    rw [if_neg (by omega), decide_eq_true hp]
  | succ d ih =>
    intro i k hi hk hp
    obtain ⟨k, rfl⟩ : ∃ m, k = m + 1 := ⟨k - 1, by omega⟩
    have hil : i < a.length := by omega
    obtain ⟨s1, s2⟩ := same_step a b hab i hil hp
    simp only [PSecretTable.slices_Equal_int_int.l0]
    rw [if_pos (by omega), if_pos (by omega), if_pos (by omega), if_pos (by omega), rd_nat, rd_nat, wrap_up i (by omega)]
    by_cases e : a.getD i 0 = b.getD i 0
    · rw [if_pos e]; exact ih (i + 1) k (by omega) (by omega) (s1 e)
    · rw [if_neg e, decide_eq_false (s2 e)]
theorem equal_f (a b : List Int) (hl : a.length ≤ 2000000) : PSecretTable.slices_Equal_int_int.f (a.length + 1) a b = some (decide (a = b)) := by
  unfold PSecretTable.slices_Equal_int_int.f
  by_cases h : a.length = b.length
  · rw [if_pos (by omega)]; exact equal_l0 a b h hl a.length 0 _ (by omega) (by omega) (by simp)
  · rw [if_neg (by omega), decide_eq_false (fun e => h (by rw [e]))]
theorem sameInts_l0 (a b : List Int) (hab : a.length = b.length) (hl : a.length ≤ 2000000) : ∀ (d i k : Nat), i + d = a.length → d < k → a.take i = b.take i → PSecretTable.demonref1_SameInts.l0 k a b (i : Int) = some (decide (a = b)) := by
  intro d
  induction d with
  | zero =>
    intro i k hi hk hp
    obtain ⟨k, rfl⟩ : ∃ m, k = m + 1 := ⟨k - 1, by omega⟩
    obtain rfl : i = a.length := by omega
    simp only [PSecretTable.demonref1_SameInts.l0]
    rw [List.take_length, hab, List.take_length] at hp
    rw [if_neg (by omega), decide_eq_true hp]
  | succ d ih =>
    intro i k hi hk hp
    obtain ⟨k, rfl⟩ : ∃ m, k = m + 1 := ⟨k - 1, by omega⟩
    have hil : i < a.length := by omega
    obtain ⟨s1, s2⟩ := same_step a b hab i hil hp
    simp only [PSecretTable.demonref1_SameInts.l0]
    rw [if_pos (by omega), if_pos (by omega), if_pos (by omega), rd_nat, rd_nat, wrap_up i (by omega)]
    by_cases e : a.getD i 0 = b.getD i 0
    · rw [if_pos e]; exact ih (i + 1) k (by omega) (by omega) (s1 e)
    · rw [if_neg e, decide_eq_false (s2 e)]
theorem sameInts_f (a b : List Int) (hl : a.length ≤ 2000000) (k : Nat) (hk : a.length < k) : PSecretTable.demonref1_SameInts.f k a b = some (decide (a = b)) := by
  unfold PSecretTable.demonref1_SameInts.f
  by_cases h : a.length = b.length
  · rw [if_pos (by omega)]; exact sameInts_l0 a b h hl a.length 0 _ (by omega) hk (by simp)
  · rw [if_neg (by omega), decide_eq_false (fun e => h (by rw [e]))]
theorem sameLists_l0 (a b : List (List Int)) (hab : a.length = b.length) (hl : a.length ≤ 2000000) (hf : a.flatten.length ≤ 2000000) : ∀ (d i k : Nat), i + d = a.length → d + a.flatten.length < k → a.take i = b.take i → PSecretTable.demonref1_SameLists.l0 k a b (i : Int) = some (decide (a = b)) := by
  intro d
  induction d with
  | zero =>
    intro i k hi hk hp
    obtain ⟨k, rfl⟩ : ∃ m, k = m + 1 := ⟨k - 1, by omega⟩
    obtain rfl : i = a.length := by omega
    simp only [PSecretTable.demonref1_SameLists.l0]
    rw [List.take_length, hab, List.take_length] at hp
    rw [if_neg (by omega), decide_eq_true hp]
  | succ d ih =>
    intro i k hi hk hp
    obtain ⟨k, rfl⟩ : ∃ m, k = m + 1 := ⟨k - 1, by omega⟩
    have hil : i < a.length := by omega
    have h2 := row_le a i
    simp only [PSecretTable.demonref1_SameLists.l0]
    rw [if_pos (by omega), if_pos (by omega), if_pos (by omega), rdL_nat, rdL_nat, sameInts_f _ _ (by omega) k (by omega), Option.bind_some, wrap_up i (by omega)]
    by_cases e : a.getD i [] = b.getD i []
    · rw [decide_eq_true e, if_pos rfl]
      exact ih (i + 1) k (by omega) (by omega) (by rw [takeL_at a i hil, takeL_at b i (by omega), hp, e])
    · rw [decide_eq_false e, decide_eq_false (fun h3 => e (by rw [h3]))]
      rfl
theorem sameLists_f (a b : List (List Int)) (hl : a.length ≤ 2000000) (hf : a.flatten.length ≤ 2000000) : PSecretTable.demonref1_SameLists.f (a.length + a.flatten.length + 1) a b = some (decide (a = b)) := by
  unfold PSecretTable.demonref1_SameLists.f
  by_cases h : a.length = b.length
  · rw [if_pos (by omega)]; exact sameLists_l0 a b h hl hf a.length 0 _ (by omega) (by omega) (by simp)
  · rw [if_neg (by omega), decide_eq_false (fun e => h (by rw [e]))]
end Go.Proofs.YtieeefgkdfijdaaDoor
