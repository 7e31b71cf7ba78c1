/- A table's error; a right cipher, its signs: what the printed functions answer. No condition. -/
import Derived.Test.YtieeefgkdfijdaaDoorSeQ
namespace Go.Proofs.YtieeefgkdfijdaaDoor
open Go Go.RowKit Go.Proofs.YtieeefgkdfijdaaDoorW.PrintWords

def tErr (t : List (List Int)) : Int := if 16 < t.length then 2 else if t.any (fun r => decide (16 < r.length)) then 2 else if t.any (fun r => decide (r.length ≠ (t.getD 0 []).length)) then 3 else wcode 4096 t.flatten
theorem anyL_take (p : List Int → Bool) (l : List (List Int)) (i : Nat) (h : i < l.length) : (l.take (i + 1)).any p = ((l.take i).any p || p (l.getD i [])) := by
  rw [takeL_at l i h, List.any_append]
  simp
theorem tableError_l0 (t : List (List Int)) (hf : t.flatten.length ≤ 2000000) (h16 : t.length ≤ 16) : ∀ (d i k : Nat) (u : Bool), i + d = t.length → d + t.length + t.flatten.length + 2 < k → (t.take i).any (fun r => decide (16 < r.length)) = false →
    u = (t.take i).any (fun r => decide (r.length ≠ (t.getD 0 []).length)) → PSecretTable.demonref1_TableError.l0 k t u (i : Int) = some (tErr t) := by
  intro d
  induction d with
  | zero =>
    intro i k u hi hk hb hu
    obtain ⟨k, rfl⟩ : ∃ m, k = m + 1 := ⟨k - 1, by omega⟩
    obtain rfl : i = t.length := by omega
    rw [List.take_length] at hb hu
    simp only [PSecretTable.demonref1_TableError.l0]
    rw [if_neg (by omega)]
    have he : tErr t = if u = true then 3 else wcode 4096 t.flatten := by
      unfold tErr
      rw [if_neg (by omega), hb, if_neg (by simp), ← hu]
    rw [he]
    cases u
    · simp only [Bool.false_eq_true, if_false]
      have hl := listError_f t.flatten 4096 (by decide) (by decide) hf
      have hm : ∀ j, ∃ r, PSecretTable.demonref1_listError.f (t.flatten.length + 1 + j) t.flatten 4096 = some r ∧ r = wcode 4096 t.flatten := fun j => by
        induction j with
        | zero => exact ⟨_, hl, rfl⟩
        | succ j ih =>
          obtain ⟨r, hr, e⟩ := ih
          exact ⟨r, PSecretTable.demonref1_listError.mono t.flatten 4096 (t.flatten.length + 1 + j) r hr, e⟩
      rw [flat_f t (by omega) hf k (by omega), Option.bind_some]
      obtain ⟨r, hr, e⟩ := hm (k - (t.flatten.length + 1))
      rw [show t.flatten.length + 1 + (k - (t.flatten.length + 1)) = k by omega] at hr
      rw [hr, Option.bind_some, e]
    · simp
  | succ d ih =>
    intro i k u hi hk hb hu
    obtain ⟨k, rfl⟩ : ∃ m, k = m + 1 := ⟨k - 1, by omega⟩
    have hil : i < t.length := by omega
    simp only [PSecretTable.demonref1_TableError.l0]
    rw [if_pos (by omega), if_pos (by omega), rdL_nat, wrap_up i (by omega)]
    by_cases hx : 16 < (t.getD i []).length
    · rw [if_pos (by omega)]
      unfold tErr
      rw [if_neg (by omega), if_pos]
      rw [List.any_eq_true]
      rw [getD_eq t i [] hil] at hx
      exact ⟨t[i], List.getElem_mem hil, decide_eq_true hx⟩
    · rw [if_neg (by omega)]
      have hb' : (t.take (i + 1)).any (fun r => decide (16 < r.length)) = false := by rw [anyL_take _ t i hil, hb, decide_eq_false hx]; rfl
      have hu' := anyL_take (fun r => decide (r.length ≠ (t.getD 0 []).length)) t i hil
      rw [← hu] at hu'
      cases u
      · simp only [Bool.false_eq_true, if_false]
        rw [if_pos (by omega)]
        refine ih (i + 1) k _ (by omega) (by omega) hb' ?_
        rw [hu', Bool.false_or]
        show (((t.getD i []).length : Int) != ((t.getD 0 []).length : Int)) = decide ((t.getD i []).length ≠ (t.getD 0 []).length)
        by_cases e : (t.getD i []).length = (t.getD 0 []).length
        · rw [e]; simp
        · rw [decide_eq_true e, bne_iff_ne]; omega
      · simp only [if_true]
        refine ih (i + 1) k _ (by omega) (by omega) hb' ?_
        rw [hu', Bool.true_or]
theorem tableError_f (t : List (List Int)) (hf : t.flatten.length ≤ 2000000) : ∃ k, PSecretTable.demonref1_TableError.f k t = some (tErr t) := by
  refine ⟨t.length + t.length + t.flatten.length + 3, ?_⟩
  unfold PSecretTable.demonref1_TableError.f
  by_cases h : 16 < t.length
  · rw [if_pos (by omega)]
    unfold tErr
    rw [if_pos h]
  · rw [if_neg (by omega)]
    exact tableError_l0 t hf (by omega) t.length 0 _ false (by omega) (by omega) (by simp) (by simp)

/-- a right row of a cipher -/
structure GoodRow (n : Nat) (r : List Int) : Prop where
  pos : 0 < r.length
  most : r.length ≤ 16
  len : r.length = n
  sign : ∀ k, k < r.length → 0 ≤ r.getD k 0 ∧ r.getD k 0 ≤ 15
  once : ∀ k, k < r.length → (r.take k).contains (r.getD k 0) = false
/-- a right cipher -/
structure GoodCipher (K : List Int) (L : List (List Int)) : Prop where
  keys : wErr K = 0
  len : L.length = K.length
  row : ∀ i, i < L.length → GoodRow (L.getD 0 []).length (L.getD i [])
theorem keys_good {K : List Int} (h : wErr K = 0) : K.length ≤ 16 ∧ anyNeg K = false ∧ K.sum ≤ 4096 ∧ 0 < K.length := by
  unfold wErr at h
  by_cases c : 16 < K.length
  · rw [if_pos c] at h; cases h
  · rw [if_neg c] at h
    unfold wcode at h
    cases hn : anyNeg K
    · rw [hn, if_neg (by simp)] at h
      cases hp : anyPos K
      · rw [hp, if_neg (by simp)] at h; cases h
      · rw [hp, if_pos rfl] at h
        refine ⟨by omega, rfl, ?_, ?_⟩
        · by_cases hs : 4096 < K.sum
          · rw [if_pos hs] at h; cases h
          · omega
        · cases K with
          | nil => simp [anyPos] at hp
          | cons x r => simp
    · rw [hn, if_pos rfl] at h; cases h
theorem key_nonneg {K : List Int} (h : anyNeg K = false) (i : Nat) : 0 ≤ K.getD i 0 := by
  rcases Nat.lt_or_ge i K.length with hi | hi
  · rw [getD_eq K i 0 hi]
    unfold anyNeg at h
    have h1 := List.any_eq_false.1 h K[i] (List.getElem_mem hi)
    simpa using h1
  · rw [List.getD_eq_getElem?_getD, List.getElem?_eq_none hi]
    exact Int.le_refl 0
/-- how much weight of the first n keys goes from message m to sign s -/
def sgn (K : List Int) (L : List (List Int)) (m : Nat) (s : Int) : Nat → Int
  | 0 => 0
  | n + 1 => sgn K L m s n + if (L.getD n []).getD m 0 = s then K.getD n 0 else 0
theorem sgn_bound (K : List Int) (L : List (List Int)) (m : Nat) (s : Int) (h : anyNeg K = false) : ∀ n, n ≤ K.length → 0 ≤ sgn K L m s n ∧ sgn K L m s n ≤ (K.take n).sum := by
  intro n
  induction n with
  | zero => intro _; simp [sgn]
  | succ n ih =>
    intro hn
    have h1 := ih (by omega)
    have h2 := key_nonneg h n
    have h3 := sum_take K n (by omega)
    simp only [sgn]
    split <;> omega
theorem take_sum_le (K : List Int) (h : anyNeg K = false) (n : Nat) : (K.take n).sum ≤ K.sum := by
  have e : K = K.take n ++ K.drop n := (List.take_append_drop n K).symm
  have hd : anyNeg (K.drop n) = false := by
    unfold anyNeg at h ⊢
    rw [e, List.any_append, Bool.or_eq_false_iff] at h
    exact h.2
  have h2 := sum_nonneg _ hd
  have h3 : K.sum = (K.take n).sum + (K.drop n).sum := by rw [← List.sum_append, List.take_append_drop]
  omega
theorem sgn_le {K : List Int} {L : List (List Int)} (h : GoodCipher K L) (m : Nat) (s : Int) (n : Nat) (hn : n ≤ K.length) : 0 ≤ sgn K L m s n ∧ sgn K L m s n ≤ 4096 := by
  obtain ⟨_, h1, h2, _⟩ := keys_good h.keys
  have h3 := sgn_bound K L m s h1 n hn
  have h4 := take_sum_le K h1 n
  omega
/-- the greatest sign -/
def topOf (l : List Int) (t : Int) : Int := l.foldl (fun a b => if b > a then b else a) t
theorem topOf_append (l m : List Int) (t : Int) : topOf (l ++ m) t = topOf m (topOf l t) := by simp [topOf, List.foldl_append]
theorem topOf_take (l : List Int) (i : Nat) (h : i < l.length) (t : Int) : topOf (l.take (i + 1)) t = if l.getD i 0 > topOf (l.take i) t then l.getD i 0 else topOf (l.take i) t := by
  rw [take_at l i h, topOf_append]
  rfl
def signRow (K : List Int) (L : List (List Int)) (m n : Nat) : List Int := (List.range n).map fun s => sgn K L m (s : Nat) L.length
def signTab (K : List Int) (L : List (List Int)) (n : Nat) : List (List Int) := (List.range n).map fun m => signRow K L m (topOf L.flatten 0 + 1).toNat
/-- of each message the weight of keys for each sign -/
def signsOf (K : List Int) (L : List (List Int)) : List (List Int) := signTab K L (L.getD 0 []).length
theorem signRow_succ (K : List Int) (L : List (List Int)) (m n : Nat) : signRow K L m (n + 1) = signRow K L m n ++ [sgn K L m (n : Nat) L.length] := by simp [signRow, List.range_succ]
theorem signTab_succ (K : List Int) (L : List (List Int)) (n : Nat) : signTab K L (n + 1) = signTab K L n ++ [signRow K L n (topOf L.flatten 0 + 1).toNat] := by simp [signTab, List.range_succ]
theorem signRow_len (K : List Int) (L : List (List Int)) (m n : Nat) : (signRow K L m n).length = n := by simp [signRow]
theorem signTab_len (K : List Int) (L : List (List Int)) (n : Nat) : (signTab K L n).length = n := by simp [signTab]
theorem topOf_range (l : List Int) (t : Int) (ht : 0 ≤ t ∧ t ≤ 15) (h : ∀ x, x ∈ l → x ≤ 15) : 0 ≤ topOf l t ∧ topOf l t ≤ 15 := by
  induction l generalizing t with
  | nil => exact ht
  | cons x r ih =>
    have hx := h x (by simp)
    show 0 ≤ topOf r (if x > t then x else t) ∧ _
    refine ih _ ?_ (fun y hy => h y (by simp [hy]))
    split <;> omega
theorem GoodCipher.top {K : List Int} {L : List (List Int)} (h : GoodCipher K L) : 0 ≤ topOf L.flatten 0 ∧ topOf L.flatten 0 ≤ 15 := by
  refine topOf_range _ _ (by omega) fun x hx => ?_
  obtain ⟨r, hr, hxr⟩ := List.mem_flatten.1 hx
  obtain ⟨i, hi, rfl⟩ := List.getElem_of_mem hr
  obtain ⟨k, hk, rfl⟩ := List.getElem_of_mem hxr
  have := (h.row i hi).sign k (by rw [getD_eq L i [] hi]; exact hk)
  rw [getD_eq L i [] hi, getD_eq _ k 0 hk] at this
  exact this.2
section
variable {K : List Int} {L : List (List Int)} (hg : GoodCipher K L)
include hg
theorem signs_l4 (T : Int) (acc : List (List Int)) (m : Nat) (cells : List Int) (s : Nat) (R : List (List Int)) (hm : m < (L.getD 0 []).length) (hs : s ≤ 2000000) (hc : cells.length ≤ 2000000)
    (next : ∃ k, PSecretTable.demonref3_SignsOf.l3 k T acc (m : Int) (cells ++ [sgn K L m (s : Nat) L.length]) ((s + 1 : Nat) : Int) K L = some R) :
    ∀ d i, i + d = L.length → ∃ k, PSecretTable.demonref3_SignsOf.l4 k T acc (m : Int) cells (s : Int) (sgn K L m (s : Nat) i) (i : Int) K L = some R := by
  obtain ⟨hK16, _, _, _⟩ := keys_good hg.keys
  have hlen := hg.len
  intro d
  induction d with
  | zero =>
    intro i hi
    obtain ⟨k, hk⟩ := next
    refine ⟨k + 1, ?_⟩
    obtain rfl : i = L.length := by omega
    simp only [PSecretTable.demonref3_SignsOf.l4]
    rw [if_neg (by omega), if_pos (by omega), wrap_up s hs]
    exact hk
  | succ d ih =>
    intro i hi
    obtain ⟨k, hk⟩ := ih (i + 1) (by omega)
    refine ⟨k + 1, ?_⟩
    have hil : i < L.length := by omega
    have hr := (hg.row i hil).len
    have hb := sgn_le hg m (s : Nat) (i + 1) (by omega)
    simp only [PSecretTable.demonref3_SignsOf.l4]
    rw [if_pos (by omega), if_pos (by omega), if_pos (by omega), rdL_nat, if_pos (by omega), rd_nat, wrap_up i (by omega)]
    simp only [sgn] at hk hb
    by_cases e : (L.getD i []).getD m 0 = (s : Int)
    · rw [if_pos e, if_pos (by omega), rd_nat]
      rw [if_pos e] at hk hb
      have hw : wrap64 (sgn K L m (s : Nat) i + K.getD i 0) = sgn K L m (s : Nat) i + K.getD i 0 := by unfold wrap64; omega
      rw [hw]
      exact hk
    · rw [if_neg e]
      rw [if_neg e, Int.add_zero] at hk
      exact hk
theorem signs_l3 (acc : List (List Int)) (m : Nat) (R : List (List Int)) (hm : m < (L.getD 0 []).length) (hacc : acc.length ≤ 2000000) (N : Nat) (hN : (N : Int) = topOf L.flatten 0 + 1)
    (next : ∃ k, PSecretTable.demonref3_SignsOf.l2 k (topOf L.flatten 0) (acc ++ [signRow K L m N]) ((m + 1 : Nat) : Int) K L = some R) :
    ∀ d s, s + d = N → ∃ k, PSecretTable.demonref3_SignsOf.l3 k (topOf L.flatten 0) acc (m : Int) (signRow K L m s) (s : Int) K L = some R := by
  have ht := hg.top
  have hm16 := (hg.row 0 (by have := (keys_good hg.keys).2.2.2; have := hg.len; omega)).most
  intro d
  induction d with
  | zero =>
    intro s hs
    obtain ⟨k, hk⟩ := next
    refine ⟨k + 1, ?_⟩
    obtain rfl : s = N := by omega
    simp only [PSecretTable.demonref3_SignsOf.l3]
    rw [if_neg (by omega), if_pos (by omega), wrap_up m (by omega)]
    exact hk
  | succ d ih =>
    intro s hs
    obtain ⟨k, hk⟩ := signs_l4 hg (topOf L.flatten 0) acc m (signRow K L m s) s R hm (by omega) (by rw [signRow_len]; omega) (by
      have := ih (s + 1) (by omega)
      rw [signRow_succ] at this
      exact this) L.length 0 (by omega)
    refine ⟨k + 1, ?_⟩
    simp only [PSecretTable.demonref3_SignsOf.l3]
    rw [if_pos (by omega)]
    exact hk
theorem signs_l2 : ∀ d m, m + d = (L.getD 0 []).length → ∃ k, PSecretTable.demonref3_SignsOf.l2 k (topOf L.flatten 0) (signTab K L m) (m : Int) K L = some (signsOf K L) := by
  have ht := hg.top
  have hL := (keys_good hg.keys).2.2.2
  have hlen := hg.len
  have hm16 := (hg.row 0 (by omega)).most
  intro d
  induction d with
  | zero =>
    intro m hm
    refine ⟨1, ?_⟩
    simp only [PSecretTable.demonref3_SignsOf.l2]
    rw [if_pos (by omega), if_neg (by rw [show (0 : Int) = ((0 : Nat) : Int) from rfl, rdL_nat]; omega)]
    unfold signsOf
    rw [show m = (L.getD 0 []).length by omega]
  | succ d ih =>
    intro m hm
    obtain ⟨k, hk⟩ := signs_l3 hg (signTab K L m) m (signsOf K L) (by omega) (by rw [signTab_len]; omega) (topOf L.flatten 0 + 1).toNat (by omega) (by
      have := ih (m + 1) (by omega)
      rw [signTab_succ] at this
      exact this) (topOf L.flatten 0 + 1).toNat 0 (by omega)
    refine ⟨k + 1, ?_⟩
    simp only [PSecretTable.demonref3_SignsOf.l2]
    rw [if_pos (by omega), if_pos (by rw [show (0 : Int) = ((0 : Nat) : Int) from rfl, rdL_nat]; omega)]
    exact hk
theorem signs_l1 (i : Nat) (hi : i < L.length) (t : Int) (next : ∃ k, PSecretTable.demonref3_SignsOf.l0 k (topOf (L.getD i []) t) ((i + 1 : Nat) : Int) K L = some (signsOf K L)) :
    ∀ d j, j + d = (L.getD i []).length → ∃ k, PSecretTable.demonref3_SignsOf.l1 k (topOf ((L.getD i []).take j) t) (i : Int) (j : Int) K L = some (signsOf K L) := by
  have hm16 := (hg.row i hi).most
  have hK16 := (keys_good hg.keys).1
  have hlen := hg.len
  intro d
  induction d with
  | zero =>
    intro j hj
    obtain ⟨k, hk⟩ := next
    refine ⟨k + 1, ?_⟩
    obtain rfl : j = (L.getD i []).length := by omega
    simp only [PSecretTable.demonref3_SignsOf.l1]
    rw [if_pos (by omega), if_pos (by omega), rdL_nat, if_neg (by omega), List.take_length, wrap_up i (by omega)]
    exact hk
  | succ d ih =>
    intro j hj
    obtain ⟨k, hk⟩ := ih (j + 1) (by omega)
    refine ⟨k + 1, ?_⟩
    simp only [PSecretTable.demonref3_SignsOf.l1]
    rw [if_pos (by omega), if_pos (by omega), rdL_nat, if_pos (by omega), if_pos (by omega), rd_nat, wrap_up j (by omega)]
    rw [topOf_take _ j (by omega)] at hk
    by_cases e : (L.getD i []).getD j 0 > topOf ((L.getD i []).take j) t
    · rw [if_pos e]; rw [if_pos e] at hk; exact hk
    · rw [if_neg e]; rw [if_neg e] at hk; exact hk
theorem signs_l0 : ∀ d i, i + d = L.length → ∃ k, PSecretTable.demonref3_SignsOf.l0 k (topOf (L.take i).flatten 0) (i : Int) K L = some (signsOf K L) := by
  intro d
  induction d with
  | zero =>
    intro i hi
    obtain ⟨k, hk⟩ := signs_l2 hg (L.getD 0 []).length 0 (by omega)
    refine ⟨k + 1, ?_⟩
    simp only [PSecretTable.demonref3_SignsOf.l0]
    obtain rfl : i = L.length := by omega
    rw [if_neg (by omega), List.take_length]
    exact hk
  | succ d ih =>
    intro i hi
    have hil : i < L.length := by omega
    obtain ⟨k, hk⟩ := signs_l1 hg i hil (topOf (L.take i).flatten 0) (by
      have := ih (i + 1) (by omega)
      rw [flat_take L i hil, topOf_append] at this
      exact this) (L.getD i []).length 0 (by omega)
    refine ⟨k + 1, ?_⟩
    simp only [PSecretTable.demonref3_SignsOf.l0]
    rw [if_pos (by omega)]
    exact hk
theorem signs_f : ∃ k, PSecretTable.demonref3_SignsOf.f k K L = some (signsOf K L) := signs_l0 hg L.length 0 (by omega)
end
end Go.Proofs.YtieeefgkdfijdaaDoor
