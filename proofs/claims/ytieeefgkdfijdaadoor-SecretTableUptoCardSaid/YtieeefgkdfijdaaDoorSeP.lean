/- Plain words for weights, ciphers and their signs; what the printed functions on them answer. No condition. -/
import Derived.Test.YtieeefgkdfijdaaDoorPSecretTablex1
import Derived.Test.YtieeefgkdfijdaaDoorBr
import Derived.Test.YtieeefgkdfijdaaDoorIsP1
namespace Go.Proofs.YtieeefgkdfijdaaDoor
open Go Go.RowKit Go.Proofs.YtieeefgkdfijdaaDoorW.PrintWords

theorem wrap_up (i : Nat) (h : i ≤ 2000000) : wrap64 ((i : Int) + 1) = ((i + 1 : Nat) : Int) := by
  unfold wrap64
  omega
theorem rd_nat (l : List Int) (i : Nat) : rd l (i : Int) = l.getD i 0 := rfl
def anyNeg (l : List Int) : Bool := l.any fun x => decide (x < 0)
def anyPos (l : List Int) : Bool := l.any fun x => decide (0 < x)
/-- the code of weights' error -/
def wcode (most : Int) (l : List Int) : Int := if anyNeg l then 3 else if anyPos l then (if most < l.sum then 2 else 0) else 3
def wErr (l : List Int) : Int := if 16 < l.length then 2 else wcode 4096 l
theorem take_at (l : List Int) (i : Nat) (h : i < l.length) : l.take (i + 1) = l.take i ++ [l.getD i 0] := by
  rw [List.take_succ_eq_append_getElem h, getD_eq l i 0 h]
theorem any_take (p : Int → Bool) (l : List Int) (i : Nat) (h : i < l.length) : (l.take (i + 1)).any p = ((l.take i).any p || p (l.getD i 0)) := by
  rw [take_at l i h, List.any_append]
  simp
theorem sum_take (l : List Int) (i : Nat) (h : i < l.length) : (l.take (i + 1)).sum = (l.take i).sum + l.getD i 0 := by
  rw [take_at l i h, List.sum_append]
  simp
theorem wcode_neg (most : Int) (l : List Int) (i : Nat) (h : i < l.length) (hx : l.getD i 0 < 0) : wcode most l = 3 := by
  unfold wcode
  rw [if_pos]
  unfold anyNeg
  rw [List.any_eq_true]
  rw [getD_eq l i 0 h] at hx
  exact ⟨l[i], List.getElem_mem h, decide_eq_true hx⟩
theorem anyNeg_false (l : List Int) (h : anyNeg (l.take l.length) = false) : anyNeg l = false := by rw [List.take_length] at h; exact h
theorem sum_nonneg (l : List Int) (h : anyNeg l = false) : 0 ≤ l.sum := by
  induction l with
  | nil => simp
  | cons x l ih =>
    simp only [anyNeg, List.any_cons, Bool.or_eq_false_iff, decide_eq_false_iff_not] at h
    have := ih h.2
    rw [List.sum_cons]
    omega
theorem wcode_end (most : Int) (l : List Int) (s g : Bool) (hn : anyNeg l = false) (hs : s = anyPos l) (hg : g = decide (most < l.sum)) : wcode most l = if s = true then (if g = true then 2 else 0) else 3 := by
  unfold wcode
  rw [if_neg (by simp [hn]), hs, hg]
  simp
theorem listError_l0 (l : List Int) (most : Int) (hm : 0 ≤ most) (hm2 : most ≤ 2000000) (hl : l.length ≤ 2000000) : ∀ (d i k : Nat) (s g : Bool) (t : Int), i + d = l.length → d < k →
    anyNeg (l.take i) = false → s = anyPos (l.take i) → g = decide (most < (l.take i).sum) → (g = false → t = (l.take i).sum) → PSecretTable.demonref1_listError.l0 k l most s g t (i : Int) = some (wcode most l) := by
  intro d
  induction d with
  | zero =>
    intro i k s g t hi hk hn hs hg _
    obtain ⟨k, rfl⟩ : ∃ m, k = m + 1 := ⟨k - 1, by omega⟩
    obtain rfl : i = l.length := by omega
    rw [List.take_length] at hn hs hg
    simp only [PSecretTable.demonref1_listError.l0]
    rw [if_neg (by omega), wcode_end most l s g hn hs hg]
    cases s <;> cases g <;> rfl
  | succ d ih =>
    intro i k s g t hi hk hn hs hg ht
    obtain ⟨k, rfl⟩ : ∃ m, k = m + 1 := ⟨k - 1, by omega⟩
    have hil : i < l.length := by omega
    simp only [PSecretTable.demonref1_listError.l0]
    rw [if_pos (by omega), if_pos (by omega), rd_nat, wrap_up i (by omega)]
    by_cases hx : l.getD i 0 < 0
    · rw [if_pos hx, wcode_neg most l i hil hx]
    · rw [if_neg hx]
      have hn' : anyNeg (l.take (i + 1)) = false := by
        unfold anyNeg at hn ⊢
        rw [any_take _ l i hil, hn, decide_eq_false hx]
        rfl
      have hp' : anyPos (l.take (i + 1)) = (anyPos (l.take i) || decide (0 < l.getD i 0)) := any_take _ l i hil
      have hs' := sum_take l i hil
      have h0 := sum_nonneg _ hn
      generalize l.getD i 0 = x at hx hp' hs' ⊢
      have key : ∀ (s' g' : Bool) (t' : Int), s' = (s || decide (0 < x)) → g' = decide (most < (l.take i).sum + x) → (g' = false → t' = (l.take i).sum + x) → PSecretTable.demonref1_listError.l0 k l most s' g' t' ((i + 1 : Nat) : Int) = some (wcode most l) := fun s' g' t' e1 e2 e3 =>
        ih (i + 1) k s' g' t' (by omega) (by omega) hn' (by rw [hp', e1, hs]) (by rw [hs', e2]) (fun h => by rw [hs', e3 h])
      clear ih
      cases g
      · have ht' := ht rfl
        have hg' : ¬ most < (l.take i).sum := by simpa using hg.symm
        have hw : x ≤ most → wrap64 (t + x) = (l.take i).sum + x := fun hxm => by rw [ht']; unfold wrap64; omega
        by_cases hxm : x > most
        · have k2 : decide (x > most) = decide (most < (l.take i).sum + x) := by rw [decide_eq_true hxm, decide_eq_true (by omega)]
          cases s
          · simp only [Bool.false_eq_true, if_false]
            rw [if_pos hxm]
            exact key _ _ _ (by rw [Bool.false_or]) k2 (fun h => by rw [decide_eq_true hxm] at h; cases h)
          · simp only [Bool.false_eq_true, if_false, if_true]
            rw [if_pos hxm]
            exact key _ _ _ (by rw [Bool.true_or]) k2 (fun h => by rw [decide_eq_true hxm] at h; cases h)
        · have hw' := hw (by omega)
          cases s
          · simp only [Bool.false_eq_true, if_false]
            rw [if_neg hxm, hw']
            exact key _ _ _ (by rw [Bool.false_or]) rfl (fun _ => rfl)
          · simp only [Bool.false_eq_true, if_false, if_true]
            rw [if_neg hxm, hw']
            exact key _ _ _ (by rw [Bool.true_or]) rfl (fun _ => rfl)
      · have hg' : most < (l.take i).sum := by simpa using hg.symm
        have k2 : true = decide (most < (l.take i).sum + x) := (decide_eq_true (by omega)).symm
        cases s
        · simp only [Bool.false_eq_true, if_false, if_true]
          exact key _ _ _ (by rw [Bool.false_or]) k2 (fun h => by cases h)
        · simp only [if_true]
          exact key _ _ _ (by rw [Bool.true_or]) k2 (fun h => by cases h)
theorem listError_f (l : List Int) (most : Int) (hm : 0 ≤ most) (hm2 : most ≤ 2000000) (hl : l.length ≤ 2000000) : PSecretTable.demonref1_listError.f (l.length + 1) l most = some (wcode most l) :=
  listError_l0 l most hm hm2 hl l.length 0 _ false false 0 (by omega) (by omega) rfl rfl (by rw [List.take_zero, List.sum_nil, decide_eq_false (by omega)]) (fun _ => by simp)
theorem weightsError_f (l : List Int) (hl : l.length ≤ 2000000) : PSecretTable.demonref1_WeightsError.f (l.length + 1) l = some (wErr l) := by
  unfold PSecretTable.demonref1_WeightsError.f wErr
  by_cases h : 16 < l.length
  · rw [if_pos (by omega), if_pos h]
  · rw [if_neg (by omega), if_neg h, listError_f l 4096 (by decide) (by decide) hl]
    rfl
theorem contains_l0 (l : List Int) (x : Int) (hl : l.length ≤ 2000000) : ∀ (d i k : Nat), i + d = l.length → d < k → (l.take i).contains x = false → PSecretTable.demonref1_Contains.l0 k l x (i : Int) = some (l.contains x) := by
  intro d
  induction d with
  | zero =>
    intro i k hi hk hn
    obtain ⟨k, rfl⟩ : ∃ m, k = m + 1 := ⟨k - 1, by omega⟩
    obtain rfl : i = l.length := by omega
    rw [List.take_length] at hn
    simp only [PSecretTable.demonref1_Contains.l0]
    rw [if_neg (by omega), hn]
  | succ d ih =>
    intro i k hi hk hn
    obtain ⟨k, rfl⟩ : ∃ m, k = m + 1 := ⟨k - 1, by omega⟩
    have hil : i < l.length := by omega
    simp only [PSecretTable.demonref1_Contains.l0]
    rw [if_pos (by omega), if_pos (by omega), rd_nat, wrap_up i (by omega)]
    by_cases hx : l.getD i 0 = x
    · rw [if_pos hx]
      have : l.contains x = true := by
        rw [List.contains_iff_mem, ← hx, getD_eq l i 0 hil]
        exact List.getElem_mem hil
      rw [this]
    · rw [if_neg hx]
      refine ih (i + 1) k (by omega) (by omega) ?_
      rw [take_at l i hil]
      have e : (l.take i ++ [l.getD i 0]).contains x = ((l.take i).contains x || [l.getD i 0].contains x) := by simp [List.contains_eq_mem, List.mem_append]
      rw [e, hn]
      simp only [List.contains_cons, List.contains_nil, Bool.or_false, Bool.false_or, beq_eq_false_iff_ne]
      exact fun h => hx h.symm
theorem contains_f (l : List Int) (x : Int) (hl : l.length ≤ 2000000) : PSecretTable.demonref1_Contains.f (l.length + 1) l x = some (l.contains x) :=
  contains_l0 l x hl l.length 0 _ (by omega) (by omega) (by simp)
end Go.Proofs.YtieeefgkdfijdaaDoor
