/- Words, plain laws and walks behind the law SecretShare, part 2. No condition. -/
import Derived.Test.YtieeefgkdfijdaaDoorFlatSecretSharea
import Derived.Test.YtieeefgkdfijdaaDoorWMore
import Derived.Deep.RegionHeld3
import Derived.Shelf.Abstract
import Derived.RangeFuncBox
import Derived.RangeFuncLeaves
import Derived.RangeFuncNested
import Derived.Shelf.RegionOpen
import Derived.WalkKit
import Derived.OwnWalkIn
import Derived.TacticsInMore
import Derived.LoopNIn
import Derived.LoopIn
import Derived.Deep.RegionLaw

/- The walks of slices.Max, dist.list, dist.Valid. No condition. -/
namespace Go.Proofs.YtieeefgkdfijdaaDoor
open Go.RowKit Go.Deep Go.Proofs.YtieeefgkdfijdaaDoorW.PrintMore
attribute [local go_sem] max2_int min2_int max_two min_two

theorem topOf_max (l : List Int) : ∀ x t, topOf l (if x > t then x else t) = if topOf l x > t then topOf l x else t := by
  induction l with
  | nil => intro x t; rfl
  | cons y r ih =>
    intro x t
    show topOf r (if y > (if x > t then x else t) then y else (if x > t then x else t)) = if topOf r (if y > x then y else x) > t then topOf r (if y > x then y else x) else t
    rw [← ih (if y > x then y else x) t]
    congr 1
    by_cases h1 : x > t <;> by_cases h2 : y > x <;> by_cases h3 : y > t <;> simp only [h1, h2, h3, if_true, if_false] <;> first | rfl | omega | (split <;> omega)
/-- the greatest of numbers -/
def greatest (l : List Int) : Int := topOf (l.drop 1) (l.getD 0 0)
theorem greatest_top (l : List Int) (h : 0 < l.length) (t : Int) : (if t < greatest l then greatest l else t) = topOf l t := by
  cases l with
  | nil => simp at h
  | cons x r =>
    show (if t < topOf r x then topOf r x else t) = topOf r (if x > t then x else t)
    rw [topOf_max]
theorem greatest_step (l : List Int) (k : Nat) (h0 : 1 ≤ k) (hk : k < l.length) : topOf ((l.drop 1).take k) (l.getD 0 0) = if topOf ((l.drop 1).take (k - 1)) (l.getD 0 0) < l.getD k 0 then l.getD k 0 else topOf ((l.drop 1).take (k - 1)) (l.getD 0 0) := by
  have h1 := topOf_take (l.drop 1) (k - 1) (by simp; omega) (l.getD 0 0)
  rw [Nat.sub_add_cancel h0] at h1
  rw [h1]
  have e : (l.drop 1).getD (k - 1) 0 = l.getD k 0 := by
    rw [List.getD_eq_getElem?_getD, List.getD_eq_getElem?_getD, List.getElem?_drop]
    congr 2
    omega
  rw [e]

set_option maxHeartbeats 1000000 in
theorem max_ok (A : Option Addr) (l : List Int) (c : Nat) (w : World) (hA : Ints w A l) (hl : 0 < l.length) :
    Calls Tryd.prog 75 #[.slice A l.length c] w fun e w' => e = .returned (.int .i64 (greatest l)) ∧ Below w.heap.size w w' := by
  have hlen := hA.len
  obtain ⟨b, off, rfl, hb, d0⟩ := hA.at_ 0 hl
  obtain ⟨x0, hx0⟩ : ∃ x0, x0 = l.getD 0 0 := ⟨_, rfl⟩
  have d0' : w.cell? ⟨b, off, none⟩ = some (.int .i64 x0) := by rw [hx0]; exact d0
  have HX := hide hx0
  clear d0 hx0
  go_enter Tryd.func75, Tryd.ntmps75
  go_wp2_with (fail)
  go_loopw [3, 4] (fun m i wr => ∃ k : Nat, 1 ≤ k ∧ k ≤ l.length ∧ i = .int .i64 k ∧ m = .int .i64 (topOf ((l.drop 1).take (k - 1)) x0) ∧ Below w.heap.size w wr) (fun _ i _ => l.length - (intOf i).toNat)
  case atStart => exact ⟨1, Nat.le_refl _, hl, rfl, rfl, Below.refl _ _⟩
  case round =>
    obtain ⟨k, hk0, hk, rfl, rfl, hB⟩ := hrel
    by_cases hlt : k < l.length
    · obtain ⟨b', off', e, _, dk⟩ := (hA.below hB).at_ k hlt
      injection e with e
      injection e with e1 e2 _
      subst e1 e2
      have hst := greatest_step l k hk0 hlt
      rw [← HX.out] at hst
      have HST := hide hst
      clear hst
      have k0 : (0 : Int) ≤ (k : Int) := Int.natCast_nonneg _
      have k1 : (k : Int) < (l.length : Int) := by omega
      change Hid (_ = if topOf ((l.drop 1).take (k - 1)) x0 < l.getD k 0 then l.getD k 0 else topOf ((l.drop 1).take (k - 1)) x0) at HST
      generalize l.getD k 0 = x at dk HST
      generalize topOf ((l.drop 1).take (k - 1)) x0 = m at HST ⊢
      by_cases hmx : m < x
      · go_wp2_with (fail)
        go_roundw
        case rel => exact ⟨k + 1, by omega, by omega, by go_num, by rw [Nat.add_sub_cancel, HST.out, if_pos hmx], hB⟩
        case measure => simp [intOf]; omega
      · go_wp2_with (fail)
        go_roundw
        case rel => exact ⟨k + 1, by omega, by omega, by go_num, by rw [Nat.add_sub_cancel, HST.out, if_neg hmx], hB⟩
        case measure => simp [intOf]; omega
    · obtain rfl : k = l.length := by omega
      go_wp2_with (fail)
      go_ret
      refine ⟨?_, hB⟩
      unfold greatest
      rw [List.take_of_length_le (by simp), HX.out]
      rfl

/-- a sum that stands still beyond a bound -/
def sat (most t : Int) : Int := if most + 1 < t then most + 1 else t

set_option maxHeartbeats 2000000 in
theorem list_any (A : Option Addr) (l : List Int) (c : Nat) (most : Int) (hm : 0 ≤ most) (hm2 : most ≤ 1000000) (w : World) (a : Nat → Addr) (hE : Env [2, 3] w a) (hA : Ints w A l) :
    Calls Tryd.prog 78 #[.slice A l.length c, .int .i64 most] w fun e w' => e = .returned (errC a (wcode most l)) ∧ Below w.heap.size w w' := by
  have hlen := hA.len
  have x3 : w.cell? ⟨1, 0, none⟩ = some (.iface 161 (.pointer (some (a 3)))) := hE.cell 3 (by simp)
  have x2 : w.cell? ⟨0, 0, none⟩ = some (.iface 161 (.pointer (some (a 2)))) := hE.cell 2 (by simp)
  go_enter Tryd.func78, Tryd.ntmps78
  go_wp2_with (fail)
  go_loopw [5, 6, 11] (fun s t i wr => ∃ k : Nat, k ≤ l.length ∧ i = .int .i64 k ∧ s = .bool (anyPos (l.take k)) ∧ t = .int .i64 (sat most (l.take k).sum) ∧ Hid (anyNeg (l.take k) = false) ∧ Below w.heap.size w wr) (fun _ _ i _ => l.length - (intOf i).toNat)
  case atStart => exact ⟨0, Nat.zero_le _, rfl, rfl, by unfold sat; rw [List.take_zero, List.sum_nil, if_neg (by omega)], hide rfl, Below.refl _ _⟩
  case round =>
    obtain ⟨k, hk, rfl, rfl, rfl, HN, hB⟩ := hrel
    have y3 : wr.cell? ⟨1, 0, none⟩ = some (.iface 161 (.pointer (some (a 3)))) := (hB.cell (p := ⟨1, 0, none⟩) (hE.lt (c := 3) (by simp))).trans x3
    have y2 : wr.cell? ⟨0, 0, none⟩ = some (.iface 161 (.pointer (some (a 2)))) := (hB.cell (p := ⟨0, 0, none⟩) (hE.lt (c := 2) (by simp))).trans x2
    have h0 := sum_nonneg _ HN.out
    by_cases hlt : k < l.length
    · obtain ⟨b, off, rfl, _, dk⟩ := (hA.below hB).at_ k hlt
      have k0 : (0 : Int) ≤ (k : Int) := Int.natCast_nonneg _
      have k1 : (k : Int) < (l.length : Int) := by omega
      have hneg := fun h => wcode_neg most l k hlt h
      have hp' : anyPos (l.take (k + 1)) = (anyPos (l.take k) || decide (0 < l.getD k 0)) := any_take _ l k hlt
      have hn' : anyNeg (l.take (k + 1)) = (anyNeg (l.take k) || decide (l.getD k 0 < 0)) := any_take _ l k hlt
      have hs' := sum_take l k hlt
      rw [HN.out, Bool.false_or] at hn'
      generalize l.getD k 0 = x at dk hneg hp' hn' hs'
      have HNEG := hide hneg
      have HP := hide hp'
      have HN' := hide hn'
      have HS := hide hs'
      clear hneg hp' hn' hs'
      by_cases hx : x < 0
      · go_wp2_with (fail)
        go_ret
        exact ⟨by rw [HNEG.out hx]; rfl, hB⟩
      · have hsat : 0 ≤ sat most (l.take k).sum ∧ sat most (l.take k).sum ≤ most + 1 := by unfold sat; split <;> omega
        have hst : sat most ((l.take k).sum + x) = if most + 1 < sat most (l.take k).sum + (if most + 1 < x then most + 1 else x) then most + 1 else sat most (l.take k).sum + (if most + 1 < x then most + 1 else x) := by
          unfold sat
          by_cases e1 : most + 1 < (l.take k).sum <;> by_cases e2 : most + 1 < x <;> simp only [e1, e2, if_true, if_false] <;> (split <;> split <;> omega)
        have HST := hide hst
        clear hst
        generalize sat most (l.take k).sum = t0 at hsat HST ⊢
        generalize anyPos (l.take k) = s0 at HP ⊢
        have hsl := hsat.1
        have hsr := hsat.2
        clear hsat h0
        by_cases hpos : 0 < x
        · by_cases e2 : most + 1 < x
          · by_cases e3 : most + 1 < t0 + (most + 1)
            · cases s0
              all_goals
                go_wp2_with (fail)
                go_roundw
                case rel => exact ⟨k + 1, by omega, by go_num, by rw [HP.out, decide_eq_true hpos]; rfl, by rw [HS.out, HST.out, if_pos e2, if_pos e3], hide (by rw [HN'.out, decide_eq_false hx]), hB⟩
                case measure => simp [intOf]; omega
            · cases s0
              all_goals
                go_wp2_with (fail)
                go_roundw
                case rel => exact ⟨k + 1, by omega, by go_num, by rw [HP.out, decide_eq_true hpos]; rfl, by rw [HS.out, HST.out, if_pos e2, if_neg e3], hide (by rw [HN'.out, decide_eq_false hx]), hB⟩
                case measure => simp [intOf]; omega
          · by_cases e3 : most + 1 < t0 + x
            · cases s0
              all_goals
                go_wp2_with (fail)
                go_roundw
                case rel => exact ⟨k + 1, by omega, by go_num, by rw [HP.out, decide_eq_true hpos]; rfl, by rw [HS.out, HST.out, if_neg e2, if_pos e3], hide (by rw [HN'.out, decide_eq_false hx]), hB⟩
                case measure => simp [intOf]; omega
            · cases s0
              all_goals
                go_wp2_with (fail)
                go_roundw
                case rel => exact ⟨k + 1, by omega, by go_num, by rw [HP.out, decide_eq_true hpos]; rfl, by rw [HS.out, HST.out, if_neg e2, if_neg e3], hide (by rw [HN'.out, decide_eq_false hx]), hB⟩
                case measure => simp [intOf]; omega
        · obtain rfl : x = 0 := by omega
          have e2 : ¬ most + 1 < 0 := by omega
          have e3 : ¬ most + 1 < t0 + 0 := by omega
          have e4 : ¬ most + 1 < t0 := by omega
          cases s0
          all_goals
            go_wp2_with (fail)
            go_roundw
            case rel => exact ⟨k + 1, by omega, by go_num, by rw [HP.out]; rfl, by rw [HS.out, HST.out, if_neg e2, if_neg e3]; first | rfl | rw [Int.add_zero], hide (by rw [HN'.out]; rfl), hB⟩
            case measure => simp [intOf]; omega
    · obtain rfl : k = l.length := by omega
      have hend := wcode_end most l (anyPos l) (decide (most < l.sum)) (anyNeg_false l HN.out) rfl rfl
      rw [List.take_length] at h0 ⊢
      have hcmp : (most < sat most l.sum) = (most < l.sum) := by
        unfold sat
        split <;> simp <;> omega
      have HC := hide hcmp
      have HE := hide hend
      clear hend hcmp
      by_cases hpos : anyPos l = true
      · by_cases hgr : most < sat most l.sum
        · go_wp2_with (fail)
          go_ret
          rw [HE.out, hpos, decide_eq_true (by rw [← HC.out]; exact hgr)]
          exact ⟨rfl, hB⟩
        · go_wp2_with (fail)
          go_ret
          rw [HE.out, hpos, decide_eq_false (by rw [← HC.out]; omega)]
          exact ⟨rfl, hB⟩
      · have hpos' : anyPos l = false := by simpa using hpos
        go_wp2_with (fail)
        go_ret
        rw [HE.out, hpos']
        exact ⟨rfl, hB⟩

theorem distValid_any (A : Option Addr) (l : List Int) (c : Nat) (w : World) (a : Nat → Addr) (hE : Env [2, 3] w a) (hA : Ints w A l) :
    Calls Tryd.prog 56 #[.slice A l.length c] w fun e w' => e = .returned (errC a (wErr l)) ∧ Below w.heap.size w w' := by
  have hlen := hA.len
  have x2 : w.cell? ⟨0, 0, none⟩ = some (.iface 161 (.pointer (some (a 2)))) := hE.cell 2 (by simp)
  unfold wErr
  by_cases h : 16 < l.length
  · rw [if_pos h]
    go_enter Tryd.func56, Tryd.ntmps56
    go_wp2_with (fail)
    go_ret
    exact ⟨rfl, Below.refl _ _⟩
  · rw [if_neg h]
    have HL := hide (list_any A l c 4096 (by decide) (by decide) w a hE hA)
    go_enter Tryd.func56, Tryd.ntmps56
    go_wp2_with (go_at_call 78; refine HL.out.mono ?_; rintro e w1 ⟨rfl, hb1⟩)
    go_ret
    exact ⟨rfl, hb1⟩
end Go.Proofs.YtieeefgkdfijdaaDoor

/- The walks of CipherError and secret.Valid. No condition. -/
namespace Go.Proofs.YtieeefgkdfijdaaDoor
open Go.RowKit Go.Deep

/-- is a row of a cipher bad? n: the first row's length -/
def badSign (r : List Int) (k : Nat) : Bool := (r.take k).contains (r.getD k 0) || decide (r.getD k 0 < 0) || decide (15 < r.getD k 0)
def badRow (n : Nat) (r : List Int) : Bool := decide (r.length = 0) || decide (16 < r.length) || decide (r.length ≠ n) || (List.range r.length).any (badSign r)
/-- the code of a cipher's error -/
def ccode (K : List Int) (L : List (List Int)) : Int := if wErr K ≠ 0 then wErr K else if L.length ≠ K.length then 3 else if L.any (badRow (L.getD 0 []).length) then 3 else 0
theorem badRow_of {n : Nat} {r : List Int} (h : r.length = 0 ∨ 16 < r.length ∨ r.length ≠ n) : badRow n r = true := by
  unfold badRow
  rcases h with h | h | h
  · rw [decide_eq_true h]; simp
  · rw [decide_eq_true h]; simp
  · rw [decide_eq_true h]; simp
theorem badRow_sign {n : Nat} {r : List Int} {k : Nat} (hk : k < r.length) (h : badSign r k = true) : badRow n r = true := by
  unfold badRow
  rw [show (List.range r.length).any (badSign r) = true from List.any_eq_true.2 ⟨k, List.mem_range.2 hk, h⟩, Bool.or_true]
/-- the signs ahead of place k are right -/
structure SignsOk (r : List Int) (k : Nat) : Prop where
  out : ∀ j, j < k → badSign r j = false
theorem SignsOk.zero (r : List Int) : SignsOk r 0 := ⟨fun _ h => absurd h (by omega)⟩
theorem SignsOk.succ {r : List Int} {k : Nat} (h : SignsOk r k) (hk : badSign r k = false) : SignsOk r (k + 1) := ⟨fun j hj => by
  by_cases e : j = k
  · rw [e]; exact hk
  · exact h.out j (by omega)⟩
theorem badRow_good {n : Nat} {r : List Int} (h0 : r.length ≠ 0) (h1 : r.length ≤ 16) (h2 : r.length = n) (h : SignsOk r r.length) : badRow n r = false := by
  unfold badRow
  rw [decide_eq_false h0, decide_eq_false (by omega), decide_eq_false (by omega)]
  simp only [Bool.false_or]
  exact List.any_eq_false.2 fun k hk => by rw [h.out k (List.mem_range.1 hk)]; simp
/-- the rows ahead of place i are right -/
structure RowsOk (L : List (List Int)) (i : Nat) : Prop where
  out : ∀ j, j < i → badRow (L.getD 0 []).length (L.getD j []) = false
theorem RowsOk.zero (L : List (List Int)) : RowsOk L 0 := ⟨fun _ h => absurd h (by omega)⟩
theorem RowsOk.succ {L : List (List Int)} {i : Nat} (h : RowsOk L i) (hi : badRow (L.getD 0 []).length (L.getD i []) = false) : RowsOk L (i + 1) := ⟨fun j hj => by
  by_cases e : j = i
  · rw [e]; exact hi
  · exact h.out j (by omega)⟩
theorem ccode_keys {K : List Int} {L : List (List Int)} (h : wErr K ≠ 0) : ccode K L = wErr K := if_pos h
theorem ccode_len {K : List Int} {L : List (List Int)} (h : wErr K = 0) (hl : L.length ≠ K.length) : ccode K L = 3 := by unfold ccode; rw [if_neg (by omega), if_pos hl]
theorem ccode_bad {K : List Int} {L : List (List Int)} (h : wErr K = 0) (hl : L.length = K.length) {i : Nat} (hi : i < L.length) (hb : badRow (L.getD 0 []).length (L.getD i []) = true) : ccode K L = 3 := by
  unfold ccode
  rw [if_neg (by omega), if_neg (by omega), if_pos]
  rw [List.any_eq_true]
  rw [getD_eq L i [] hi] at hb
  exact ⟨L[i], List.getElem_mem hi, hb⟩
theorem ccode_good {K : List Int} {L : List (List Int)} (h : wErr K = 0) (hl : L.length = K.length) (hr : RowsOk L L.length) : ccode K L = 0 := by
  unfold ccode
  rw [if_neg (by omega), if_neg (by omega), if_neg]
  rw [List.any_eq_true]
  rintro ⟨r, hr', hb⟩
  obtain ⟨i, hi, rfl⟩ := List.getElem_of_mem hr'
  have := hr.out i hi
  rw [getD_eq L i [] hi, hb] at this
  cases this
theorem ccode_zero {K : List Int} {L : List (List Int)} (h : ccode K L = 0) : GoodCipher K L := by
  unfold ccode at h
  by_cases h1 : wErr K ≠ 0
  · rw [if_pos h1] at h; exact absurd h h1
  · rw [if_neg h1] at h
    by_cases h2 : L.length ≠ K.length
    · rw [if_pos h2] at h; cases h
    · rw [if_neg h2] at h
      by_cases h3 : L.any (badRow (L.getD 0 []).length) = true
      · rw [if_pos h3] at h; cases h
      · refine ⟨by omega, by omega, fun i hi => ?_⟩
        have hb : badRow (L.getD 0 []).length (L.getD i []) = false := by
          cases e : badRow (L.getD 0 []).length (L.getD i [])
          · rfl
          · rw [getD_eq L i [] hi] at e
            exact absurd (List.any_eq_true.2 ⟨L[i], List.getElem_mem hi, e⟩) h3
        unfold badRow at hb
        simp only [Bool.or_eq_false_iff, decide_eq_false_iff_not, List.any_eq_false, List.mem_range] at hb
        obtain ⟨⟨⟨b0, b1⟩, b2⟩, b3⟩ := hb
        have hs : ∀ k, k < (L.getD i []).length → badSign (L.getD i []) k = false := fun k hk => by simpa using b3 k hk
        refine ⟨by omega, by omega, by omega, fun k hk => ?_, fun k hk => ?_⟩
        · have := hs k hk
          unfold badSign at this
          simp only [Bool.or_eq_false_iff, decide_eq_false_iff_not] at this
          omega
        · have := hs k hk
          unfold badSign at this
          simp only [Bool.or_eq_false_iff, decide_eq_false_iff_not] at this
          exact this.1.1
theorem wErr_cases (K : List Int) : wErr K = 0 ∨ wErr K = 2 ∨ wErr K = 3 := by
  unfold wErr wcode
  split
  · exact .inr (.inl rfl)
  · split
    · exact .inr (.inr rfl)
    · split
      · split
        · exact .inr (.inl rfl)
        · exact .inl rfl
      · exact .inr (.inr rfl)
theorem ccode_cases (K : List Int) (L : List (List Int)) : ccode K L = 0 ∨ ccode K L = 2 ∨ ccode K L = 3 := by
  unfold ccode
  split
  · exact wErr_cases K
  · split
    · exact .inr (.inr rfl)
    · split
      · exact .inr (.inr rfl)
      · exact .inl rfl
theorem Ints.take {w : World} {A : Option Addr} {l : List Int} (h : Ints w A l) (k : Nat) : Ints w A (l.take k) :=
  ⟨by have := h.len; rw [List.length_take]; omega, fun i hi => by
    rw [List.length_take] at hi
    obtain ⟨b, off, e, hb, hc⟩ := h.at_ i (by omega)
    refine ⟨b, off, e, hb, ?_⟩
    rw [hc, List.getD_eq_getElem?_getD, List.getD_eq_getElem?_getD, List.getElem?_take_of_lt (by omega)]⟩

set_option maxRecDepth 100000 in
set_option maxHeartbeats 4000000 in
theorem cipherError_any (Ka La : Option Addr) (K : List Int) (L : List (List Int)) (kc lc : Nat) (w : World) (hK : Ints w Ka K) (hL : Lists w La L) (hkc : K.length ≤ kc) (_hlc : L.length ≤ lc) (hK2 : K.length ≤ 2000000) :
    Calls Tryd.prog 19 #[.agg #[.slice Ka K.length kc, .slice La L.length lc]] w fun e w' => e = .returned (.int .i64 (ccode K L)) ∧ Below w.heap.size w w' := by
  have hKl := hK.len
  have hLl := hL.len
  have hwe := fun w' (h : Below w.heap.size w w') => PSecretTable.demonref1_WeightsError.calls (K.length + 1) Ka kc K (wErr K) w' ((hK.below h).toC) hkc (weightsError_f K hK2)
  have HWE := hide hwe
  clear hwe
  by_cases hk0 : wErr K = 0
  · by_cases hll : L.length = K.length
    · have hll' : K.length = L.length := hll.symm
      rw [hk0, hll'] at HWE
      rw [hll'] at hkc ⊢
      have HLL := hide hll
      clear hll hll'
      go_enter Tryd.func19, Tryd.ntmps19
      go_wp2_with (go_at_call 28; refine Calls.mono (HWE.out _ (below_alloc' (Below.refl _ _) _)) ?_; rintro e w1 ⟨rfl, hd1⟩; have hb1 := drawn_below hd1; obtain ⟨k1, k2⟩ := below_cells hb1; have hz1 : w.heap.size < w1.heap.size := by (have := hb1.size; simp at this; omega)
                   have y0 : w1.cell? ⟨w.heap.size, 0, none⟩ = some (.slice Ka L.length kc) := by rw [k1 _ _ (by simp)]; simp
                   have y1 : w1.cell? ⟨w.heap.size, 1, none⟩ = some (.slice La L.length lc) := by rw [k1 _ _ (by simp)]; simp
                   clear k1 k2 hd1)
      have hB1 : Below w.heap.size w w1 := below_trans (below_alloc' (Below.refl _ _) _) hb1
      go_loopw [4] (fun i wr => ∃ k : Nat, k ≤ L.length ∧ i = .int .i64 k ∧ Hid (RowsOk L k) ∧ Below w1.heap.size w1 wr) (fun i _ => L.length - (intOf i).toNat)
      case atStart => exact ⟨0, Nat.zero_le _, rfl, hide (RowsOk.zero L), Below.refl _ _⟩
      case round =>
        obtain ⟨i, hi, rfl, HR, hBi⟩ := hrel
        obtain ⟨wi, rfl⟩ : ∃ wi : World, wi = wr := ⟨_, rfl⟩
        have z1 : wi.cell? ⟨w.heap.size, 1, none⟩ = some (.slice La L.length lc) := (hBi.cell (p := ⟨w.heap.size, 1, none⟩) hz1).trans y1
        by_cases hil : i < L.length
        · have hLi := hL.below (below_trans hB1 hBi)
          obtain ⟨b, off, A', c', rfl, hb, d1, hle, hI⟩ := hLi.at_ i hil
          obtain ⟨b0, off0, A0, c0, e0, _, d0, _, _⟩ := hLi.at_ 0 (by omega)
          injection e0 with e0
          injection e0 with e1 e2 _
          subst e1 e2
          have d0' : wi.cell? ⟨b, off, none⟩ = some (.slice A0 (L.getD 0 []).length c0) := d0
          have hbad := fun h => ccode_bad hk0 HLL.out hil h
          have hnext := fun h => HR.out.succ (i := i) h
          clear d0 hLi
          generalize L.getD i [] = r at d1 hle hI hbad hnext
          generalize (L.getD 0 []).length = n at d0' hbad hnext
          have HBAD := hide hbad
          have HNEXT := hide hnext
          clear hbad hnext
          have i0 : (0 : Int) ≤ (i : Int) := Int.natCast_nonneg _
          have i1 : (i : Int) < (L.length : Int) := by omega
          have i2 : (0 : Int) < (L.length : Int) := by omega
          by_cases h0 : r.length = 0
          · have hb0 := badRow_of (n := n) (.inl h0)
            have q0 : ((r.length : Int) == 0) = true := by rw [h0]; rfl
            go_wp2_with (fail)
            go_quiet (fail)
            go_wp2_with (fail)
            go_ret
            exact ⟨by rw [HBAD.out hb0]; rfl, below_drewN' (below_trans hB1 hBi) _⟩
          · have q0 : ((r.length : Int) == 0) = false := by rw [beq_eq_false_iff_ne]; omega
            by_cases h1 : 16 < r.length
            · have q1 : decide (16 < (r.length : Int)) = true := decide_eq_true (by omega)
              have hb0 := badRow_of (n := n) (.inr (.inl h1))
              go_wp2_with (fail)
              go_quiet (fail)
              go_wp2_with (fail)
              go_ret
              exact ⟨by rw [HBAD.out hb0]; rfl, below_drewN' (below_trans hB1 hBi) _⟩
            · have q1 : decide (16 < (r.length : Int)) = false := decide_eq_false (by omega)
              by_cases h2 : r.length ≠ n
              · have hb0 := badRow_of (n := n) (.inr (.inr h2))
                have h2' : ((r.length : Int) == (n : Int)) = false := by simpa using fun h => h2 (by omega)
                have h2'' : ((r.length : Int) != (n : Int)) = true := by simpa using fun h => h2 (by omega)
                go_wp2_with (fail)
                go_quiet (fail)
                go_wp2_with (fail)
                go_ret
                exact ⟨by rw [HBAD.out hb0]; rfl, below_drewN' (below_trans hB1 hBi) _⟩
              · have h2' : n = r.length := by omega
                subst h2'
                have h2'' : ((r.length : Int) != (r.length : Int)) = false := by simp
                go_wp2_with (fail)
                go_quiet (fail)
                go_wp2_with (fail)
                have hlen16 : r.length ≤ 16 := by omega
                have hBn : Below w1.heap.size w1 (wi.drewN nq) := below_drewN' hBi _
                have hcon := fun (w' : World) (h : Below wi.heap.size wi w') (j : Nat) => PSecretTable.demonref1_Contains.calls ((r.take j).length + 1) A' c' (r.take j) (r.getD j 0) ((r.take j).contains (r.getD j 0)) w' (((hI.below h).take j).toC) (by rw [List.length_take]; omega) (contains_f (r.take j) _ (by rw [List.length_take]; omega))
                have HCON := hide hcon
                have HI := hide hI
                clear hcon hI
                go_loopw [5] (fun v wr => ∃ j : Nat, j ≤ r.length ∧ v = .int .i64 j ∧ Hid (SignsOk r j) ∧ Below wi.heap.size wi wr) (fun v _ => r.length - (intOf v).toNat)
                case atStart => exact ⟨0, Nat.zero_le _, rfl, hide (SignsOk.zero r), below_drewN' (Below.refl _ _) _⟩
                case round =>
                  obtain ⟨j, hj, rfl, HSG, hBj⟩ := hrel
                  obtain ⟨wj, rfl⟩ : ∃ wj : World, wj = wr := ⟨_, rfl⟩
                  have hz2 : w.heap.size < wi.heap.size := Nat.lt_of_lt_of_le hz1 hBi.size
                  have z2 : wj.cell? ⟨w.heap.size, 1, none⟩ = some (.slice (some ⟨b, off, none⟩) L.length lc) := (hBj.cell (p := ⟨w.heap.size, 1, none⟩) hz2).trans z1
                  have d2 : wj.cell? ⟨b, off + i, none⟩ = some (.slice A' r.length c') := (hBj.cell (p := ⟨b, off + i, none⟩) hb).trans d1
                  have j0 : (0 : Int) ≤ (j : Int) := Int.natCast_nonneg _
                  by_cases hjl : j < r.length
                  · obtain ⟨b', off', rfl, _, dj⟩ := (HI.out.below hBj).at_ j hjl
                    have hcj := fun w' h => HCON.out w' h j
                    have htl : (r.take j).length = j := by rw [List.length_take]; omega
                    rw [htl] at hcj
                    have j1 : (j : Int) < (r.length : Int) := by omega
                    have j2 : (j : Int) ≤ (c' : Int) := by omega
                    have j3 : (j : Int) ≤ (r.length : Int) := by omega
                    have hsg : ∀ x, x = badSign r j → x = ((r.take j).contains (r.getD j 0) || decide (r.getD j 0 < 0) || decide (15 < r.getD j 0)) := fun x h => h
                    have hbs := fun h => badRow_sign (n := r.length) hjl h
                    have hns := fun h => HSG.out.succ (k := j) h
                    generalize (r.take j).contains (r.getD j 0) = cn at hcj hsg
                    generalize r.getD j 0 = x at dj hcj hsg
                    have HCJ := hide hcj
                    have HSB := hide hsg
                    have HBS := hide hbs
                    have HNS := hide hns
                    clear hcj hsg hbs hns
                    go_wp2_with (fail)
                    go_region_held3 (fun w' => w'.cell? ⟨w.heap.size, 1, none⟩ = some (.slice (some ⟨b, off, none⟩) L.length lc) ∧ w'.cell? ⟨b, off + i, none⟩ = some (.slice (some ⟨b', off', none⟩) r.length c') ∧ w'.cell? ⟨b', off' + j, none⟩ = some (.int .i64 x))
                      (first | go_keep | exact ⟨‹_›, ‹_›, ‹_›⟩)
                      ((first
                        | (go_at_call 52
                           refine Calls.mono (HCJ.out _ (below_drewN' hBj 1)) ?_
                           rintro e w2 ⟨rfl, hd2⟩
                           obtain ⟨⟨n2, rfl⟩⟩ := hd2)))
                    have u1 : (wj.drewN (1 + n2)).cell? ⟨w.heap.size, 1, none⟩ = some (.slice (some ⟨b, off, none⟩) L.length lc) := z2
                    have u2 : (wj.drewN (1 + n2)).cell? ⟨b, off + i, none⟩ = some (.slice (some ⟨b', off', none⟩) r.length c') := d2
                    have u3 : (wj.drewN (1 + n2)).cell? ⟨b', off' + j, none⟩ = some (.int .i64 x) := dj
                    have hBk : Below wi.heap.size wi (wj.drewN (1 + n2)) := below_drewN' hBj _
                    generalize wj.drewN (1 + n2) = wk at u1 u2 u3 hBk ⊢
                    clear z2 d2 dj
                    cases cn
                    · by_cases x0 : x < 0
                      · go_wp2_with (fail)
                        go_ret
                        exact ⟨by rw [HBAD.out (HBS.out (by rw [HSB.out _ rfl, decide_eq_true x0]; simp))]; rfl, (below_trans hB1 hBi).trans (hBk.mono (by have := hB1.size; have := hBi.size; omega))⟩
                      · by_cases x15 : 15 < x
                        · go_wp2_with (fail)
                          go_ret
                          exact ⟨by rw [HBAD.out (HBS.out (by rw [HSB.out _ rfl, decide_eq_true x15]; simp))]; rfl, (below_trans hB1 hBi).trans (hBk.mono (by have := hB1.size; have := hBi.size; omega))⟩
                        · go_wp2_with (fail)
                          go_roundw
                          case rel => exact ⟨j + 1, by omega, by go_num, hide (HNS.out (by rw [HSB.out _ rfl, decide_eq_false x0, decide_eq_false x15]; rfl)), hBk⟩
                          case measure => simp [intOf]; omega
                    · go_wp2_with (fail)
                      go_ret
                      exact ⟨by rw [HBAD.out (HBS.out (by rw [HSB.out _ rfl]; simp))]; rfl, (below_trans hB1 hBi).trans (hBk.mono (by have := hB1.size; have := hBi.size; omega))⟩
                  · obtain rfl : j = r.length := by omega
                    have hgood := badRow_good (n := r.length) h0 hlen16 rfl HSG.out
                    have HG := hide hgood
                    clear hgood
                    go_wp2_with (fail)
                    go_roundw
                    case rel => exact ⟨i + 1, by omega, by go_num, hide (HNEXT.out HG.out), hBi.trans (hBj.mono hBi.size)⟩
                    case measure => simp [intOf]; omega
        · obtain rfl : i = L.length := by omega
          go_wp2_with (fail)
          go_ret
          exact ⟨by rw [ccode_good hk0 HLL.out HR.out]; rfl, below_trans hB1 hBi⟩
    · rw [ccode_len hk0 hll]
      rw [hk0] at HWE
      go_enter Tryd.func19, Tryd.ntmps19
      go_wp2_with (go_at_call 28; refine Calls.mono (HWE.out _ (below_alloc' (Below.refl _ _) _)) ?_; rintro e w1 ⟨rfl, hd1⟩; have hb1 := drawn_below hd1; obtain ⟨k1, k2⟩ := below_cells hb1; have hz1 : w.heap.size < w1.heap.size := by (have := hb1.size; simp at this; omega)
                   have y0 : w1.cell? ⟨w.heap.size, 0, none⟩ = some (.slice Ka K.length kc) := by rw [k1 _ _ (by simp)]; simp
                   have y1 : w1.cell? ⟨w.heap.size, 1, none⟩ = some (.slice La L.length lc) := by rw [k1 _ _ (by simp)]; simp
                   clear k1 k2 hd1)
      go_ret
      exact ⟨rfl, below_trans (below_alloc' (Below.refl _ _) _) hb1⟩
  · rw [ccode_keys hk0]
    have hpos : 0 < wErr K := by
      rcases wErr_cases K with h | h | h
      · exact absurd h hk0
      · rw [h]; decide
      · rw [h]; decide
    generalize wErr K = z at HWE hk0 hpos ⊢
    go_enter Tryd.func19, Tryd.ntmps19
    go_wp2_with (go_at_call 28; refine Calls.mono (HWE.out _ (below_alloc' (Below.refl _ _) _)) ?_; rintro e w1 ⟨rfl, hd1⟩; have hb1 := drawn_below hd1)
    go_ret
    exact ⟨rfl, below_trans (below_alloc' (Below.refl _ _) _) hb1⟩
end Go.Proofs.YtieeefgkdfijdaaDoor

/- The walk of secret.elements: the closure, slices.IndexFunc, slices.ContainsFunc. No condition. -/
namespace Go.Proofs.YtieeefgkdfijdaaDoor
open Go.RowKit Go.Deep Go.Shelf Go.Proofs.YtieeefgkdfijdaaDoorW.PrintWords

/-- is it outside? -/
def outside (p least x : Int) : Bool := decide (x < least) || decide (x ≥ p)
theorem any_outside (l : List Int) (p least : Int) : (l.any (outside p least)) = !inside l p least := by
  unfold inside outside
  rw [Bool.not_not]

theorem anyQ_take (q : Int → Bool) (l : List Int) (i : Nat) (h : i < l.length) : (l.take (i + 1)).any q = ((l.take i).any q || q (l.getD i 0)) := any_take q l i h
/-- the test with its two captured variables in cells -/
theorem elem_pred (p least : Int) (B C : Nat) (w : World) (hB : B < w.heap.size) (hC : C < w.heap.size) (h1 : w.cell? ⟨B, 0, none⟩ = some (.int .i64 least)) (h2 : w.cell? ⟨C, 0, none⟩ = some (.int .i64 p)) (x : Int) :
    ∀ W, Below w.heap.size w W → Calls Tryd.prog 82 #[.int .i64 x, .pointer (some ⟨B, 0, none⟩), .pointer (some ⟨C, 0, none⟩)] W fun e w' => e = .returned (.bool (outside p least x)) ∧ Below w.heap.size w w' := fun W hb => by
  have c1 : W.cell? ⟨B, 0, none⟩ = some (.int .i64 least) := (hb.cell (p := ⟨B, 0, none⟩) hB).trans h1
  have c2 : W.cell? ⟨C, 0, none⟩ = some (.int .i64 p) := (hb.cell (p := ⟨C, 0, none⟩) hC).trans h2
  go_enter Tryd.func82, Tryd.ntmps82
  go_wp2_with (fail)
  · go_ret
    exact ⟨rfl, hb⟩
  · go_ret
    have h : x < least := by assumption
    exact ⟨by simp [outside, h], hb⟩

set_option maxHeartbeats 1000000 in
theorem indexElem_any (A : Option Addr) (l : List Int) (c : Nat) (p least : Int) (B C : Nat) (w : World) (hA : Ints w A l) (hB : B < w.heap.size) (hC : C < w.heap.size) (h1 : w.cell? ⟨B, 0, none⟩ = some (.int .i64 least)) (h2 : w.cell? ⟨C, 0, none⟩ = some (.int .i64 p)) :
    Calls Tryd.prog 94 #[.slice A l.length c, .func (.func 82) #[] #[.pointer (some ⟨B, 0, none⟩), .pointer (some ⟨C, 0, none⟩)]] w fun e w' => ∃ r : Int, e = .returned (.int .i64 r) ∧ decide (0 ≤ r) = l.any (outside p least) ∧ Below w.heap.size w w' := by
  have eg : ∀ args w, (callFunc 82 args).run Tryd.prog w = .ok (.enter 82 args) w := enters_of Tryd.func82 (by kernel_rfl) rfl
  have HP := hide (fun x W (hb : Below w.heap.size w W) => elem_pred p least B C w hB hC h1 h2 x W hb)
  have hlen := hA.len
  clear h1 h2
  go_enter Tryd.func94, Tryd.ntmps94
  go_wp2_with (fail)
  go_loopw [5, 8] (fun _ v wr => ∃ i : Nat, i ≤ l.length ∧ v = .int .i64 i ∧ Below w.heap.size w wr ∧ (l.take i).any (outside p least) = false) (fun _ v _ => l.length - (intOf v).toNat)
  case atStart => exact ⟨0, Nat.zero_le _, rfl, Below.refl _ _, by simp⟩
  case round =>
    obtain ⟨i, hi, rfl, hBi, hn⟩ := hrel
    obtain ⟨wi, rfl⟩ : ∃ wi : World, wi = wr := ⟨_, rfl⟩
    have i0 : (0 : Int) ≤ (i : Int) := Int.natCast_nonneg _
    by_cases hil : i < l.length
    · have i1 : (i : Int) < (l.length : Int) := by omega
      obtain ⟨b, off, rfl, _, d1⟩ := (hA.below hBi).at_ i hil
      have hnx := anyQ_take (outside p least) l i hil
      rw [hn, Bool.false_or] at hnx
      have hyes : outside p least (l.getD i 0) = true → l.any (outside p least) = true := fun h => by
        rw [List.any_eq_true]
        rw [getD_eq l i 0 hil] at h
        exact ⟨l[i], List.getElem_mem hil, h⟩
      have hcall := HP.out (l.getD i 0) wi hBi
      generalize l.getD i 0 = x at d1 hnx hyes hcall
      generalize hq : outside p least x = q at hnx hyes hcall
      have HC := hide hcall
      have HNX := hide hnx
      have HY := hide hyes
      clear hcall hnx hyes hn hq
      cases q
      · go_wp2_with (go_at_fn 82; refine Calls.mono HC.out ?_; rintro e w1 ⟨rfl, hb1⟩)
        go_roundw
        case rel => exact ⟨i + 1, by omega, by go_num, hb1, HNX.out⟩
        case measure => simp [intOf]; omega
      · go_wp2_with (go_at_fn 82; refine Calls.mono HC.out ?_; rintro e w1 ⟨rfl, hb1⟩)
        go_ret
        exact ⟨(i : Int), rfl, by rw [HY.out (by trivial)]; exact decide_eq_true i0, hb1⟩
    · obtain rfl : i = l.length := by omega
      rw [List.take_length] at hn
      have HN := hide hn
      clear hn
      go_wp2_with (fail)
      go_ret
      exact ⟨-1, rfl, by rw [HN.out]; rfl, hBi⟩
theorem containsElem_any (A : Option Addr) (l : List Int) (c : Nat) (p least : Int) (B C : Nat) (w : World) (hA : Ints w A l) (hB : B < w.heap.size) (hC : C < w.heap.size) (h1 : w.cell? ⟨B, 0, none⟩ = some (.int .i64 least)) (h2 : w.cell? ⟨C, 0, none⟩ = some (.int .i64 p)) :
    Calls Tryd.prog 81 #[.slice A l.length c, .func (.func 82) #[] #[.pointer (some ⟨B, 0, none⟩), .pointer (some ⟨C, 0, none⟩)]] w fun e w' => e = .returned (.bool (l.any (outside p least))) ∧ Below w.heap.size w w' := by
  have HC := hide (indexElem_any A l c p least B C w hA hB hC h1 h2)
  go_enter Tryd.func81, Tryd.ntmps81
  go_wp2_with (go_at_call 94; refine Calls.mono HC.out ?_; rintro e w1 ⟨r, rfl, hr, hb1⟩)
  go_ret
  exact ⟨by rw [← hr]; rfl, hb1⟩
theorem elements_any (A : Option Addr) (l : List Int) (c : Nat) (p least : Int) (w : World) (hA : Ints w A l) :
    Calls Tryd.prog 64 #[.slice A l.length c, .int .i64 p, .int .i64 least] w fun e w' => e = .returned (.bool (inside l p least)) ∧ Below w.heap.size w w' := by
  have hb2 : Below w.heap.size w ((w.alloc (.cells #[.int .i64 p] 3)).alloc (.cells #[.int .i64 least] 3)) := below_alloc' (below_alloc' (Below.refl _ _) _) _
  have hc := containsElem_any A l c p least (w.heap.size + 1) w.heap.size ((w.alloc (.cells #[.int .i64 p] 3)).alloc (.cells #[.int .i64 least] 3)) (hA.below hb2) (by simp) (by simp; omega) (by simp) (by simp)
  rw [any_outside] at hc
  have HC := hide hc
  have HB2 := hide hb2
  clear hc hb2
  generalize inside l p least = q at HC ⊢
  go_enter Tryd.func64, Tryd.ntmps64
  go_wp2_with (go_at_call 81; refine Calls.mono HC.out ?_; rintro e w1 ⟨rfl, hb1⟩)
  go_ret
  exact ⟨rfl, below_trans HB2.out hb1⟩
end Go.Proofs.YtieeefgkdfijdaaDoor

/- slices.Backward of whole numbers: its contract as an iterator (the shape of the kit's own contract of slices.All). No condition. -/
namespace Go.Proofs.YtieeefgkdfijdaaDoor
open Go.RowKit Go.Shelf Go.Proofs

attribute [local go_sem] Oper.semAt_some

/-- what comes in the round k: the place and the number there -/
def backAt (l : List Int) (k : Nat) : Int × Int := (((l.length - 1 - k : Nat) : Int), l.getD (l.length - 1 - k) 0)
/-- what has come when k rounds are over -/
def backTo (l : List Int) (k : Nat) : List (Int × Int) := (List.range k).map (backAt l)
theorem backTo_succ (l : List Int) (k : Nat) : backTo l (k + 1) = backTo l k ++ [backAt l k] := by simp [backTo, List.range_succ]
theorem backTo_length (l : List Int) (k : Nat) : (backTo l k).length = k := by simp [backTo]

/-- what a round keeps: all below n₀, and the slice's own box -/
def KpB (n₀ Bs : Nat) (A B : World) : Prop := Below n₀ A B ∧ ∀ v, A.cell? ⟨Bs, 0, none⟩ = some v → B.cell? ⟨Bs, 0, none⟩ = some v
theorem KpB.refl (n₀ Bs : Nat) (A : World) : KpB n₀ Bs A A := ⟨Below.refl _ _, fun _ h => h⟩
theorem KpB.trans {n₀ Bs : Nat} {A B C : World} (h : KpB n₀ Bs A B) (k : KpB n₀ Bs B C) : KpB n₀ Bs A C := ⟨Below.trans h.1 k.1, fun v e => k.2 v (h.2 v e)⟩
set_option maxRecDepth 100000 in
set_option maxHeartbeats 2000000 in
theorem back1_in (F : Fence) (n : Nat) (h8 : F.fn 83) (hro : F.round = none) (hn : 1 ≤ n) (r Bs n₀ b cap : Nat) (off : Nat) (l : List Int) (hlen : l.length ≤ 9223372036854775807) (hb : b < n₀) (J Jx : List (Int × Int) → World → Prop)
    (hY : ∀ pre x W, J pre W → pre.length < l.length → YieldAt F (n - 1) Tryd.prog r #[.int .i64 x.1, .int .i64 x.2] W fun e W' =>
      (e = .returned (.bool true) ∧ J (pre ++ [x]) W' ∧ KpB n₀ Bs W W') ∨ (e = .returned (.bool false) ∧ Jx (pre ++ [x]) W'))
    (W : World) (hBs : W.cell? ⟨Bs, 0, none⟩ = some (.slice (some ⟨b, off, none⟩) l.length cap)) (hc : ∀ j, j < l.length → W.cell? ⟨b, off + j, none⟩ = some (.int .i64 (l.getD j 0))) (h0 : J [] W) :
    CallsIn F n Tryd.prog 83 #[.func (.yield r) #[] #[], .pointer (some ⟨Bs, 0, none⟩)] W fun e W' => (∃ v, e = .returned v) ∧
      (J (backTo l l.length) W' ∨ (∃ pre, (∃ k, k ≤ l.length ∧ pre = backTo l k) ∧ Jx pre W')) := by
  refine callsIn_of_wp Tryd.func83 rfl h8 ?_ hro
  simp only [Tryd.ntmps83, List.size_toArray, List.length_cons, List.length_nil, Nat.reduceAdd, Nat.reduceSub, Array.replicate_succ, Array.replicate_zero, List.push_toArray, List.append_toArray, List.nil_append, List.cons_append]
  gi_wp2
  gi_loopw [3] (fun v wr => ∃ (k : Nat) (i : Int), k ≤ l.length ∧ i = (l.length : Int) - 1 - k ∧ v = .int .i64 i ∧ J (backTo l k) wr ∧ KpB n₀ Bs W wr)
    (fun v _ => (intOf v + 1).toNat)
  case atStart => exact ⟨0, _, Nat.zero_le _, by omega, rfl, h0, KpB.refl _ _ _⟩
  case round =>
    obtain ⟨k, i, hk, hi, rfl, hJs, hnx⟩ := hrel
    have hs : wr.cell? ⟨Bs, 0, none⟩ = some (.slice (some ⟨b, off, none⟩) l.length cap) := hnx.2 _ hBs
    by_cases hlt : k < l.length
    · obtain ⟨j, rfl⟩ : ∃ j : Nat, i = (j : Int) := ⟨l.length - 1 - k, by omega⟩
      have hj : j = l.length - 1 - k := by omega
      have hjl : j < l.length := by omega
      have hcx := (hnx.1.cell (p := ⟨b, off + j, none⟩) hb).trans (hc j hjl)
      have hba : backAt l k = ((j : Int), l.getD j 0) := by unfold backAt; rw [← hj]
      have hbs := backTo_succ l k
      rw [hba] at hbs
      obtain ⟨fn, tmps, assign, body, hy, hR⟩ := hY _ ((j : Int), l.getD j 0) wr hJs (by rw [backTo_length]; exact hlt)
      rw [← hbs] at hR
      dsimp only at hy
      have j0 : (0 : Int) ≤ (j : Int) := Int.natCast_nonneg _
      have j1 : (j : Int) < (l.length : Int) := by omega
      generalize l.getD j 0 = x at hcx hy hR
      have HI := hide hi
      clear hj hi hbs hba
      gi_wp2
      refine hR.mono ?_
      rintro e W3 (⟨rfl, hJ3, hk3⟩ | ⟨rfl, hJx3⟩)
      · gi_wp2
        go_roundw
        case rel => exact ⟨k + 1, (j : Int) - 1, by omega, by have := HI.out; omega, by go_num, hJ3, hnx.trans hk3⟩
        case measure => simp [intOf]
      · gi_wp2
        refine bodyPost_ret (results_none rfl _ _ _) rfl ?_
        exact ⟨⟨_, rfl⟩, .inr ⟨_, ⟨k + 1, by omega, rfl⟩, hJx3⟩⟩
    · obtain rfl : k = l.length := by omega
      obtain rfl : i = -1 := by omega
      gi_wp2
      go_end0
      exact ⟨⟨_, rfl⟩, .inl hJs⟩

/-- **slices.Backward(s)**: the slice value is boxed; the function value captures the box. -/
theorem back_in (F : Fence) (n : Nat) (h5 : F.fn 65) (hro : F.round = none) (a : Option Addr) (len cap : Nat) (w : World) :
    CallsIn F n Tryd.prog 65 #[.slice a len cap] w fun e w' => e = .returned (.func (.func 83) #[] #[.pointer (some ⟨w.heap.size, 0, none⟩)]) ∧ w' = w.alloc (.cells #[.slice a len cap] 33) := by
  refine callsIn_of_wp Tryd.func65 rfl h5 ?_ hro
  simp only [Tryd.ntmps65, List.size_toArray, List.length_cons, List.length_nil, Nat.reduceAdd, Nat.reduceSub, Array.replicate_succ, Array.replicate_zero, List.push_toArray, List.append_toArray, List.nil_append, List.cons_append]
  gi_wp2
  go_ret
  exact ⟨rfl, rfl⟩

/-- slices.Backward(s) at a list that is not empty hands back a value that 'SeqStopsK', at 'Kp := KpB n₀ Bs'. -/
theorem back_stops (F : Fence) (n : Nat) (h8 : F.fn 83) (hro : F.round = none) (hn : 1 ≤ n) (Bs n₀ b cap off : Nat) (l : List Int) (hlen : l.length ≤ 9223372036854775807) (w : World) (hBs : Bs < w.heap.size) (hn₀ : n₀ ≤ w.heap.size)
    (hcell : w.cell? ⟨Bs, 0, none⟩ = some (.slice (some ⟨b, off, none⟩) l.length cap)) (hb : b < n₀) (hc : ∀ j, j < l.length → w.cell? ⟨b, off + j, none⟩ = some (.int .i64 (l.getD j 0))) :
    SeqStopsK F n Tryd.prog 83 #[.pointer (some ⟨Bs, 0, none⟩)] (fun x : Int × Int => #[.int .i64 x.1, .int .i64 x.2]) (KpB n₀ Bs) (fun ys => ys = backTo l l.length) (fun pre => ∃ k, k ≤ l.length ∧ pre = backTo l k) l.length w := fun r J Jx W hW _ _ hY h0 => by
  have hW' := hW.mono hn₀
  refine (back1_in F n h8 hro hn r Bs n₀ b cap off l hlen hb J Jx hY W ((hW.cell (p := ⟨Bs, 0, none⟩) hBs).trans hcell) (fun j hj => (hW'.cell (p := ⟨b, off + j, none⟩) hb).trans (hc j hj)) h0).mono ?_
  rintro e W' ⟨he, hj | ⟨pre, hk, hj⟩⟩
  · exact ⟨he, .inl ⟨_, rfl, hj⟩⟩
  · exact ⟨he, .inr ⟨_, hk, hj⟩⟩
/-- the mark that a range over a function leaves among the deferred calls -/
def markOf (D : Nat) : Deferred := { target := .collected D, args := #[] }
/-- behind the marks: below n₀ all lies as it lay, and every cell is what it was -/
def Marked (n₀ : Nat) (w w' : World) : Prop := Below n₀ w w' ∧ ∀ a v, w.cell? a = some v → w'.cell? a = some v
/-- a frame that leaves with marks alone: each is taken up; then it returns -/
theorem leaves_marks {F : Fence} {n : Nat} {P : Program} {fn : Func} {tmps : Array Value} {R : Ending → World → Prop} (w0 : World) : ∀ (Ds : List Nat) (w : World), Ds.Nodup → (∀ D, D ∈ Ds → w0.heap.size ≤ D ∧ w.heap[D]? = some (.deferred (some []))) →
    (∀ w', Marked w0.heap.size w w' → ∃ v, (results fn tmps).run P w' = .ok v w' ∧ R (.returned v) w') → LeavesInM F n P fn tmps R (Ds.map markOf) .returning w := by
  intro Ds
  induction Ds with
  | nil =>
    intro w _ _ h
    exact h w ⟨Below.refl _ _, fun _ _ h => h⟩
  | cons D Ds ih =>
    intro w hnd hall h
    obtain ⟨hD, hK⟩ := hall D (List.mem_cons_self ..)
    rw [List.nodup_cons] at hnd
    refine ⟨by simp, .inl ⟨D, _, rfl, run_takeDeferred hK, ih _ hnd.2 (fun D' hD' => ?_) (fun w' hw' => h w' ⟨?_, fun a v hv => ?_⟩)⟩⟩
    · obtain ⟨h1, h2⟩ := hall D' (List.mem_cons_of_mem _ hD')
      have hne : D' ≠ D := fun e => hnd.1 (e ▸ hD')
      exact ⟨h1, (World.putObj_heap_other hne).trans h2⟩
    · exact Below.trans (belowK_b (w := w0) (Nat.le_refl _) w D _ _ hD hK rfl rfl) hw'.1
    · exact hw'.2 a v (cell_kept hv (grownBy_putObj' w D (.deferred none)) (fun r e => by cases e; exact ⟨_, hK, rfl⟩))
theorem Ints.marked {n₀ : Nat} {w w' : World} {A : Option Addr} {l : List Int} (h : Ints w A l) (m : Marked n₀ w w') : Ints w' A l :=
  ⟨h.len, fun i hi => by
    obtain ⟨b, off, e, _, hc⟩ := h.at_ i hi
    have hc' := m.2 _ _ hc
    exact ⟨b, off, e, World.block_lt_of_cell? w' _ hc', hc'⟩⟩
end Go.Proofs.YtieeefgkdfijdaaDoor

/- The walk of secret.Share. No condition. -/
namespace Go.Proofs.YtieeefgkdfijdaaDoor
open Go.RowKit Go.Deep Go.Shelf Go.Proofs.YtieeefgkdfijdaaDoorW.PrintWords

attribute [local go_sem] Oper.semAt_some

theorem fieldC_ok (p : Int) (w : World) : Calls Tryd.prog 63 #[.int .i64 p] w fun e w' => e = .returned (.bool (fieldOf p)) ∧ Below w.heap.size w w' := by
  refine (PSecretShare.secret_field.calls 41 p (fieldOf p) w (fieldP_f p)).mono ?_
  rintro e w' ⟨rfl, h⟩
  exact ⟨rfl, drawn_below h⟩

/-- y when these have come -/
def accW (p x : Int) (pre : List (Int × Int)) : Int := pre.foldl (fun y q => Int.tmod (wrap64 (wrap64 (y * x) + q.2)) p) 0
theorem accW_snoc (p x : Int) (pre : List (Int × Int)) (q : Int × Int) : accW p x (pre ++ [q]) = Int.tmod (wrap64 (wrap64 (accW p x pre * x) + q.2)) p := by
  unfold accW
  rw [List.foldl_append]
  rfl
theorem horner_range (p x : Int) (hp : 0 < p) (l : List Int) : 0 ≤ horner p x l ∧ horner p x l < p := by
  cases l with
  | nil => simp only [horner, List.foldr_nil]; omega
  | cons c cs =>
    have e : horner p x (c :: cs) = (horner p x cs * x + c) % p := rfl
    rw [e]
    exact ⟨Int.emod_nonneg _ (by omega), Int.emod_lt_of_pos _ hp⟩
theorem accW_horner (p x : Int) (hp : 2 ≤ p ∧ p ≤ 997) (hx : 0 ≤ x ∧ x ≤ 1000) (l : List Int) (hin : inside l p 0 = true) : ∀ k, k ≤ l.length → accW p x (backTo l k) = horner p x (l.drop (l.length - k)) := by
  intro k
  induction k with
  | zero => intro _; simp [accW, backTo, horner]
  | succ k ih =>
    intro hk
    have hil : l.length - (k + 1) < l.length := by omega
    obtain ⟨g0, g1⟩ := inside_get hin _ hil
    have ed : l.drop (l.length - (k + 1)) = l.getD (l.length - (k + 1)) 0 :: l.drop (l.length - k) := by
      rw [List.drop_eq_getElem_cons hil, getD_eq l _ 0 hil, show l.length - (k + 1) + 1 = l.length - k by omega]
    rw [backTo_succ, accW_snoc, ih (by omega), ed]
    have e2 : (backAt l k).2 = l.getD (l.length - (k + 1)) 0 := by
      unfold backAt
      rw [show l.length - 1 - k = l.length - (k + 1) by omega]
    have e : ∀ (c : Int) (cs : List Int), horner p x (c :: cs) = (horner p x cs * x + c) % p := fun _ _ => rfl
    obtain ⟨h0, h1⟩ := horner_range p x (by omega) (l.drop (l.length - k))
    rw [e2, e]
    generalize l.getD (l.length - (k + 1)) 0 = c at g0 g1 ⊢
    generalize horner p x (l.drop (l.length - k)) = y at h0 h1 ⊢
    have m1 := mul_le_997 (x := y) (y := x) ⟨h0, by omega⟩ hx
    have w1 : wrap64 (y * x) = y * x := by unfold wrap64; omega
    have w2 : wrap64 (y * x + c) = y * x + c := by unfold wrap64; omega
    rw [w1, w2, tmod_small _ _ (by omega)]
theorem accW_all (p x : Int) (hp : 2 ≤ p ∧ p ≤ 997) (hx : 0 ≤ x ∧ x ≤ 1000) (l : List Int) (hin : inside l p 0 = true) : accW p x (backTo l l.length) = horner p x l := by
  rw [accW_horner p x hp hx l hin l.length (Nat.le_refl _), Nat.sub_self, List.drop_zero]
theorem grown_of_below {w w' : World} (h : Below w.heap.size w w') : w.grownBy w' none := ⟨h.os, h.tape, h.output, h.size, fun k hk _ => h.block k hk⟩
theorem own_isCells {w : World} {base e size n : Nat} {v : Value} {xs : List Value} (h : w.ownsRow base e size v n xs) (j : Nat) (o : Obj) (hj : v.ownBlock = some j) (ho : w.heap[j]? = some o) : o.isCells = true := by
  rcases h.2 with ⟨rfl, _⟩ | ⟨g, cap, cur, rfl, _, hg, _⟩
  · simp [Value.ownBlock] at hj
  · simp [Value.ownBlock] at hj
    subst hj
    rw [hg] at ho
    cases ho
    rfl
theorem own_list {w : World} {base e : Nat} {v : Value} {n : Nat} {l : List Int} (h : w.ownsRow base e 1 v n (intCells l)) : w.ownsRow base e 1 v l.length (intCells l) := by
  have : n = l.length := by have := h.1; rw [intCells_length] at this; omega
  rw [← this]; exact h
theorem ints_one {w : World} {b : Nat} {y : Int} (hb : b < w.heap.size) (h : w.cell? ⟨b, 0, none⟩ = some (.int .i64 y)) : Ints w (some ⟨b, 0, none⟩) [y] :=
  ⟨by simp, fun i hi => by
    obtain rfl : i = 0 := by simp at hi; omega
    exact ⟨b, 0, rfl, hb, h⟩⟩
/-- what Share gives at good arguments -/
def RetShare (p n : Int) (l : List Int) (w : World) (e : Ending) (w' : World) : Prop := ∃ B d, e = .returned (.tuple #[.slice B n.toNat d, .nilIface]) ∧ Ints w' B ((List.range n.toNat).map fun x => horner p ((x + 1 : Nat) : Int) l) ∧ n.toNat ≤ d ∧ Below w.heap.size w w'
/-- what holds at the head of Share's outer loop -/
def ShRel (p n : Int) (l : List Int) (b0 off0 c B0 : Nat) (w2 : World) (act : Act) (W : World) : Prop := ∃ (u8 u9 u10 u11 u12 u13 u14 u15 u16 u17 u18 u19 u20 u21 u22 u23 u24 u25 u26 u27 u28 u29 u30 u31 u32 u33 u34 u35 u36 u37 u38 u39 u40 u41 u42 u43 u44 u45 u46 u47 u48 u49 u50 u51 u52 u53 u54 u55 u56 u57 u58 u59 u60 u61 u62 u63 u64 u65 u66 : Value) (dd : List Deferred) (Ds : List Nat) (x bx : Nat), act = { tmps := ((Value.int .i64 p) :: (Value.slice (some ⟨b0, off0, none⟩) l.length c) :: (Value.int .i64 n) :: (Value.pointer (some ⟨B0, 0, none⟩)) :: undef :: undef :: (Value.slice none 0 0) :: (Value.nilIface) :: u8 :: u9 :: u10 :: u11 :: u12 :: u13 :: u14 :: u15 :: u16 :: u17 :: u18 :: u19 :: u20 :: u21 :: u22 :: u23 :: u24 :: u25 :: u26 :: u27 :: u28 :: u29 :: u30 :: u31 :: u32 :: u33 :: u34 :: u35 :: u36 :: u37 :: u38 :: u39 :: u40 :: u41 :: u42 :: u43 :: u44 :: u45 :: u46 :: u47 :: u48 :: u49 :: u50 :: u51 :: u52 :: u53 :: u54 :: u55 :: u56 :: u57 :: u58 :: u59 :: u60 :: u61 :: u62 :: u63 :: u64 :: u65 :: u66 :: []).toArray, defers := dd } ∧ dd = Ds.map markOf ∧ 1 ≤ x ∧ (x : Int) ≤ n + 1 ∧ u9 = .pointer (some ⟨bx, 0, none⟩) ∧ W.cell? ⟨bx, 0, none⟩ = some (.int .i64 x) ∧ W.frozen? ⟨bx, 0, none⟩ = false ∧ w2.heap.size ≤ bx ∧ Below w2.heap.size w2 W ∧
      (Ds.Nodup ∧ ∀ D, D ∈ Ds → w2.heap.size ≤ D ∧ W.heap[D]? = some (.deferred (some []))) ∧ u8.ownBlock ≠ some bx ∧ W.ownsRow w2.heap.size 3 1 u8 (x - 1) (intCells ((List.range (x - 1)).map fun y => horner p ((y + 1 : Nat) : Int) l))
/-- the number in a box -/
def boxInt (W : World) (v : Value) : Int := match v with | .pointer (some ad) => (match W.cell? ad with | some (.int _ n) => n | _ => 0) | _ => 0
set_option maxRecDepth 100000 in
set_option maxHeartbeats 4000000 in
theorem share_ok (A : Option Addr) (l : List Int) (c : Nat) (p n : Int) (w : World) (a : Nat → Addr) (hE : Env [2, 3] w a) (hA : Ints w A l) (he : shErr p l n = 0) :
    Calls Tryd.prog 35 #[.int .i64 p, .slice A l.length c, .int .i64 n] w fun e w' => RetShare p n l w e w' := by
  have hlen := hA.len
  have hf : fieldOf p = true := by
    cases h : fieldOf p
    · unfold shErr at he; rw [if_pos h] at he; cases he
    · rfl
  have hr : ¬ (n < 1 ∨ n > p - 1 ∨ n > 24 ∨ l.length = 0 ∨ 12 < l.length) := fun h => by
    unfold shErr at he; rw [if_neg (by rw [hf]; decide), if_pos h] at he; cases he
  have hin : inside l p 0 = true := by
    cases h : inside l p 0
    · unfold shErr at he; rw [if_neg (by rw [hf]; decide), if_neg hr, h] at he; cases he
    · rfl
  obtain ⟨p2, p997⟩ := fieldOf_range hf
  have hw0 : Below w.heap.size w (w.alloc (.cells #[.int .i64 p] 3)) := below_alloc' (Below.refl _ _) _
  have HW0 := hide hw0
  have HPX := hide (fun w' (hb : Below (w.alloc (.cells #[.int .i64 p] 3)).heap.size (w.alloc (.cells #[.int .i64 p] 3)) w') => show w'.cell? ⟨w.heap.size, 0, none⟩ = some (.int .i64 p) by
    rw [hb.cell (p := ⟨w.heap.size, 0, none⟩) (by simp)]; simp)
  obtain ⟨b0, off0, rfl, hb0, _⟩ := hA.at_ 0 (by omega)
  have hcA : ∀ j, j < l.length → w.cell? ⟨b0, off0 + j, none⟩ = some (.int .i64 (l.getD j 0)) := fun j hj => by
    obtain ⟨b1, off1, e, _, h⟩ := hA.at_ j hj
    injection e with e
    injection e with e1 e2 _
    subst e1 e2
    exact h
  have HCA := hide hcA
  clear hcA
  have HF := hide (fun w' => fieldC_ok p w')
  rw [hf] at HF
  have HEL := hide (fun w' (hb : Below (w.alloc (.cells #[.int .i64 p] 3)).heap.size (w.alloc (.cells #[.int .i64 p] 3)) w') => elements_any (some ⟨b0, off0, none⟩) l c p 0 w' (hA.below (below_trans hw0 hb)))
  rw [hin] at HEL
  have n1 : 1 ≤ n := by omega
  have n24 : n ≤ 24 := by omega
  have np : n ≤ p - 1 := by omega
  have l0 : 0 < (l.length : Int) := by omega
  have l12 : (l.length : Int) ≤ 12 := by omega
  clear hf he hr hw0
  refine callsIn_wide (n := 3) |>.1 ?_
  refine callsIn_of_wp_marks Tryd.func35 rfl trivial ?_ rfl
  refine wpIn_wide.2 ?_
  simp only [Tryd.ntmps35, List.size_toArray, List.length_cons, List.length_nil, Nat.reduceAdd, Nat.reduceSub, Array.replicate_succ, Array.replicate_zero, List.push_toArray, List.append_toArray, List.nil_append, List.cons_append]
  go_wp2_with (first
    | (go_at_call 63; refine Calls.mono (HF.out _) ?_; rintro e w1 ⟨rfl, hb1⟩; have y1 := HPX.out w1 hb1)
    | (go_at_call 64; refine Calls.mono (HEL.out w1 hb1) ?_; rintro e w2 ⟨rfl, hb2⟩; have hB2 := below_trans hb1 hb2; have y2 := HPX.out w2 hB2))
  have HW2 := hide (below_trans HW0.out hB2)
  refine wp_loop (ShRel p n l b0 off0 c w.heap.size w2)
    (fun act W => (n + 1 - boxInt W (act.tmps.getD 9 undef)).toNat) ?_ ?_
  · unfold ShRel
    (repeat apply Exists.intro)
    refine ⟨rfl, (rfl : _ = List.map markOf []), (by omega : 1 ≤ 1), by omega, rfl, by simp, by simp, Nat.le_refl _, below_alloc' (Below.refl _ _) _, ⟨List.nodup_nil, fun D h => absurd h (List.not_mem_nil)⟩, by simp [Value.ownBlock], nil_own _ _ _ _⟩
  · rintro act W ⟨u8, u9, u10, u11, u12, u13, u14, u15, u16, u17, u18, u19, u20, u21, u22, u23, u24, u25, u26, u27, u28, u29, u30, u31, u32, u33, u34, u35, u36, u37, u38, u39, u40, u41, u42, u43, u44, u45, u46, u47, u48, u49, u50, u51, u52, u53, u54, u55, u56, u57, u58, u59, u60, u61, u62, u63, u64, u65, u66, dd, Ds, x, bx, rfl, rfl, x1, xn, rfl, hx, hfx, hbx, hBW, hDs, hne8, hown⟩
    have HDS := hide hDs
    obtain ⟨A8, c8, rfl, hc8, _⟩ := own_shape hown
    have HO8 := hide hown
    have HNE := hide (show some bx ≠ (Value.slice A8 (x - 1) c8).ownBlock from fun e => hne8 e.symm)
    have HC8 := hide hc8
    clear hDs hown hne8 hc8
    have yW := HPX.out W (below_trans hB2 hBW)
    by_cases hxn : (x : Int) ≤ n
    · have HACC := hide (accW_all p x ⟨p2, p997⟩ ⟨by omega, by omega⟩ l hin)
      go_wp2_with (go_at_call 65; refine Calls.mono (callsIn_wide (n := 3) |>.1 (back_in Fence.wide 3 trivial rfl (some ⟨b0, off0, none⟩) l.length c _)) ?_; rintro e w4 ⟨rfl, rfl⟩)
      have hWB : Below w.heap.size w W := below_trans HW2.out hBW
      have hbW : b0 < W.heap.size := Nat.lt_of_lt_of_le hb0 hWB.size
      have hcW := fun j hj => (hWB.cell (p := ⟨b0, off0 + j, none⟩) hb0).trans (HCA.out j hj)
      refine wpIn_wide (n := 3) |>.1 ?_
      refine wpIn_rangeFunc_ownF (F := Fence.wide) (n := 3) rfl (by decide) (gf := 83) (lb := #[.pointer (some ⟨W.heap.size + 1, 0, none⟩)]) (by rfl) trivial (enters_of Tryd.func83 (by kernel_rfl) rfl)
        (back_stops Fence.wide 2 trivial rfl (by decide) (W.heap.size + 1) W.heap.size b0 c off0 l hlen _ (by simp) (by simp; omega) (by simp) hbW (fun j hj => by rw [World.cell?_alloc_lt _ _ _ (by simp; omega), World.cell?_alloc_lt _ _ _ hbW]; exact hcW j hj))
        (fun h k => KpB.trans h k) ?hKb (Below.refl _ _) (fun _ => rfl)
        (fun pre V => (V.cell? ⟨W.heap.size, 0, none⟩ = some (.int .i64 (accW p x pre)) ∧ V.frozen? ⟨W.heap.size, 0, none⟩ = false) ∧ Below W.heap.size W V) (fun _ _ _ => False) ?hI ?hIx ?h0
        (fun q => { tmps := ((Value.int .i64 p) :: (Value.slice (some ⟨b0, off0, none⟩) l.length c) :: (Value.int .i64 n) :: (Value.pointer (some ⟨w.heap.size, 0, none⟩)) :: undef :: undef :: (Value.slice none 0 0) :: (Value.nilIface) :: (Value.slice A8 (x - 1) c8) :: (Value.pointer (some ⟨bx, 0, none⟩)) :: (Value.pointer (some ⟨W.heap.size, 0, none⟩)) :: u11 :: (Value.int .i64 q.2) :: u13 :: u14 :: u15 :: u16 :: u17 :: u18 :: u19 :: u20 :: u21 :: u22 :: u23 :: u24 :: u25 :: u26 :: u27 :: u28 :: u29 :: u30 :: u31 :: u32 :: u33 :: u34 :: u35 :: u36 :: u37 :: u38 :: u39 :: u40 :: u41 :: u42 :: u43 :: u44 :: (Value.int .i64 x) :: (Value.int .i64 n) :: (Value.bool true) :: u48 :: u49 :: (Value.slice (some ⟨b0, off0, none⟩) l.length c) :: (Value.func (.func 83) #[] #[.pointer (some ⟨W.heap.size + 1, 0, none⟩)]) :: (Value.int .i64 q.1) :: (Value.int .i64 q.2) :: u54 :: u55 :: u56 :: u57 :: u58 :: u59 :: u60 :: u61 :: u62 :: u63 :: u64 :: u65 :: u66 :: []).toArray, defers := [] }) ?assign ?body ?done ?stop
      case hKb =>
        intro V r o o' hr h1 h2 h3
        exact ⟨belowK_b (w := W) (Nat.le_refl _) V r o o' (by simp at hr; omega) h1 h2 h3, fun v hv => cell_kept hv (grownBy_putObj' V r o') (fun r' e => by cases e; exact ⟨_, h1, h2⟩)⟩
      case hI => exact OwnFrom.and (Own.from (fun s A B row hs hg hr => ⟨cell_kept hs.1 hg hr, (frozen_kept hs.1 hg hr).trans hs.2⟩) _) (ownFrom_below (Nat.le_refl _) (by simp; omega))
      case hIx => exact fun _ _ _ _ _ hs _ _ => hs.elim
      case h0 => exact ⟨⟨by simp [accW], by simp⟩, below_alloc' (below_alloc' (Below.refl _ _) _) _⟩
      case assign =>
        intro r q V K hK
        gi_wp2
        exact hK
      case stop =>
        rintro D c pre V _ _ h _
        exact h.elim
      case body =>
        rintro r pre q V ⟨⟨hy, hfy⟩, hWV⟩ _
        have yV := HPX.out V (below_trans (below_trans hB2 hBW) hWV)
        have hxl := World.block_lt_of_cell? W _ hx
        have hxV := (hWV.cell (p := ⟨bx, 0, none⟩) hxl).trans hx
        have pne : p ≠ 0 := by omega
        have hac := accW_snoc p x pre q
        have HAC := hide hac
        clear hac
        gi_wp2
        refine ⟨KeepsOthers.setCell _ _ _, ⟨(Below.refl W.heap.size V).setCell (p := ⟨W.heap.size, 0, none⟩) (Nat.le_refl _) _, fun v hv => (World.cell?_setCell_other _ _ _ _ (by simp)).trans hv⟩, ⟨?_, ?_⟩, hWV.setCell (p := ⟨W.heap.size, 0, none⟩) (Nat.le_refl _) _⟩
        · rw [HAC.out]; exact World.cell?_setCell_same' _ _ _ (by rw [hy]; rfl)
        · rw [World.frozen?_setCell]; exact hfy
      case done =>
        rintro D ys V hD rfl ⟨⟨hy, hfy⟩, hWV⟩ hK
        have hxl := World.block_lt_of_cell? W _ hx
        have hxV := (hWV.cell (p := ⟨bx, 0, none⟩) hxl).trans hx
        have hyl := World.block_lt_of_cell? V _ hy
        simp only [] at hyl
        have HOA := hide (HO8.out.kept (grown_of_below hWV) (by cases (Value.slice A8 (x - 1) c8).ownBlock <;> simp))
        rw [HACC.out] at hy
        generalize hyy : horner p x l = yy at hy
        have HY := hide hyy
        have HK := hide hK
        clear hyy hK
        have HXA := hide (show (V.alloc (.cells #[.int .i64 yy] 3)).cell? ⟨bx, 0, none⟩ = some (.int .i64 x) from (World.cell?_alloc_lt _ _ _ (World.block_lt_of_cell? V _ hxV)).trans hxV)
        have hszV : w2.heap.size ≤ V.heap.size + 1 := Nat.le_succ_of_le (Nat.le_trans hBW.size hWV.size)
        have HSZ := hide (show w2.heap.size ≤ (V.alloc (.cells #[.int .i64 yy] 3)).heap.size by simp; omega)
        have HC3 := hide (show (((List.range (x - 1)).map fun y => horner p ((y + 1 : Nat) : Int) l).length + 1) * 8 ≤ 140737488355328 by simp only [List.length_map, List.length_range]; omega)
        go_wp2_with (at_builtin; refine wp_app_ints _ rfl (.tmp 61) (.tmp 63) rfl w2.heap.size (.slice A8 (x - 1) c8) _ rfl (own_list (HOA.out.alloc _)) _ 1 1 [yy] rfl rfl (ints_one (b := V.heap.size) (by simp) (by simp)) HC3.out HSZ.out ?_; intro A' c' w5 hc5 ho5 hg5 hob5; have hx5 := hg5.cell HXA.out HNE.out)
        have e0 : ((List.range (x - 1)).map fun y => horner p ((y + 1 : Nat) : Int) l) ++ [yy] = (List.range x).map fun y => horner p ((y + 1 : Nat) : Int) l := by
          obtain ⟨m, rfl⟩ : ∃ m, x = m + 1 := ⟨x - 1, by omega⟩
          rw [← HY.out, List.range_succ, List.map_append, Nat.add_sub_cancel]
          rfl
        have hlx : ((List.range x).map fun y => horner p ((y + 1 : Nat) : Int) l).length = x := by simp
        rw [e0, hlx] at ho5
        have b1 : Below w2.heap.size w2 V := hBW.trans (hWV.mono hBW.size)
        have b2 := b1.alloc b1.size (.cells #[.int .i64 yy] 3)
        have b3 := b2.grown hg5 b2.size (fun k hk => (HOA.out.lt k hk).1)
        have kk : KeepsOthers V (w5.alloc (.cells #[.int .i64 ((x : Int) + 1)] 3)) := ((KeepsOthers.alloc _ _).trans (KeepsOthers.of_grownBy hg5 (own_isCells (HOA.out.alloc _)))).trans (KeepsOthers.alloc _ _)
        refine ⟨?_, ?_⟩
        · unfold ShRel
          (repeat apply Exists.intro)
          refine ⟨rfl, (rfl : _ = List.map markOf (D :: Ds)), (by omega : 1 ≤ x + 1), by push_cast; omega, rfl, by simp, by simp, b3.size, b3.alloc b3.size _, ⟨List.nodup_cons.2 ⟨fun hm => ?_, HDS.out.1⟩, fun D' hD' => ?_⟩, fun e => absurd (ho5.lt _ e).2 (Nat.lt_irrefl _), ?_⟩
          · have h1 := (Array.getElem?_eq_some_iff.1 (HDS.out.2 D hm).2).1
            simp at hD
            omega
          · rcases List.mem_cons.1 hD' with rfl | hm
            · exact ⟨by simp at hD; have := hBW.size; omega, kk.same _ _ HK.out rfl⟩
            · have h1 := (HDS.out.2 D' hm).2
              exact ⟨(HDS.out.2 D' hm).1, kk.same _ _ ((hWV.block D' (Array.getElem?_eq_some_iff.1 h1).1).trans h1) rfl⟩
          · have h1 := ho5.alloc (.cells #[.int .i64 ((x : Int) + 1)] 3)
            simpa [Nat.sub_add_cancel x1] using h1
        · have e1 : boxInt W (.pointer (some ⟨bx, 0, none⟩)) = x := by simp only [boxInt, hx]
          have e2 : boxInt (w5.alloc (.cells #[.int .i64 ((x : Int) + 1)] 3)) (.pointer (some ⟨w5.heap.size, 0, none⟩)) = (x : Int) + 1 := by
            have h1 : (w5.alloc (.cells #[.int .i64 ((x : Int) + 1)] 3)).cell? ⟨w5.heap.size, 0, none⟩ = some (.int .i64 ((x : Int) + 1)) := by simp
            simp only [boxInt, h1]
          rw [e1, e2]
          omega
    · have hx1 : x - 1 = n.toNat := by omega
      have ho := HO8.out
      rw [hx1] at ho
      have hc8 := HC8.out
      rw [hx1] at hc8
      have hI : Ints W A8 ((List.range n.toNat).map fun y => horner p ((y + 1 : Nat) : Int) l) := Ints.own (c := c8) (e := 3) (base := w2.heap.size) (by simpa using ho)
      have HI := hide hI
      have HC := hide hc8
      clear hI ho hc8 HO8
      go_wp2_with (fail)
      exact leaves_marks w2 Ds W HDS.out.1 HDS.out.2 (fun w' hm => ⟨_, results_tmp2 rfl _ _ _, A8, c8, rfl, HI.out.marked hm, HC.out, below_trans HW2.out (Below.trans hBW hm.1)⟩)
end Go.Proofs.YtieeefgkdfijdaaDoor

/- The walk of secret.Valid. No condition. -/
namespace Go.Proofs.YtieeefgkdfijdaaDoor
open Go.RowKit Go.Deep

theorem errC_pos (a : Nat → Addr) (c : Int) (h : c ≠ 0) : errC a c = .iface 161 (.pointer (some (a c.toNat))) := by unfold errC; rw [if_neg h]; rfl

theorem alloc_block (w : World) (o : Obj) : (w.alloc o).heap[w.heap.size]? = some o := by
  show (w.heap.push o)[w.heap.size]? = some o
  rw [Array.getElem?_push_size]
theorem seen_new (w : World) : (w.alloc (.cells #[.bool false, .bool false, .bool false, .bool false, .bool false, .bool false, .bool false, .bool false, .bool false, .bool false, .bool false, .bool false, .bool false, .bool false, .bool false, .bool false] 87)).rowIs w.heap.size 87 16 (fun _ => .bool false) := by
  refine ⟨_, alloc_block _ _, rfl, fun i hi => ?_⟩
  have h : ∀ i : Fin 16, (#[.bool false, .bool false, .bool false, .bool false, .bool false, .bool false, .bool false, .bool false, .bool false, .bool false, .bool false, .bool false, .bool false, .bool false, .bool false, .bool false] : Array Value)[i.1]? = some (.bool false) := by
    intro i
    match i with
    | ⟨0, _⟩ | ⟨1, _⟩ | ⟨2, _⟩ | ⟨3, _⟩ | ⟨4, _⟩ | ⟨5, _⟩ | ⟨6, _⟩ | ⟨7, _⟩ | ⟨8, _⟩ | ⟨9, _⟩ | ⟨10, _⟩ | ⟨11, _⟩ | ⟨12, _⟩ | ⟨13, _⟩ | ⟨14, _⟩ | ⟨15, _⟩ => rfl
    | ⟨n + 16, h⟩ => exact absurd h (by omega)
  exact h ⟨i, hi⟩
theorem seen_step (r : List Int) (j : Nat) (hj : j < r.length) (s : Int) : (r.take (j + 1)).contains s = ((r.take j).contains s || decide (s = r.getD j 0)) := by
  rw [take_at r j hj]
  simp [List.contains_eq_mem, List.mem_append]

set_option maxRecDepth 100000 in
set_option maxHeartbeats 4000000 in
theorem secValid_any (Ka La : Option Addr) (K : List Int) (L : List (List Int)) (kc lc : Nat) (w : World) (a : Nat → Addr) (hE : Env [2, 3] w a) (hK : Ints w Ka K) (hL : Lists w La L) :
    Calls Tryd.prog 25 #[.agg #[.slice Ka K.length kc, .slice La L.length lc]] w fun e w' => e = .returned (errC a (ccode K L)) ∧ Below w.heap.size w w' := by
  have hKl := hK.len
  have hLl := hL.len
  have x3 : w.cell? ⟨1, 0, none⟩ = some (.iface 161 (.pointer (some (a 3)))) := hE.cell 3 (by simp)
  have hg3 : 1 < w.heap.size := hE.lt (c := 3) (by simp)
  have HWE := hide (distValid_any Ka K kc (w.alloc (.cells #[.slice Ka K.length kc, .slice La L.length lc] 46)) a (hE.below (below_alloc' (Below.refl _ _) _)) (hK.below (below_alloc' (Below.refl _ _) _)))
  by_cases hk0 : wErr K = 0
  · rw [hk0, errC_zero] at HWE
    by_cases hll : L.length = K.length
    · have hll' : K.length = L.length := hll.symm
      rw [hll'] at HWE ⊢
      have HLL := hide hll
      clear hll hll'
      go_enter Tryd.func25, Tryd.ntmps25
      go_wp2_with (go_at_call 56; refine Calls.mono HWE.out ?_; rintro e w1 ⟨rfl, hb1⟩; obtain ⟨k1, k2⟩ := below_cells hb1; have hz1 : w.heap.size < w1.heap.size := by (have := hb1.size; simp at this; omega)
                   have y0 : w1.cell? ⟨w.heap.size, 0, none⟩ = some (.slice Ka L.length kc) := by rw [k1 _ _ (by simp)]; simp
                   have y1 : w1.cell? ⟨w.heap.size, 1, none⟩ = some (.slice La L.length lc) := by rw [k1 _ _ (by simp)]; simp
                   have y3 : w1.cell? ⟨1, 0, none⟩ = some (.iface 161 (.pointer (some (a 3)))) := by rw [k1 _ _ (by simp; omega)]; exact (World.cell?_alloc_lt _ _ ⟨1, 0, none⟩ hg3).trans x3
                   clear k1 k2)
      have hB1 : Below w.heap.size w w1 := below_trans (below_alloc' (Below.refl _ _) _) hb1
      go_loopw [26] (fun i wr => ∃ k : Nat, k ≤ L.length ∧ i = .int .i64 k ∧ Hid (RowsOk L k) ∧ Below w1.heap.size w1 wr) (fun i _ => L.length - (intOf i).toNat)
      case atStart => exact ⟨0, Nat.zero_le _, rfl, hide (RowsOk.zero L), Below.refl _ _⟩
      case round =>
        obtain ⟨i, hi, rfl, HR, hBi⟩ := hrel
        obtain ⟨wi, rfl⟩ : ∃ wi : World, wi = wr := ⟨_, rfl⟩
        have z1 : wi.cell? ⟨w.heap.size, 1, none⟩ = some (.slice La L.length lc) := (hBi.cell (p := ⟨w.heap.size, 1, none⟩) hz1).trans y1
        have z3 : wi.cell? ⟨1, 0, none⟩ = some (.iface 161 (.pointer (some (a 3)))) := (hBi.cell (p := ⟨1, 0, none⟩) (by show 1 < _; omega)).trans y3
        have hz2 : w.heap.size < wi.heap.size := Nat.lt_of_lt_of_le hz1 hBi.size
        have hz3 : 1 < wi.heap.size := by omega
        by_cases hil : i < L.length
        · have hLi := hL.below (below_trans hB1 hBi)
          obtain ⟨b, off, A', c', rfl, hb, d1, hle, hI⟩ := hLi.at_ i hil
          obtain ⟨b0, off0, A0, c0, e0, _, d0, _, _⟩ := hLi.at_ 0 (by omega)
          injection e0 with e0
          injection e0 with e1 e2 _
          subst e1 e2
          have d0' : wi.cell? ⟨b, off, none⟩ = some (.slice A0 (L.getD 0 []).length c0) := d0
          have hbad := fun h => ccode_bad hk0 HLL.out hil h
          have hnext := fun h => HR.out.succ (i := i) h
          clear d0 hLi
          generalize L.getD i [] = r at d1 hle hI hbad hnext
          generalize (L.getD 0 []).length = n at d0' hbad hnext
          have HBAD := hide hbad
          have HNEXT := hide hnext
          clear hbad hnext
          have i0 : (0 : Int) ≤ (i : Int) := Int.natCast_nonneg _
          have i1 : (i : Int) < (L.length : Int) := by omega
          have i2 : (0 : Int) < (L.length : Int) := by omega
          have hBw := below_trans hB1 hBi
          by_cases h0 : r.length = 0
          · have hb0 := badRow_of (n := n) (.inl h0)
            have q0 : ((r.length : Int) == 0) = true := by rw [h0]; rfl
            go_wp2_with (fail)
            go_ret
            exact ⟨by rw [HBAD.out hb0]; rfl, below_alloc' hBw _⟩
          · have q0 : ((r.length : Int) == 0) = false := by rw [beq_eq_false_iff_ne]; omega
            by_cases h1 : 16 < r.length
            · have q1 : decide (16 < (r.length : Int)) = true := decide_eq_true (by omega)
              have hb0 := badRow_of (n := n) (.inr (.inl h1))
              go_wp2_with (fail)
              go_ret
              exact ⟨by rw [HBAD.out hb0]; rfl, below_alloc' hBw _⟩
            · have q1 : decide (16 < (r.length : Int)) = false := decide_eq_false (by omega)
              by_cases h2 : r.length ≠ n
              · have hb0 := badRow_of (n := n) (.inr (.inr h2))
                have h2' : ((r.length : Int) == (n : Int)) = false := by simpa using fun h => h2 (by omega)
                have h2'' : ((r.length : Int) != (n : Int)) = true := by simpa using fun h => h2 (by omega)
                go_wp2_with (fail)
                go_ret
                exact ⟨by rw [HBAD.out hb0]; rfl, below_alloc' hBw _⟩
              · have h2' : n = r.length := by omega
                subst h2'
                have h2'' : ((r.length : Int) != (r.length : Int)) = false := by simp
                go_wp2_with (fail)
                have hlen16 : r.length ≤ 16 := by omega
                have hrow0 := seen_new wi
                have hBs : Below wi.heap.size wi (wi.alloc (.cells #[.bool false, .bool false, .bool false, .bool false, .bool false, .bool false, .bool false, .bool false, .bool false, .bool false, .bool false, .bool false, .bool false, .bool false, .bool false, .bool false] 87)) := below_alloc' (Below.refl _ _) _
                generalize wi.alloc (.cells #[.bool false, .bool false, .bool false, .bool false, .bool false, .bool false, .bool false, .bool false, .bool false, .bool false, .bool false, .bool false, .bool false, .bool false, .bool false, .bool false] 87) = ws at hrow0 hBs ⊢
                have HI := hide hI
                clear hI
                go_loopw [51] (fun v wr => ∃ j : Nat, j ≤ r.length ∧ v = .int .i64 j ∧ Hid (SignsOk r j) ∧ Below wi.heap.size wi wr ∧ wr.rowIs wi.heap.size 87 16 (fun s => .bool ((r.take j).contains (s : Int)))) (fun v _ => r.length - (intOf v).toNat)
                case atStart => exact ⟨0, Nat.zero_le _, rfl, hide (SignsOk.zero r), hBs, hrow0.congr fun s _ => by simp⟩
                case round =>
                  obtain ⟨j, hj, rfl, HSG, hBj, hrow⟩ := hrel
                  obtain ⟨wj, rfl⟩ : ∃ wj : World, wj = wr := ⟨_, rfl⟩
                  have g3 : wj.cell? ⟨1, 0, none⟩ = some (.iface 161 (.pointer (some (a 3)))) := (hBj.cell (p := ⟨1, 0, none⟩) hz3).trans z3
                  have hlt := hrow.lt
                  have j0 : (0 : Int) ≤ (j : Int) := Int.natCast_nonneg _
                  by_cases hjl : j < r.length
                  · obtain ⟨b', off', rfl, _, dj⟩ := (HI.out.below hBj).at_ j hjl
                    have j1 : (j : Int) < (r.length : Int) := by omega
                    have hsg : ∀ x, x = badSign r j → x = ((r.take j).contains (r.getD j 0) || decide (r.getD j 0 < 0) || decide (15 < r.getD j 0)) := fun x h => h
                    have hbs := fun h => badRow_sign (n := r.length) hjl h
                    have hns := fun h => HSG.out.succ (k := j) h
                    have hst := seen_step r j hjl
                    generalize r.getD j 0 = x at dj hsg hst
                    have HSB := hide hsg
                    have HBS := hide hbs
                    have HNS := hide hns
                    have HST := hide hst
                    clear hsg hbs hns hst
                    by_cases x0 : x < 0
                    · go_wp2_with (fail)
                      go_ret
                      exact ⟨by rw [HBAD.out (HBS.out (by rw [HSB.out _ rfl, decide_eq_true x0]; simp))]; rfl, hBw.trans (hBj.mono (by omega))⟩
                    · by_cases x15 : 15 < x
                      · have x16 : 16 ≤ x := by omega
                        go_wp2_with (fail)
                        go_ret
                        exact ⟨by rw [HBAD.out (HBS.out (by rw [HSB.out _ rfl, decide_eq_true x15]; simp))]; rfl, hBw.trans (hBj.mono (by omega))⟩
                      · obtain ⟨x, rfl⟩ := Int.eq_ofNat_of_zero_le (show 0 ≤ x by omega)
                        have x16 : x < 16 := by omega
                        have s1 : wj.cell? ⟨wi.heap.size, x, none⟩ = some (.bool ((r.take j).contains (x : Int))) := hrow.cell x16
                        have s2 : wj.frozen? ⟨wi.heap.size, x, none⟩ = false := hrow.frozen x
                        have s3 : (x : Int) < 16 := by omega
                        have s4 : ¬ (16 ≤ (x : Int)) := by omega
                        have hset := hrow.set x (.bool true)
                        have HSET := hide hset
                        clear hset
                        by_cases hc : (r.take j).contains (x : Int) = true
                        · rw [hc] at s1
                          go_wp2_with (fail)
                          go_ret
                          exact ⟨by rw [HBAD.out (HBS.out (by rw [HSB.out _ rfl, hc]; simp))]; rfl, hBw.trans (hBj.mono (by omega))⟩
                        · have hc' : (r.take j).contains (x : Int) = false := by simpa using hc
                          rw [hc'] at s1
                          have HC := hide hc'
                          clear hc hc'
                          go_wp2_with (fail)
                          go_roundw
                          case rel => exact ⟨j + 1, by omega, by go_num, hide (HNS.out (by rw [HSB.out _ rfl, HC.out, decide_eq_false x0, decide_eq_false x15]; rfl)), hBj.setCell (p := ⟨wi.heap.size, x, none⟩) (Nat.le_refl _) _, HSET.out.congr fun s _ => by
                            rw [HST.out]
                            by_cases e : s = x
                            · subst e; simp
                            · rw [if_neg e, decide_eq_false (by omega), Bool.or_false]⟩
                          case measure => simp [intOf]; omega
                  · obtain rfl : j = r.length := by omega
                    have hgood := badRow_good (n := r.length) h0 hlen16 rfl HSG.out
                    have HG := hide hgood
                    clear hgood
                    go_wp2_with (fail)
                    go_roundw
                    case rel => exact ⟨i + 1, by omega, by go_num, hide (HNEXT.out HG.out), hBi.trans (hBj.mono hBi.size)⟩
                    case measure => simp [intOf]; omega
        · obtain rfl : i = L.length := by omega
          go_wp2_with (fail)
          go_ret
          exact ⟨by rw [ccode_good hk0 HLL.out HR.out]; rfl, below_trans hB1 hBi⟩
    · rw [ccode_len hk0 hll]
      go_enter Tryd.func25, Tryd.ntmps25
      go_wp2_with (go_at_call 56; refine Calls.mono HWE.out ?_; rintro e w1 ⟨rfl, hb1⟩; obtain ⟨k1, k2⟩ := below_cells hb1; have hz1 : w.heap.size < w1.heap.size := by (have := hb1.size; simp at this; omega)
                   have y0 : w1.cell? ⟨w.heap.size, 0, none⟩ = some (.slice Ka K.length kc) := by rw [k1 _ _ (by simp)]; simp
                   have y1 : w1.cell? ⟨w.heap.size, 1, none⟩ = some (.slice La L.length lc) := by rw [k1 _ _ (by simp)]; simp
                   have y3 : w1.cell? ⟨1, 0, none⟩ = some (.iface 161 (.pointer (some (a 3)))) := by rw [k1 _ _ (by simp; omega)]; exact (World.cell?_alloc_lt _ _ ⟨1, 0, none⟩ hg3).trans x3
                   clear k1 k2)
      go_ret
      exact ⟨rfl, below_trans (below_alloc' (Below.refl _ _) _) hb1⟩
  · rw [ccode_keys hk0]
    rw [errC_pos a _ hk0] at HWE ⊢
    generalize a (wErr K).toNat = a0 at HWE ⊢
    clear hk0
    go_enter Tryd.func25, Tryd.ntmps25
    go_wp2_with (go_at_call 56; refine Calls.mono HWE.out ?_; rintro e w1 ⟨rfl, hb1⟩)
    go_ret
    exact ⟨rfl, below_trans (below_alloc' (Below.refl _ _) _) hb1⟩
end Go.Proofs.YtieeefgkdfijdaaDoor

/- Tables of whole numbers in memory: a row of rows, made block after block; make([][]int, n). No condition. -/
namespace Go.Proofs.YtieeefgkdfijdaaDoor
open Go.RowKit Go.Deep

theorem list_info : (Tryd.prog.info? 33).map (fun i => (i.zero, i.size, i.bytes)) = some (some (.slice none 0 0), 1, 24) := by kernel_rfl
/-- make([][]int, n) -/
theorem wp_make_lists (w : World) {ops : Array Oper} {rest : List Oper} {o : Oper} {a : Act} {Q : Exit → Act → World → Prop}
    (hg : o.guard = none) (l c : Operand) (hop : o.op = Op.makeSlice 37 l c) (kl kc : IntKind) (n : Nat) (hl : a.eval l = .int kl (n : Int)) (hc : a.eval c = .int kc (n : Int)) (hn : n ≤ 1000000)
    (hK : ∀ w', w'.rowIs w.heap.size 33 n (fun _ => .slice none 0 0) → Below w.heap.size w w' → Hid (w'.heap.size = w.heap.size + 1) → wpList Tryd.prog ops Q rest (a.put o.dst (.slice (some ⟨w.heap.size, 0, none⟩) n n)) w') :
    wpList Tryd.prog ops Q (o :: rest) a w := by
  obtain ⟨i0, hi0, hz0, hz1, hz2⟩ := info_parts list_info
  refine wpList_make_row w hg l c _ hop 33 i0 _ Tryd.underlying37 hi0 hz0 hz1 rfl kl kc n hl hc (by rw [hz2]; omega) (by omega) ?_
  exact hK _ (World.rowIs_made w _ n _) ((Below.refl _ _).alloc (Nat.le_refl _) _) (hide (by simp))
/-- make([]int, n), with the heap's size behind it -/
theorem wp_make_ints' (w : World) {ops : Array Oper} {rest : List Oper} {o : Oper} {a : Act} {Q : Exit → Act → World → Prop}
    (hg : o.guard = none) (l c : Operand) (hop : o.op = Op.makeSlice 33 l c) (kl kc : IntKind) (n : Nat) (hl : a.eval l = .int kl (n : Int)) (hc : a.eval c = .int kc (n : Int)) (hn : n ≤ 1000000)
    (hK : ∀ w', w'.rowIs w.heap.size 3 n (fun _ => .int .i64 0) → Below w.heap.size w w' → Hid (w'.heap.size = w.heap.size + 1) → wpList Tryd.prog ops Q rest (a.put o.dst (.slice (some ⟨w.heap.size, 0, none⟩) n n)) w') :
    wpList Tryd.prog ops Q (o :: rest) a w := by
  obtain ⟨i0, hi0, hz0, hz1, hz2⟩ := info_parts int_info
  refine wpList_make_row w hg l c _ hop 3 i0 _ Tryd.underlying33 hi0 hz0 hz1 rfl kl kc n hl hc (by rw [hz2]; omega) (by omega) ?_
  exact hK _ (World.rowIs_made w _ n _) ((Below.refl _ _).alloc (Nat.le_refl _) _) (hide (by simp))

/-- a slice over a whole block of c whole numbers -/
def sl (b c : Nat) : Value := .slice (some ⟨b, 0, none⟩) c c
/-- the first k rows of a table of M rows of c whole numbers: the outer block is B, row j lies in block B + 1 + j -/
structure TabTo (w : World) (B M c k : Nat) (f : Nat → Nat → Int) : Prop where
  outer : w.rowIs B 33 M (fun j => if j < k then .slice (some ⟨B + 1 + j, 0, none⟩) c c else .slice none 0 0)
  inner : ∀ j, j < k → w.rowIs (B + 1 + j) 3 c (fun i => .int .i64 (f j i))
  size : w.heap.size = B + 1 + k
/-- a whole table -/
structure Tab (w : World) (B M c : Nat) (f : Nat → Nat → Int) : Prop where
  outer : w.rowIs B 33 M (fun j => .slice (some ⟨B + 1 + j, 0, none⟩) c c)
  inner : ∀ j, j < M → w.rowIs (B + 1 + j) 3 c (fun i => .int .i64 (f j i))
theorem TabTo.zero {w : World} {B M c : Nat} {f : Nat → Nat → Int} (h : w.rowIs B 33 M (fun _ => .slice none 0 0)) (hs : w.heap.size = B + 1) : TabTo w B M c 0 f :=
  ⟨h.congr (fun j _ => by simp), fun j hj => absurd hj (by omega), hs⟩
/-- one row more: it lies in a new block, its slice is stored -/
theorem TabTo.succ {w w1 : World} {B M c k : Nat} {f : Nat → Nat → Int} (h : TabTo w B M c k f) (hk : k < M) (hb : Below w.heap.size w w1) (hr : w1.rowIs (B + 1 + k) 3 c (fun i => .int .i64 (f k i))) (hs : w1.heap.size = w.heap.size + 1) :
    TabTo (w1.setCell ⟨B, k, none⟩ (.slice (some ⟨B + 1 + k, 0, none⟩) c c)) B M c (k + 1) f := by
  have hB : B < w.heap.size := by rw [h.size]; omega
  refine ⟨((h.outer.of_block (hb.block B hB)).set k _).congr fun j hj => ?_, fun j hj => ?_, by simp [World.setCell]; rw [hs, h.size]; omega⟩
  · by_cases e : j = k
    · subst e; simp
    · rw [if_neg e]
      by_cases h1 : j < k
      · rw [if_pos h1, if_pos (by omega)]
      · rw [if_neg h1, if_neg (by omega)]
  · by_cases e : j = k
    · subst e; exact hr.setOther (by show B + 1 + j ≠ B; omega) _
    · exact ((h.inner j (by omega)).of_block (hb.block _ (by rw [h.size]; omega))).setOther (by show B + 1 + j ≠ B; omega) _
theorem TabTo.whole {w : World} {B M c : Nat} {f : Nat → Nat → Int} (h : TabTo w B M c M f) : Tab w B M c f :=
  ⟨h.outer.congr fun j hj => by rw [if_pos hj], h.inner⟩
theorem Tab.below {w w1 : World} {B M c : Nat} {f : Nat → Nat → Int} {C : Nat} (h : Tab w B M c f) (hb : Below C w w1) (hC : B + M < C) : Tab w1 B M c f :=
  ⟨h.outer.of_block (hb.block B (by omega)), fun j hj => (h.inner j hj).of_block (hb.block _ (by omega))⟩
theorem Tab.lt {w : World} {B M c : Nat} {f : Nat → Nat → Int} (h : Tab w B M c f) : B + M < w.heap.size := by
  rcases Nat.eq_zero_or_pos M with e | e
  · subst e; have := h.outer.lt; omega
  · have := (h.inner (M - 1) (by omega)).lt; omega
theorem Tab.congr {w : World} {B M c : Nat} {f g : Nat → Nat → Int} (h : Tab w B M c f) (e : ∀ j, j < M → ∀ i, i < c → f j i = g j i) : Tab w B M c g :=
  ⟨h.outer, fun j hj => (h.inner j hj).congr fun i hi => by rw [e j hj i hi]⟩
/-- a number of the table is written -/
theorem Tab.set {w : World} {B M c : Nat} {f : Nat → Nat → Int} (h : Tab w B M c f) (j i : Nat) (hj : j < M) (v : Int) :
    Tab (w.setCell ⟨B + 1 + j, i, none⟩ (.int .i64 v)) B M c (fun x y => if x = j ∧ y = i then v else f x y) := by
  refine ⟨h.outer.setOther (by show B ≠ B + 1 + j; omega) _, fun x hx => ?_⟩
  by_cases e : x = j
  · subst e
    refine ((h.inner x hx).set i _).congr fun y hy => ?_
    by_cases e2 : y = i
    · subst e2; simp
    · simp [e2]
  · refine ((h.inner x hx).setOther (by show B + 1 + x ≠ B + 1 + j; omega) _).congr fun y hy => ?_
    simp [e]
/-- a number in one of the rows so far is written -/
theorem TabTo.set {w : World} {B M c k : Nat} {f : Nat → Nat → Int} (h : TabTo w B M c k f) (j i : Nat) (hj : j < k) (v : Int) :
    TabTo (w.setCell ⟨B + 1 + j, i, none⟩ (.int .i64 v)) B M c k (fun x y => if x = j ∧ y = i then v else f x y) := by
  refine ⟨h.outer.setOther (by show B ≠ B + 1 + j; omega) _, fun x hx => ?_, by simp [World.setCell]; exact h.size⟩
  by_cases e : x = j
  · subst e
    refine ((h.inner x hx).set i _).congr fun y hy => ?_
    by_cases e2 : y = i
    · subst e2; simp
    · simp [e2]
  · refine ((h.inner x hx).setOther (by show B + 1 + x ≠ B + 1 + j; omega) _).congr fun y hy => ?_
    simp [e]
theorem TabTo.congr {w : World} {B M c k : Nat} {f g : Nat → Nat → Int} (h : TabTo w B M c k f) (e : ∀ j, j < k → ∀ i, i < c → f j i = g j i) : TabTo w B M c k g :=
  ⟨h.outer, fun j hj => (h.inner j hj).congr fun i hi => by rw [e j hj i hi], h.size⟩
/-- a table reads as the list of its rows -/
theorem Lists.ofTab {w : World} {B M c : Nat} {f : Nat → Nat → Int} (h : Tab w B M c f) (hM : M ≤ 9223372036854775807) (hc : c ≤ 9223372036854775807) : Lists w (some ⟨B, 0, none⟩) ((List.range M).map fun j => (List.range c).map fun i => f j i) :=
  ⟨by simpa using hM, fun j hj => by
    have hj' : j < M := by simpa using hj
    have e : ((List.range M).map fun j => (List.range c).map fun i => f j i).getD j [] = (List.range c).map fun i => f j i := by
      simp [List.getD_eq_getElem?_getD, List.getElem?_map, List.getElem?_range hj']
    rw [e]
    have h1 := h.outer.cell hj'
    exact ⟨B, 0, some ⟨B + 1 + j, 0, none⟩, c, rfl, h.outer.lt, by rw [Nat.zero_add, h1]; simp, by simp, Ints.ofRow (h.inner j hj') hc⟩⟩
end Go.Proofs.YtieeefgkdfijdaaDoor
