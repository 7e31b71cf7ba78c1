/- Words, plain laws and walks behind the law SecretShamir, part 3. No condition. -/
import Derived.Test.YtieeefgkdfijdaaDoorFlatSecretShamirb
import Derived.Test.YtieeefgkdfijdaaDoorWMore
import Derived.Deep.RegionHeld3
import Derived.Shelf.Abstract
import Derived.Shelf.Small.Bits
import Derived.Shelf.Small.Wraps
import Derived.Shelf.Strconv.Itoa0
import Derived.Shelf.Sort.Plain
import Derived.Shelf.Slices.Turned
import Derived.Shelf.Slices.Equal
import Derived.Ground.Names2Prog
import Derived.Shelf.Slices.Clone
import Derived.Shelf.Slices.CompactI
import Derived.Shelf.Slices.SearchI
import Derived.Shelf.Slices.Cells
import Derived.Shelf.Slices.In.SortNone
import Derived.Ground.SlgnProg
import Derived.Shelf.SlicesE.Clone
import Derived.Test.YtieeefgkdfijdaaDoorProg
import Derived.RangeFuncBox
import Derived.RangeFuncLeaves
import Derived.RangeFuncNested
import Derived.Shelf.RegionOpen
import Derived.WalkKit
import Derived.OwnWalkIn
import Derived.TacticsInMore
import Derived.LoopNIn
import Derived.LoopIn

/- The walks of slices.Max, dist.list, dist.Valid. No condition. -/
namespace Go.Proofs.YtieeefgkdfijdaaDoor
open Go.RowKit Go.Deep Go.Proofs.YtieeefgkdfijdaaDoorW.PrintMore
attribute [local go_sem] max2_int min2_int max_two min_two

theorem topOf_max (l : List Int) : ∀ x t, topOf l (if x > t then x else t) = if topOf l x > t then topOf l x else t := by
  induction l with
  | nil => intro x t; rfl
  | cons y r ih =>
    intro x t
    show topOf r (if y > (if x > t then x else t) then y else (if x > t then x else t)) = if topOf r (if y > x then y else x) > t then topOf r (if y > x then y else x) else t
    rw [← ih (if y > x then y else x) t]
    congr 1
    by_cases h1 : x > t <;> by_cases h2 : y > x <;> by_cases h3 : y > t <;> simp only [h1, h2, h3, if_true, if_false] <;> first | rfl | omega | (split <;> omega)
/-- the greatest of numbers -/
def greatest (l : List Int) : Int := topOf (l.drop 1) (l.getD 0 0)
theorem greatest_top (l : List Int) (h : 0 < l.length) (t : Int) : (if t < greatest l then greatest l else t) = topOf l t := by
  cases l with
  | nil => simp at h
  | cons x r =>
    show (if t < topOf r x then topOf r x else t) = topOf r (if x > t then x else t)
    rw [topOf_max]
theorem greatest_step (l : List Int) (k : Nat) (h0 : 1 ≤ k) (hk : k < l.length) : topOf ((l.drop 1).take k) (l.getD 0 0) = if topOf ((l.drop 1).take (k - 1)) (l.getD 0 0) < l.getD k 0 then l.getD k 0 else topOf ((l.drop 1).take (k - 1)) (l.getD 0 0) := by
  have h1 := topOf_take (l.drop 1) (k - 1) (by simp; omega) (l.getD 0 0)
  rw [Nat.sub_add_cancel h0] at h1
  rw [h1]
  have e : (l.drop 1).getD (k - 1) 0 = l.getD k 0 := by
    rw [List.getD_eq_getElem?_getD, List.getD_eq_getElem?_getD, List.getElem?_drop]
    congr 2
    omega
  rw [e]

set_option maxHeartbeats 1000000 in
theorem max_ok (A : Option Addr) (l : List Int) (c : Nat) (w : World) (hA : Ints w A l) (hl : 0 < l.length) :
    Calls Tryd.prog 75 #[.slice A l.length c] w fun e w' => e = .returned (.int .i64 (greatest l)) ∧ Below w.heap.size w w' := by
  have hlen := hA.len
  obtain ⟨b, off, rfl, hb, d0⟩ := hA.at_ 0 hl
  obtain ⟨x0, hx0⟩ : ∃ x0, x0 = l.getD 0 0 := ⟨_, rfl⟩
  have d0' : w.cell? ⟨b, off, none⟩ = some (.int .i64 x0) := by rw [hx0]; exact d0
  have HX := hide hx0
  clear d0 hx0
  go_enter Tryd.func75, Tryd.ntmps75
  go_wp2_with (fail)
  go_loopw [3, 4] (fun m i wr => ∃ k : Nat, 1 ≤ k ∧ k ≤ l.length ∧ i = .int .i64 k ∧ m = .int .i64 (topOf ((l.drop 1).take (k - 1)) x0) ∧ Below w.heap.size w wr) (fun _ i _ => l.length - (intOf i).toNat)
  case atStart => exact ⟨1, Nat.le_refl _, hl, rfl, rfl, Below.refl _ _⟩
  case round =>
    obtain ⟨k, hk0, hk, rfl, rfl, hB⟩ := hrel
    by_cases hlt : k < l.length
    · obtain ⟨b', off', e, _, dk⟩ := (hA.below hB).at_ k hlt
      injection e with e
      injection e with e1 e2 _
      subst e1 e2
      have hst := greatest_step l k hk0 hlt
      rw [← HX.out] at hst
      have HST := hide hst
      clear hst
      have k0 : (0 : Int) ≤ (k : Int) := Int.natCast_nonneg _
      have k1 : (k : Int) < (l.length : Int) := by omega
      change Hid (_ = if topOf ((l.drop 1).take (k - 1)) x0 < l.getD k 0 then l.getD k 0 else topOf ((l.drop 1).take (k - 1)) x0) at HST
      generalize l.getD k 0 = x at dk HST
      generalize topOf ((l.drop 1).take (k - 1)) x0 = m at HST ⊢
      by_cases hmx : m < x
      · go_wp2_with (fail)
        go_roundw
        case rel => exact ⟨k + 1, by omega, by omega, by go_num, by rw [Nat.add_sub_cancel, HST.out, if_pos hmx], hB⟩
        case measure => simp [intOf]; omega
      · go_wp2_with (fail)
        go_roundw
        case rel => exact ⟨k + 1, by omega, by omega, by go_num, by rw [Nat.add_sub_cancel, HST.out, if_neg hmx], hB⟩
        case measure => simp [intOf]; omega
    · obtain rfl : k = l.length := by omega
      go_wp2_with (fail)
      go_ret
      refine ⟨?_, hB⟩
      unfold greatest
      rw [List.take_of_length_le (by simp), HX.out]
      rfl

/-- a sum that stands still beyond a bound -/
def sat (most t : Int) : Int := if most + 1 < t then most + 1 else t

set_option maxHeartbeats 2000000 in
theorem list_any (A : Option Addr) (l : List Int) (c : Nat) (most : Int) (hm : 0 ≤ most) (hm2 : most ≤ 1000000) (w : World) (a : Nat → Addr) (hE : Env [2, 3] w a) (hA : Ints w A l) :
    Calls Tryd.prog 78 #[.slice A l.length c, .int .i64 most] w fun e w' => e = .returned (errC a (wcode most l)) ∧ Below w.heap.size w w' := by
  have hlen := hA.len
  have x3 : w.cell? ⟨1, 0, none⟩ = some (.iface 161 (.pointer (some (a 3)))) := hE.cell 3 (by simp)
  have x2 : w.cell? ⟨0, 0, none⟩ = some (.iface 161 (.pointer (some (a 2)))) := hE.cell 2 (by simp)
  go_enter Tryd.func78, Tryd.ntmps78
  go_wp2_with (fail)
  go_loopw [5, 6, 11] (fun s t i wr => ∃ k : Nat, k ≤ l.length ∧ i = .int .i64 k ∧ s = .bool (anyPos (l.take k)) ∧ t = .int .i64 (sat most (l.take k).sum) ∧ Hid (anyNeg (l.take k) = false) ∧ Below w.heap.size w wr) (fun _ _ i _ => l.length - (intOf i).toNat)
  case atStart => exact ⟨0, Nat.zero_le _, rfl, rfl, by unfold sat; rw [List.take_zero, List.sum_nil, if_neg (by omega)], hide rfl, Below.refl _ _⟩
  case round =>
    obtain ⟨k, hk, rfl, rfl, rfl, HN, hB⟩ := hrel
    have y3 : wr.cell? ⟨1, 0, none⟩ = some (.iface 161 (.pointer (some (a 3)))) := (hB.cell (p := ⟨1, 0, none⟩) (hE.lt (c := 3) (by simp))).trans x3
    have y2 : wr.cell? ⟨0, 0, none⟩ = some (.iface 161 (.pointer (some (a 2)))) := (hB.cell (p := ⟨0, 0, none⟩) (hE.lt (c := 2) (by simp))).trans x2
    have h0 := sum_nonneg _ HN.out
    by_cases hlt : k < l.length
    · obtain ⟨b, off, rfl, _, dk⟩ := (hA.below hB).at_ k hlt
      have k0 : (0 : Int) ≤ (k : Int) := Int.natCast_nonneg _
      have k1 : (k : Int) < (l.length : Int) := by omega
      have hneg := fun h => wcode_neg most l k hlt h
      have hp' : anyPos (l.take (k + 1)) = (anyPos (l.take k) || decide (0 < l.getD k 0)) := any_take _ l k hlt
      have hn' : anyNeg (l.take (k + 1)) = (anyNeg (l.take k) || decide (l.getD k 0 < 0)) := any_take _ l k hlt
      have hs' := sum_take l k hlt
      rw [HN.out, Bool.false_or] at hn'
      generalize l.getD k 0 = x at dk hneg hp' hn' hs'
      have HNEG := hide hneg
      have HP := hide hp'
      have HN' := hide hn'
      have HS := hide hs'
      clear hneg hp' hn' hs'
      by_cases hx : x < 0
      · go_wp2_with (fail)
        go_ret
        exact ⟨by rw [HNEG.out hx]; rfl, hB⟩
      · have hsat : 0 ≤ sat most (l.take k).sum ∧ sat most (l.take k).sum ≤ most + 1 := by unfold sat; split <;> omega
        have hst : sat most ((l.take k).sum + x) = if most + 1 < sat most (l.take k).sum + (if most + 1 < x then most + 1 else x) then most + 1 else sat most (l.take k).sum + (if most + 1 < x then most + 1 else x) := by
          unfold sat
          by_cases e1 : most + 1 < (l.take k).sum <;> by_cases e2 : most + 1 < x <;> simp only [e1, e2, if_true, if_false] <;> (split <;> split <;> omega)
        have HST := hide hst
        clear hst
        generalize sat most (l.take k).sum = t0 at hsat HST ⊢
        generalize anyPos (l.take k) = s0 at HP ⊢
        have hsl := hsat.1
        have hsr := hsat.2
        clear hsat h0
        by_cases hpos : 0 < x
        · by_cases e2 : most + 1 < x
          · by_cases e3 : most + 1 < t0 + (most + 1)
            · cases s0
              all_goals
                go_wp2_with (fail)
                go_roundw
                case rel => exact ⟨k + 1, by omega, by go_num, by rw [HP.out, decide_eq_true hpos]; rfl, by rw [HS.out, HST.out, if_pos e2, if_pos e3], hide (by rw [HN'.out, decide_eq_false hx]), hB⟩
                case measure => simp [intOf]; omega
            · cases s0
              all_goals
                go_wp2_with (fail)
                go_roundw
                case rel => exact ⟨k + 1, by omega, by go_num, by rw [HP.out, decide_eq_true hpos]; rfl, by rw [HS.out, HST.out, if_pos e2, if_neg e3], hide (by rw [HN'.out, decide_eq_false hx]), hB⟩
                case measure => simp [intOf]; omega
          · by_cases e3 : most + 1 < t0 + x
            · cases s0
              all_goals
                go_wp2_with (fail)
                go_roundw
                case rel => exact ⟨k + 1, by omega, by go_num, by rw [HP.out, decide_eq_true hpos]; rfl, by rw [HS.out, HST.out, if_neg e2, if_pos e3], hide (by rw [HN'.out, decide_eq_false hx]), hB⟩
                case measure => simp [intOf]; omega
            · cases s0
              all_goals
                go_wp2_with (fail)
                go_roundw
                case rel => exact ⟨k + 1, by omega, by go_num, by rw [HP.out, decide_eq_true hpos]; rfl, by rw [HS.out, HST.out, if_neg e2, if_neg e3], hide (by rw [HN'.out, decide_eq_false hx]), hB⟩
                case measure => simp [intOf]; omega
        · obtain rfl : x = 0 := by omega
          have e2 : ¬ most + 1 < 0 := by omega
          have e3 : ¬ most + 1 < t0 + 0 := by omega
          have e4 : ¬ most + 1 < t0 := by omega
          cases s0
          all_goals
            go_wp2_with (fail)
            go_roundw
            case rel => exact ⟨k + 1, by omega, by go_num, by rw [HP.out]; rfl, by rw [HS.out, HST.out, if_neg e2, if_neg e3]; first | rfl | rw [Int.add_zero], hide (by rw [HN'.out]; rfl), hB⟩
            case measure => simp [intOf]; omega
    · obtain rfl : k = l.length := by omega
      have hend := wcode_end most l (anyPos l) (decide (most < l.sum)) (anyNeg_false l HN.out) rfl rfl
      rw [List.take_length] at h0 ⊢
      have hcmp : (most < sat most l.sum) = (most < l.sum) := by
        unfold sat
        split <;> simp <;> omega
      have HC := hide hcmp
      have HE := hide hend
      clear hend hcmp
      by_cases hpos : anyPos l = true
      · by_cases hgr : most < sat most l.sum
        · go_wp2_with (fail)
          go_ret
          rw [HE.out, hpos, decide_eq_true (by rw [← HC.out]; exact hgr)]
          exact ⟨rfl, hB⟩
        · go_wp2_with (fail)
          go_ret
          rw [HE.out, hpos, decide_eq_false (by rw [← HC.out]; omega)]
          exact ⟨rfl, hB⟩
      · have hpos' : anyPos l = false := by simpa using hpos
        go_wp2_with (fail)
        go_ret
        rw [HE.out, hpos']
        exact ⟨rfl, hB⟩

theorem distValid_any (A : Option Addr) (l : List Int) (c : Nat) (w : World) (a : Nat → Addr) (hE : Env [2, 3] w a) (hA : Ints w A l) :
    Calls Tryd.prog 56 #[.slice A l.length c] w fun e w' => e = .returned (errC a (wErr l)) ∧ Below w.heap.size w w' := by
  have hlen := hA.len
  have x2 : w.cell? ⟨0, 0, none⟩ = some (.iface 161 (.pointer (some (a 2)))) := hE.cell 2 (by simp)
  unfold wErr
  by_cases h : 16 < l.length
  · rw [if_pos h]
    go_enter Tryd.func56, Tryd.ntmps56
    go_wp2_with (fail)
    go_ret
    exact ⟨rfl, Below.refl _ _⟩
  · rw [if_neg h]
    have HL := hide (list_any A l c 4096 (by decide) (by decide) w a hE hA)
    go_enter Tryd.func56, Tryd.ntmps56
    go_wp2_with (go_at_call 78; refine HL.out.mono ?_; rintro e w1 ⟨rfl, hb1⟩)
    go_ret
    exact ⟨rfl, hb1⟩
end Go.Proofs.YtieeefgkdfijdaaDoor

/- The walks of CipherError and secret.Valid. No condition. -/
namespace Go.Proofs.YtieeefgkdfijdaaDoor
open Go.RowKit Go.Deep

/-- is a row of a cipher bad? n: the first row's length -/
def badSign (r : List Int) (k : Nat) : Bool := (r.take k).contains (r.getD k 0) || decide (r.getD k 0 < 0) || decide (15 < r.getD k 0)
def badRow (n : Nat) (r : List Int) : Bool := decide (r.length = 0) || decide (16 < r.length) || decide (r.length ≠ n) || (List.range r.length).any (badSign r)
/-- the code of a cipher's error -/
def ccode (K : List Int) (L : List (List Int)) : Int := if wErr K ≠ 0 then wErr K else if L.length ≠ K.length then 3 else if L.any (badRow (L.getD 0 []).length) then 3 else 0
theorem badRow_of {n : Nat} {r : List Int} (h : r.length = 0 ∨ 16 < r.length ∨ r.length ≠ n) : badRow n r = true := by
  unfold badRow
  rcases h with h | h | h
  · rw [decide_eq_true h]; simp
  · rw [decide_eq_true h]; simp
  · rw [decide_eq_true h]; simp
theorem badRow_sign {n : Nat} {r : List Int} {k : Nat} (hk : k < r.length) (h : badSign r k = true) : badRow n r = true := by
  unfold badRow
  rw [show (List.range r.length).any (badSign r) = true from List.any_eq_true.2 ⟨k, List.mem_range.2 hk, h⟩, Bool.or_true]
/-- the signs ahead of place k are right -/
structure SignsOk (r : List Int) (k : Nat) : Prop where
  out : ∀ j, j < k → badSign r j = false
theorem SignsOk.zero (r : List Int) : SignsOk r 0 := ⟨fun _ h => absurd h (by omega)⟩
theorem SignsOk.succ {r : List Int} {k : Nat} (h : SignsOk r k) (hk : badSign r k = false) : SignsOk r (k + 1) := ⟨fun j hj => by
  by_cases e : j = k
  · rw [e]; exact hk
  · exact h.out j (by omega)⟩
theorem badRow_good {n : Nat} {r : List Int} (h0 : r.length ≠ 0) (h1 : r.length ≤ 16) (h2 : r.length = n) (h : SignsOk r r.length) : badRow n r = false := by
  unfold badRow
  rw [decide_eq_false h0, decide_eq_false (by omega), decide_eq_false (by omega)]
  simp only [Bool.false_or]
  exact List.any_eq_false.2 fun k hk => by rw [h.out k (List.mem_range.1 hk)]; simp
/-- the rows ahead of place i are right -/
structure RowsOk (L : List (List Int)) (i : Nat) : Prop where
  out : ∀ j, j < i → badRow (L.getD 0 []).length (L.getD j []) = false
theorem RowsOk.zero (L : List (List Int)) : RowsOk L 0 := ⟨fun _ h => absurd h (by omega)⟩
theorem RowsOk.succ {L : List (List Int)} {i : Nat} (h : RowsOk L i) (hi : badRow (L.getD 0 []).length (L.getD i []) = false) : RowsOk L (i + 1) := ⟨fun j hj => by
  by_cases e : j = i
  · rw [e]; exact hi
  · exact h.out j (by omega)⟩
theorem ccode_keys {K : List Int} {L : List (List Int)} (h : wErr K ≠ 0) : ccode K L = wErr K := if_pos h
theorem ccode_len {K : List Int} {L : List (List Int)} (h : wErr K = 0) (hl : L.length ≠ K.length) : ccode K L = 3 := by unfold ccode; rw [if_neg (by omega), if_pos hl]
theorem ccode_bad {K : List Int} {L : List (List Int)} (h : wErr K = 0) (hl : L.length = K.length) {i : Nat} (hi : i < L.length) (hb : badRow (L.getD 0 []).length (L.getD i []) = true) : ccode K L = 3 := by
  unfold ccode
  rw [if_neg (by omega), if_neg (by omega), if_pos]
  rw [List.any_eq_true]
  rw [getD_eq L i [] hi] at hb
  exact ⟨L[i], List.getElem_mem hi, hb⟩
theorem ccode_good {K : List Int} {L : List (List Int)} (h : wErr K = 0) (hl : L.length = K.length) (hr : RowsOk L L.length) : ccode K L = 0 := by
  unfold ccode
  rw [if_neg (by omega), if_neg (by omega), if_neg]
  rw [List.any_eq_true]
  rintro ⟨r, hr', hb⟩
  obtain ⟨i, hi, rfl⟩ := List.getElem_of_mem hr'
  have := hr.out i hi
  rw [getD_eq L i [] hi, hb] at this
  cases this
theorem ccode_zero {K : List Int} {L : List (List Int)} (h : ccode K L = 0) : GoodCipher K L := by
  unfold ccode at h
  by_cases h1 : wErr K ≠ 0
  · rw [if_pos h1] at h; exact absurd h h1
  · rw [if_neg h1] at h
    by_cases h2 : L.length ≠ K.length
    · rw [if_pos h2] at h; cases h
    · rw [if_neg h2] at h
      by_cases h3 : L.any (badRow (L.getD 0 []).length) = true
      · rw [if_pos h3] at h; cases h
      · refine ⟨by omega, by omega, fun i hi => ?_⟩
        have hb : badRow (L.getD 0 []).length (L.getD i []) = false := by
          cases e : badRow (L.getD 0 []).length (L.getD i [])
          · rfl
          · rw [getD_eq L i [] hi] at e
            exact absurd (List.any_eq_true.2 ⟨L[i], List.getElem_mem hi, e⟩) h3
        unfold badRow at hb
        simp only [Bool.or_eq_false_iff, decide_eq_false_iff_not, List.any_eq_false, List.mem_range] at hb
        obtain ⟨⟨⟨b0, b1⟩, b2⟩, b3⟩ := hb
        have hs : ∀ k, k < (L.getD i []).length → badSign (L.getD i []) k = false := fun k hk => by simpa using b3 k hk
        refine ⟨by omega, by omega, by omega, fun k hk => ?_, fun k hk => ?_⟩
        · have := hs k hk
          unfold badSign at this
          simp only [Bool.or_eq_false_iff, decide_eq_false_iff_not] at this
          omega
        · have := hs k hk
          unfold badSign at this
          simp only [Bool.or_eq_false_iff, decide_eq_false_iff_not] at this
          exact this.1.1
theorem wErr_cases (K : List Int) : wErr K = 0 ∨ wErr K = 2 ∨ wErr K = 3 := by
  unfold wErr wcode
  split
  · exact .inr (.inl rfl)
  · split
    · exact .inr (.inr rfl)
    · split
      · split
        · exact .inr (.inl rfl)
        · exact .inl rfl
      · exact .inr (.inr rfl)
theorem ccode_cases (K : List Int) (L : List (List Int)) : ccode K L = 0 ∨ ccode K L = 2 ∨ ccode K L = 3 := by
  unfold ccode
  split
  · exact wErr_cases K
  · split
    · exact .inr (.inr rfl)
    · split
      · exact .inr (.inr rfl)
      · exact .inl rfl
theorem Ints.take {w : World} {A : Option Addr} {l : List Int} (h : Ints w A l) (k : Nat) : Ints w A (l.take k) :=
  ⟨by have := h.len; rw [List.length_take]; omega, fun i hi => by
    rw [List.length_take] at hi
    obtain ⟨b, off, e, hb, hc⟩ := h.at_ i (by omega)
    refine ⟨b, off, e, hb, ?_⟩
    rw [hc, List.getD_eq_getElem?_getD, List.getD_eq_getElem?_getD, List.getElem?_take_of_lt (by omega)]⟩

set_option maxRecDepth 100000 in
set_option maxHeartbeats 4000000 in
theorem cipherError_any (Ka La : Option Addr) (K : List Int) (L : List (List Int)) (kc lc : Nat) (w : World) (hK : Ints w Ka K) (hL : Lists w La L) (hkc : K.length ≤ kc) (_hlc : L.length ≤ lc) (hK2 : K.length ≤ 2000000) :
    Calls Tryd.prog 19 #[.agg #[.slice Ka K.length kc, .slice La L.length lc]] w fun e w' => e = .returned (.int .i64 (ccode K L)) ∧ Below w.heap.size w w' := by
  have hKl := hK.len
  have hLl := hL.len
  have hwe := fun w' (h : Below w.heap.size w w') => PSecretTable.demonref1_WeightsError.calls (K.length + 1) Ka kc K (wErr K) w' ((hK.below h).toC) hkc (weightsError_f K hK2)
  have HWE := hide hwe
  clear hwe
  by_cases hk0 : wErr K = 0
  · by_cases hll : L.length = K.length
    · have hll' : K.length = L.length := hll.symm
      rw [hk0, hll'] at HWE
      rw [hll'] at hkc ⊢
      have HLL := hide hll
      clear hll hll'
      go_enter Tryd.func19, Tryd.ntmps19
      go_wp2_with (go_at_call 28; refine Calls.mono (HWE.out _ (below_alloc' (Below.refl _ _) _)) ?_; rintro e w1 ⟨rfl, hd1⟩; have hb1 := drawn_below hd1; obtain ⟨k1, k2⟩ := below_cells hb1; have hz1 : w.heap.size < w1.heap.size := by (have := hb1.size; simp at this; omega)
                   have y0 : w1.cell? ⟨w.heap.size, 0, none⟩ = some (.slice Ka L.length kc) := by rw [k1 _ _ (by simp)]; simp
                   have y1 : w1.cell? ⟨w.heap.size, 1, none⟩ = some (.slice La L.length lc) := by rw [k1 _ _ (by simp)]; simp
                   clear k1 k2 hd1)
      have hB1 : Below w.heap.size w w1 := below_trans (below_alloc' (Below.refl _ _) _) hb1
      go_loopw [4] (fun i wr => ∃ k : Nat, k ≤ L.length ∧ i = .int .i64 k ∧ Hid (RowsOk L k) ∧ Below w1.heap.size w1 wr) (fun i _ => L.length - (intOf i).toNat)
      case atStart => exact ⟨0, Nat.zero_le _, rfl, hide (RowsOk.zero L), Below.refl _ _⟩
      case round =>
        obtain ⟨i, hi, rfl, HR, hBi⟩ := hrel
        obtain ⟨wi, rfl⟩ : ∃ wi : World, wi = wr := ⟨_, rfl⟩
        have z1 : wi.cell? ⟨w.heap.size, 1, none⟩ = some (.slice La L.length lc) := (hBi.cell (p := ⟨w.heap.size, 1, none⟩) hz1).trans y1
        by_cases hil : i < L.length
        · have hLi := hL.below (below_trans hB1 hBi)
          obtain ⟨b, off, A', c', rfl, hb, d1, hle, hI⟩ := hLi.at_ i hil
          obtain ⟨b0, off0, A0, c0, e0, _, d0, _, _⟩ := hLi.at_ 0 (by omega)
          injection e0 with e0
          injection e0 with e1 e2 _
          subst e1 e2
          have d0' : wi.cell? ⟨b, off, none⟩ = some (.slice A0 (L.getD 0 []).length c0) := d0
          have hbad := fun h => ccode_bad hk0 HLL.out hil h
          have hnext := fun h => HR.out.succ (i := i) h
          clear d0 hLi
          generalize L.getD i [] = r at d1 hle hI hbad hnext
          generalize (L.getD 0 []).length = n at d0' hbad hnext
          have HBAD := hide hbad
          have HNEXT := hide hnext
          clear hbad hnext
          have i0 : (0 : Int) ≤ (i : Int) := Int.natCast_nonneg _
          have i1 : (i : Int) < (L.length : Int) := by omega
          have i2 : (0 : Int) < (L.length : Int) := by omega
          by_cases h0 : r.length = 0
          · have hb0 := badRow_of (n := n) (.inl h0)
            have q0 : ((r.length : Int) == 0) = true := by rw [h0]; rfl
            go_wp2_with (fail)
            go_quiet (fail)
            go_wp2_with (fail)
            go_ret
            exact ⟨by rw [HBAD.out hb0]; rfl, below_drewN' (below_trans hB1 hBi) _⟩
          · have q0 : ((r.length : Int) == 0) = false := by rw [beq_eq_false_iff_ne]; omega
            by_cases h1 : 16 < r.length
            · have q1 : decide (16 < (r.length : Int)) = true := decide_eq_true (by omega)
              have hb0 := badRow_of (n := n) (.inr (.inl h1))
              go_wp2_with (fail)
              go_quiet (fail)
              go_wp2_with (fail)
              go_ret
              exact ⟨by rw [HBAD.out hb0]; rfl, below_drewN' (below_trans hB1 hBi) _⟩
            · have q1 : decide (16 < (r.length : Int)) = false := decide_eq_false (by omega)
              by_cases h2 : r.length ≠ n
              · have hb0 := badRow_of (n := n) (.inr (.inr h2))
                have h2' : ((r.length : Int) == (n : Int)) = false := by simpa using fun h => h2 (by omega)
                have h2'' : ((r.length : Int) != (n : Int)) = true := by simpa using fun h => h2 (by omega)
                go_wp2_with (fail)
                go_quiet (fail)
                go_wp2_with (fail)
                go_ret
                exact ⟨by rw [HBAD.out hb0]; rfl, below_drewN' (below_trans hB1 hBi) _⟩
              · have h2' : n = r.length := by omega
                subst h2'
                have h2'' : ((r.length : Int) != (r.length : Int)) = false := by simp
                go_wp2_with (fail)
                go_quiet (fail)
                go_wp2_with (fail)
                have hlen16 : r.length ≤ 16 := by omega
                have hBn : Below w1.heap.size w1 (wi.drewN nq) := below_drewN' hBi _
                have hcon := fun (w' : World) (h : Below wi.heap.size wi w') (j : Nat) => PSecretTable.demonref1_Contains.calls ((r.take j).length + 1) A' c' (r.take j) (r.getD j 0) ((r.take j).contains (r.getD j 0)) w' (((hI.below h).take j).toC) (by rw [List.length_take]; omega) (contains_f (r.take j) _ (by rw [List.length_take]; omega))
                have HCON := hide hcon
                have HI := hide hI
                clear hcon hI
                go_loopw [5] (fun v wr => ∃ j : Nat, j ≤ r.length ∧ v = .int .i64 j ∧ Hid (SignsOk r j) ∧ Below wi.heap.size wi wr) (fun v _ => r.length - (intOf v).toNat)
                case atStart => exact ⟨0, Nat.zero_le _, rfl, hide (SignsOk.zero r), below_drewN' (Below.refl _ _) _⟩
                case round =>
                  obtain ⟨j, hj, rfl, HSG, hBj⟩ := hrel
                  obtain ⟨wj, rfl⟩ : ∃ wj : World, wj = wr := ⟨_, rfl⟩
                  have hz2 : w.heap.size < wi.heap.size := Nat.lt_of_lt_of_le hz1 hBi.size
                  have z2 : wj.cell? ⟨w.heap.size, 1, none⟩ = some (.slice (some ⟨b, off, none⟩) L.length lc) := (hBj.cell (p := ⟨w.heap.size, 1, none⟩) hz2).trans z1
                  have d2 : wj.cell? ⟨b, off + i, none⟩ = some (.slice A' r.length c') := (hBj.cell (p := ⟨b, off + i, none⟩) hb).trans d1
                  have j0 : (0 : Int) ≤ (j : Int) := Int.natCast_nonneg _
                  by_cases hjl : j < r.length
                  · obtain ⟨b', off', rfl, _, dj⟩ := (HI.out.below hBj).at_ j hjl
                    have hcj := fun w' h => HCON.out w' h j
                    have htl : (r.take j).length = j := by rw [List.length_take]; omega
                    rw [htl] at hcj
                    have j1 : (j : Int) < (r.length : Int) := by omega
                    have j2 : (j : Int) ≤ (c' : Int) := by omega
                    have j3 : (j : Int) ≤ (r.length : Int) := by omega
                    have hsg : ∀ x, x = badSign r j → x = ((r.take j).contains (r.getD j 0) || decide (r.getD j 0 < 0) || decide (15 < r.getD j 0)) := fun x h => h
                    have hbs := fun h => badRow_sign (n := r.length) hjl h
                    have hns := fun h => HSG.out.succ (k := j) h
                    generalize (r.take j).contains (r.getD j 0) = cn at hcj hsg
                    generalize r.getD j 0 = x at dj hcj hsg
                    have HCJ := hide hcj
                    have HSB := hide hsg
                    have HBS := hide hbs
                    have HNS := hide hns
                    clear hcj hsg hbs hns
                    go_wp2_with (fail)
                    go_region_held3 (fun w' => w'.cell? ⟨w.heap.size, 1, none⟩ = some (.slice (some ⟨b, off, none⟩) L.length lc) ∧ w'.cell? ⟨b, off + i, none⟩ = some (.slice (some ⟨b', off', none⟩) r.length c') ∧ w'.cell? ⟨b', off' + j, none⟩ = some (.int .i64 x))
                      (first | go_keep | exact ⟨‹_›, ‹_›, ‹_›⟩)
                      ((first
                        | (go_at_call 52
                           refine Calls.mono (HCJ.out _ (below_drewN' hBj 1)) ?_
                           rintro e w2 ⟨rfl, hd2⟩
                           obtain ⟨⟨n2, rfl⟩⟩ := hd2)))
                    have u1 : (wj.drewN (1 + n2)).cell? ⟨w.heap.size, 1, none⟩ = some (.slice (some ⟨b, off, none⟩) L.length lc) := z2
                    have u2 : (wj.drewN (1 + n2)).cell? ⟨b, off + i, none⟩ = some (.slice (some ⟨b', off', none⟩) r.length c') := d2
                    have u3 : (wj.drewN (1 + n2)).cell? ⟨b', off' + j, none⟩ = some (.int .i64 x) := dj
                    have hBk : Below wi.heap.size wi (wj.drewN (1 + n2)) := below_drewN' hBj _
                    generalize wj.drewN (1 + n2) = wk at u1 u2 u3 hBk ⊢
                    clear z2 d2 dj
                    cases cn
                    · by_cases x0 : x < 0
                      · go_wp2_with (fail)
                        go_ret
                        exact ⟨by rw [HBAD.out (HBS.out (by rw [HSB.out _ rfl, decide_eq_true x0]; simp))]; rfl, (below_trans hB1 hBi).trans (hBk.mono (by have := hB1.size; have := hBi.size; omega))⟩
                      · by_cases x15 : 15 < x
                        · go_wp2_with (fail)
                          go_ret
                          exact ⟨by rw [HBAD.out (HBS.out (by rw [HSB.out _ rfl, decide_eq_true x15]; simp))]; rfl, (below_trans hB1 hBi).trans (hBk.mono (by have := hB1.size; have := hBi.size; omega))⟩
                        · go_wp2_with (fail)
                          go_roundw
                          case rel => exact ⟨j + 1, by omega, by go_num, hide (HNS.out (by rw [HSB.out _ rfl, decide_eq_false x0, decide_eq_false x15]; rfl)), hBk⟩
                          case measure => simp [intOf]; omega
                    · go_wp2_with (fail)
                      go_ret
                      exact ⟨by rw [HBAD.out (HBS.out (by rw [HSB.out _ rfl]; simp))]; rfl, (below_trans hB1 hBi).trans (hBk.mono (by have := hB1.size; have := hBi.size; omega))⟩
                  · obtain rfl : j = r.length := by omega
                    have hgood := badRow_good (n := r.length) h0 hlen16 rfl HSG.out
                    have HG := hide hgood
                    clear hgood
                    go_wp2_with (fail)
                    go_roundw
                    case rel => exact ⟨i + 1, by omega, by go_num, hide (HNEXT.out HG.out), hBi.trans (hBj.mono hBi.size)⟩
                    case measure => simp [intOf]; omega
        · obtain rfl : i = L.length := by omega
          go_wp2_with (fail)
          go_ret
          exact ⟨by rw [ccode_good hk0 HLL.out HR.out]; rfl, below_trans hB1 hBi⟩
    · rw [ccode_len hk0 hll]
      rw [hk0] at HWE
      go_enter Tryd.func19, Tryd.ntmps19
      go_wp2_with (go_at_call 28; refine Calls.mono (HWE.out _ (below_alloc' (Below.refl _ _) _)) ?_; rintro e w1 ⟨rfl, hd1⟩; have hb1 := drawn_below hd1; obtain ⟨k1, k2⟩ := below_cells hb1; have hz1 : w.heap.size < w1.heap.size := by (have := hb1.size; simp at this; omega)
                   have y0 : w1.cell? ⟨w.heap.size, 0, none⟩ = some (.slice Ka K.length kc) := by rw [k1 _ _ (by simp)]; simp
                   have y1 : w1.cell? ⟨w.heap.size, 1, none⟩ = some (.slice La L.length lc) := by rw [k1 _ _ (by simp)]; simp
                   clear k1 k2 hd1)
      go_ret
      exact ⟨rfl, below_trans (below_alloc' (Below.refl _ _) _) hb1⟩
  · rw [ccode_keys hk0]
    have hpos : 0 < wErr K := by
      rcases wErr_cases K with h | h | h
      · exact absurd h hk0
      · rw [h]; decide
      · rw [h]; decide
    generalize wErr K = z at HWE hk0 hpos ⊢
    go_enter Tryd.func19, Tryd.ntmps19
    go_wp2_with (go_at_call 28; refine Calls.mono (HWE.out _ (below_alloc' (Below.refl _ _) _)) ?_; rintro e w1 ⟨rfl, hd1⟩; have hb1 := drawn_below hd1)
    go_ret
    exact ⟨rfl, below_trans (below_alloc' (Below.refl _ _) _) hb1⟩
end Go.Proofs.YtieeefgkdfijdaaDoor

/- The walk of secret.elements: the closure, slices.IndexFunc, slices.ContainsFunc. No condition. -/
namespace Go.Proofs.YtieeefgkdfijdaaDoor
open Go.RowKit Go.Deep Go.Shelf Go.Proofs.YtieeefgkdfijdaaDoorW.PrintWords

/-- is it outside? -/
def outside (p least x : Int) : Bool := decide (x < least) || decide (x ≥ p)
theorem any_outside (l : List Int) (p least : Int) : (l.any (outside p least)) = !inside l p least := by
  unfold inside outside
  rw [Bool.not_not]

theorem anyQ_take (q : Int → Bool) (l : List Int) (i : Nat) (h : i < l.length) : (l.take (i + 1)).any q = ((l.take i).any q || q (l.getD i 0)) := any_take q l i h
/-- the test with its two captured variables in cells -/
theorem elem_pred (p least : Int) (B C : Nat) (w : World) (hB : B < w.heap.size) (hC : C < w.heap.size) (h1 : w.cell? ⟨B, 0, none⟩ = some (.int .i64 least)) (h2 : w.cell? ⟨C, 0, none⟩ = some (.int .i64 p)) (x : Int) :
    ∀ W, Below w.heap.size w W → Calls Tryd.prog 82 #[.int .i64 x, .pointer (some ⟨B, 0, none⟩), .pointer (some ⟨C, 0, none⟩)] W fun e w' => e = .returned (.bool (outside p least x)) ∧ Below w.heap.size w w' := fun W hb => by
  have c1 : W.cell? ⟨B, 0, none⟩ = some (.int .i64 least) := (hb.cell (p := ⟨B, 0, none⟩) hB).trans h1
  have c2 : W.cell? ⟨C, 0, none⟩ = some (.int .i64 p) := (hb.cell (p := ⟨C, 0, none⟩) hC).trans h2
  go_enter Tryd.func82, Tryd.ntmps82
  go_wp2_with (fail)
  · go_ret
    exact ⟨rfl, hb⟩
  · go_ret
    have h : x < least := by assumption
    exact ⟨by simp [outside, h], hb⟩

set_option maxHeartbeats 1000000 in
theorem indexElem_any (A : Option Addr) (l : List Int) (c : Nat) (p least : Int) (B C : Nat) (w : World) (hA : Ints w A l) (hB : B < w.heap.size) (hC : C < w.heap.size) (h1 : w.cell? ⟨B, 0, none⟩ = some (.int .i64 least)) (h2 : w.cell? ⟨C, 0, none⟩ = some (.int .i64 p)) :
    Calls Tryd.prog 94 #[.slice A l.length c, .func (.func 82) #[] #[.pointer (some ⟨B, 0, none⟩), .pointer (some ⟨C, 0, none⟩)]] w fun e w' => ∃ r : Int, e = .returned (.int .i64 r) ∧ decide (0 ≤ r) = l.any (outside p least) ∧ Below w.heap.size w w' := by
  have eg : ∀ args w, (callFunc 82 args).run Tryd.prog w = .ok (.enter 82 args) w := enters_of Tryd.func82 (by kernel_rfl) rfl
  have HP := hide (fun x W (hb : Below w.heap.size w W) => elem_pred p least B C w hB hC h1 h2 x W hb)
  have hlen := hA.len
  clear h1 h2
  go_enter Tryd.func94, Tryd.ntmps94
  go_wp2_with (fail)
  go_loopw [5, 8] (fun _ v wr => ∃ i : Nat, i ≤ l.length ∧ v = .int .i64 i ∧ Below w.heap.size w wr ∧ (l.take i).any (outside p least) = false) (fun _ v _ => l.length - (intOf v).toNat)
  case atStart => exact ⟨0, Nat.zero_le _, rfl, Below.refl _ _, by simp⟩
  case round =>
    obtain ⟨i, hi, rfl, hBi, hn⟩ := hrel
    obtain ⟨wi, rfl⟩ : ∃ wi : World, wi = wr := ⟨_, rfl⟩
    have i0 : (0 : Int) ≤ (i : Int) := Int.natCast_nonneg _
    by_cases hil : i < l.length
    · have i1 : (i : Int) < (l.length : Int) := by omega
      obtain ⟨b, off, rfl, _, d1⟩ := (hA.below hBi).at_ i hil
      have hnx := anyQ_take (outside p least) l i hil
      rw [hn, Bool.false_or] at hnx
      have hyes : outside p least (l.getD i 0) = true → l.any (outside p least) = true := fun h => by
        rw [List.any_eq_true]
        rw [getD_eq l i 0 hil] at h
        exact ⟨l[i], List.getElem_mem hil, h⟩
      have hcall := HP.out (l.getD i 0) wi hBi
      generalize l.getD i 0 = x at d1 hnx hyes hcall
      generalize hq : outside p least x = q at hnx hyes hcall
      have HC := hide hcall
      have HNX := hide hnx
      have HY := hide hyes
      clear hcall hnx hyes hn hq
      cases q
      · go_wp2_with (go_at_fn 82; refine Calls.mono HC.out ?_; rintro e w1 ⟨rfl, hb1⟩)
        go_roundw
        case rel => exact ⟨i + 1, by omega, by go_num, hb1, HNX.out⟩
        case measure => simp [intOf]; omega
      · go_wp2_with (go_at_fn 82; refine Calls.mono HC.out ?_; rintro e w1 ⟨rfl, hb1⟩)
        go_ret
        exact ⟨(i : Int), rfl, by rw [HY.out (by trivial)]; exact decide_eq_true i0, hb1⟩
    · obtain rfl : i = l.length := by omega
      rw [List.take_length] at hn
      have HN := hide hn
      clear hn
      go_wp2_with (fail)
      go_ret
      exact ⟨-1, rfl, by rw [HN.out]; rfl, hBi⟩
theorem containsElem_any (A : Option Addr) (l : List Int) (c : Nat) (p least : Int) (B C : Nat) (w : World) (hA : Ints w A l) (hB : B < w.heap.size) (hC : C < w.heap.size) (h1 : w.cell? ⟨B, 0, none⟩ = some (.int .i64 least)) (h2 : w.cell? ⟨C, 0, none⟩ = some (.int .i64 p)) :
    Calls Tryd.prog 81 #[.slice A l.length c, .func (.func 82) #[] #[.pointer (some ⟨B, 0, none⟩), .pointer (some ⟨C, 0, none⟩)]] w fun e w' => e = .returned (.bool (l.any (outside p least))) ∧ Below w.heap.size w w' := by
  have HC := hide (indexElem_any A l c p least B C w hA hB hC h1 h2)
  go_enter Tryd.func81, Tryd.ntmps81
  go_wp2_with (go_at_call 94; refine Calls.mono HC.out ?_; rintro e w1 ⟨r, rfl, hr, hb1⟩)
  go_ret
  exact ⟨by rw [← hr]; rfl, hb1⟩
theorem elements_any (A : Option Addr) (l : List Int) (c : Nat) (p least : Int) (w : World) (hA : Ints w A l) :
    Calls Tryd.prog 64 #[.slice A l.length c, .int .i64 p, .int .i64 least] w fun e w' => e = .returned (.bool (inside l p least)) ∧ Below w.heap.size w w' := by
  have hb2 : Below w.heap.size w ((w.alloc (.cells #[.int .i64 p] 3)).alloc (.cells #[.int .i64 least] 3)) := below_alloc' (below_alloc' (Below.refl _ _) _) _
  have hc := containsElem_any A l c p least (w.heap.size + 1) w.heap.size ((w.alloc (.cells #[.int .i64 p] 3)).alloc (.cells #[.int .i64 least] 3)) (hA.below hb2) (by simp) (by simp; omega) (by simp) (by simp)
  rw [any_outside] at hc
  have HC := hide hc
  have HB2 := hide hb2
  clear hc hb2
  generalize inside l p least = q at HC ⊢
  go_enter Tryd.func64, Tryd.ntmps64
  go_wp2_with (go_at_call 81; refine Calls.mono HC.out ?_; rintro e w1 ⟨rfl, hb1⟩)
  go_ret
  exact ⟨rfl, below_trans HB2.out hb1⟩
end Go.Proofs.YtieeefgkdfijdaaDoor

/- The walk of demonref3.JoinError; contracts of the other functions behind SecretJoin. No condition. -/
namespace Go.Proofs.YtieeefgkdfijdaaDoor
open Go.RowKit Go.Deep Go.Proofs.YtieeefgkdfijdaaDoorW.PrintWords

theorem isFieldJ_ok (p : Int) (w : World) : Calls Tryd.prog 61 #[.int .i64 p] w fun e w' => e = .returned (.bool (fieldOf p)) ∧ Drawn0 w w' := by
  obtain ⟨k, hk⟩ := (isFieldJ_ev p).rounds
  exact PSecretJoin.demonref3_IsField.calls k p (fieldOf p) w hk
theorem inFieldJ_ok (A : Option Addr) (l : List Int) (c : Nat) (p least : Int) (w : World) (hA : Ints w A l) (hc : l.length ≤ c) (hl : l.length ≤ 2000000) :
    Calls Tryd.prog 62 #[.slice A l.length c, .int .i64 p, .int .i64 least] w fun e w' => e = .returned (.bool (inside l p least)) ∧ Drawn0 w w' := by
  obtain ⟨k, hk⟩ := (inFieldJ_ev l p least hl).rounds
  exact PSecretJoin.demonref3_InField.calls k A c l p least (inside l p least) w hA.toC hc hk
theorem drawn0_trans {a b c : World} (h : Drawn0 a b) (k : Drawn0 b c) : Drawn0 a c := by
  obtain ⟨n, rfl⟩ := k
  exact h.step n
theorem containsJ_ok (A : Option Addr) (l : List Int) (n c : Nat) (x : Int) (w : World) (hA : Ints w A l) (hn : l.length = n) (hc : n ≤ c) (hl : n ≤ 2000000) :
    Calls Tryd.prog 52 #[.slice A n c, .int .i64 x] w fun e w' => e = .returned (.bool (decide (x ∈ l))) ∧ Drawn0 w w' := by
  subst hn
  obtain ⟨k, hk⟩ := (contains_ev l x hl l.length 0 (by omega) (by simp)).rounds
  exact PSecretJoin.demonref1_Contains.calls k A c l x (decide (x ∈ l)) w hA.toC hc hk
theorem power_ok (p : Int) (hp : 2 ≤ p ∧ p ≤ 997) (a n : Int) (w : World) (hn : 0 ≤ n ∧ n ≤ 1000) (ha : 0 ≤ a ∧ a < p) :
    Calls Tryd.prog 71 #[.int .i64 a, .int .i64 n, .int .i64 p] w fun e w' => ∃ s, e = .returned (.int .i64 s) ∧ (0 ≤ s ∧ s < p) ∧ Eqm p s (a ^ n.toNat) ∧ Below w.heap.size w w' := by
  obtain ⟨m, rfl⟩ := Int.eq_ofNat_of_zero_le hn.1
  obtain ⟨s, ⟨k, hk⟩, h1, h2⟩ := power_some p hp a m (by omega) ha
  refine (PSecretJoin.secret_power.calls k a m p s w hk).mono ?_
  rintro e w' ⟨rfl, h⟩
  exact ⟨s, rfl, h1, h2, drawn_below h⟩
theorem joinOf_ok (A B : Option Addr) (at_ vs : List Int) (c d : Nat) (p : Int) (w : World) (hA : Ints w A at_) (hB : Ints w B vs) (hc : at_.length ≤ c) (hd : vs.length ≤ d) (h0 : jErr p at_ vs = 0) :
    Calls Tryd.prog 47 #[.int .i64 p, .slice A at_.length c, .slice B vs.length d] w fun e w' => e = .returned (.int .i64 (joinV p at_ vs)) ∧ Below w.heap.size w w' := by
  unfold jErr at h0
  have hf : fieldOf p = true := by
    cases h : fieldOf p
    · rw [if_pos h] at h0; cases h0
    · rfl
  rw [if_neg (by rw [hf]; decide)] at h0
  have hr : ¬ (at_.length = 0 ∨ 12 < at_.length) := fun h => by rw [if_pos h] at h0; cases h0
  rw [if_neg hr] at h0
  have hg : inside at_ p 1 = true ∧ inside vs p 0 = true ∧ at_.length = vs.length ∧ at_.Nodup := by
    rcases Classical.em (inside at_ p 1 = true ∧ inside vs p 0 = true ∧ at_.length = vs.length ∧ at_.Nodup) with h | h
    · exact h
    · rw [if_neg h] at h0; cases h0
  obtain ⟨k, hk⟩ := joinOf_some hf at_ vs (by omega) (by omega) hg.2.2.1 hg.1 hg.2.1 hg.2.2.2
  exact PSecretJoin.demonref3_JoinOf.calls k p A c at_ B d vs (joinV p at_ vs) w hA.toC hc hB.toC hd hk

set_option maxHeartbeats 1000000 in
theorem joinError_loop (A : Option Addr) (at_ : List Int) (c : Nat) (p : Int) (B : Option Addr) (vs : List Int) (d : Nat) (w : World) (hA : Ints w A at_) (hB : Ints w B vs) (hc : at_.length ≤ c) (hd : vs.length ≤ d) (hl : at_.length ≤ 2000000) (hv : vs.length ≤ 2000000)
    (hf : fieldOf p = true) (h12 : at_.length ≤ 12) (hn : 0 < at_.length) (h1 : inside at_ p 1 = true) (h2 : inside vs p 0 = true) (h3 : at_.length = vs.length) (r : Int) (hr : (at_.Nodup ∧ r = 0) ∨ (¬ at_.Nodup ∧ r = 3)) :
    Calls Tryd.prog 46 #[.int .i64 p, .slice A at_.length c, .slice B vs.length d] w fun e w' => e = .returned (.int .i64 r) ∧ Drawn0 w w' := by
  have HR := hide hr
  clear hr
  have HF := hide (fun w' => isFieldJ_ok p w')
  have HI1 := hide (fun w' (hw : Drawn0 w w') => inFieldJ_ok A at_ c p 1 w' (hA.below (drawn_below hw)) hc hl)
  have HI2 := hide (fun w' (hw : Drawn0 w w') => inFieldJ_ok B vs d p 0 w' (hB.below (drawn_below hw)) hd hv)
  rw [hf] at HF
  rw [h1] at HI1
  rw [h2] at HI2
  rw [← h3] at HI2 ⊢
  have HH := hide (And.intro hf (And.intro h1 (And.intro h2 h3)))
  clear hf h1 h2 h3
  have l0 : 0 < (at_.length : Int) := by omega
  have l12 : ¬ 12 < (at_.length : Int) := by omega
  have b0 : ((at_.length : Int) == 0) = false := by rw [beq_eq_false_iff_ne]; omega
  have b12 : decide (12 < (at_.length : Int)) = false := decide_eq_false l12
  go_enter Tryd.func46, Tryd.ntmps46
  go_wp2_with (first
    | (go_at_call 61; refine Calls.mono (HF.out _) ?_; rintro e w1 ⟨rfl, hw1⟩)
    | (go_at_call 62; refine Calls.mono (HI1.out w1 hw1) ?_; rintro e w2 ⟨rfl, hw2'⟩; have hw2 := drawn0_trans hw1 hw2'; clear HI1)
    | (go_at_call 62; refine Calls.mono (HI2.out w2 hw2) ?_; rintro e w3 ⟨rfl, hw3'⟩; have hw3 := drawn0_trans hw2 hw3'))
  have hA3 : Ints w3 A at_ := hA.below (drawn_below hw3)
  have hlen := hA3.len
  go_loopw [10] (fun v wr => ∃ i : Nat, i ≤ at_.length ∧ v = .int .i64 i ∧ Hid (at_.take i).Nodup ∧ Drawn0 w3 wr) (fun v _ => at_.length - (intOf v).toNat)
  case atStart => exact ⟨0, Nat.zero_le _, rfl, hide (by simp), Drawn0.refl _⟩
  case round =>
    obtain ⟨i, hi, rfl, HN, hWi⟩ := hrel
    obtain ⟨wi, rfl⟩ : ∃ wi : World, wi = wr := ⟨_, rfl⟩
    have i0 : (0 : Int) ≤ (i : Int) := Int.natCast_nonneg _
    by_cases hil : i < at_.length
    · have hAi : Ints wi A at_ := hA3.below (drawn_below hWi)
      obtain ⟨b, off, rfl, hb, dx⟩ := hAi.at_ i hil
      have i1 : (i : Int) < (at_.length : Int) := by omega
      have i2 : (i : Int) ≤ (c : Int) := by omega
      have i3 : (i : Int) ≤ (at_.length : Int) := by omega
      have hcn := fun (w' : World) (h : Below wi.heap.size wi w') => containsJ_ok (some ⟨b, off, none⟩) (at_.take i) i c (at_.getD i 0) w' ((hAi.below h).take i) (by rw [List.length_take]; omega) (by omega) (by omega)
      have et : at_.take (i + 1) = at_.take i ++ [at_.getD i 0] := by rw [List.take_succ_eq_append_getElem hil, getD_eq at_ i 0 hil]
      have hnd : at_.getD i 0 ∉ at_.take i → (at_.take (i + 1)).Nodup := fun hm => by
        rw [et, List.nodup_append]
        refine ⟨HN.out, by simp, fun a ha b hb e => ?_⟩
        rw [List.mem_singleton] at hb
        subst e hb
        exact hm ha
      have hdup : at_.getD i 0 ∈ at_.take i → ¬ at_.Nodup := fun hm h => by
        have h2 : (at_.take (i + 1)).Nodup := h.sublist (List.take_sublist _ _)
        rw [et, List.nodup_append] at h2
        exact h2.2.2 _ hm _ (List.mem_singleton_self _) rfl
      have HND := hide (fun h => hnd (of_decide_eq_false h))
      have HDUP := hide (fun h => hdup (of_decide_eq_true h))
      clear hnd hdup et hA3 hAi
      generalize decide (at_.getD i 0 ∈ at_.take i) = q at hcn HND HDUP
      generalize at_.getD i 0 = x at dx hcn
      have HCN := hide hcn
      clear hcn
      go_wp2_with (fail)
      go_region_held3 (fun w' => w'.cell? ⟨b, off + i, none⟩ = some (.int .i64 x))
        (first | go_keep | assumption | trivial)
        ((first
          | (go_at_call 52
             refine Calls.mono (HCN.out _ (below_drewN' (Below.refl _ _) 1)) ?_
             rintro e w5 ⟨rfl, hd5⟩
             obtain ⟨⟨n5, rfl⟩⟩ := hd5)))
      cases q
      · go_wp2_with (fail)
        go_roundw
        case rel => exact ⟨i + 1, by omega, by go_num, hide (HND.out (by trivial)), hWi.step _⟩
        case measure => simp [intOf]; omega
      · go_wp2_with (fail)
        go_ret
        exact ⟨ret_int (by rcases HR.out with h | h; exact absurd h.1 (HDUP.out (by trivial)); exact h.2.symm), drawn0_trans hw3 (hWi.step _)⟩
    · obtain rfl : i = at_.length := by omega
      have hn := HN.out
      rw [List.take_length] at hn
      have HNN := hide hn
      clear hn HN
      go_wp2_with (fail)
      go_ret
      exact ⟨ret_int (by rcases HR.out with h | h; exact h.2.symm; exact absurd HNN.out h.1), drawn0_trans hw3 hWi⟩
set_option maxHeartbeats 2000000 in
theorem joinError_early (A : Option Addr) (at_ : List Int) (c : Nat) (p : Int) (B : Option Addr) (vs : List Int) (d : Nat) (w : World) (hA : Ints w A at_) (hB : Ints w B vs) (hc : at_.length ≤ c) (hd : vs.length ≤ d) (hl : at_.length ≤ 2000000) (hv : vs.length ≤ 2000000)
    (h : ¬ (fieldOf p = true ∧ at_.length ≤ 12 ∧ 0 < at_.length ∧ inside at_ p 1 = true ∧ inside vs p 0 = true ∧ at_.length = vs.length)) (r : Int) (hr : jErr p at_ vs = r) :
    Calls Tryd.prog 46 #[.int .i64 p, .slice A at_.length c, .slice B vs.length d] w fun e w' => e = .returned (.int .i64 r) ∧ Drawn0 w w' := by
  have HF := hide (fun w' => isFieldJ_ok p w')
  have HI1 := hide (fun w' (hw : Drawn0 w w') => inFieldJ_ok A at_ c p 1 w' (hA.below (drawn_below hw)) hc hl)
  have HI2 := hide (fun w' (hw : Drawn0 w w') => inFieldJ_ok B vs d p 0 w' (hB.below (drawn_below hw)) hd hv)
  unfold jErr at hr
  cases hf : fieldOf p
  · rw [if_pos hf] at hr
    subst hr
    rw [hf] at HF
    clear hf h
    go_enter Tryd.func46, Tryd.ntmps46
    go_wp2_with (go_at_call 61; refine Calls.mono (HF.out _) ?_; rintro e w1 ⟨rfl, hw1⟩)
    go_ret
    exact ⟨rfl, hw1⟩
  · rw [if_neg (by rw [hf]; decide)] at hr
    rw [hf] at HF h
    by_cases h0 : at_.length = 0
    · have b0 : ((at_.length : Int) == 0) = true := by rw [beq_iff_eq]; omega
      rw [if_pos (.inl h0)] at hr
      subst hr
      have HH := hide h0
      clear hf h h0
      go_enter Tryd.func46, Tryd.ntmps46
      go_wp2_with (go_at_call 61; refine Calls.mono (HF.out _) ?_; rintro e w1 ⟨rfl, hw1⟩)
      go_ret
      exact ⟨rfl, hw1⟩
    · have b0 : ((at_.length : Int) == 0) = false := by rw [beq_eq_false_iff_ne]; omega
      by_cases h12 : 12 < (at_.length : Int)
      · rw [if_pos (.inr (by omega))] at hr
        subst hr
        have b12 : decide (12 < (at_.length : Int)) = true := decide_eq_true h12
        clear hf h h0
        go_enter Tryd.func46, Tryd.ntmps46
        go_wp2_with (go_at_call 61; refine Calls.mono (HF.out _) ?_; rintro e w1 ⟨rfl, hw1⟩)
        go_ret
        exact ⟨rfl, hw1⟩
      · rw [if_neg (by omega)] at hr
        have b12 : decide (12 < (at_.length : Int)) = false := decide_eq_false h12
        have l0 : 0 < (at_.length : Int) := by omega
        rw [if_neg (fun g => h ⟨rfl, by omega, by omega, g.1, g.2.1, g.2.2.1⟩)] at hr
        subst hr
        have hlen := hA.len
        have hlenv := hB.len
        have h' : ¬ (inside at_ p 1 = true ∧ inside vs p 0 = true ∧ (at_.length : Int) = vs.length) := fun g => h ⟨rfl, by omega, by omega, g.1, g.2.1, by omega⟩
        clear hf h h0
        generalize inside at_ p 1 = q1 at HI1 h'
        generalize inside vs p 0 = q2 at HI2 h'
        have hne : q1 = true → q2 = true → ((at_.length : Int) != (vs.length : Int)) = true := fun a b => by
          rw [bne_iff_ne]; exact fun e => h' ⟨a, b, e⟩
        have HNE := hide hne
        clear h' hne
        cases q1
        · go_enter Tryd.func46, Tryd.ntmps46
          go_wp2_with (first
            | (go_at_call 61; refine Calls.mono (HF.out _) ?_; rintro e w1 ⟨rfl, hw1⟩)
            | (go_at_call 62; refine Calls.mono (HI1.out w1 hw1) ?_; rintro e w2 ⟨rfl, hw2'⟩; have hw2 := drawn0_trans hw1 hw2'; clear HI1)
            | (go_at_call 62; refine Calls.mono (HI2.out w2 hw2) ?_; rintro e w3 ⟨rfl, hw3'⟩; have hw3 := drawn0_trans hw2 hw3'))
          go_ret
          exact ⟨rfl, hw3⟩
        · cases q2
          · go_enter Tryd.func46, Tryd.ntmps46
            go_wp2_with (first
              | (go_at_call 61; refine Calls.mono (HF.out _) ?_; rintro e w1 ⟨rfl, hw1⟩)
              | (go_at_call 62; refine Calls.mono (HI1.out w1 hw1) ?_; rintro e w2 ⟨rfl, hw2'⟩; have hw2 := drawn0_trans hw1 hw2'; clear HI1)
              | (go_at_call 62; refine Calls.mono (HI2.out w2 hw2) ?_; rintro e w3 ⟨rfl, hw3'⟩; have hw3 := drawn0_trans hw2 hw3'))
            go_ret
            exact ⟨rfl, hw3⟩
          · have bne := HNE.out rfl rfl
            go_enter Tryd.func46, Tryd.ntmps46
            go_wp2_with (first
              | (go_at_call 61; refine Calls.mono (HF.out _) ?_; rintro e w1 ⟨rfl, hw1⟩)
              | (go_at_call 62; refine Calls.mono (HI1.out w1 hw1) ?_; rintro e w2 ⟨rfl, hw2'⟩; have hw2 := drawn0_trans hw1 hw2'; clear HI1)
              | (go_at_call 62; refine Calls.mono (HI2.out w2 hw2) ?_; rintro e w3 ⟨rfl, hw3'⟩; have hw3 := drawn0_trans hw2 hw3'))
            go_ret
            exact ⟨rfl, hw3⟩
theorem joinError_ok (A : Option Addr) (at_ : List Int) (c : Nat) (p : Int) (B : Option Addr) (vs : List Int) (d : Nat) (w : World) (hA : Ints w A at_) (hB : Ints w B vs) (hc : at_.length ≤ c) (hd : vs.length ≤ d) (hl : at_.length ≤ 2000000) (hv : vs.length ≤ 2000000) :
    Calls Tryd.prog 46 #[.int .i64 p, .slice A at_.length c, .slice B vs.length d] w fun e w' => e = .returned (.int .i64 (jErr p at_ vs)) ∧ Below w.heap.size w w' := by
  by_cases h : fieldOf p = true ∧ at_.length ≤ 12 ∧ 0 < at_.length ∧ inside at_ p 1 = true ∧ inside vs p 0 = true ∧ at_.length = vs.length
  · obtain ⟨h1, h2, h3, h4, h5, h6⟩ := h
    refine (joinError_loop A at_ c p B vs d w hA hB hc hd hl hv h1 h2 h3 h4 h5 h6 (jErr p at_ vs) ?_).mono fun e w' ⟨he, hw⟩ => ⟨he, drawn_below hw⟩
    unfold jErr
    rw [if_neg (by rw [h1]; decide), if_neg (by omega)]
    by_cases hn : at_.Nodup
    · exact .inl ⟨hn, if_pos ⟨h4, h5, h6, hn⟩⟩
    · exact .inr ⟨hn, if_neg (fun g => hn g.2.2.2)⟩
  · exact (joinError_early A at_ c p B vs d w hA hB hc hd hl hv h _ rfl).mono fun e w' ⟨he, hw⟩ => ⟨he, drawn_below hw⟩
end Go.Proofs.YtieeefgkdfijdaaDoor

/-
  DERIVED: THE SHELF's CONTRACTS AT THIS DUMP, IN PLAIN WORDS (tools/lay-plain.mjs out of 'TrydShelf.lean', which tools/lay-shelf.mjs wrote): THE SAME DECLARATIONS UNDER THE SAME NAMES: 'import', 'namespace', 'open', 'def', 'theorem' AND NOTHING ELSE: no command of the shelf's: FOR A HAND-IN. Each laying: the table of numbers ('.._ren') and one theorem, a field a fact of the dump's own or the kernel's comparison; each contract: ONE APPLICATION.
-/
namespace Go.Proofs
open Go.Shelf
def Tryd.lays128_ren : Go.Shelf.Ren := ⟨fun | 128 => 105 | n => n, fun | 51 => 102 | 3 => 3 | 4 => 4 | 46 => 79 | 5 => 5 | 9 => 9 | n => n, fun | n => n⟩
theorem Tryd.lays128 : Go.Proofs.Lays.n128 Tryd.prog Tryd.lays128_ren := {
  mixed := by kernel_rfl
  f128 := Tryd.func105.trans (congrArg some (by kernel_rfl))
  t3 := Tryd.underlying3
  a3 := Tryd.isAgg3
  z3 := Tryd.sizeOf3
  v3 := Tryd.zeroValue3
  t4 := Tryd.underlying4
  a4 := Tryd.isAgg4
  z4 := Tryd.sizeOf4
  v4 := Tryd.zeroValue4
  t5 := Tryd.underlying5
  a5 := Tryd.isAgg5
  z5 := Tryd.sizeOf5
  v5 := Tryd.zeroValue5
  t9 := Tryd.underlying9
  a9 := Tryd.isAgg9
  z9 := Tryd.sizeOf9
  v9 := Tryd.zeroValue9
  t46 := Tryd.underlying79
  a46 := Tryd.isAgg79
  z46 := Tryd.sizeOf79
  v46 := Tryd.zeroValue79
  t51 := Tryd.underlying102
  a51 := Tryd.isAgg102
  z51 := Tryd.sizeOf102
  v51 := Tryd.zeroValue102 }
/-- bits.Len32: "Len32 returns the minimum number of bits required to represent x; the result is 0 for x == 0.": IT RETURNS 'Lib.bitLen x'; the world is as it was. ('h0', 'h1': x is a uint32.) (LAID: no walk: one application.) -/
theorem Tryd.bits_Len32 (x : Int) (w : World) (h0 : 0 ≤ x) (h1 : x ≤ 4294967295) :
    Calls Tryd.prog 105 #[.int .u32 x] w fun e w' => e = .returned (.int .i64 (Lib.bitLen x.toNat)) ∧ w' = w := Any.bits_Len32 Tryd.lays128 x w h0 h1
def Tryd.lays125_ren : Go.Shelf.Ren := ⟨fun | 125 => 87 | 128 => 105 | 129 => 106 | n => n, fun | 46 => 79 | 3 => 3 | 51 => 102 | 53 => 104 | 4 => 4 | 5 => 5 | 9 => 9 | n => n, fun | n => n⟩
theorem Tryd.lays125 : Go.Proofs.Lays.n125 Tryd.prog Tryd.lays125_ren := {
  mixed := by kernel_rfl
  f125 := Tryd.func87.trans (congrArg some (by kernel_rfl))
  f128 := Tryd.func105.trans (congrArg some (by kernel_rfl))
  f129 := Tryd.func106.trans (congrArg some (by kernel_rfl))
  t3 := Tryd.underlying3
  a3 := Tryd.isAgg3
  z3 := Tryd.sizeOf3
  v3 := Tryd.zeroValue3
  t4 := Tryd.underlying4
  a4 := Tryd.isAgg4
  z4 := Tryd.sizeOf4
  v4 := Tryd.zeroValue4
  t5 := Tryd.underlying5
  a5 := Tryd.isAgg5
  z5 := Tryd.sizeOf5
  v5 := Tryd.zeroValue5
  t9 := Tryd.underlying9
  a9 := Tryd.isAgg9
  z9 := Tryd.sizeOf9
  v9 := Tryd.zeroValue9
  t46 := Tryd.underlying79
  a46 := Tryd.isAgg79
  z46 := Tryd.sizeOf79
  v46 := Tryd.zeroValue79
  t51 := Tryd.underlying102
  a51 := Tryd.isAgg102
  z51 := Tryd.sizeOf102
  v51 := Tryd.zeroValue102
  t53 := Tryd.underlying104
  a53 := Tryd.isAgg104
  z53 := Tryd.sizeOf104
  v53 := Tryd.zeroValue104 }
/-- bits.Len: "Len returns the minimum number of bits required to represent x; the result is 0 for x == 0.": IT RETURNS 'Lib.bitLen x'; the world is as it was. (A uint has 64 bits in the model.) ITS CALLEE bits.Len64 IS MET BY ITS OWN CONTRACT OFF THE SHELF (lay that first). (LAID: no walk: one application.) -/
theorem Tryd.bits_Len (x : Int) (w : World) (h0 : 0 ≤ x) (h1 : x ≤ 18446744073709551615) :
    Calls Tryd.prog 87 #[.int .u64 x] w fun e w' => e = .returned (.int .i64 (Lib.bitLen x.toNat)) ∧ w' = w := Any.bits_Len Tryd.lays125 x w h0 h1
def Tryd.lays215_ren : Go.Shelf.Ren := ⟨fun | 215 => 95 | n => n, fun | 3 => 3 | 4 => 4 | n => n, fun | n => n⟩
theorem Tryd.lays215 : Go.Proofs.Lays.n215 Tryd.prog Tryd.lays215_ren := {
  mixed := by kernel_rfl
  f215 := Tryd.func95.trans (congrArg some (by kernel_rfl))
  t3 := Tryd.underlying3
  a3 := Tryd.isAgg3
  z3 := Tryd.sizeOf3
  v3 := Tryd.zeroValue3
  t4 := Tryd.underlying4
  a4 := Tryd.isAgg4
  z4 := Tryd.sizeOf4
  v4 := Tryd.zeroValue4 }
open Go.RowKit in
/-- cmp.isNaN at int: 'x != x': false. (LAID: no walk: one application.) -/
theorem Tryd.cmp_isNaN_int (x : Int) (w : World) :
    Calls Tryd.prog 95 #[.int .i64 x] w fun e w' => e = .returned (.bool false) ∧ w' = w := Any.cmp_isNaN_int Tryd.lays215 x w
def Tryd.lays122_ren : Go.Shelf.Ren := ⟨fun | 122 => 84 | 215 => 95 | n => n, fun | 3 => 3 | 4 => 4 | n => n, fun | n => n⟩
theorem Tryd.lays122 : Go.Proofs.Lays.n122 Tryd.prog Tryd.lays122_ren := {
  mixed := by kernel_rfl
  f122 := Tryd.func84.trans (congrArg some (by kernel_rfl))
  f215 := Tryd.func95.trans (congrArg some (by kernel_rfl))
  t3 := Tryd.underlying3
  a3 := Tryd.isAgg3
  z3 := Tryd.sizeOf3
  v3 := Tryd.zeroValue3
  t4 := Tryd.underlying4
  a4 := Tryd.isAgg4
  z4 := Tryd.sizeOf4
  v4 := Tryd.zeroValue4 }
open Go.RowKit in
/-- cmp.Compare at int: "Compare returns -1 if x is less than y, 0 if x equals y, +1 if x is greater than y.": IT RETURNS 'Lib.compareInt x y'; the world is as it was. (LAID: no walk: one application.) -/
theorem Tryd.cmp_Compare_int (x y : Int) (w : World) :
    Calls Tryd.prog 84 #[.int .i64 x, .int .i64 y] w fun e w' => e = .returned (.int .i64 (Lib.compareInt x y)) ∧ w' = w := Any.cmp_Compare_int Tryd.lays122 x y w
def Tryd.lays129_ren : Go.Shelf.Ren := ⟨fun | 129 => 106 | n => n, fun | 53 => 104 | 3 => 3 | 4 => 4 | 46 => 79 | 5 => 5 | 9 => 9 | n => n, fun | n => n⟩
theorem Tryd.lays129 : Go.Proofs.Lays.n129 Tryd.prog Tryd.lays129_ren := {
  mixed := by kernel_rfl
  f129 := Tryd.func106.trans (congrArg some (by kernel_rfl))
  t3 := Tryd.underlying3
  a3 := Tryd.isAgg3
  z3 := Tryd.sizeOf3
  v3 := Tryd.zeroValue3
  t4 := Tryd.underlying4
  a4 := Tryd.isAgg4
  z4 := Tryd.sizeOf4
  v4 := Tryd.zeroValue4
  t5 := Tryd.underlying5
  a5 := Tryd.isAgg5
  z5 := Tryd.sizeOf5
  v5 := Tryd.zeroValue5
  t9 := Tryd.underlying9
  a9 := Tryd.isAgg9
  z9 := Tryd.sizeOf9
  v9 := Tryd.zeroValue9
  t46 := Tryd.underlying79
  a46 := Tryd.isAgg79
  z46 := Tryd.sizeOf79
  v46 := Tryd.zeroValue79
  t53 := Tryd.underlying104
  a53 := Tryd.isAgg104
  z53 := Tryd.sizeOf104
  v53 := Tryd.zeroValue104 }
/-- bits.Len64: "Len64 returns the minimum number of bits required to represent x; the result is 0 for x == 0.": IT RETURNS 'Lib.bitLen x'; the world is as it was. ('h0', 'h1': x is a uint64.) (LAID: no walk: one application.) -/
theorem Tryd.bits_Len64 (x : Int) (w : World) (h0 : 0 ≤ x) (h1 : x ≤ 18446744073709551615) :
    Calls Tryd.prog 106 #[.int .u64 x] w fun e w' => e = .returned (.int .i64 (Lib.bitLen x.toNat)) ∧ w' = w := Any.bits_Len64 Tryd.lays129 x w h0 h1
def Tryd.lays189_ren : Go.Shelf.Ren := ⟨fun | 189 => 69 | 125 => 87 | 257 => 86 | 128 => 105 | 129 => 106 | 294 => 96 | 295 => 97 | 296 => 98 | 297 => 99 | 298 => 100 | 299 => 101 | 216 => 102 | 300 => 103 | 301 => 104 | 328 => 109 | 329 => 110 | 330 => 111 | 331 => 112 | 332 => 113 | 215 => 95 | 343 => 114 | n => n, fun | 28 => 33 | 3 => 3 | 46 => 79 | 0 => 0 | 51 => 102 | 53 => 104 | 4 => 4 | 183 => 133 | 182 => 132 | 131 => 136 | 5 => 5 | 9 => 9 | 218 => 153 | 222 => 157 | 228 => 159 | 229 => 84 | n => n, fun | n => n⟩
theorem Tryd.lays189 : Go.Proofs.Lays.n189 Tryd.prog Tryd.lays189_ren := {
  mixed := by kernel_rfl
  f125 := Tryd.func87.trans (congrArg some (by kernel_rfl))
  f128 := Tryd.func105.trans (congrArg some (by kernel_rfl))
  f129 := Tryd.func106.trans (congrArg some (by kernel_rfl))
  f189 := Tryd.func69.trans (congrArg some (by kernel_rfl))
  f215 := Tryd.func95.trans (congrArg some (by kernel_rfl))
  f216 := Tryd.func102.trans (congrArg some (by kernel_rfl))
  f257 := Tryd.func86.trans (congrArg some (by kernel_rfl))
  f294 := Tryd.func96.trans (congrArg some (by kernel_rfl))
  f295 := Tryd.func97.trans (congrArg some (by kernel_rfl))
  f296 := Tryd.func98.trans (congrArg some (by kernel_rfl))
  f297 := Tryd.func99.trans (congrArg some (by kernel_rfl))
  f298 := Tryd.func100.trans (congrArg some (by kernel_rfl))
  f299 := Tryd.func101.trans (congrArg some (by kernel_rfl))
  f300 := Tryd.func103.trans (congrArg some (by kernel_rfl))
  f301 := Tryd.func104.trans (congrArg some (by kernel_rfl))
  f328 := Tryd.func109.trans (congrArg some (by kernel_rfl))
  f329 := Tryd.func110.trans (congrArg some (by kernel_rfl))
  f330 := Tryd.func111.trans (congrArg some (by kernel_rfl))
  f331 := Tryd.func112.trans (congrArg some (by kernel_rfl))
  f332 := Tryd.func113.trans (congrArg some (by kernel_rfl))
  f343 := Tryd.func114.trans (congrArg some (by kernel_rfl))
  t0 := Tryd.underlying0
  a0 := Tryd.isAgg0
  z0 := Tryd.sizeOf0
  v0 := Tryd.zeroValue0
  t3 := Tryd.underlying3
  a3 := Tryd.isAgg3
  z3 := Tryd.sizeOf3
  v3 := Tryd.zeroValue3
  t4 := Tryd.underlying4
  a4 := Tryd.isAgg4
  z4 := Tryd.sizeOf4
  v4 := Tryd.zeroValue4
  t5 := Tryd.underlying5
  a5 := Tryd.isAgg5
  z5 := Tryd.sizeOf5
  v5 := Tryd.zeroValue5
  t9 := Tryd.underlying9
  a9 := Tryd.isAgg9
  z9 := Tryd.sizeOf9
  v9 := Tryd.zeroValue9
  t28 := Tryd.underlying33
  a28 := Tryd.isAgg33
  z28 := Tryd.sizeOf33
  v28 := Tryd.zeroValue33
  t46 := Tryd.underlying79
  a46 := Tryd.isAgg79
  z46 := Tryd.sizeOf79
  v46 := Tryd.zeroValue79
  t51 := Tryd.underlying102
  a51 := Tryd.isAgg102
  z51 := Tryd.sizeOf102
  v51 := Tryd.zeroValue102
  t53 := Tryd.underlying104
  a53 := Tryd.isAgg104
  z53 := Tryd.sizeOf104
  v53 := Tryd.zeroValue104
  t131 := Tryd.underlying136
  a131 := Tryd.isAgg136
  z131 := Tryd.sizeOf136
  v131 := Tryd.zeroValue136
  t182 := Tryd.underlying132
  a182 := Tryd.isAgg132
  z182 := Tryd.sizeOf132
  v182 := Tryd.zeroValue132
  t183 := Tryd.underlying133
  a183 := Tryd.isAgg133
  z183 := Tryd.sizeOf133
  v183 := Tryd.zeroValue133
  t218 := Tryd.underlying153
  a218 := Tryd.isAgg153
  z218 := Tryd.sizeOf153
  v218 := Tryd.zeroValue153
  t222 := Tryd.underlying157
  a222 := Tryd.isAgg157
  z222 := Tryd.sizeOf157
  v222 := Tryd.zeroValue157
  t228 := Tryd.underlying159
  a228 := Tryd.isAgg159
  z228 := Tryd.sizeOf159
  v228 := Tryd.zeroValue159
  t229 := Tryd.underlying84
  a229 := Tryd.isAgg84
  z229 := Tryd.sizeOf84
  v229 := Tryd.zeroValue84 }
open Go.Sort Go.RowKit in
theorem Tryd.slices_Sort_int (blk off cap : Nat) (zs : List Int) (w : World) (hH : Holds (Value.int .i64) w blk off zs.toArray) (hblk : blk < w.heap.size) (hsz : zs.length < 4611686018427387904) :
    Calls Tryd.prog 69 #[.slice (some ⟨blk, off, none⟩) zs.length cap] w fun e w' =>
      e = .returned (.tuple #[]) ∧ ∃ n os, w' = grow (putRow (Value.int .i64) (Sort.ahead w n) blk off (zs.mergeSort fun x y => decide (x ≤ y)).toArray) os := Any.slices_Sort_int Tryd.lays189 blk off cap zs w hH hblk hsz
def Tryd.lays113_ren : Go.Shelf.Ren := ⟨fun | 113 => 75 | n => n, fun | 28 => 33 | 3 => 3 | 4 => 4 | 9 => 9 | 20 => 20 | 0 => 0 | n => n, fun | n => n⟩
theorem Tryd.lays113 : Go.Proofs.Lays.n113 Tryd.prog Tryd.lays113_ren := {
  mixed := by kernel_rfl
  f113 := Tryd.func75.trans (congrArg some (by kernel_rfl))
  t0 := Tryd.underlying0
  a0 := Tryd.isAgg0
  z0 := Tryd.sizeOf0
  v0 := Tryd.zeroValue0
  t3 := Tryd.underlying3
  a3 := Tryd.isAgg3
  z3 := Tryd.sizeOf3
  v3 := Tryd.zeroValue3
  t4 := Tryd.underlying4
  a4 := Tryd.isAgg4
  z4 := Tryd.sizeOf4
  v4 := Tryd.zeroValue4
  t9 := Tryd.underlying9
  a9 := Tryd.isAgg9
  z9 := Tryd.sizeOf9
  v9 := Tryd.zeroValue9
  t20 := Tryd.underlying20
  a20 := Tryd.isAgg20
  z20 := Tryd.sizeOf20
  v20 := Tryd.zeroValue20
  t28 := Tryd.underlying33
  a28 := Tryd.isAgg33
  z28 := Tryd.sizeOf33
  v28 := Tryd.zeroValue33 }
open Go.Lib in
/-- slices.Max at []int: "Max returns the maximal value in x. It panics if x is empty.": OF A SLICE THAT IS NOT EMPTY IT RETURNS 'Lib.maxOf (the elements)'; the world is as it was. (Of an empty one it panics: no contract here.) (LAID: no walk: one application.) -/
theorem Tryd.slices_Max_int (b off n c : Nat) (zs : List Int) (w : World) (hn : 0 < n) (hz : n ≤ zs.length) (hbig : n ≤ 9223372036854775807) (hc : ∀ j, j < zs.length → w.cell? ⟨b, off + j, none⟩ = some (.int .i64 (zs.getD j 0))) :
    Calls Tryd.prog 75 #[.slice (some ⟨b, off, none⟩) n c] w fun e w' => e = .returned (.int .i64 (Lib.maxOf (zs.take n))) ∧ w' = w := Any.slices_Max_int Tryd.lays113 b off n c zs w hn hz hbig hc
def Tryd.lays114_ren : Go.Shelf.Ren := ⟨fun | 114 => 85 | n => n, fun | 28 => 33 | 3 => 3 | 4 => 4 | 9 => 9 | 20 => 20 | 0 => 0 | n => n, fun | n => n⟩
theorem Tryd.lays114 : Go.Proofs.Lays.n114 Tryd.prog Tryd.lays114_ren := {
  mixed := by kernel_rfl
  f114 := Tryd.func85.trans (congrArg some (by kernel_rfl))
  t0 := Tryd.underlying0
  a0 := Tryd.isAgg0
  z0 := Tryd.sizeOf0
  v0 := Tryd.zeroValue0
  t3 := Tryd.underlying3
  a3 := Tryd.isAgg3
  z3 := Tryd.sizeOf3
  v3 := Tryd.zeroValue3
  t4 := Tryd.underlying4
  a4 := Tryd.isAgg4
  z4 := Tryd.sizeOf4
  v4 := Tryd.zeroValue4
  t9 := Tryd.underlying9
  a9 := Tryd.isAgg9
  z9 := Tryd.sizeOf9
  v9 := Tryd.zeroValue9
  t20 := Tryd.underlying20
  a20 := Tryd.isAgg20
  z20 := Tryd.sizeOf20
  v20 := Tryd.zeroValue20
  t28 := Tryd.underlying33
  a28 := Tryd.isAgg33
  z28 := Tryd.sizeOf33
  v28 := Tryd.zeroValue33 }
open Go.Lib in
/-- slices.Min at []int: "Min returns the minimal value in x. It panics if x is empty.": OF A SLICE THAT IS NOT EMPTY IT RETURNS 'Lib.minOf (the elements)'; the world is as it was. (Of an empty one it panics: no contract here.) (LAID: no walk: one application.) -/
theorem Tryd.slices_Min_int (b off n c : Nat) (zs : List Int) (w : World) (hn : 0 < n) (hz : n ≤ zs.length) (hbig : n ≤ 9223372036854775807) (hc : ∀ j, j < zs.length → w.cell? ⟨b, off + j, none⟩ = some (.int .i64 (zs.getD j 0))) :
    Calls Tryd.prog 85 #[.slice (some ⟨b, off, none⟩) n c] w fun e w' => e = .returned (.int .i64 (Lib.minOf (zs.take n))) ∧ w' = w := Any.slices_Min_int Tryd.lays114 b off n c zs w hn hz hbig hc
def Tryd.lays111_ren : Go.Shelf.Ren := ⟨fun | 111 => 54 | n => n, fun | 28 => 33 | 3 => 3 | 4 => 4 | 0 => 0 | n => n, fun | n => n⟩
theorem Tryd.lays111 : Go.Proofs.Lays.n111 Tryd.prog Tryd.lays111_ren := {
  mixed := by kernel_rfl
  f111 := Tryd.func54.trans (congrArg some (by kernel_rfl))
  t0 := Tryd.underlying0
  a0 := Tryd.isAgg0
  z0 := Tryd.sizeOf0
  v0 := Tryd.zeroValue0
  t3 := Tryd.underlying3
  a3 := Tryd.isAgg3
  z3 := Tryd.sizeOf3
  v3 := Tryd.zeroValue3
  t4 := Tryd.underlying4
  a4 := Tryd.isAgg4
  z4 := Tryd.sizeOf4
  v4 := Tryd.zeroValue4
  t28 := Tryd.underlying33
  a28 := Tryd.isAgg33
  z28 := Tryd.sizeOf33
  v28 := Tryd.zeroValue33 }
open Go.RowKit Go.Lib in
/-- slices.Equal at []int: "Equal reports whether two slices are equal: the same length and all elements equal. If the lengths are different, Equal returns false. Otherwise, the elements are compared in increasing index order, and the comparison stops at the first unequal pair. Empty and nil slices are considered equal.": IT RETURNS WHETHER THE TWO LISTS OF ELEMENTS ARE ONE; the world is as it was but for the count of draws (the test 's1[i] != s2[i]' has two reads, whose order the model draws, once a round). 'xs', 'ys': what the cells behind the two addresses hold (the spare capacity too, if you have it); 'xs.take n', 'ys.take m': the elements. THE TWO SLICES MAY OVERLAP. (LAID: no walk: one application.) -/
theorem Tryd.slices_Equal_int (b1 o1 n c b2 o2 m d : Nat) (xs ys : List Int) (w : World) (hx : n ≤ xs.length) (hy : m ≤ ys.length) (hbig : n ≤ 9223372036854775807) (hbig2 : m ≤ 9223372036854775807) (hc1 : ∀ j, j < xs.length → w.cell? ⟨b1, o1 + j, none⟩ = some (.int .i64 (xs.getD j 0))) (hc2 : ∀ j, j < ys.length → w.cell? ⟨b2, o2 + j, none⟩ = some (.int .i64 (ys.getD j 0))) :
    Calls Tryd.prog 54 #[.slice (some ⟨b1, o1, none⟩) n c, .slice (some ⟨b2, o2, none⟩) m d] w fun e w' => e = .returned (.bool (xs.take n == ys.take m)) ∧ ∃ q, w' = w.drewN q := Any.slices_Equal_int Tryd.lays111 b1 o1 n c b2 o2 m d xs ys w hx hy hbig hbig2 hc1 hc2
open Go.RowKit Go.Lib in
/-- The same where the first is of length 0 (a nil one too): no cell is asked for. (LAID: no walk: one application.) -/
theorem Tryd.slices_Equal_int_empty (a1 a2 : Option Addr) (c m d : Nat) (w : World) (hbig2 : m ≤ 9223372036854775807) :
    Calls Tryd.prog 54 #[.slice a1 0 c, .slice a2 m d] w fun e w' => e = .returned (.bool (decide (m = 0))) ∧ w' = w := Any.slices_Equal_int_empty Tryd.lays111 a1 a2 c m d w hbig2
def Tryd.laysNm215_ren : Go.Shelf.Ren := ⟨fun | 15 => 50 | n => n, fun | 22 => 33 | 3 => 3 | 4 => 4 | n => n, fun | n => n⟩
theorem Tryd.laysNm215 : Go.Proofs.Lays2.n15 Tryd.prog Tryd.laysNm215_ren := {
  mixed := by kernel_rfl
  f15 := Tryd.func50.trans (congrArg some (by kernel_rfl))
  t3 := Tryd.underlying3
  a3 := Tryd.isAgg3
  z3 := Tryd.sizeOf3
  v3 := Tryd.zeroValue3
  t4 := Tryd.underlying4
  a4 := Tryd.isAgg4
  z4 := Tryd.sizeOf4
  v4 := Tryd.zeroValue4
  t22 := Tryd.underlying33
  a22 := Tryd.isAgg33
  z22 := Tryd.sizeOf33
  v22 := Tryd.zeroValue33
  i3 := by kernel_rfl }
open Go.RowKit Go.Lib in
/-- slices.Clone at []int: "Clone returns a copy of the slice. The elements are copied using assignment, so this is a shallow clone. The result may have additional unused capacity. The result preserves the nilness of s.": OF A SLICE THAT IS NOT nil IT RETURNS A SLICE THAT IS NOT nil, OF THE SAME ELEMENTS, IN MEMORY OF THE CALL's OWN: in the how-to's words (6f): 'w'.ownsRow B e 1 v' n cells': v' begins at the head of a row among the blocks from B on (B: the heap's size at the call), not frozen, whose first cells are the elements · 'Below B w w'': below B all is as it was. The capacity is whatever the run-time gives. 'zs': what the cells behind the slice's address hold; 'zs.take n': its elements. (LAID: no walk: one application.) -/
theorem Tryd.slices_Clone_int (b off n c : Nat) (zs : List Int) (w : World) (hz : n ≤ zs.length) (hbig : n * 8 ≤ 140737488355328) (hc : ∀ j, j < zs.length → w.cell? ⟨b, off + j, none⟩ = some (.int .i64 (zs.getD j 0))) :
    Calls Tryd.prog 50 #[.slice (some ⟨b, off, none⟩) n c] w fun e w' => ∃ v', e = .returned v' ∧ w'.ownsRow w.heap.size 3 1 v' n ((zs.take n).map (Value.int .i64)) ∧ v' ≠ .slice none 0 0 ∧ Below w.heap.size w w' := Any.slices_Clone_int Tryd.laysNm215 b off n c zs w hz hbig hc
open Go.RowKit Go.Lib in
/-- The same at nil: nil comes back; the world is as it was. (LAID: no walk: one application.) -/
theorem Tryd.slices_Clone_int_nil (n c : Nat) (w : World) :
    Calls Tryd.prog 50 #[.slice none n c] w fun e w' => e = .returned (.slice none 0 0) ∧ w' = w := Any.slices_Clone_int_nil Tryd.laysNm215 n c w
open Go.RowKit Go.Lib in
/-- The same at a slice of length 0 that is not nil, WHATEVER ITS ADDRESS (no cell is asked for): a slice that is not nil and owns nothing comes back. (LAID: no walk: one application.) -/
theorem Tryd.slices_Clone_int_zero (a : Addr) (c : Nat) (w : World) :
    Calls Tryd.prog 50 #[.slice (some a) 0 c] w fun e w' => ∃ v', e = .returned v' ∧ w'.ownsRow w.heap.size 3 1 v' 0 [] ∧ v' ≠ .slice none 0 0 ∧ Below w.heap.size w w' := Any.slices_Clone_int_zero Tryd.laysNm215 a c w
def Tryd.laysNm220_ren : Go.Shelf.Ren := ⟨fun | 20 => 70 | n => n, fun | 22 => 33 | 3 => 3 | 4 => 4 | 0 => 0 | n => n, fun | n => n⟩
theorem Tryd.laysNm220 : Go.Proofs.Lays2.n20 Tryd.prog Tryd.laysNm220_ren := {
  mixed := by kernel_rfl
  f20 := Tryd.func70.trans (congrArg some (by kernel_rfl))
  t0 := Tryd.underlying0
  a0 := Tryd.isAgg0
  z0 := Tryd.sizeOf0
  v0 := Tryd.zeroValue0
  t3 := Tryd.underlying3
  a3 := Tryd.isAgg3
  z3 := Tryd.sizeOf3
  v3 := Tryd.zeroValue3
  t4 := Tryd.underlying4
  a4 := Tryd.isAgg4
  z4 := Tryd.sizeOf4
  v4 := Tryd.zeroValue4
  t22 := Tryd.underlying33
  a22 := Tryd.isAgg33
  z22 := Tryd.sizeOf33
  v22 := Tryd.zeroValue33
  i3 := by kernel_rfl }
open Go.RowKit Go.Lib Go.Sort in
/-- slices.Compact at []int, over an array: the library's two loops are walked. (LAID: no walk: one application.) -/
theorem Tryd.slices_Compact_int_arr (blk off cap : Nat) (d : Array Int) (w : World) (hH : Holds encI w blk off d) (hsz : d.size ≤ 9223372036854775807) (hcap : d.size ≤ cap) :
    Calls Tryd.prog 70 #[.slice (some ⟨blk, off, none⟩) d.size cap] w fun e w' => e = .returned (.slice (some ⟨blk, off, none⟩) (compactUpTo d d.size).length cap) ∧ ∃ q, w' = putRow encI (Sort.ahead w q) blk off (compactUpTo d d.size ++ List.replicate (d.size - (compactUpTo d d.size).length) 0).toArray := Any.slices_Compact_int_arr Tryd.laysNm220 blk off cap d w hH hsz hcap
open Go.RowKit Go.Lib Go.Sort in
/-- slices.Compact at []int: "Compact replaces consecutive runs of equal elements with a single copy. This is like the uniq command found on Unix. Compact modifies the contents of the slice s and returns the modified slice, which may have a smaller length. Compact zeroes the elements between the new length and the original length. The result preserves the nilness of s.": IT RETURNS THE SLICE CUT TO 'Lib.compact zs'; ITS CELLS HOLD 'Lib.compact zs', THEN ZERO VALUES up to the old length; all else is as it was, but for the count of draws. IN THE WORDS OF slices.Sort's CONTRACT ('Holds', 'putRow'): so the everyday 'slices.Sort(xs); xs = slices.Compact(xs)' goes from the one contract to the other. It asks 'zs.length ≤ cap' (every slice's: the reslicing 's[:k]' looks at it). Length 0, nil: '.._empty'. (LAID: no walk: one application.) -/
theorem Tryd.slices_Compact_int (blk off cap : Nat) (zs : List Int) (w : World) (hH : Holds (Value.int .i64) w blk off zs.toArray) (hsz : zs.length ≤ 9223372036854775807) (hcap : zs.length ≤ cap) :
    Calls Tryd.prog 70 #[.slice (some ⟨blk, off, none⟩) zs.length cap] w fun e w' => e = .returned (.slice (some ⟨blk, off, none⟩) (Lib.compact zs).length cap) ∧ ∃ q, w' = putRow (Value.int .i64) (Sort.ahead w q) blk off (Lib.compact zs ++ List.replicate (zs.length - (Lib.compact zs).length) 0).toArray := Any.slices_Compact_int Tryd.laysNm220 blk off cap zs w hH hsz hcap
open Go.RowKit Go.Lib Go.Sort in
/-- The same at a slice of length 0, a nil one too: it comes back as it is. (LAID: no walk: one application.) -/
theorem Tryd.slices_Compact_int_empty (a : Option Addr) (cap : Nat) (w : World) :
    Calls Tryd.prog 70 #[.slice a 0 cap] w fun e w' => e = .returned (.slice a 0 cap) ∧ w' = w := Any.slices_Compact_int_empty Tryd.laysNm220 a cap w
def Tryd.laysNm237_ren : Go.Shelf.Ren := ⟨fun | 37 => 95 | n => n, fun | 3 => 3 | 4 => 4 | n => n, fun | n => n⟩
theorem Tryd.laysNm237 : Go.Proofs.Lays2.n37 Tryd.prog Tryd.laysNm237_ren := {
  mixed := by kernel_rfl
  f37 := Tryd.func95.trans (congrArg some (by kernel_rfl))
  t3 := Tryd.underlying3
  a3 := Tryd.isAgg3
  z3 := Tryd.sizeOf3
  v3 := Tryd.zeroValue3
  t4 := Tryd.underlying4
  a4 := Tryd.isAgg4
  z4 := Tryd.sizeOf4
  v4 := Tryd.zeroValue4 }
open Go.RowKit Go.Lib in
/-- cmp.isNaN[int]: 'x != x': false. (LAID: no walk: one application.) -/
theorem Tryd.cmp_isNaN_int2 (x : Int) (w : World) :
    Calls Tryd.prog 95 #[.int .i64 x] w fun e w' => e = .returned (.bool false) ∧ w' = w := Any.cmp_isNaN_int2 Tryd.laysNm237 x w
def Tryd.laysNm231_ren : Go.Shelf.Ren := ⟨fun | 31 => 102 | 37 => 95 | n => n, fun | 3 => 3 | 4 => 4 | n => n, fun | n => n⟩
theorem Tryd.laysNm231 : Go.Proofs.Lays2.n31 Tryd.prog Tryd.laysNm231_ren := {
  mixed := by kernel_rfl
  f31 := Tryd.func102.trans (congrArg some (by kernel_rfl))
  f37 := Tryd.func95.trans (congrArg some (by kernel_rfl))
  t3 := Tryd.underlying3
  a3 := Tryd.isAgg3
  z3 := Tryd.sizeOf3
  v3 := Tryd.zeroValue3
  t4 := Tryd.underlying4
  a4 := Tryd.isAgg4
  z4 := Tryd.sizeOf4
  v4 := Tryd.zeroValue4 }
open Go.RowKit Go.Lib in
/-- cmp.Less[int]: "Less reports whether x is less than y.": 'x < y'; the world is as it was. (LAID: no walk: one application.) -/
theorem Tryd.cmp_Less_int2 (x y : Int) (w : World) :
    Calls Tryd.prog 102 #[.int .i64 x, .int .i64 y] w fun e w' => e = .returned (.bool (decide (x < y))) ∧ w' = w := Any.cmp_Less_int2 Tryd.laysNm231 x y w
open Go.RowKit Go.Lib Go.Sort in
/-- slices.Compact at []int, of an argument: the slice cut to 'Lib.compact (elements)'; the n cells hold that, then zeros. (LAID: no walk: one application.) -/
theorem Tryd.slices_Compact_int_cells (b off n c : Nat) (zs : List Int) (w : World) (hz : n ≤ zs.length) (hbig : n ≤ 9223372036854775807) (hcap : n ≤ c) (hc : ∀ j, j < zs.length → w.cell? ⟨b, off + j, none⟩ = some (.int .i64 (zs.getD j 0))) (hf : ∀ j, j < n → w.frozen? ⟨b, off + j, none⟩ = false) :
    Calls Tryd.prog 70 #[.slice (some ⟨b, off, none⟩) n c] w fun e w' => e = .returned (.slice (some ⟨b, off, none⟩) (Lib.compact (zs.take n)).length c) ∧ ∃ q, w' = (w.drewN q).setCells b off ((Lib.compact (zs.take n) ++ List.replicate (n - (Lib.compact (zs.take n)).length) 0).map (Value.int .i64)) := Any.slices_Compact_int_cells Tryd.laysNm220 b off n c zs w hz hbig hcap hc hf
open Go.RowKit Go.Sort in
/-- .. and plain. (LAID: no walk: one application.) -/
theorem Tryd.slices_Sort_int_none (p : Option Addr) (cap : Nat) (w : World) :
    Calls Tryd.prog 69 #[.slice p 0 cap] w fun e w' => e = .returned (.tuple #[]) ∧ w' = w := Any.slices_Sort_int_none Tryd.lays189 p cap w
def Tryd.laysSlE041_f50_ren : Go.Shelf.Ren := ⟨fun | 41 => 50 | n => n, fun | 22 => 33 | 23 => 3 | 4 => 4 | n => n, fun | n => n⟩
theorem Tryd.laysSlE041_f50 : Go.Proofs.SlLaysE0.n41 Tryd.prog Tryd.laysSlE041_f50_ren := {
  mixed := by kernel_rfl
  f41 := ⟨Tryd.f50.name, by decide, Tryd.func50.trans (congrArg some (by kernel_rfl))⟩
  t4 := Tryd.underlying4
  a4 := Tryd.isAgg4
  z4 := Tryd.sizeOf4
  v4 := Tryd.zeroValue4
  t22 := Tryd.underlying33
  a22 := Tryd.isAgg33
  z22 := Tryd.sizeOf33
  v22 := Tryd.zeroValue33 }
open Go.RowKit Go.Lib in
/-- slices.Clone: "Clone returns a copy of the slice. The elements are copied using assignment, so this is a shallow clone. The result may have additional unused capacity. The result preserves the nilness of s.": OF A SLICE THAT IS NOT nil IT RETURNS A SLICE THAT IS NOT nil, OF THE SAME CELLS, IN MEMORY OF THE CALL's OWN ('ownsRow': the how-to's 6f); below the heap's size at the call all is as it was. (LAID AT THE INSTANCE 'slices.Clone[[]int,int]': no walk: one application.) -/
theorem Tryd.slices_Clone (i0 : TypeInfo) (z : Value) (size bytes : Nat) (hi : Tryd.prog.info? 3 = some i0) (hz0 : i0.zero = some z) (hz1 : i0.size = size) (hz2 : i0.bytes = bytes) (hzs : z.cells.size = size) (hsz : 0 < size) (z23 : ∀ w, (Go.sizeOf 3).run Tryd.prog w = .ok size w) (b off n c : Nat) (news : List Value) (w : World) (hl : news.length = n * size) (hn : n ≤ maxLen) (hbig : n * bytes ≤ 140737488355328) (hc : ∀ j u, news[j]? = some u → w.cell? ⟨b, off + j, none⟩ = some u) (h1 : ∀ u ∈ news, u.oneCell' = true) :
    Calls Tryd.prog 50 #[.slice (some ⟨b, off, none⟩) n c] w fun e w' => ∃ v', e = .returned v' ∧ w'.ownsRow w.heap.size 3 size v' n news ∧ v' ≠ .slice none 0 0 ∧ Below w.heap.size w w' := AnyE.slices_Clone Tryd.laysSlE041_f50 i0 z size bytes hi hz0 hz1 hz2 hzs hsz z23 b off n c news w hl hn hbig hc h1
open Go.RowKit Go.Lib in
/-- The same at nil: nil comes back; the world is as it was; nothing is asked of the element's type. (LAID AT THE INSTANCE 'slices.Clone[[]int,int]': no walk: one application.) -/
theorem Tryd.slices_Clone_nil (n c : Nat) (w : World) :
    Calls Tryd.prog 50 #[.slice none n c] w fun e w' => e = .returned (.slice none 0 0) ∧ w' = w := AnyE.slices_Clone_nil Tryd.laysSlE041_f50 n c w
end Go.Proofs

/- slices.Backward of whole numbers: its contract as an iterator (the shape of the kit's own contract of slices.All). No condition. -/
namespace Go.Proofs.YtieeefgkdfijdaaDoor
open Go.RowKit Go.Shelf Go.Proofs

attribute [local go_sem] Oper.semAt_some

/-- what comes in the round k: the place and the number there -/
def backAt (l : List Int) (k : Nat) : Int × Int := (((l.length - 1 - k : Nat) : Int), l.getD (l.length - 1 - k) 0)
/-- what has come when k rounds are over -/
def backTo (l : List Int) (k : Nat) : List (Int × Int) := (List.range k).map (backAt l)
theorem backTo_succ (l : List Int) (k : Nat) : backTo l (k + 1) = backTo l k ++ [backAt l k] := by simp [backTo, List.range_succ]
theorem backTo_length (l : List Int) (k : Nat) : (backTo l k).length = k := by simp [backTo]

/-- what a round keeps: all below n₀, and the slice's own box -/
def KpB (n₀ Bs : Nat) (A B : World) : Prop := Below n₀ A B ∧ ∀ v, A.cell? ⟨Bs, 0, none⟩ = some v → B.cell? ⟨Bs, 0, none⟩ = some v
theorem KpB.refl (n₀ Bs : Nat) (A : World) : KpB n₀ Bs A A := ⟨Below.refl _ _, fun _ h => h⟩
theorem KpB.trans {n₀ Bs : Nat} {A B C : World} (h : KpB n₀ Bs A B) (k : KpB n₀ Bs B C) : KpB n₀ Bs A C := ⟨Below.trans h.1 k.1, fun v e => k.2 v (h.2 v e)⟩
set_option maxRecDepth 100000 in
set_option maxHeartbeats 2000000 in
theorem back1_in (F : Fence) (n : Nat) (h8 : F.fn 83) (hro : F.round = none) (hn : 1 ≤ n) (r Bs n₀ b cap : Nat) (off : Nat) (l : List Int) (hlen : l.length ≤ 9223372036854775807) (hb : b < n₀) (J Jx : List (Int × Int) → World → Prop)
    (hY : ∀ pre x W, J pre W → pre.length < l.length → YieldAt F (n - 1) Tryd.prog r #[.int .i64 x.1, .int .i64 x.2] W fun e W' =>
      (e = .returned (.bool true) ∧ J (pre ++ [x]) W' ∧ KpB n₀ Bs W W') ∨ (e = .returned (.bool false) ∧ Jx (pre ++ [x]) W'))
    (W : World) (hBs : W.cell? ⟨Bs, 0, none⟩ = some (.slice (some ⟨b, off, none⟩) l.length cap)) (hc : ∀ j, j < l.length → W.cell? ⟨b, off + j, none⟩ = some (.int .i64 (l.getD j 0))) (h0 : J [] W) :
    CallsIn F n Tryd.prog 83 #[.func (.yield r) #[] #[], .pointer (some ⟨Bs, 0, none⟩)] W fun e W' => (∃ v, e = .returned v) ∧
      (J (backTo l l.length) W' ∨ (∃ pre, (∃ k, k ≤ l.length ∧ pre = backTo l k) ∧ Jx pre W')) := by
  refine callsIn_of_wp Tryd.func83 rfl h8 ?_ hro
  simp only [Tryd.ntmps83, List.size_toArray, List.length_cons, List.length_nil, Nat.reduceAdd, Nat.reduceSub, Array.replicate_succ, Array.replicate_zero, List.push_toArray, List.append_toArray, List.nil_append, List.cons_append]
  gi_wp2
  gi_loopw [3] (fun v wr => ∃ (k : Nat) (i : Int), k ≤ l.length ∧ i = (l.length : Int) - 1 - k ∧ v = .int .i64 i ∧ J (backTo l k) wr ∧ KpB n₀ Bs W wr)
    (fun v _ => (intOf v + 1).toNat)
  case atStart => exact ⟨0, _, Nat.zero_le _, by omega, rfl, h0, KpB.refl _ _ _⟩
  case round =>
    obtain ⟨k, i, hk, hi, rfl, hJs, hnx⟩ := hrel
    have hs : wr.cell? ⟨Bs, 0, none⟩ = some (.slice (some ⟨b, off, none⟩) l.length cap) := hnx.2 _ hBs
    by_cases hlt : k < l.length
    · obtain ⟨j, rfl⟩ : ∃ j : Nat, i = (j : Int) := ⟨l.length - 1 - k, by omega⟩
      have hj : j = l.length - 1 - k := by omega
      have hjl : j < l.length := by omega
      have hcx := (hnx.1.cell (p := ⟨b, off + j, none⟩) hb).trans (hc j hjl)
      have hba : backAt l k = ((j : Int), l.getD j 0) := by unfold backAt; rw [← hj]
      have hbs := backTo_succ l k
      rw [hba] at hbs
      obtain ⟨fn, tmps, assign, body, hy, hR⟩ := hY _ ((j : Int), l.getD j 0) wr hJs (by rw [backTo_length]; exact hlt)
      rw [← hbs] at hR
      dsimp only at hy
      have j0 : (0 : Int) ≤ (j : Int) := Int.natCast_nonneg _
      have j1 : (j : Int) < (l.length : Int) := by omega
      generalize l.getD j 0 = x at hcx hy hR
      have HI := hide hi
      clear hj hi hbs hba
      gi_wp2
      refine hR.mono ?_
      rintro e W3 (⟨rfl, hJ3, hk3⟩ | ⟨rfl, hJx3⟩)
      · gi_wp2
        go_roundw
        case rel => exact ⟨k + 1, (j : Int) - 1, by omega, by have := HI.out; omega, by go_num, hJ3, hnx.trans hk3⟩
        case measure => simp [intOf]
      · gi_wp2
        refine bodyPost_ret (results_none rfl _ _ _) rfl ?_
        exact ⟨⟨_, rfl⟩, .inr ⟨_, ⟨k + 1, by omega, rfl⟩, hJx3⟩⟩
    · obtain rfl : k = l.length := by omega
      obtain rfl : i = -1 := by omega
      gi_wp2
      go_end0
      exact ⟨⟨_, rfl⟩, .inl hJs⟩

/-- **slices.Backward(s)**: the slice value is boxed; the function value captures the box. -/
theorem back_in (F : Fence) (n : Nat) (h5 : F.fn 65) (hro : F.round = none) (a : Option Addr) (len cap : Nat) (w : World) :
    CallsIn F n Tryd.prog 65 #[.slice a len cap] w fun e w' => e = .returned (.func (.func 83) #[] #[.pointer (some ⟨w.heap.size, 0, none⟩)]) ∧ w' = w.alloc (.cells #[.slice a len cap] 33) := by
  refine callsIn_of_wp Tryd.func65 rfl h5 ?_ hro
  simp only [Tryd.ntmps65, List.size_toArray, List.length_cons, List.length_nil, Nat.reduceAdd, Nat.reduceSub, Array.replicate_succ, Array.replicate_zero, List.push_toArray, List.append_toArray, List.nil_append, List.cons_append]
  gi_wp2
  go_ret
  exact ⟨rfl, rfl⟩

/-- slices.Backward(s) at a list that is not empty hands back a value that 'SeqStopsK', at 'Kp := KpB n₀ Bs'. -/
theorem back_stops (F : Fence) (n : Nat) (h8 : F.fn 83) (hro : F.round = none) (hn : 1 ≤ n) (Bs n₀ b cap off : Nat) (l : List Int) (hlen : l.length ≤ 9223372036854775807) (w : World) (hBs : Bs < w.heap.size) (hn₀ : n₀ ≤ w.heap.size)
    (hcell : w.cell? ⟨Bs, 0, none⟩ = some (.slice (some ⟨b, off, none⟩) l.length cap)) (hb : b < n₀) (hc : ∀ j, j < l.length → w.cell? ⟨b, off + j, none⟩ = some (.int .i64 (l.getD j 0))) :
    SeqStopsK F n Tryd.prog 83 #[.pointer (some ⟨Bs, 0, none⟩)] (fun x : Int × Int => #[.int .i64 x.1, .int .i64 x.2]) (KpB n₀ Bs) (fun ys => ys = backTo l l.length) (fun pre => ∃ k, k ≤ l.length ∧ pre = backTo l k) l.length w := fun r J Jx W hW _ _ hY h0 => by
  have hW' := hW.mono hn₀
  refine (back1_in F n h8 hro hn r Bs n₀ b cap off l hlen hb J Jx hY W ((hW.cell (p := ⟨Bs, 0, none⟩) hBs).trans hcell) (fun j hj => (hW'.cell (p := ⟨b, off + j, none⟩) hb).trans (hc j hj)) h0).mono ?_
  rintro e W' ⟨he, hj | ⟨pre, hk, hj⟩⟩
  · exact ⟨he, .inl ⟨_, rfl, hj⟩⟩
  · exact ⟨he, .inr ⟨_, hk, hj⟩⟩
/-- the mark that a range over a function leaves among the deferred calls -/
def markOf (D : Nat) : Deferred := { target := .collected D, args := #[] }
/-- behind the marks: below n₀ all lies as it lay, and every cell is what it was -/
def Marked (n₀ : Nat) (w w' : World) : Prop := Below n₀ w w' ∧ ∀ a v, w.cell? a = some v → w'.cell? a = some v
/-- a frame that leaves with marks alone: each is taken up; then it returns -/
theorem leaves_marks {F : Fence} {n : Nat} {P : Program} {fn : Func} {tmps : Array Value} {R : Ending → World → Prop} (w0 : World) : ∀ (Ds : List Nat) (w : World), Ds.Nodup → (∀ D, D ∈ Ds → w0.heap.size ≤ D ∧ w.heap[D]? = some (.deferred (some []))) →
    (∀ w', Marked w0.heap.size w w' → ∃ v, (results fn tmps).run P w' = .ok v w' ∧ R (.returned v) w') → LeavesInM F n P fn tmps R (Ds.map markOf) .returning w := by
  intro Ds
  induction Ds with
  | nil =>
    intro w _ _ h
    exact h w ⟨Below.refl _ _, fun _ _ h => h⟩
  | cons D Ds ih =>
    intro w hnd hall h
    obtain ⟨hD, hK⟩ := hall D (List.mem_cons_self ..)
    rw [List.nodup_cons] at hnd
    refine ⟨by simp, .inl ⟨D, _, rfl, run_takeDeferred hK, ih _ hnd.2 (fun D' hD' => ?_) (fun w' hw' => h w' ⟨?_, fun a v hv => ?_⟩)⟩⟩
    · obtain ⟨h1, h2⟩ := hall D' (List.mem_cons_of_mem _ hD')
      have hne : D' ≠ D := fun e => hnd.1 (e ▸ hD')
      exact ⟨h1, (World.putObj_heap_other hne).trans h2⟩
    · exact Below.trans (belowK_b (w := w0) (Nat.le_refl _) w D _ _ hD hK rfl rfl) hw'.1
    · exact hw'.2 a v (cell_kept hv (grownBy_putObj' w D (.deferred none)) (fun r e => by cases e; exact ⟨_, hK, rfl⟩))
theorem Ints.marked {n₀ : Nat} {w w' : World} {A : Option Addr} {l : List Int} (h : Ints w A l) (m : Marked n₀ w w') : Ints w' A l :=
  ⟨h.len, fun i hi => by
    obtain ⟨b, off, e, _, hc⟩ := h.at_ i hi
    have hc' := m.2 _ _ hc
    exact ⟨b, off, e, World.block_lt_of_cell? w' _ hc', hc'⟩⟩
end Go.Proofs.YtieeefgkdfijdaaDoor
