/- Words, plain laws and walks behind the law ZeroValid, part 4. No condition. -/
import Derived.Test.YtehheklbibocjaaDoorFlatZeroValida
import Derived.Test.YtehheklbibocjaaDoorFlatZeroValidc
import Derived.Test.YtehheklbibocjaaDoorFlatZeroValidb
import Derived.LaidEql
import Derived.Stop.Asserts
import Derived.RowKitTokens
import Derived.Test.YtehheklbibocjaaDoorRows
import Derived.Test.YtehheklbibocjaaDoorCards
import Derived.Test.YtehheklbibocjaaDoorTie
import Derived.ProofKit
import Derived.LaidMore
import Derived.LaidLaws
import Derived.LaidHandle
import Derived.Stop.LaidErr
import Derived.Deep.DeepHandedRow
import Derived.Deep.DeepWitnessRowRef

/- The walk of channel.Valid. Condition: the variables read as laid. -/
namespace Go.Proofs.YtehheklbibocjaaDoor
open Go.RowKit Go.Deep Go.Proofs.YtehheklbibocjaaDoorW.PrintWords Go.Proofs.YtehheklbibocjaaDoorW.PrintLast Go.Proofs.YtehheklbibocjaaDoorW.PrintMore

def mnI (x y : Int) : Int := if y < x then y else x
theorem min2_own (k k' : IntKind) (x y : Int) : Builtin.min2 (.int k x) (.int k' y) = pure (.int k (mnI x y)) := min2_int k k' x y
attribute [local go_sem] min2_own min_two

theorem foldMin_neg : ∀ (r : List Int) (a : Int), r.foldl min a < 0 ↔ a < 0 ∨ negL r = true
  | [], a => by
    show a < 0 ↔ _
    simp [negL]
  | x :: r, a => by
    show r.foldl min (min a x) < 0 ↔ _
    have e : negL (x :: r) = (decide (x < 0) || negL r) := rfl
    rw [foldMin_neg r, e, Bool.or_eq_true, decide_eq_true_eq]
    constructor
    · rintro (h | h)
      · by_cases q : a < 0
        · exact .inl q
        · exact .inr (.inl (by omega))
      · exact .inr (.inr h)
    · rintro (h | h | h)
      · exact .inl (by omega)
      · exact .inl (by omega)
      · exact .inr h
theorem foldMax_pos : ∀ (r : List Int) (a : Int), 0 < r.foldl max a ↔ 0 < a ∨ posL r = true
  | [], a => by
    show 0 < a ↔ _
    simp [posL]
  | x :: r, a => by
    show 0 < r.foldl max (max a x) ↔ _
    have e : posL (x :: r) = (decide (0 < x) || posL r) := rfl
    rw [foldMax_pos r, e, Bool.or_eq_true, decide_eq_true_eq]
    constructor
    · rintro (h | h)
      · by_cases q : 0 < a
        · exact .inl q
        · exact .inr (.inl (by omega))
      · exact .inr (.inr h)
    · rintro (h | h | h)
      · exact .inl (by omega)
      · exact .inl (by omega)
      · exact .inr h
theorem foldMax_ge : ∀ (r : List Int) (a : Int), a ≤ r.foldl max a
  | [], a => Int.le_refl _
  | x :: r, a => Int.le_trans (Int.le_max_left a x) (foldMax_ge r (max a x))
theorem min_neg {r : List Int} (h : r ≠ []) : Lib.minOf r < 0 ↔ negL r = true := by
  cases r with
  | nil => exact absurd rfl h
  | cons x r =>
    unfold Lib.minOf
    rw [foldMin_neg]
    have e : negL (x :: r) = (decide (x < 0) || negL r) := rfl
    show x < 0 ∨ _ ↔ _
    rw [e, Bool.or_eq_true, decide_eq_true_eq]
    exact ⟨fun h => h.elim .inl id, .inr⟩
theorem max_zero {r : List Int} (h : r ≠ []) (hn : negL r = false) : Lib.maxOf r = 0 ↔ posL r = false := by
  cases r with
  | nil => exact absurd rfl h
  | cons x r =>
    have e : posL (x :: r) = (decide (0 < x) || posL r) := rfl
    have e2 : negL (x :: r) = (decide (x < 0) || negL r) := rfl
    rw [e2, Bool.or_eq_false_iff] at hn
    have hx := of_decide_eq_false hn.1
    have hp := foldMax_pos (x :: r) x
    have hg : x ≤ Lib.maxOf (x :: r) := foldMax_ge (x :: r) x
    have hp' : 0 < Lib.maxOf (x :: r) ↔ 0 < x ∨ posL (x :: r) = true := hp
    constructor
    · intro h0
      cases q : posL (x :: r)
      · rfl
      · have := hp'.2 (.inr q)
        omega
    · intro h0
      by_cases q : 0 < Lib.maxOf (x :: r)
      · rcases hp'.1 q with q | q
        · rw [e, decide_eq_true q] at h0
          cases h0
        · rw [h0] at q
          cases q
      · omega
def capTo (r : List Int) (j : Nat) : Int := ((r.take j).map fun x => mnI x 257).sum
theorem capTo_succ {r : List Int} {j : Nat} (h : j < r.length) : capTo r (j + 1) = capTo r j + mnI (r.getD j 0) 257 := by
  unfold capTo
  rw [List.take_succ_eq_append_getElem h, List.map_append, List.sum_append, getD_eq r j _ h]
  simp
theorem cap_nonneg : ∀ r : List Int, negL r = false → 0 ≤ (r.map fun x => mnI x 257).sum
  | [], _ => Int.le_refl _
  | y :: r, hn => by
    have e2 : negL (y :: r) = (decide (y < 0) || negL r) := rfl
    rw [e2, Bool.or_eq_false_iff] at hn
    have hy := of_decide_eq_false hn.1
    have h1 := cap_nonneg r hn.2
    have h2 : 0 ≤ mnI y 257 := by unfold mnI; split <;> omega
    rw [List.map_cons, List.sum_cons]
    omega
theorem cap_great : ∀ (r : List Int) (t : Int), negL r = false → 0 ≤ t → (256 < t + (r.map fun x => mnI x 257).sum ↔ bigL r = true ∨ 256 < t + r.sum)
  | [], t, _, _ => by simp [bigL]
  | x :: r, t, hn, ht => by
    have e2 : negL (x :: r) = (decide (x < 0) || negL r) := rfl
    have e3 : bigL (x :: r) = (decide (256 < x) || bigL r) := rfl
    rw [e2, Bool.or_eq_false_iff] at hn
    have hx := of_decide_eq_false hn.1
    rw [List.map_cons, List.sum_cons, List.sum_cons, e3, Bool.or_eq_true, decide_eq_true_eq]
    by_cases hb : 256 < x
    · have h1 : mnI x 257 = 257 := by unfold mnI; split <;> omega
      have h2 := cap_nonneg r hn.2
      rw [h1]
      exact ⟨fun _ => .inl (.inl hb), fun _ => by omega⟩
    · have h1 : mnI x 257 = x := by unfold mnI; split <;> omega
      have ih := cap_great r (t + x) hn.2 (by omega)
      rw [h1, ← Int.add_assoc, ← Int.add_assoc, ih]
      exact ⟨fun h => h.elim (fun h => .inl (.inr h)) .inr, fun h => h.elim (fun h => h.elim (fun h => absurd h hb) .inl) .inr⟩
theorem cap_is {r : List Int} (hn : negL r = false) : decide (256 < capTo r r.length) = greatR r := by
  unfold capTo greatR
  rw [List.take_length, Bool.eq_iff_iff, decide_eq_true_eq, Bool.or_eq_true, decide_eq_true_eq]
  have h := cap_great r 0 hn (Int.le_refl _)
  rw [Int.zero_add, Int.zero_add] at h
  exact h
theorem neg_get {r : List Int} (hn : negL r = false) {j : Nat} (hj : j < r.length) : 0 ≤ r.getD j 0 := by
  rw [getD_eq r j _ hj]
  have := List.any_eq_false.1 hn r[j] (List.getElem_mem hj)
  have := of_decide_eq_false (Bool.eq_false_iff.2 this)
  omega
theorem capTo_bound {r : List Int} (hn : negL r = false) : ∀ j, j ≤ r.length → 0 ≤ capTo r j ∧ capTo r j ≤ 257 * j
  | 0, _ => by
    have : capTo r 0 = 0 := rfl
    omega
  | j + 1, h => by
    have ih := capTo_bound hn j (by omega)
    have := neg_get hn (j := j) (by omega)
    rw [capTo_succ (by omega)]
    have : 0 ≤ mnI (r.getD j 0) 257 ∧ mnI (r.getD j 0) 257 ≤ 257 := by unfold mnI; split <;> omega
    push_cast
    omega

theorem min_ok (g o c : Nat) (r : List Int) (w : World) (h : r ≠ []) (hA : Ints w (some ⟨g, o, none⟩) r) :
    Calls Tryd.prog 41 #[.slice (some ⟨g, o, none⟩) r.length c] w fun e w' => e = .returned (.int .i64 (Lib.minOf r)) ∧ w = w' := by
  have h0 : 0 < r.length := List.length_pos_iff.2 h
  refine (Tryd.slices_Min_int g o r.length c r w h0 (Nat.le_refl _) hA.len (fun j hj => ?_)).mono ?_
  · obtain ⟨b, off, e, _, h⟩ := hA.at_ j hj
    injection e with e
    injection e with e1 e2 _
    subst e1 e2
    exact h
  · rintro e w' ⟨rfl, rfl⟩
    rw [List.take_length]
    exact ⟨rfl, rfl⟩
theorem max_ok (g o c : Nat) (r : List Int) (w : World) (h : r ≠ []) (hA : Ints w (some ⟨g, o, none⟩) r) :
    Calls Tryd.prog 42 #[.slice (some ⟨g, o, none⟩) r.length c] w fun e w' => e = .returned (.int .i64 (Lib.maxOf r)) ∧ w = w' := by
  have h0 : 0 < r.length := List.length_pos_iff.2 h
  refine (Tryd.slices_Max_int g o r.length c r w h0 (Nat.le_refl _) hA.len (fun j hj => ?_)).mono ?_
  · obtain ⟨b, off, e, _, h⟩ := hA.at_ j hj
    injection e with e
    injection e with e1 e2 _
    subst e1 e2
    exact h
  · rintro e w' ⟨rfl, rfl⟩
    rw [List.take_length]
    exact ⟨rfl, rfl⟩
/-- no one so far -/
structure NoneL (p : List Int → Bool) (m : List (List Int)) (k : Nat) : Prop where
  out : (m.take k).any p = false
theorem NoneL.zero (p : List Int → Bool) (m : List (List Int)) : NoneL p m 0 := ⟨rfl⟩
theorem NoneL.succ {p : List Int → Bool} {m : List (List Int)} {k : Nat} (h : NoneL p m k) (hk : k < m.length) (hp : p (m.getD k []) = false) : NoneL p m (k + 1) :=
  ⟨by rw [takeL_at m k hk, List.any_append, h.out, Bool.false_or]; show (p (m.getD k []) || false) = false; rw [hp]; rfl⟩
theorem NoneL.all {p : List Int → Bool} {m : List (List Int)} (h : NoneL p m m.length) : m.any p = false := by
  have := h.out
  rw [List.take_length] at this
  exact this
theorem any_yes {p : List Int → Bool} {m : List (List Int)} {k : Nat} (hk : k < m.length) (hp : p (m.getD k []) = true) : m.any p = true := by
  rw [getD_eq m k _ hk] at hp
  exact List.any_eq_true.2 ⟨m[k], List.getElem_mem hk, hp⟩
theorem any_take {p : List Int → Bool} {m : List (List Int)} {k : Nat} (hk : k < m.length) : (m.take (k + 1)).any p = ((m.take k).any p || p (m.getD k [])) := by
  rw [takeL_at m k hk, List.any_append]
  show _ = _
  simp
theorem chErr_wide {m : List (List Int)} (h : 16 < m.length) : chErr m = 2 := by unfold chErr; rw [if_pos (.inl h)]
theorem chErr_long {m : List (List Int)} {k : Nat} (hk : k < m.length) (h : 16 < (m.getD k []).length) : chErr m = 2 := by
  unfold chErr
  rw [if_pos (.inr (any_yes (p := fun r => decide (16 < r.length)) hk (decide_eq_true h)))]
theorem chErr_none {m : List (List Int)} (h : m.length = 0) : chErr m = 3 := by
  have : m = [] := List.eq_nil_of_length_eq_zero h
  subst this
  rfl
theorem chErr_bad {m : List (List Int)} {k : Nat} (h1 : ¬ 16 < m.length) (h2 : m.any (fun r => decide (16 < r.length)) = false) (hk : k < m.length) (h : badR (m.getD 0 []).length (m.getD k []) = true) : chErr m = 3 := by
  unfold chErr
  rw [if_neg (fun q => q.elim h1 (fun q => by rw [h2] at q; cases q)), if_pos (.inr (any_yes hk h))]
theorem chErr_fine {m : List (List Int)} (h1 : ¬ 16 < m.length) (h2 : m.any (fun r => decide (16 < r.length)) = false) (h3 : m.length ≠ 0) (h : m.any (badR (m.getD 0 []).length) = false) : chErr m = if m.any greatR = true then 2 else 0 := by
  unfold chErr
  rw [if_neg (fun q => q.elim h1 (fun q => by rw [h2] at q; cases q)), if_neg (fun q => q.elim h3 (fun q => by rw [h] at q; cases q))]

set_option maxRecDepth 100000 in
set_option maxHeartbeats 4000000 in
theorem chValid_any (A : Option Addr) (m : List (List Int)) (c : Nat) (w : World) (a : Nat → Addr) (hE : Env [2, 3] w a) (hA : Lists w A m) :
    Calls Tryd.prog 34 #[.slice A m.length c] w fun e w' => e = .returned (errC a (chErr m)) ∧ Below w.heap.size w w' := by
  have hl := hA.len
  have s2 := hE.cell 2 (by decide)
  have s3 := hE.cell 3 (by decide)
  have z2 := hE.lt (c := 2) (by decide)
  have z3 := hE.lt (c := 3) (by decide)
  have G2 : glob 2 = 0 := rfl
  have G3 : glob 3 = 1 := rfl
  rw [G2] at s2 z2
  rw [G3] at s3 z3
  clear G2 G3 hE
  by_cases h1 : 16 < m.length
  · have h1' : (16 : Int) < (m.length : Int) := by omega
    have HX := hide (chErr_wide h1)
    clear h1
    go_enter Tryd.func34, Tryd.ntmps34
    go_wp2_with (fail)
    go_ret
    rw [HX.out]
    exact ⟨rfl, Below.refl _ _⟩
  have h1' : ¬ (16 : Int) < (m.length : Int) := by omega
  have H1 := hide h1
  clear h1
  go_enter Tryd.func34, Tryd.ntmps34
  go_wp2_with (fail)
  go_loop [17] (fun iv => ∃ k : Nat, k ≤ m.length ∧ iv = .int .i64 k ∧ NoneL (fun r => decide (16 < r.length)) m k) (fun iv => m.length - (intOf iv).toNat)
  case atStart => exact ⟨0, Nat.zero_le _, rfl, NoneL.zero _ _⟩
  case round =>
    obtain ⟨k, hk, rfl, hN⟩ := hrel
    have k0 : (0 : Int) ≤ (k : Int) := Int.natCast_nonneg _
    by_cases hlt : k < m.length
    · have k1 : (k : Int) < (m.length : Int) := by omega
      obtain ⟨b, off, A', c', rfl, hb, d1, hle, hI⟩ := hA.at_ k hlt
      have hil := hI.len
      by_cases hbig : 16 < (m.getD k []).length
      · have HX := hide (chErr_long hlt hbig)
        have hbig' : (16 : Int) < ((m.getD k []).length : Int) := by omega
        generalize (m.getD k []).length = n at d1 hbig' hil
        clear hbig hle hI
        go_wp2_with (fail)
        go_ret
        rw [HX.out]
        exact ⟨rfl, Below.refl _ _⟩
      · have HN := hide (hN.succ hlt (decide_eq_false hbig))
        have hbig' : ¬ (16 : Int) < ((m.getD k []).length : Int) := by omega
        generalize (m.getD k []).length = n at d1 hbig' hil
        clear hbig hle hI hN
        go_wp2_with (fail)
        go_round
        case rel => exact ⟨k + 1, by omega, by go_num, HN.out⟩
        case measure => simp [intOf]; omega
    · obtain rfl : k = m.length := by omega
      have H2 := hide hN.all
      clear hN
      by_cases h0 : m.length = 0
      · have HX := hide (chErr_none h0)
        have h0' : ((m.length : Int) == 0) = true := by rw [h0]; rfl
        clear h0
        go_wp2_with (fail)
        go_ret
        rw [HX.out]
        exact ⟨rfl, Below.refl _ _⟩
      have h0' : ((m.length : Int) == 0) = false := by rw [beq_eq_false_iff_ne]; omega
      have HF := hide (chErr_fine H1.out H2.out h0)
      obtain ⟨b, off, A0, cc0, rfl, hb0, e1, _, _⟩ := hA.at_ 0 (by omega)
      rw [Nat.add_zero] at e1
      have m0 : (0 : Int) < (m.length : Int) := by omega
      have HB := hide (fun k (hk : k < m.length) h => chErr_bad (k := k) H1.out H2.out hk h)
      have h16 : ∀ k, k < m.length → (m.getD k []).length ≤ 16 := fun k hk => by
        have := List.any_eq_false.1 H2.out (m.getD k []) (by rw [getD_eq m k _ hk]; exact List.getElem_mem hk)
        have := of_decide_eq_false (Bool.eq_false_iff.2 this)
        omega
      have H16 := hide h16
      have hn0 := h16 0 (by omega)
      generalize hw0 : (m.getD 0 []).length = n0 at e1 HF HB hn0
      clear h0 h16 hw0
      go_wp2_with (fail)
      go_loop [5, 32] (fun gv iv => ∃ k : Nat, k ≤ m.length ∧ iv = .int .i64 k ∧ gv = .bool ((m.take k).any greatR) ∧ NoneL (badR n0) m k) (fun _ iv => m.length - (intOf iv).toNat)
      case atStart => exact ⟨0, Nat.zero_le _, rfl, rfl, NoneL.zero _ _⟩
      case round =>
        obtain ⟨k, hk, rfl, rfl, hN⟩ := hrel
        have k0 : (0 : Int) ≤ (k : Int) := Int.natCast_nonneg _
        by_cases hlt : k < m.length
        · have k1 : (k : Int) < (m.length : Int) := by omega
          obtain ⟨b', off', A', c', ee, hb, d1, hle, hI⟩ := hA.at_ k hlt
          injection ee with ee
          injection ee with ee1 ee2 _
          subst ee1 ee2
          have HBK := hide (HB.out k hlt)
          have HNK := hide (fun h => hN.succ hlt h)
          have HTK := hide (any_take (p := greatR) hlt)
          have hr16 := H16.out k hlt
          generalize (m.take k).any greatR = g at HTK ⊢
          generalize m.getD k [] = r at d1 hle hI HBK HNK HTK hr16
          clear hN
          by_cases c1 : r.length = n0
          · have c1' : ((r.length : Int) != (n0 : Int)) = false := by rw [c1]; simp
            by_cases c2 : r.length = 0
            · have hr : r = [] := List.eq_nil_of_length_eq_zero c2
              have HX := hide (HBK.out (by unfold badR; rw [hr]; simp [posL]))
              have c2' : ((r.length : Int) == 0) = true := by rw [c2]; rfl
              clear c1 c2 hr
              go_wp2_with (fail)
              go_ret
              rw [HX.out]
              exact ⟨rfl, Below.refl _ _⟩
            · have c2' : ((r.length : Int) == 0) = false := by rw [beq_eq_false_iff_ne]; omega
              have hr : r ≠ [] := fun e => c2 (by rw [e]; rfl)
              obtain ⟨g', o', rfl, hg', _⟩ := hI.at_ 0 (by omega)
              have HMI := hide (min_ok g' o' c' r w hr hI)
              have HMA := hide (max_ok g' o' c' r w hr hI)
              have hneg := min_neg hr
              have hmax := fun h => max_zero hr h
              generalize Lib.minOf r = mn at HMI hneg
              generalize Lib.maxOf r = mx at HMA hmax
              have HC1 := hide c1
              have HI := hide hI
              clear c1 c2 hr hle hI
              cases hn : negL r with
              | true =>
                have HX := hide (HBK.out (by unfold badR; rw [hn]; simp))
                have q1 : mn < 0 := hneg.2 hn
                clear hneg hmax hn
                go_wp2_with (go_at_call 41; refine Calls.mono HMI.out ?_; rintro e w1 ⟨rfl, rfl⟩)
                go_ret
                rw [HX.out]
                exact ⟨rfl, Below.refl _ _⟩
              | false =>
                have q1 : ¬ mn < 0 := fun h => by have := hneg.1 h; rw [hn] at this; cases this
                have hmax := hmax hn
                cases hp : posL r with
                | false =>
                  have HX := hide (HBK.out (by unfold badR; rw [hp]; simp))
                  have q2 : (mx == 0) = true := by rw [beq_iff_eq]; exact hmax.2 hp
                  clear hneg hmax hn hp
                  go_wp2_with (first
                    | (go_at_call 41; refine Calls.mono HMI.out ?_; rintro e w1 ⟨rfl, rfl⟩)
                    | (go_at_call 42; refine Calls.mono HMA.out ?_; rintro e w1 ⟨rfl, rfl⟩))
                  go_ret
                  rw [HX.out]
                  exact ⟨rfl, Below.refl _ _⟩
                | true =>
                  have HNK2 := hide (HNK.out (by unfold badR; rw [hn, hp, decide_eq_false (fun h => h HC1.out)]; rfl))
                  have q2 : (mx == 0) = false := by rw [beq_eq_false_iff_ne]; intro h; have := hmax.1 h; rw [hp] at this; cases this
                  have HCI := hide (cap_is hn)
                  have HBO := hide (capTo_bound hn)
                  have HNG := hide (fun j (hj : j < r.length) => neg_get hn hj)
                  clear hneg hmax hn hp
                  go_wp2_with (first
                    | (go_at_call 41; refine Calls.mono HMI.out ?_; rintro e w1 ⟨rfl, rfl⟩)
                    | (go_at_call 42; refine Calls.mono HMA.out ?_; rintro e w1 ⟨rfl, rfl⟩))
                  go_loop [8, 61] (fun sv jv => ∃ j : Nat, j ≤ r.length ∧ jv = .int .i64 j ∧ sv = .int .i64 (capTo r j)) (fun _ jv => r.length - (intOf jv).toNat)
                  case atStart => exact ⟨0, Nat.zero_le _, rfl, rfl⟩
                  case round =>
                    obtain ⟨j, hj, rfl, rfl⟩ := hrel
                    have j0 : (0 : Int) ≤ (j : Int) := Int.natCast_nonneg _
                    obtain ⟨bo1, bo2⟩ := HBO.out j hj
                    by_cases hjl : j < r.length
                    · have j1 : (j : Int) < (r.length : Int) := by omega
                      obtain ⟨g2, o2, e2, _, d2⟩ := HI.out.at_ j hjl
                      injection e2 with e2
                      injection e2 with e21 e22 _
                      subst e21 e22
                      have HS := hide (capTo_succ hjl)
                      have hmb : 0 ≤ mnI (r.getD j 0) 257 ∧ mnI (r.getD j 0) 257 ≤ 257 := by
                        have h3 := HNG.out j hjl
                        unfold mnI
                        split <;> omega
                      generalize r.getD j 0 = x at d2 HS hmb
                      generalize capTo r j = s at HS bo1 bo2 ⊢
                      go_wp2_with (fail)
                      go_round
                      case rel => exact ⟨j + 1, by omega, by go_num, by rw [HS.out]⟩
                      case measure => simp [intOf]; omega
                    · obtain rfl : j = r.length := by omega
                      have hci := HCI.out
                      generalize capTo r r.length = s at hci bo1 bo2 ⊢
                      generalize greatR r = gr at hci HTK
                      have HGR := hide hci
                      clear hci
                      cases g with
                      | true =>
                        go_wp2_with (fail)
                        go_round
                        case rel => exact ⟨k + 1, by omega, by go_num, by rw [HTK.out]; rfl, HNK2.out⟩
                        case measure => simp [intOf]; omega
                      | false =>
                        go_wp2_with (fail)
                        go_round
                        case rel => exact ⟨k + 1, by omega, by go_num, by rw [HTK.out, ← HGR.out]; rfl, HNK2.out⟩
                        case measure => simp [intOf]; omega
          · have HX := hide (HBK.out (by unfold badR; rw [decide_eq_true c1]; rfl))
            have c1' : ((r.length : Int) != (n0 : Int)) = true := by rw [bne_iff_ne]; omega
            clear c1
            go_wp2_with (fail)
            go_ret
            rw [HX.out]
            exact ⟨rfl, Below.refl _ _⟩
        · obtain rfl : k = m.length := by omega
          have HX := HF.out hN.all
          rw [List.take_length]
          cases hgr : m.any greatR with
          | true =>
            rw [hgr, if_pos rfl] at HX
            have HX := hide HX
            clear hgr hN
            go_wp2_with (fail)
            go_ret
            exact ⟨rfl, Below.refl _ _⟩
          | false =>
            rw [hgr, if_neg (by decide)] at HX
            have HX := hide HX
            clear hgr hN
            go_wp2_with (fail)
            go_ret
            exact ⟨rfl, Below.refl _ _⟩
end Go.Proofs.YtehheklbibocjaaDoor

/- The walks of ConfusedOf and zero.Of. Condition: the variables read as laid. -/
namespace Go.Proofs.YtehheklbibocjaaDoor
open Go.RowKit Go.Deep Go.Proofs.YtehheklbibocjaaDoorW.PrintWords

/-- may row i be taken for row k, by the first n signs? -/
def confTo (m : List (List Int)) (i k n : Nat) : Bool := (List.range n).any fun j => decide (0 < (m.getD i []).getD j 0) && decide (0 < (m.getD k []).getD j 0)
def confP (m : List (List Int)) (i k : Nat) : Bool := confTo m i k (m.getD i []).length
theorem confTo_succ (m : List (List Int)) (i k n : Nat) : confTo m i k (n + 1) = (confTo m i k n || (decide (0 < (m.getD i []).getD n 0) && decide (0 < (m.getD k []).getD n 0))) := by
  unfold confTo
  rw [List.range_succ, List.any_append]
  simp
theorem confTo_yes {m : List (List Int)} {i k j n : Nat} (hj : j < n) (h : (decide (0 < (m.getD i []).getD j 0) && decide (0 < (m.getD k []).getD j 0)) = true) : confTo m i k n = true :=
  List.any_eq_true.2 ⟨j, List.mem_range.2 hj, h⟩
def gObjT (T : TypeId) (n : Int) (A : Option Addr) (len c : Nat) : Obj := .cells #[.int .i64 n, .slice A len c] T
/-- the result's box, empty -/
structure ROf (w : World) (T : TypeId) (W : World) : Prop where
  below : Below w.heap.size w W
  hx : W.heap[w.heap.size]? = some (gObjT T 0 none 0 0)
theorem ROf.start (w : World) (T : TypeId) : ROf w T (w.alloc (gObjT T 0 none 0 0)) := ⟨below_alloc' (Below.refl _ _) _, alloc_at _ _⟩
theorem ROf.later {w : World} {T : TypeId} {W W' : World} (h : ROf w T W) (b : Below W.heap.size W W') : ROf w T W' := ⟨below_trans h.below b, (b.block _ (lt_of_block h.hx)).trans h.hx⟩
theorem ROf.cells {w : World} {T : TypeId} {W : World} (h : ROf w T W) : W.cell? ⟨w.heap.size, 0, none⟩ = some (.int .i64 0) ∧ W.cell? ⟨w.heap.size, 1, none⟩ = some (.slice none 0 0) ∧ W.frozen? ⟨w.heap.size, 0, none⟩ = false ∧ W.frozen? ⟨w.heap.size, 1, none⟩ = false ∧ w.heap.size < W.heap.size :=
  ⟨(cell_of _ _ 0 _ _ _ h.hx rfl).1, (cell_of _ _ 1 _ _ _ h.hx rfl).1, (cell_of _ _ 0 _ _ _ h.hx rfl).2, (cell_of _ _ 1 _ _ _ h.hx rfl).2, lt_of_block h.hx⟩
/-- the last store: what came of it -/
theorem conf_end {w W3 wv : World} {T T' : TypeId} {N : Int} {L : List (Int × Int)} {E : Option Addr} {f : Nat} (hG : SGr W3 T' N wv L E f) (hR : ROf w T W3) (x y : Value) :
    Pairs ((wv.setCell ⟨w.heap.size, 0, none⟩ x).setCell ⟨w.heap.size, 1, none⟩ y) E L ∧ L.length ≤ f ∧ (∀ q, E = some q → w.heap.size ≤ q.block ∧ q.block < ((wv.setCell ⟨w.heap.size, 0, none⟩ x).setCell ⟨w.heap.size, 1, none⟩ y).heap.size) ∧ Below w.heap.size w ((wv.setCell ⟨w.heap.size, 0, none⟩ x).setCell ⟨w.heap.size, 1, none⟩ y) := by
  have hz := lt_of_block hR.hx
  have hzz : w.heap.size < W3.heap.size + 1 := by omega
  refine ⟨Pairs.own (ownsRow_setCell_below (ownsRow_setCell_below hG.own (a := ⟨w.heap.size, 0, none⟩) hzz _) (a := ⟨w.heap.size, 1, none⟩) hzz _), own_cap hG.own, fun q e => ?_, ((hR.later hG.below).below.setCell (p := ⟨w.heap.size, 0, none⟩) (Nat.le_refl _) _).setCell (p := ⟨w.heap.size, 1, none⟩) (Nat.le_refl _) _⟩
  rw [World.size_setCell, World.size_setCell]
  rcases own_at hG.own with ⟨e', _⟩ | ⟨g, e', h, h'⟩
  · rw [e'] at e; cases e
  · rw [e'] at e
    injection e with e
    subst e
    exact ⟨by show w.heap.size ≤ g; omega, h'⟩

set_option maxRecDepth 100000 in
set_option maxHeartbeats 8000000 in
theorem confusedOf_ok (A : Option Addr) (m : List (List Int)) (c : Nat) (w : World) (hA : Lists w A m) (h16 : m.length ≤ 16) (n0 : Nat) (hn0 : n0 ≤ 16) (hr : ∀ i, i < m.length → (m.getD i []).length = n0) :
    Calls Tryd.prog 22 #[.slice A m.length c] w fun e w' => ∃ E f, e = .returned (.agg #[.int .i64 m.length, .slice E (allTo (confP m) m.length m.length).length f]) ∧ Pairs w' E (allTo (confP m) m.length m.length) ∧ (allTo (confP m) m.length m.length).length ≤ f ∧ (∀ x, E = some x → w.heap.size ≤ x.block ∧ x.block < w'.heap.size) ∧ Below w.heap.size w w' := by
  have hl := hA.len
  have HA := hide hA
  have HRL := hide hr
  have HRO := hide (ROf.start w 24)
  have HGS := hide (SGr.start (w.alloc (gObjT 24 0 none 0 0)) 24 (m.length : Int))
  obtain ⟨P, hP⟩ : ∃ P, confP m = P := ⟨_, rfl⟩
  rw [hP]
  have HP := hide hP
  clear hA hr hP
  go_enter Tryd.func22, Tryd.ntmps22
  go_wp2_with (fail)
  obtain ⟨W3, hW3⟩ : ∃ W, w.alloc (gObjT 24 0 none 0 0) = W := ⟨_, rfl⟩
  have hRO := HRO.out
  have hGS := HGS.out
  rw [hW3] at hRO hGS
  have HB := hide hRO
  have HSZ := hide (show w.heap.size + 1 = W3.heap.size by rw [← hW3, World.size_alloc])
  have HSTART : Hid (∃ E f, SGr W3 24 (m.length : Int) ((w.alloc (gObjT 24 0 none 0 0)).alloc (.cells #[.int .i64 (m.length : Int), .slice none 0 0] 24)) (allTo P m.length 0) E f) := hide ⟨_, _, by rw [hW3]; exact hGS⟩
  clear hGS hRO HGS HRO hW3
  go_loopw [4] (fun jv wr => ∃ v : Nat, v ≤ m.length ∧ jv = .int .i64 v ∧ Hid (∃ E f, SGr W3 24 (m.length : Int) wr (allTo P m.length v) E f)) (fun jv _ => m.length - (intOf jv).toNat)
  case atStart => exact ⟨0, Nat.zero_le _, rfl, HSTART⟩
  case round =>
    obtain ⟨v, hv, rfl, HJ⟩ := hrel
    obtain ⟨wv, rfl⟩ : ∃ wv : World, wv = wr := ⟨_, rfl⟩
    clear HSTART
    rw [HSZ.out]
    have v0 : (0 : Int) ≤ (v : Int) := Int.natCast_nonneg _
    by_cases hvl : v < m.length
    · have v1 : (v : Int) < (m.length : Int) := by omega
      go_wp2_with (fail)
      go_loopw [5] (fun jv wr => ∃ x : Nat, v + 1 ≤ x ∧ x ≤ m.length ∧ jv = .int .i64 x ∧ Hid (∃ E f, SGr W3 24 (m.length : Int) wr (allTo P m.length v ++ rowTo P v x) E f)) (fun jv _ => m.length - (intOf jv).toNat)
      case atStart => exact ⟨v + 1, Nat.le_refl _, hvl, by go_num, by rw [rowTo_first, List.append_nil]; exact HJ⟩
      case round =>
        obtain ⟨x, hvx, hx, rfl, HK⟩ := hrel
        obtain ⟨wx, rfl⟩ : ∃ wx : World, wx = wr := ⟨_, rfl⟩
        clear HJ
        have hbd := grown_length (P := P) (N := m.length) (v := v) (w := x) (by omega) hv hx
        obtain ⟨L, hL⟩ : ∃ L, allTo P m.length v ++ rowTo P v x = L := ⟨_, rfl⟩
        rw [hL] at HK hbd
        obtain ⟨E, f, hG⟩ := HK.out
        have x0 : (0 : Int) ≤ (x : Int) := Int.natCast_nonneg _
        by_cases hxl : x < m.length
        · have x1 : (x : Int) < (m.length : Int) := by omega
          have hbx := (HB.out.later hG.below).below
          obtain ⟨b, off, A1, c1, rfl, hb1, d1, _, hI1⟩ := (HA.out.below hbx).at_ v hvl
          obtain ⟨b', off', A2, c2, ee, hb2, d2, _, hI2⟩ := (HA.out.below hbx).at_ x hxl
          injection ee with ee
          injection ee with ee1 ee2 _
          subst ee1 ee2
          have r1 := HRL.out v hvl
          have r2 := HRL.out x hxl
          have hPn : P v x = confTo m v x n0 := by rw [← HP.out]; unfold confP; rw [r1]
          rw [r1] at d1
          rw [r2] at d2
          have HG := hide hG
          have HLL := hide hL
          have HPN := hide hPn
          have HI1 := hide hI1
          have HI2 := hide hI2
          have HRR := hide (And.intro r1 r2)
          clear hG hL hPn hI1 hI2 r1 r2 hbx
          go_wp2_with (fail)
          go_loop [6, 7] (fun bv jv => ∃ j : Nat, j ≤ n0 ∧ jv = .int .i64 j ∧ bv = .bool (confTo m v x j)) (fun _ jv => n0 - (intOf jv).toNat)
          case atStart => exact ⟨0, Nat.zero_le _, rfl, rfl⟩
          case round =>
            obtain ⟨j, hj, rfl, rfl⟩ := hrel
            have j0 : (0 : Int) ≤ (j : Int) := Int.natCast_nonneg _
            by_cases hjl : j < n0
            · have j1 : (j : Int) < (n0 : Int) := by omega
              obtain ⟨g1, o1, rfl, hg1, t1⟩ := HI1.out.at_ j (by rw [HRR.out.1]; exact hjl)
              obtain ⟨g2, o2, rfl, hg2, t2⟩ := HI2.out.at_ j (by rw [HRR.out.2]; exact hjl)
              have HS := hide (confTo_succ m v x j)
              generalize (m.getD v []).getD j 0 = p at t1 HS
              generalize (m.getD x []).getD j 0 = q at t2 HS
              generalize confTo m v x j = g at HS ⊢
              cases g with
              | true =>
                go_wp2_with (fail)
                go_round
                case rel => exact ⟨j + 1, by omega, by go_num, by rw [HS.out, Bool.true_or]⟩
                case measure => simp [intOf]; omega
              | false =>
                by_cases hp : 0 < p
                · by_cases hq : 0 < q
                  · have HS2 := hide (HS.out.trans (by rw [decide_eq_true hp, decide_eq_true hq]; rfl : _ = true))
                    go_wp2_with (fail)
                    go_round
                    case rel => exact ⟨j + 1, by omega, by go_num, by rw [HS2.out]⟩
                    case measure => simp [intOf]; omega
                  · have HS2 := hide (HS.out.trans (by rw [decide_eq_true hp, decide_eq_false hq]; rfl : _ = false))
                    go_wp2_with (fail)
                    go_round
                    case rel => exact ⟨j + 1, by omega, by go_num, by rw [HS2.out]⟩
                    case measure => simp [intOf]; omega
                · have HS2 := hide (HS.out.trans (by rw [decide_eq_false hp]; rfl : _ = false))
                  go_wp2_with (fail)
                  go_round
                  case rel => exact ⟨j + 1, by omega, by go_num, by rw [HS2.out]⟩
                  case measure => simp [intOf]; omega
            · obtain rfl : j = n0 := by omega
              rw [← HPN.out]
              cases hp : P v x with
              | true =>
                have HROW := hide (rowTo_yes (P := P) (v := v) (w := x) (by omega) hp)
                have hlen : (L ++ [((v : Int), (x : Int))]).length = L.length + 1 := by rw [List.length_append, List.length_singleton]
                have HLEN := hide hlen
                obtain ⟨y0, y1, y2, y3⟩ := HG.out.cells
                clear hp hlen y0
                go_wp2_with (at_builtin; refine wp_app_pairs _ rfl (.tmp 57) (.tmp 61) rfl (W3.heap.size + 1) (.slice E L.length f) L rfl (own_below HG.out.own (below_alloc' (Below.refl _ _) _)) (some ⟨wx.heap.size, 0, none⟩) 1 1 [((v : Int), (x : Int))] rfl rfl (pairs_one (by simp) (by simp)) (by omega) (by rw [World.size_alloc]; omega) ?_; intro E' f' w9 hf9 ho9 hg9 _; obtain ⟨hG9, u1, u2⟩ := SGr.push HG.out ho9 hg9; rw [HLEN.out] at hG9; have HG9 := hide hG9; clear ho9 hg9 hf9 hG9)
                go_roundw
                case rel => exact ⟨x + 1, by omega, by omega, by go_num, hide ⟨E', f', by rw [HROW.out, ← List.append_assoc, HLL.out]; exact HG9.out⟩⟩
                case measure => simp [intOf]; omega
              | false =>
                have HROW := hide (rowTo_no (P := P) (v := v) (w := x) hp)
                clear hp
                go_wp2_with (fail)
                go_roundw
                case rel => exact ⟨x + 1, by omega, by omega, by go_num, hide ⟨E, f, by rw [HROW.out, HLL.out]; exact HG.out⟩⟩
                case measure => simp [intOf]; omega
        · have hxN : x = m.length := by omega
          have x1 : ¬ (x : Int) < (m.length : Int) := by omega
          rw [← hL, hxN, ← allTo_succ] at HK
          have HV1 := hide (show v + 1 ≤ m.length from hvl)
          clear hL hG hbd hvx hx hxl
          go_wp2_with (fail)
          go_roundw
          case rel => exact ⟨v + 1, HV1.out, by go_num, HK⟩
          case measure =>
            have := HV1.out
            simp [intOf]
            omega
    · have hvN : v = m.length := by omega
      have v1 : ¬ (v : Int) < (m.length : Int) := by omega
      rw [hvN] at HJ
      obtain ⟨E, f, hG⟩ := HJ.out
      obtain ⟨c0, c1, c2, c3⟩ := hG.cells
      obtain ⟨r0, r1, f0, f1, zr⟩ := (HB.out.later hG.below).cells
      have HE := hide (conf_end hG HB.out (.int .i64 (m.length : Int)) (.slice E (allTo P m.length m.length).length f))
      clear hG hvl hv
      go_wp2_with (fail)
      refine bodyPost_ret (v := .agg #[.int .i64 (m.length : Int), .slice E (allTo P m.length m.length).length f]) (by simp [results, Tryd.results22, go_sem, r0, r1]) rfl ⟨E, f, rfl, HE.out⟩
end Go.Proofs.YtehheklbibocjaaDoor

/- The walk of zero.Of. Condition: the variables read as laid. -/
namespace Go.Proofs.YtehheklbibocjaaDoor
open Go.RowKit Go.Deep Go.Proofs.YtehheklbibocjaaDoorW.PrintWords

theorem chErr_zero {m : List (List Int)} (h : chErr m = 0) : m.length ≤ 16 ∧ (m.getD 0 []).length ≤ 16 ∧ ∀ i, i < m.length → (m.getD i []).length = (m.getD 0 []).length := by
  unfold chErr at h
  by_cases c1 : 16 < m.length ∨ m.any (fun r => decide (16 < r.length)) = true
  · rw [if_pos c1] at h
    cases h
  · rw [if_neg c1] at h
    by_cases c2 : m.length = 0 ∨ m.any (badR (m.getD 0 []).length) = true
    · rw [if_pos c2] at h
      cases h
    · have n1 : ¬ 16 < m.length := fun q => c1 (.inl q)
      have n2 : m.length ≠ 0 := fun q => c2 (.inl q)
      have g : ∀ i, i < m.length → (m.getD i []).length ≤ 16 ∧ (m.getD i []).length = (m.getD 0 []).length := fun i hi => by
        rw [getD_eq m i _ hi]
        constructor
        · have := List.any_eq_false.1 (Bool.eq_false_iff.2 fun q => c1 (.inr q)) m[i] (List.getElem_mem hi)
          have := of_decide_eq_false (Bool.eq_false_iff.2 this)
          omega
        · have := List.any_eq_false.1 (Bool.eq_false_iff.2 fun q => c2 (.inr q)) m[i] (List.getElem_mem hi)
          have hb := Bool.eq_false_iff.2 this
          unfold badR at hb
          rw [Bool.or_eq_false_iff, Bool.or_eq_false_iff] at hb
          have := of_decide_eq_false hb.1.1
          omega
      exact ⟨by omega, (g 0 (by omega)).1, fun i hi => (g i hi).2⟩
theorem chErr_pos (a : Nat → Addr) {r : Int} (h : r ≠ 0) : errC a r = .iface 108 (.pointer (some (a r.toNat))) := by unfold errC; rw [if_neg h]; rfl
theorem rof_put {w W : World} {T : TypeId} (h : ROf w T W) (x y : Value) : Below w.heap.size w ((W.setCell ⟨w.heap.size, 0, none⟩ x).setCell ⟨w.heap.size, 1, none⟩ y) :=
  (h.below.setCell (p := ⟨w.heap.size, 0, none⟩) (Nat.le_refl _) _).setCell (p := ⟨w.heap.size, 1, none⟩) (Nat.le_refl _) _

set_option maxRecDepth 100000 in
set_option maxHeartbeats 4000000 in
theorem of_bad (A : Option Addr) (m : List (List Int)) (c : Nat) (w : World) (a : Nat → Addr) (hE : Env [2, 3] w a) (hA : Lists w A m) (h0 : chErr m ≠ 0) :
    Calls Tryd.prog 23 #[.slice A m.length c] w fun e w' => e = .returned (.tuple #[.agg #[.int .i64 0, .slice none 0 0], .iface 108 (.pointer (some (a (chErr m).toNat)))]) ∧ Below w.heap.size w w' := by
  have hl := hA.len
  have HRO := hide (ROf.start w 27)
  have hb2 := HRO.out.below
  have hv := chValid_any A m c (w.alloc (gObjT 27 0 none 0 0)) a (hE.below hb2) (hA.below hb2)
  rw [chErr_pos a h0] at hv
  generalize a (chErr m).toNat = x at hv ⊢
  have HV := hide hv
  clear hv h0 hb2 hE hA
  go_enter Tryd.func23, Tryd.ntmps23
  go_wp2_with (go_at_call 34; refine Calls.mono HV.out ?_; rintro e w1 ⟨rfl, hB1⟩; have HR1 := hide (HRO.out.later hB1); obtain ⟨y0, y1, y2, y3, y4⟩ := HR1.out.cells)
  refine bodyPost_ret (v := .tuple #[.agg #[.int .i64 0, .slice none 0 0], .iface 108 (.pointer (some x))]) (by simp [results, Tryd.results23, go_sem, y0, y1]) rfl ⟨rfl, ?_⟩
  exact rof_put HR1.out _ _

set_option maxRecDepth 100000 in
set_option maxHeartbeats 8000000 in
theorem of_good (A : Option Addr) (m : List (List Int)) (c : Nat) (w : World) (a : Nat → Addr) (hE : Env [2, 3] w a) (hA : Lists w A m) (h0 : chErr m = 0) :
    Calls Tryd.prog 23 #[.slice A m.length c] w fun e w' => ∃ E f, e = .returned (.tuple #[.agg #[.int .i64 m.length, .slice E (allTo (confP m) m.length m.length).length f], .nilIface]) ∧ Pairs w' E (allTo (confP m) m.length m.length) ∧ (allTo (confP m) m.length m.length).length ≤ f ∧ (∀ x, E = some x → w.heap.size ≤ x.block ∧ x.block < w'.heap.size) ∧ Below w.heap.size w w' := by
  have hl := hA.len
  have HA := hide hA
  obtain ⟨h16, hn0, hr⟩ := chErr_zero h0
  obtain ⟨n0, hnn⟩ : ∃ n, (m.getD 0 []).length = n := ⟨_, rfl⟩
  rw [hnn] at hn0 hr
  have HRL := hide hr
  have HRO := hide (ROf.start w 27)
  have hb2 := HRO.out.below
  have hv := chValid_any A m c (w.alloc (gObjT 27 0 none 0 0)) a (hE.below hb2) (hA.below hb2)
  rw [h0, errC_zero] at hv
  have HV := hide hv
  obtain ⟨P, hP⟩ : ∃ P, confP m = P := ⟨_, rfl⟩
  rw [hP]
  have HP := hide hP
  clear hA hr hP hv hb2 hE h0 hnn
  go_enter Tryd.func23, Tryd.ntmps23
  go_wp2_with (go_at_call 34; refine Calls.mono HV.out ?_; rintro e W3 ⟨rfl, hB1⟩; have HB := hide (HRO.out.later hB1); clear hB1)
  have HSTART : Hid (∃ E f, SGr W3 27 (m.length : Int) (W3.alloc (.cells #[.int .i64 (m.length : Int), .slice none 0 0] 27)) (allTo P m.length 0) E f) := hide ⟨_, _, SGr.start W3 27 (m.length : Int)⟩
  clear HRO HV
  go_loopw [21] (fun jv wr => ∃ v : Nat, v ≤ m.length ∧ jv = .int .i64 v ∧ Hid (∃ E f, SGr W3 27 (m.length : Int) wr (allTo P m.length v) E f)) (fun jv _ => m.length - (intOf jv).toNat)
  case atStart => exact ⟨0, Nat.zero_le _, rfl, HSTART⟩
  case round =>
    obtain ⟨v, hv, rfl, HJ⟩ := hrel
    obtain ⟨wv, rfl⟩ : ∃ wv : World, wv = wr := ⟨_, rfl⟩
    clear HSTART
    have v0 : (0 : Int) ≤ (v : Int) := Int.natCast_nonneg _
    by_cases hvl : v < m.length
    · have v1 : (v : Int) < (m.length : Int) := by omega
      go_wp2_with (fail)
      go_loopw [7] (fun jv wr => ∃ x : Nat, v + 1 ≤ x ∧ x ≤ m.length ∧ jv = .int .i64 x ∧ Hid (∃ E f, SGr W3 27 (m.length : Int) wr (allTo P m.length v ++ rowTo P v x) E f)) (fun jv _ => m.length - (intOf jv).toNat)
      case atStart => exact ⟨v + 1, Nat.le_refl _, hvl, by go_num, by rw [rowTo_first, List.append_nil]; exact HJ⟩
      case round =>
        obtain ⟨x, hvx, hx, rfl, HK⟩ := hrel
        obtain ⟨wx, rfl⟩ : ∃ wx : World, wx = wr := ⟨_, rfl⟩
        clear HJ
        have hbd := grown_length (P := P) (N := m.length) (v := v) (w := x) (by omega) hv hx
        obtain ⟨L, hL⟩ : ∃ L, allTo P m.length v ++ rowTo P v x = L := ⟨_, rfl⟩
        rw [hL] at HK hbd
        obtain ⟨E, f, hG⟩ := HK.out
        have x0 : (0 : Int) ≤ (x : Int) := Int.natCast_nonneg _
        by_cases hxl : x < m.length
        · have x1 : (x : Int) < (m.length : Int) := by omega
          have hbx := (HB.out.later hG.below).below
          obtain ⟨b, off, A1, c1, rfl, hb1, d1, _, hI1⟩ := (HA.out.below hbx).at_ v hvl
          obtain ⟨b', off', A2, c2, ee, hb2, d2, _, hI2⟩ := (HA.out.below hbx).at_ x hxl
          injection ee with ee
          injection ee with ee1 ee2 _
          subst ee1 ee2
          have r1 := HRL.out v hvl
          have r2 := HRL.out x hxl
          have hPn : P v x = confTo m v x n0 := by rw [← HP.out]; unfold confP; rw [r1]
          rw [r1] at d1
          rw [r2] at d2
          have HG := hide hG
          have HLL := hide hL
          have HPN := hide hPn
          have HI1 := hide hI1
          have HI2 := hide hI2
          have HRR := hide (And.intro r1 r2)
          clear hG hL hPn hI1 hI2 r1 r2 hbx
          go_wp2_with (fail)
          go_loop [37] (fun jv => ∃ j : Nat, j ≤ n0 ∧ jv = .int .i64 j ∧ Hid (confTo m v x j = false)) (fun jv => n0 - (intOf jv).toNat)
          case atStart => exact ⟨0, Nat.zero_le _, rfl, hide rfl⟩
          case round =>
            obtain ⟨j, hj, rfl, HF⟩ := hrel
            have j0 : (0 : Int) ≤ (j : Int) := Int.natCast_nonneg _
            by_cases hjl : j < n0
            · have j1 : (j : Int) < (n0 : Int) := by omega
              obtain ⟨g1, o1, rfl, hg1, t1⟩ := HI1.out.at_ j (by rw [HRR.out.1]; exact hjl)
              obtain ⟨g2, o2, rfl, hg2, t2⟩ := HI2.out.at_ j (by rw [HRR.out.2]; exact hjl)
              have HS := hide (confTo_succ m v x j)
              have HY := hide (fun h => confTo_yes (m := m) (i := v) (k := x) (n := n0) hjl h)
              generalize (m.getD v []).getD j 0 = p at t1 HS HY
              generalize (m.getD x []).getD j 0 = q at t2 HS HY
              by_cases hp : 0 < p
              · by_cases hq : 0 < q
                · have hpp := HPN.out.trans (HY.out (by rw [decide_eq_true hp, decide_eq_true hq]; rfl))
                  have HROW := hide (rowTo_yes (P := P) (v := v) (w := x) (by omega) hpp)
                  have hlen : (L ++ [((v : Int), (x : Int))]).length = L.length + 1 := by rw [List.length_append, List.length_singleton]
                  have HLEN := hide hlen
                  obtain ⟨y0, y1, y2, y3⟩ := HG.out.cells
                  clear hpp hlen y0
                  go_wp2_with (at_builtin; refine wp_app_pairs _ rfl (.tmp 55) (.tmp 59) rfl (W3.heap.size + 1) (.slice E L.length f) L rfl (own_below HG.out.own (below_alloc' (Below.refl _ _) _)) (some ⟨wx.heap.size, 0, none⟩) 1 1 [((v : Int), (x : Int))] rfl rfl (pairs_one (by simp) (by simp)) (by omega) (by rw [World.size_alloc]; omega) ?_; intro E' f' w9 hf9 ho9 hg9 _; obtain ⟨hG9, u1, u2⟩ := SGr.push HG.out ho9 hg9; rw [HLEN.out] at hG9; have HG9 := hide hG9; clear ho9 hg9 hf9 hG9)
                  go_roundw
                  case rel => exact ⟨x + 1, by omega, by omega, by go_num, hide ⟨E', f', by rw [HROW.out, ← List.append_assoc, HLL.out]; exact HG9.out⟩⟩
                  case measure => simp [intOf]; omega
                · have HS2 := hide (HS.out.trans (by rw [HF.out, decide_eq_true hp, decide_eq_false hq]; rfl : _ = false))
                  go_wp2_with (fail)
                  go_round
                  case rel => exact ⟨j + 1, by omega, by go_num, HS2⟩
                  case measure => simp [intOf]; omega
              · have HS2 := hide (HS.out.trans (by rw [HF.out, decide_eq_false hp]; rfl : _ = false))
                go_wp2_with (fail)
                go_round
                case rel => exact ⟨j + 1, by omega, by go_num, HS2⟩
                case measure => simp [intOf]; omega
            · obtain rfl : j = n0 := by omega
              have HROW := hide (rowTo_no (P := P) (v := v) (w := x) (HPN.out.trans HF.out))
              go_wp2_with (fail)
              go_roundw
              case rel => exact ⟨x + 1, by omega, by omega, by go_num, hide ⟨E, f, by rw [HROW.out, HLL.out]; exact HG.out⟩⟩
              case measure => simp [intOf]; omega
        · have hxN : x = m.length := by omega
          have x1 : ¬ (x : Int) < (m.length : Int) := by omega
          rw [← hL, hxN, ← allTo_succ] at HK
          have HV1 := hide (show v + 1 ≤ m.length from hvl)
          clear hL hG hbd hvx hx hxl
          go_wp2_with (fail)
          go_roundw
          case rel => exact ⟨v + 1, HV1.out, by go_num, HK⟩
          case measure =>
            have := HV1.out
            simp [intOf]
            omega
    · have hvN : v = m.length := by omega
      have v1 : ¬ (v : Int) < (m.length : Int) := by omega
      rw [hvN] at HJ
      obtain ⟨E, f, hG⟩ := HJ.out
      obtain ⟨c0, c1, c2, c3⟩ := hG.cells
      obtain ⟨r0, r1, f0, f1, zr⟩ := (HB.out.later hG.below).cells
      have HE := hide (conf_end hG HB.out (.int .i64 (m.length : Int)) (.slice E (allTo P m.length m.length).length f))
      clear hG hvl hv
      go_wp2_with (fail)
      refine bodyPost_ret (v := .tuple #[.agg #[.int .i64 (m.length : Int), .slice E (allTo P m.length m.length).length f], .nilIface]) (by simp [results, Tryd.results23, go_sem, r0, r1]) rfl ⟨E, f, rfl, HE.out⟩
end Go.Proofs.YtehheklbibocjaaDoor

/- The walks of errors.Is and errors.As at the errors of this program: a sentinel (a pointer to an errors.errorString) and a *api.Fault (after the kit's worked Sentry and Toyas). Condition: the variables read as laid. -/
namespace Go.Proofs.YtehheklbibocjaaDoor
open Go.RowKit Go.Deep Go.Extern.Stop Go.Stop Go.Extern

/-- the sentinels of the codes S: their cells, their blocks, none twice -/
structure Sent (S : List Nat) (w : World) (a : Nat → Addr) : Prop extends Env S w a where
  blk : ∀ c, c ∈ S → ∃ ca ta, w.heap[(a c).block]? = some (.cells ca ta (0, 0))
  inj : ∀ c, c ∈ S → ∀ d, d ∈ S → a c = a d → c = d
theorem Sent.lt {S : List Nat} {w : World} {a : Nat → Addr} (h : Sent S w a) {c : Nat} (hc : c ∈ S) : (a c).block < w.heap.size := by
  obtain ⟨ca, ta, hb⟩ := h.blk c hc
  exact (Array.getElem?_eq_some_iff.1 hb).1
theorem Sent.below {S : List Nat} {w w' : World} {a : Nat → Addr} (h : Sent S w a) (hb : Below w.heap.size w w') : Sent S w' a :=
  ⟨h.toEnv.below hb, fun c hc => by
    obtain ⟨ca, ta, hx⟩ := h.blk c hc
    exact ⟨ca, ta, (hb.block _ (h.lt hc)).trans hx⟩, h.inj⟩
/-- the handle of the type error -/
def Handle (w : World) : Prop := w.cell? ⟨8, 0, none⟩ = some (.iface 94 (.agg #[.pointer (some ⟨9, 29, none⟩)]))
theorem Handle.below {w w' : World} (h : Handle w) (hb : Below w.heap.size w w') : Handle w' :=
  (hb.cell (p := ⟨8, 0, none⟩) (World.block_lt_of_cell? w _ h)).trans h

/-! ### errors.Is -/
theorem is_typeOf (v : Value) (w : World) : (Extern.ReflectliteType.typeOf #[.iface 108 v]).run Tryd.prog w = .ok (.iface 94 (.agg #[.pointer (some ⟨9, 108, none⟩)])) w := by kernel_rfl
/-- the model's own entry for (rtype).Comparable, behind a name -/
def compExt : TypeId → Sem Value := fun t => do Rtype.noPackHeld "Comparable" t; pure (.bool (← typeInfo t).comparable)
theorem is_comparable (w : World) : (Extern.ReflectliteType.method compExt #[.agg #[.pointer (some ⟨9, 108, none⟩)]]).run Tryd.prog w = .ok (.bool true) w := by kernel_rfl
theorem is_methodComparable (v : Value) (w : World) : (Go.method 247 94 v "Comparable").run Tryd.prog w = .ok (76, v) w := by kernel_rfl
theorem is_comp : (Tryd.prog.info? 108).map (·.comparable) = some true := by kernel_rfl
theorem is_size : (Tryd.prog.info? 131).map (·.size) = some 1 := by kernel_rfl
theorem no_is_E (v : Value) (xT : TypeId) (w : World) : (Instr.typeAssert (.iface 108 v) xT 105 true).run Tryd.prog w = .ok (.tuple #[.nilIface, .bool false]) w := run_typeAssert_lacksB Tryd.underlying105 (by kernel_rfl) (by kernel_rfl) v xT w
theorem no_unwrap_E (v : Value) (xT : TypeId) (w : World) : (Instr.typeAssert (.iface 108 v) xT 101 true).run Tryd.prog w = .ok (.tuple #[.nilIface, .bool false]) w := run_typeAssert_lacksB Tryd.underlying101 (by kernel_rfl) (by kernel_rfl) v xT w
theorem no_unwraps_E (v : Value) (xT : TypeId) (w : World) : (Instr.typeAssert (.iface 108 v) xT 103 true).run Tryd.prog w = .ok (.tuple #[.nilIface, .bool false]) w := run_typeAssert_lacksB Tryd.underlying103 (by kernel_rfl) (by kernel_rfl) v xT w
theorem no_is_F (v : Value) (xT : TypeId) (w : World) : (Instr.typeAssert (.iface 69 v) xT 105 true).run Tryd.prog w = .ok (.tuple #[.nilIface, .bool false]) w := run_typeAssert_lacksB Tryd.underlying105 (by kernel_rfl) (by kernel_rfl) v xT w
theorem has_unwrap_F (v : Value) (xT : TypeId) (w : World) : (Instr.typeAssert (.iface 69 v) xT 101 true).run Tryd.prog w = .ok (.tuple #[.iface 69 v, .bool true]) w := run_typeAssert_hasB Tryd.underlying101 (by kernel_rfl) v xT w
theorem method_unwrap_F (v : Value) (w : World) : (Go.method 247 69 v "Unwrap").run Tryd.prog w = .ok (70, v) w := by kernel_rfl

set_option maxHeartbeats 1000000 in
theorem is_same (a : Addr) (w : World) :
    Calls Tryd.prog 39 #[.iface 108 (.pointer (some a)), .iface 108 (.pointer (some a))] w fun e w' => e = .returned (.bool true) ∧ w' = w := by
  obtain ⟨i, hi, hcmp⟩ := Option.map_eq_some_iff.1 is_comp
  obtain ⟨j, hj, hjs⟩ := Option.map_eq_some_iff.1 is_size
  have h8 := @run_callFunc_extern Tryd.prog 47 _ Extern.ReflectliteType.typeOf Tryd.func47 (by kernel_rfl) (by kernel_rfl) (by kernel_rfl) (by kernel_rfl)
  have h32 := @run_callFunc_extern Tryd.prog 76 _ (Extern.ReflectliteType.method compExt) Tryd.func76 (by kernel_rfl) (by kernel_rfl) (by kernel_rfl) (by kernel_rfl)
  have tT := is_typeOf
  have cT := is_comparable
  have mR := is_methodComparable
  have heq := run_eql_iface_ptr_same (P := Tryd.prog) w a Tryd.underlying29 Tryd.underlying108 hi hcmp hj
  clear hi hcmp hj hjs
  go_enter Tryd.func39, Tryd.ntmps39
  go_wp2
  refine wp_loop_rounds 1 ?_
  rw [rounds_succ]
  go_wp2
  go_ret
  exact ⟨rfl, rfl⟩

set_option maxHeartbeats 1000000 in
theorem is_other (a b : Addr) (ca cb : Array Value) (ta tb : TypeId) (w : World) (hne : a ≠ b) (ha : w.heap[a.block]? = some (.cells ca ta (0, 0))) (hb : w.heap[b.block]? = some (.cells cb tb (0, 0))) :
    Calls Tryd.prog 39 #[.iface 108 (.pointer (some a)), .iface 108 (.pointer (some b))] w fun e w' => e = .returned (.bool false) ∧ w' = w := by
  obtain ⟨i, hi, hcmp⟩ := Option.map_eq_some_iff.1 is_comp
  obtain ⟨j, hj, hjs⟩ := Option.map_eq_some_iff.1 is_size
  have h8 := @run_callFunc_extern Tryd.prog 47 _ Extern.ReflectliteType.typeOf Tryd.func47 (by kernel_rfl) (by kernel_rfl) (by kernel_rfl) (by kernel_rfl)
  have h32 := @run_callFunc_extern Tryd.prog 76 _ (Extern.ReflectliteType.method compExt) Tryd.func76 (by kernel_rfl) (by kernel_rfl) (by kernel_rfl) (by kernel_rfl)
  have tT := is_typeOf
  have cT := is_comparable
  have mR := is_methodComparable
  have nE := no_is_E
  have uE := no_unwrap_E
  have vE := no_unwraps_E
  have heq := run_eql_iface_ptr_other (P := Tryd.prog) w Tryd.underlying29 Tryd.underlying108 hi hcmp hj (by rw [hjs]; decide) hne ha hb
  clear hi hcmp hj hjs
  go_enter Tryd.func39, Tryd.ntmps39
  go_wp2
  refine wp_loop_rounds 1 ?_
  rw [rounds_succ]
  go_wp2
  go_ret
  exact ⟨rfl, rfl⟩

/-- errors.Is between sentinels -/
theorem is_sent {S : List Nat} (w : World) (a : Nat → Addr) (h : Sent S w a) (c d : Nat) (hc : c ∈ S) (hd : d ∈ S) :
    Calls Tryd.prog 39 #[.iface 108 (.pointer (some (a c))), .iface 108 (.pointer (some (a d)))] w fun e w' => e = .returned (.bool (decide (c = d))) ∧ w' = w := by
  by_cases e : c = d
  · subst e
    rw [decide_eq_true rfl]
    exact is_same (a c) w
  · rw [decide_eq_false e]
    obtain ⟨ca, ta, ha⟩ := h.blk c hc
    obtain ⟨cb, tb, hb⟩ := h.blk d hd
    exact is_other (a c) (a d) ca cb ta tb w (fun x => e (h.inj c hc d hd x)) ha hb

set_option maxHeartbeats 1000000 in
theorem is_fault_same (pb po : Nat) (b : Addr) (w : World) (h1 : w.cell? ⟨pb, po + 1, none⟩ = some (.iface 108 (.pointer (some b)))) :
    Calls Tryd.prog 39 #[.iface 69 (.pointer (some ⟨pb, po, none⟩)), .iface 108 (.pointer (some b))] w fun e w' => e = .returned (.bool true) ∧ w' = w := by
  obtain ⟨i, hi, hcmp⟩ := Option.map_eq_some_iff.1 is_comp
  obtain ⟨j, hj, hjs⟩ := Option.map_eq_some_iff.1 is_size
  have h8 := @run_callFunc_extern Tryd.prog 47 _ Extern.ReflectliteType.typeOf Tryd.func47 (by kernel_rfl) (by kernel_rfl) (by kernel_rfl) (by kernel_rfl)
  have h32 := @run_callFunc_extern Tryd.prog 76 _ (Extern.ReflectliteType.method compExt) Tryd.func76 (by kernel_rfl) (by kernel_rfl) (by kernel_rfl) (by kernel_rfl)
  have tT := is_typeOf
  have cT := is_comparable
  have mR := is_methodComparable
  have nE := no_is_E
  have uE := no_unwrap_E
  have vE := no_unwraps_E
  have nW := no_is_F
  have uW := has_unwrap_F
  have mU := method_unwrap_F
  have heq := run_eql_iface_ptr_same (P := Tryd.prog) w b Tryd.underlying29 Tryd.underlying108 hi hcmp hj
  have hty := run_eql_iface_types (P := Tryd.prog) 69 108 (.pointer (some ⟨pb, po, none⟩)) (.pointer (some b)) Tryd.underlying29 (by decide) w
  clear hi hcmp hj hjs
  go_enter Tryd.func39, Tryd.ntmps39
  go_wp2
  refine wp_loop_rounds 2 ?_
  rw [rounds_succ]
  go_wp2
  rw [rounds_succ]
  go_wp2
  go_ret
  exact ⟨rfl, rfl⟩

set_option maxHeartbeats 1000000 in
theorem is_fault_other (pb po : Nat) (b a : Addr) (ca cb : Array Value) (ta tb : TypeId) (w : World) (h1 : w.cell? ⟨pb, po + 1, none⟩ = some (.iface 108 (.pointer (some a)))) (hne : a ≠ b) (ha : w.heap[a.block]? = some (.cells ca ta (0, 0))) (hb : w.heap[b.block]? = some (.cells cb tb (0, 0))) :
    Calls Tryd.prog 39 #[.iface 69 (.pointer (some ⟨pb, po, none⟩)), .iface 108 (.pointer (some b))] w fun e w' => e = .returned (.bool false) ∧ w' = w := by
  obtain ⟨i, hi, hcmp⟩ := Option.map_eq_some_iff.1 is_comp
  obtain ⟨j, hj, hjs⟩ := Option.map_eq_some_iff.1 is_size
  have h8 := @run_callFunc_extern Tryd.prog 47 _ Extern.ReflectliteType.typeOf Tryd.func47 (by kernel_rfl) (by kernel_rfl) (by kernel_rfl) (by kernel_rfl)
  have h32 := @run_callFunc_extern Tryd.prog 76 _ (Extern.ReflectliteType.method compExt) Tryd.func76 (by kernel_rfl) (by kernel_rfl) (by kernel_rfl) (by kernel_rfl)
  have tT := is_typeOf
  have cT := is_comparable
  have mR := is_methodComparable
  have nE := no_is_E
  have uE := no_unwrap_E
  have vE := no_unwraps_E
  have nW := no_is_F
  have uW := has_unwrap_F
  have mU := method_unwrap_F
  have heq := run_eql_iface_ptr_other (P := Tryd.prog) w Tryd.underlying29 Tryd.underlying108 hi hcmp hj (by rw [hjs]; decide) hne ha hb
  have hty := run_eql_iface_types (P := Tryd.prog) 69 108 (.pointer (some ⟨pb, po, none⟩)) (.pointer (some b)) Tryd.underlying29 (by decide) w
  clear hi hcmp hj hjs
  go_enter Tryd.func39, Tryd.ntmps39
  go_wp2
  refine wp_loop_rounds 2 ?_
  rw [rounds_succ]
  go_wp2
  rw [rounds_succ]
  go_wp2
  go_ret
  exact ⟨rfl, rfl⟩

/-- errors.Is of a fault whose error is a sentinel -/
theorem is_fault {S : List Nat} (w : World) (a : Nat → Addr) (h : Sent S w a) (pb po : Nat) (c d : Nat) (hc : c ∈ S) (hd : d ∈ S) (h1 : w.cell? ⟨pb, po + 1, none⟩ = some (.iface 108 (.pointer (some (a c))))) :
    Calls Tryd.prog 39 #[.iface 69 (.pointer (some ⟨pb, po, none⟩)), .iface 108 (.pointer (some (a d)))] w fun e w' => e = .returned (.bool (decide (c = d))) ∧ w' = w := by
  by_cases e : c = d
  · subst e
    rw [decide_eq_true rfl]
    exact is_fault_same pb po (a c) w h1
  · rw [decide_eq_false e]
    obtain ⟨ca, ta, ha⟩ := h.blk c hc
    obtain ⟨cb, tb, hb⟩ := h.blk d hd
    exact is_fault_other pb po (a d) (a c) ca cb ta tb w h1 (fun x => e (h.inj c hc d hd x)) ha hb
end Go.Proofs.YtehheklbibocjaaDoor

/- The walks of errors.As with a target of the type **api.Fault: at a sentinel it is false, at a fault true (after the kit's worked Toyas). Condition: the handle of the type error is laid. -/
namespace Go.Proofs.YtehheklbibocjaaDoor
open Go.RowKit Go.Deep Go.Extern.Stop Go.Stop Go.Extern

/-! ### closed facts on the model's entries for internal/reflectlite, at this program's types -/
def kindExt : TypeId → Sem Value := fun t => do pure (.int .u8 (← Rtype.kind t))
def vTypeExt : TypeId → Addr → Nat → Nat → Sem Value := fun t _ _ _ => ReflectliteType.toType t
def unpackExt : Array Value → Sem Value := fun args => ReflectliteValue.unpack (args.getD 0 (.tuple #[]))
theorem as_valueOfT (t : Addr) (w : World) : (unpackExt #[.iface 71 (.pointer (some t))]).run Tryd.prog w
    = .ok (.agg #[.pointer (some ⟨9, 71, none⟩), .pointer (some ⟨w.heap.size, 0, none⟩), .int .u64 150]) (w.alloc (.cells #[.pointer (some t)] 71)) := by kernel_rfl
theorem as_typeT (a : Addr) (w : World) : (ReflectliteValue.methodAny (ReflectliteValue.valueError "reflectlite.Value.Type" 0) vTypeExt #[.agg #[.pointer (some ⟨9, 71, none⟩), .pointer (some a), .int .u64 150]]).run Tryd.prog w
    = .ok (.iface 94 (.agg #[.pointer (some ⟨9, 71, none⟩)])) w := by kernel_rfl
theorem as_methodKind (h : Value) (w : World) : (Go.method 247 94 (.agg #[h]) "Kind").run Tryd.prog w = .ok (66, h) w := by kernel_rfl
theorem as_kindT (w : World) : (ReflectliteType.abiMethod kindExt #[.pointer (some ⟨9, 71, none⟩)]).run Tryd.prog w = .ok (.int .u8 22) w := by kernel_rfl
theorem as_kindF (w : World) : (ReflectliteType.abiMethod kindExt #[.pointer (some ⟨9, 69, none⟩)]).run Tryd.prog w = .ok (.int .u8 22) w := by kernel_rfl
theorem rlm (z : Sem Value) (f : TypeId → Addr → Nat → Nat → Sem Value) (v : Value) :
    ReflectliteValue.method z f #[v] = (do match ← ReflectliteValue.parts v with | none => z | some (t, a, fl) => f t a fl (fl % 32)) := rfl
theorem as_partsT (a : Addr) (w : World) : (ReflectliteValue.parts (.agg #[.pointer (some ⟨9, 71, none⟩), .pointer (some a), .int .u64 150])).run Tryd.prog w = .ok (some (71, a, 150)) w := by kernel_rfl
theorem as_isNilT (a p : Addr) (W : World) (ha : W.cell? a = some (.pointer (some p))) :
    (ReflectliteValue.method (ReflectliteValue.valueError "reflectlite.Value.IsNil" 0) ReflectliteValue.isNil #[.agg #[.pointer (some ⟨9, 71, none⟩), .pointer (some a), .int .u64 150]]).run Tryd.prog W = .ok (.bool false) W := by
  rw [rlm]
  simp only [Sem.run_bind, as_partsT, Result.andThen]
  simp [ReflectliteValue.isNil, loadVar, isAgg, underlying, Tryd.underlying71, ha, Result.andThen]
theorem as_methodElem (h : Value) (w : World) : (Go.method 247 94 (.agg #[h]) "Elem").run Tryd.prog w = .ok (77, .agg #[h]) w := by kernel_rfl
theorem as_methodImplements (h : Value) (w : World) : (Go.method 247 94 (.agg #[h]) "Implements").run Tryd.prog w = .ok (78, .agg #[h]) w := by kernel_rfl
theorem as_methodAssignableTo (h : Value) (w : World) : (Go.method 247 94 (.agg #[h]) "AssignableTo").run Tryd.prog w = .ok (75, .agg #[h]) w := by kernel_rfl
theorem as_elemT (w : World) : (ReflectliteType.method ReflectliteType.elem #[.agg #[.pointer (some ⟨9, 71, none⟩)]]).run Tryd.prog w = .ok (.iface 94 (.agg #[.pointer (some ⟨9, 69, none⟩)])) w := by kernel_rfl
theorem as_implementsF (w : World) : (ReflectliteType.relation "Implements" ReflectliteType.implements_ #[.agg #[.pointer (some ⟨9, 69, none⟩)], .iface 94 (.agg #[.pointer (some ⟨9, 29, none⟩)])]).run Tryd.prog w = .ok (.bool true) w := by kernel_rfl
theorem as_typeOfF (v : Value) (w : World) : (ReflectliteType.typeOf #[.iface 69 v]).run Tryd.prog w = .ok (.iface 94 (.agg #[.pointer (some ⟨9, 69, none⟩)])) w := by kernel_rfl
theorem as_assignF (w : World) : (ReflectliteType.relation "AssignableTo" ReflectliteType.assignableTo #[.agg #[.pointer (some ⟨9, 69, none⟩)], .iface 94 (.agg #[.pointer (some ⟨9, 69, none⟩)])]).run Tryd.prog w = .ok (.bool true) w := by kernel_rfl
theorem as_assignE (w : World) : (ReflectliteType.relation "AssignableTo" ReflectliteType.assignableTo #[.agg #[.pointer (some ⟨9, 108, none⟩)], .iface 94 (.agg #[.pointer (some ⟨9, 69, none⟩)])]).run Tryd.prog w = .ok (.bool false) w := by kernel_rfl
theorem as_valueOfF (e : Addr) (w : World) : (unpackExt #[.iface 69 (.pointer (some e))]).run Tryd.prog w
    = .ok (.agg #[.pointer (some ⟨9, 69, none⟩), .pointer (some ⟨w.heap.size, 0, none⟩), .int .u64 150]) (w.alloc (.cells #[.pointer (some e)] 69)) := by kernel_rfl
theorem as_elemOfT (w : World) : (Rtype.elem? 71).run Tryd.prog w = .ok (some 69) w := by kernel_rfl
theorem as_mkF (p : Addr) (w : World) : (ReflectliteValue.mk 69 p ReflectliteValue.flagAddr).run Tryd.prog w = .ok (.agg #[.pointer (some ⟨9, 69, none⟩), .pointer (some p), .int .u64 406]) w := by kernel_rfl
theorem as_elemVT (a p : Addr) (W : World) (ha : W.cell? a = some (.pointer (some p))) :
    (ReflectliteValue.method (ReflectliteValue.valueError "reflectlite.Value.Elem" 0) ReflectliteValue.elem #[.agg #[.pointer (some ⟨9, 71, none⟩), .pointer (some a), .int .u64 150]]).run Tryd.prog W
      = .ok (.agg #[.pointer (some ⟨9, 69, none⟩), .pointer (some p), .int .u64 406]) W := by
  rw [rlm]
  simp only [Sem.run_bind, as_partsT, Result.andThen]
  simp [ReflectliteValue.elem, loadVar, isAgg, underlying, Tryd.underlying71, ha, Result.andThen, as_elemOfT, as_mkF]
theorem rls (v x : Value) : ReflectliteValue.set #[v, x] = (do
    let (some (dst, a, fl), some (src, b, _)) := (← ReflectliteValue.parts v, ← ReflectliteValue.parts x)
      | unsupported (.noEntry "extern/(internal/reflectlite.Value).Set.zeroValue")
    if fl / ReflectliteValue.flagAddr % 2 == 0 then unsupported (.noEntry "extern/(internal/reflectlite.Value).Set.unaddressable")
    let val ← loadVar src b
    if ← Rtype.directlyAssignable dst src then storeVar dst a val
    else if ← Rtype.implements dst src then
      if (← Rtype.kind src) == 20 then
        match val with
        | .nilIface => unsupported (.noEntry "extern/reflectlite: a nil value of one interface type handed on as a value of another")
        | _ => storeVar dst a val
      else storeVar dst a (.iface src val)
    else panicString ("reflectlite.Set: value of type " ++ (← Rtype.spelt src) ++ " is not assignable to type " ++ (← Rtype.spelt dst))
    pure (.tuple #[])) := rfl
theorem as_partsFa (a : Addr) (w : World) : (ReflectliteValue.parts (.agg #[.pointer (some ⟨9, 69, none⟩), .pointer (some a), .int .u64 406])).run Tryd.prog w = .ok (some (69, a, 406)) w := by kernel_rfl
theorem as_partsF (a : Addr) (w : World) : (ReflectliteValue.parts (.agg #[.pointer (some ⟨9, 69, none⟩), .pointer (some a), .int .u64 150])).run Tryd.prog w = .ok (some (69, a, 150)) w := by kernel_rfl
theorem as_directF (w : World) : (Rtype.directlyAssignable 69 69).run Tryd.prog w = .ok true w := by kernel_rfl
theorem as_setF (ta b e : Addr) (old : Value) (W : World) (hb : W.cell? b = some (.pointer (some e))) (ht : W.cell? ta = some old) (hf : W.frozen? ta = false) :
    (ReflectliteValue.set #[.agg #[.pointer (some ⟨9, 69, none⟩), .pointer (some ta), .int .u64 406], .agg #[.pointer (some ⟨9, 69, none⟩), .pointer (some b), .int .u64 150]]).run Tryd.prog W
      = .ok (.tuple #[]) (W.setCell ta (.pointer (some e))) := by
  rw [rls]
  simp only [Sem.run_bind, as_partsFa, as_partsF, Result.andThen]
  simp [ReflectliteValue.flagAddr, loadVar, isAgg, underlying, Tryd.underlying69, hb, Result.andThen, as_directF, storeVar, Value.cells, storeCells, Addr.add]
  rw [run_store Tryd.prog W ta _ _ (by rfl)]
  simp [ht, hf]

theorem no_as_E (v : Value) (xT : TypeId) (w : World) : (Instr.typeAssert (.iface 108 v) xT 98 true).run Tryd.prog w = .ok (.tuple #[.nilIface, .bool false]) w := run_typeAssert_lacksB Tryd.underlying98 (by kernel_rfl) (by kernel_rfl) v xT w

set_option maxHeartbeats 4000000 in
/-- errors.As at a sentinel: false; what was there is as it was -/
theorem as_sent (e t : Addr) (w : World) (hg : Handle w) :
    Calls Tryd.prog 38 #[.iface 108 (.pointer (some e)), .iface 71 (.pointer (some t))] w fun ev w' => ev = .returned (.bool false) ∧ Below w.heap.size w w' := by
  have h6 := @run_callFunc_extern Tryd.prog 43 _ unpackExt Tryd.func43 (by kernel_rfl) (by kernel_rfl) (by kernel_rfl) (by kernel_rfl)
  have h7 := @run_callFunc_extern Tryd.prog 44 _ (ReflectliteValue.methodAny (ReflectliteValue.valueError "reflectlite.Value.Type" 0) vTypeExt) Tryd.func44 (by kernel_rfl) (by kernel_rfl) (by kernel_rfl) (by kernel_rfl)
  have h8 := @run_callFunc_extern Tryd.prog 45 _ (ReflectliteValue.method (ReflectliteValue.valueError "reflectlite.Value.IsNil" 0) ReflectliteValue.isNil) Tryd.func45 (by kernel_rfl) (by kernel_rfl) (by kernel_rfl) (by kernel_rfl)
  have h27 := @run_callFunc_extern Tryd.prog 66 _ (ReflectliteType.abiMethod kindExt) Tryd.func66 (by kernel_rfl) (by kernel_rfl) (by kernel_rfl) (by kernel_rfl)
  have h37 := @run_callFunc_extern Tryd.prog 77 _ (ReflectliteType.method ReflectliteType.elem) Tryd.func77 (by kernel_rfl) (by kernel_rfl) (by kernel_rfl) (by kernel_rfl)
  have h38 := @run_callFunc_extern Tryd.prog 78 _ (ReflectliteType.relation "Implements" ReflectliteType.implements_) Tryd.func78 (by kernel_rfl) (by kernel_rfl) (by kernel_rfl) (by kernel_rfl)
  have h10 := @run_callFunc_extern Tryd.prog 47 _ ReflectliteType.typeOf Tryd.func47 (by kernel_rfl) (by kernel_rfl) (by kernel_rfl) (by kernel_rfl)
  have h35 := @run_callFunc_extern Tryd.prog 75 _ (ReflectliteType.relation "AssignableTo" ReflectliteType.assignableTo) Tryd.func75 (by kernel_rfl) (by kernel_rfl) (by kernel_rfl) (by kernel_rfl)
  have tO := is_typeOf
  have mA := as_methodAssignableTo
  have aE := as_assignE
  have f6 := as_valueOfT
  have f7 := as_typeT
  have mK := as_methodKind
  have mE := as_methodElem
  have mI := as_methodImplements
  have kT := as_kindT
  have kF := as_kindF
  have eT := as_elemT
  have iF := as_implementsF
  have nA := no_as_E
  have uE := no_unwrap_E
  have vE := no_unwraps_E
  have n8 := as_isNilT ⟨w.heap.size, 0, none⟩ t ((w.alloc (.cells #[.pointer (some t)] 71)).alloc (.cells #[.pointer (some ⟨9, 71, none⟩), .pointer (some ⟨w.heap.size, 0, none⟩), .int .u64 150] 81)) (by simp)
  have hlt : 8 < w.heap.size := World.block_lt_of_cell? w _ hg
  have hg2 : ((w.alloc (.cells #[.pointer (some t)] 71)).alloc (.cells #[.pointer (some ⟨9, 71, none⟩), .pointer (some ⟨w.heap.size, 0, none⟩), .int .u64 150] 81)).cell? ⟨8, 0, none⟩ = some (.iface 94 (.agg #[.pointer (some ⟨9, 29, none⟩)])) := by
    rw [World.cell?_alloc_lt _ _ ⟨8, 0, none⟩ (by simp; omega), World.cell?_alloc_lt _ _ ⟨8, 0, none⟩ hlt]; exact hg
  go_enter Tryd.func38, Tryd.ntmps38
  go_wp2
  refine wp_loop_rounds 1 ?_
  rw [rounds_succ]
  go_wp2
  go_ret
  exact ⟨rfl, below_alloc' (below_alloc' (below_alloc' (Below.refl _ _) _) _) _⟩

set_option maxHeartbeats 4000000 in
/-- errors.As at a fault: true; the target points to it -/
theorem as_fault (e t : Addr) (old : Value) (w : World) (hg : Handle w) (ht0 : w.cell? t = some old) (hf0 : w.frozen? t = false) :
    Calls Tryd.prog 38 #[.iface 69 (.pointer (some e)), .iface 71 (.pointer (some t))] w fun ev w' => ev = .returned (.bool true) ∧ w' = ((((w.alloc (.cells #[.pointer (some t)] 71)).alloc (.cells #[.pointer (some ⟨9, 71, none⟩), .pointer (some ⟨w.heap.size, 0, none⟩), .int .u64 150] 81)).alloc (.cells #[.pointer (some ⟨9, 71, none⟩), .pointer (some ⟨w.heap.size, 0, none⟩), .int .u64 150] 81)).alloc (.cells #[.pointer (some e)] 69)).setCell t (.pointer (some e)) := by
  have h6 := @run_callFunc_extern Tryd.prog 43 _ unpackExt Tryd.func43 (by kernel_rfl) (by kernel_rfl) (by kernel_rfl) (by kernel_rfl)
  have h7 := @run_callFunc_extern Tryd.prog 44 _ (ReflectliteValue.methodAny (ReflectliteValue.valueError "reflectlite.Value.Type" 0) vTypeExt) Tryd.func44 (by kernel_rfl) (by kernel_rfl) (by kernel_rfl) (by kernel_rfl)
  have h8 := @run_callFunc_extern Tryd.prog 45 _ (ReflectliteValue.method (ReflectliteValue.valueError "reflectlite.Value.IsNil" 0) ReflectliteValue.isNil) Tryd.func45 (by kernel_rfl) (by kernel_rfl) (by kernel_rfl) (by kernel_rfl)
  have h27 := @run_callFunc_extern Tryd.prog 66 _ (ReflectliteType.abiMethod kindExt) Tryd.func66 (by kernel_rfl) (by kernel_rfl) (by kernel_rfl) (by kernel_rfl)
  have h37 := @run_callFunc_extern Tryd.prog 77 _ (ReflectliteType.method ReflectliteType.elem) Tryd.func77 (by kernel_rfl) (by kernel_rfl) (by kernel_rfl) (by kernel_rfl)
  have h38 := @run_callFunc_extern Tryd.prog 78 _ (ReflectliteType.relation "Implements" ReflectliteType.implements_) Tryd.func78 (by kernel_rfl) (by kernel_rfl) (by kernel_rfl) (by kernel_rfl)
  have h10 := @run_callFunc_extern Tryd.prog 47 _ ReflectliteType.typeOf Tryd.func47 (by kernel_rfl) (by kernel_rfl) (by kernel_rfl) (by kernel_rfl)
  have h35 := @run_callFunc_extern Tryd.prog 75 _ (ReflectliteType.relation "AssignableTo" ReflectliteType.assignableTo) Tryd.func75 (by kernel_rfl) (by kernel_rfl) (by kernel_rfl) (by kernel_rfl)
  have h11 := @run_callFunc_extern Tryd.prog 50 _ (ReflectliteValue.method (ReflectliteValue.valueError "reflectlite.Value.Elem" 0) ReflectliteValue.elem) Tryd.func50 (by kernel_rfl) (by kernel_rfl) (by kernel_rfl) (by kernel_rfl)
  have h12 := @run_callFunc_extern Tryd.prog 51 _ ReflectliteValue.set Tryd.func51 (by kernel_rfl) (by kernel_rfl) (by kernel_rfl) (by kernel_rfl)
  have tO := as_typeOfF
  have mA := as_methodAssignableTo
  have aE := as_assignF
  have vF := as_valueOfF
  have f6 := as_valueOfT
  have f7 := as_typeT
  have mK := as_methodKind
  have mE := as_methodElem
  have mI := as_methodImplements
  have kT := as_kindT
  have kF := as_kindF
  have eT := as_elemT
  have iF := as_implementsF
  have n8 := as_isNilT ⟨w.heap.size, 0, none⟩ t ((w.alloc (.cells #[.pointer (some t)] 71)).alloc (.cells #[.pointer (some ⟨9, 71, none⟩), .pointer (some ⟨w.heap.size, 0, none⟩), .int .u64 150] 81)) (by simp)
  have hlt : 8 < w.heap.size := World.block_lt_of_cell? w _ hg
  have hg2 : ((w.alloc (.cells #[.pointer (some t)] 71)).alloc (.cells #[.pointer (some ⟨9, 71, none⟩), .pointer (some ⟨w.heap.size, 0, none⟩), .int .u64 150] 81)).cell? ⟨8, 0, none⟩ = some (.iface 94 (.agg #[.pointer (some ⟨9, 29, none⟩)])) := by
    rw [World.cell?_alloc_lt _ _ ⟨8, 0, none⟩ (by simp; omega), World.cell?_alloc_lt _ _ ⟨8, 0, none⟩ hlt]; exact hg
  have htl : t.block < w.heap.size := World.block_lt_of_cell? w _ ht0
  have el := as_elemVT ⟨w.heap.size, 0, none⟩ t (((w.alloc (.cells #[.pointer (some t)] 71)).alloc (.cells #[.pointer (some ⟨9, 71, none⟩), .pointer (some ⟨w.heap.size, 0, none⟩), .int .u64 150] 81)).alloc (.cells #[.pointer (some ⟨9, 71, none⟩), .pointer (some ⟨w.heap.size, 0, none⟩), .int .u64 150] 81)) (by rw [World.cell?_alloc_lt _ _ ⟨w.heap.size, 0, none⟩ (by simp; omega)]; simp)
  have st := as_setF t ⟨w.heap.size + 1 + 1 + 1, 0, none⟩ e old ((((w.alloc (.cells #[.pointer (some t)] 71)).alloc (.cells #[.pointer (some ⟨9, 71, none⟩), .pointer (some ⟨w.heap.size, 0, none⟩), .int .u64 150] 81)).alloc (.cells #[.pointer (some ⟨9, 71, none⟩), .pointer (some ⟨w.heap.size, 0, none⟩), .int .u64 150] 81)).alloc (.cells #[.pointer (some e)] 69))
    (by rw [World.cell?_alloc_at _ _ _ _ (by simp)]; rfl)
    (by rw [World.cell?_alloc_lt _ _ t (by simp; omega), World.cell?_alloc_lt _ _ t (by simp; omega), World.cell?_alloc_lt _ _ t (by simp; omega), World.cell?_alloc_lt _ _ t htl]; exact ht0)
    (by rw [World.frozen?_alloc_old _ _ t (by simp; omega), World.frozen?_alloc_old _ _ t (by simp; omega), World.frozen?_alloc_old _ _ t (by simp; omega), World.frozen?_alloc_old _ _ t (Nat.ne_of_lt htl)]; exact hf0)
  go_enter Tryd.func38, Tryd.ntmps38
  go_wp2
  refine wp_loop_rounds 1 ?_
  rw [rounds_succ]
  go_wp2
  go_ret
  exact ⟨rfl, rfl⟩
end Go.Proofs.YtehheklbibocjaaDoor

/- The walks of plain.Code and coded. Condition: the variables read as laid. -/
namespace Go.Proofs.YtehheklbibocjaaDoor
open Go.RowKit Go.Deep

def codes : List Nat := [1, 2, 3, 4, 5, 6, 7, 8]
theorem mem_codes {c : Nat} (h1 : 1 ≤ c) (h8 : c ≤ 8) : c ∈ codes := by
  unfold codes
  simp
  omega

theorem code_nil (w : World) : Calls Tryd.prog 30 #[.nilIface] w fun e w' => e = .returned (.tuple #[.int .i64 0, .int .i64 (-1)]) ∧ w = w' := by
  go_enter Tryd.func30, Tryd.ntmps30
  go_wp2
  go_ret2
  exact ⟨rfl, rfl⟩

set_option maxHeartbeats 4000000 in
theorem code_sent (w : World) (a : Nat → Addr) (hS : Sent codes w a) (hH : Handle w) (c : Nat) (h1 : 1 ≤ c) (h8 : c ≤ 8) :
    Calls Tryd.prog 30 #[.iface 108 (.pointer (some (a c)))] w fun e w' => e = .returned (.tuple #[.int .i64 c, .int .i64 (-1)]) ∧ Below w.heap.size w w' := by
  have has := as_sent (a c) ⟨w.heap.size, 0, none⟩ (w.alloc (.cells #[.pointer none] 69)) (hH.below (below_alloc' (Below.refl _ _) _))
  have HAS := hide has
  clear has
  have hn := fun X => run_eql_iface_nil_left (P := Tryd.prog) X 108 (.pointer (some (a c))) Tryd.underlying29
  go_enter Tryd.func30, Tryd.ntmps30
  go_wp2_with
    (go_at_call 38
     refine HAS.out.mono ?_
     rintro e w1 ⟨rfl, hb1⟩
     have hS1 := hS.below (below_trans (below_alloc' (Below.refl _ _) (.cells #[.pointer none] 69)) hb1)
     have e1 := hS1.cell 1 (by decide)
     have e2 := hS1.cell 2 (by decide)
     have e3 := hS1.cell 3 (by decide)
     have e4 := hS1.cell 4 (by decide)
     have e5 := hS1.cell 5 (by decide)
     have e6 := hS1.cell 6 (by decide)
     have e7 := hS1.cell 7 (by decide)
     have e8 := hS1.cell 8 (by decide)
     simp only [glob] at e1 e2 e3 e4 e5 e6 e7 e8)
  clear e1 e2 e3 e4 e5 e6 e7 e8
  have hB0 : Below w.heap.size w w1 := below_trans (below_alloc' (Below.refl _ _) (.cells #[.pointer none] 69)) hb1
  clear hb1
  go_loopw [3, 26] (fun at3 i wr => ∃ k : Nat, k < c ∧ i = .int .i64 k ∧ at3 = .int .i64 (-1) ∧ Below (w1.heap.size + 1) (w1.alloc (.cells #[.iface 108 (.pointer (some (a 1))), .iface 108 (.pointer (some (a 2))), .iface 108 (.pointer (some (a 3))), .iface 108 (.pointer (some (a 4))), .iface 108 (.pointer (some (a 5))), .iface 108 (.pointer (some (a 6))), .iface 108 (.pointer (some (a 7))), .iface 108 (.pointer (some (a 8)))] 29)) wr) (fun _ i _ => 8 - (intOf i).toNat)
  case atStart => exact ⟨0, by omega, rfl, rfl, Below.refl _ _⟩
  case round =>
    obtain ⟨k, hk, rfl, rfl, hB⟩ := hrel
    have hcell : wr.cell? ⟨w1.heap.size, k, none⟩ = some (.iface 108 (.pointer (some (a (k + 1))))) := by
      rw [hB.cell (p := ⟨w1.heap.size, k, none⟩) (by show w1.heap.size < _; omega), World.cell?_alloc_at _ _ _ _ rfl]
      have hk8 : k < 8 := by omega
      clear hk hB
      match k, hk8 with
      | 0, _ => rfl
      | 1, _ => rfl
      | 2, _ => rfl
      | 3, _ => rfl
      | 4, _ => rfl
      | 5, _ => rfl
      | 6, _ => rfl
      | 7, _ => rfl
    have hSr : Sent codes wr a := hS.below (below_trans (below_alloc' hB0 _) (hB.mono (by simp)))
    have his := is_sent wr a hSr c (k + 1) (mem_codes h1 h8) (mem_codes (by omega) (by omega))
    by_cases e : c = k + 1
    · rw [decide_eq_true e] at his
      have HIS := hide his
      clear his
      have HE := hide e
      clear e
      go_wp2_with (go_at_call 39; refine HIS.out.mono ?_; rintro e w2 ⟨rfl, rfl⟩)
      go_ret2
      refine ⟨?_, ?_⟩
      · have := HE.out
        subst this
        rfl
      · exact (below_alloc' hB0 _).trans (hB.mono (by have := hB0.size; omega))
    · rw [decide_eq_false e] at his
      have HIS := hide his
      clear his
      have hk2 : k + 1 < c := by omega
      clear e
      go_wp2_with (go_at_call 39; refine HIS.out.mono ?_; rintro e w2 ⟨rfl, rfl⟩)
      go_roundw
      case rel => exact ⟨k + 1, hk2, by go_num, rfl, hB⟩
      case measure => simp [intOf]; omega

set_option maxHeartbeats 4000000 in
theorem code_fault (w : World) (a : Nat → Addr) (hS : Sent codes w a) (hH : Handle w) (c : Nat) (h1 : 1 ≤ c) (h8 : c ≤ 8) (pb po : Nat) (at_ : Int) (hpb : pb < w.heap.size) (hat : w.cell? ⟨pb, po, none⟩ = some (.int .i64 at_)) (herr : w.cell? ⟨pb, po + 1, none⟩ = some (.iface 108 (.pointer (some (a c))))) :
    Calls Tryd.prog 30 #[.iface 69 (.pointer (some ⟨pb, po, none⟩))] w fun e w' => e = .returned (.tuple #[.int .i64 c, .int .i64 at_]) ∧ Below w.heap.size w w' := by
  have has := as_fault ⟨pb, po, none⟩ ⟨w.heap.size, 0, none⟩ (.pointer none) (w.alloc (.cells #[.pointer none] 69)) (hH.below (below_alloc' (Below.refl _ _) _)) (by simp) (by simp)
  have HAS := hide has
  clear has
  have hn := fun X => run_eql_iface_nil_left (P := Tryd.prog) X 69 (.pointer (some ⟨pb, po, none⟩)) Tryd.underlying29
  go_enter Tryd.func30, Tryd.ntmps30
  go_wp2_with
    (go_at_call 38
     refine HAS.out.mono ?_
     rintro e w1 ⟨rfl, hw1⟩
     have hB0 : Below w.heap.size w w1 := by
       rw [hw1]
       refine Below.setCell ?_ (by simp) _
       exact below_alloc' (below_alloc' (below_alloc' (below_alloc' (below_alloc' (Below.refl _ _) _) _) _) _) _
     have hf1 : w1.cell? ⟨w.heap.size, 0, none⟩ = some (.pointer (some ⟨pb, po, none⟩)) := by
       rw [hw1, World.cell?_setCell_same (u := .pointer none)]
       rw [World.cell?_alloc_lt _ _ ⟨w.heap.size, 0, none⟩ (by simp; omega), World.cell?_alloc_lt _ _ ⟨w.heap.size, 0, none⟩ (by simp; omega), World.cell?_alloc_lt _ _ ⟨w.heap.size, 0, none⟩ (by simp; omega), World.cell?_alloc_lt _ _ ⟨w.heap.size, 0, none⟩ (by simp)]
       simp
     clear hw1
     have hat1 : w1.cell? ⟨pb, po, none⟩ = some (.int .i64 at_) := (hB0.cell (p := ⟨pb, po, none⟩) hpb).trans hat
     have hS1 := hS.below hB0
     have e1 := hS1.cell 1 (by decide)
     have e2 := hS1.cell 2 (by decide)
     have e3 := hS1.cell 3 (by decide)
     have e4 := hS1.cell 4 (by decide)
     have e5 := hS1.cell 5 (by decide)
     have e6 := hS1.cell 6 (by decide)
     have e7 := hS1.cell 7 (by decide)
     have e8 := hS1.cell 8 (by decide)
     simp only [glob] at e1 e2 e3 e4 e5 e6 e7 e8)
  clear e1 e2 e3 e4 e5 e6 e7 e8
  go_loopw [3, 26] (fun at3 i wr => ∃ k : Nat, k < c ∧ i = .int .i64 k ∧ at3 = .int .i64 at_ ∧ Below (w1.heap.size + 1) (w1.alloc (.cells #[.iface 108 (.pointer (some (a 1))), .iface 108 (.pointer (some (a 2))), .iface 108 (.pointer (some (a 3))), .iface 108 (.pointer (some (a 4))), .iface 108 (.pointer (some (a 5))), .iface 108 (.pointer (some (a 6))), .iface 108 (.pointer (some (a 7))), .iface 108 (.pointer (some (a 8)))] 29)) wr) (fun _ i _ => 8 - (intOf i).toNat)
  case atStart => exact ⟨0, by omega, rfl, rfl, Below.refl _ _⟩
  case round =>
    obtain ⟨k, hk, rfl, rfl, hB⟩ := hrel
    have hcell : wr.cell? ⟨w1.heap.size, k, none⟩ = some (.iface 108 (.pointer (some (a (k + 1))))) := by
      rw [hB.cell (p := ⟨w1.heap.size, k, none⟩) (by show w1.heap.size < _; omega), World.cell?_alloc_at _ _ _ _ rfl]
      have hk8 : k < 8 := by omega
      clear hk hB
      match k, hk8 with
      | 0, _ => rfl
      | 1, _ => rfl
      | 2, _ => rfl
      | 3, _ => rfl
      | 4, _ => rfl
      | 5, _ => rfl
      | 6, _ => rfl
      | 7, _ => rfl
    have hSr : Sent codes wr a := hS.below (below_trans (below_alloc' hB0 _) (hB.mono (by simp)))
    have herr1 : wr.cell? ⟨pb, po + 1, none⟩ = some (.iface 108 (.pointer (some (a c)))) := ((below_trans (below_alloc' hB0 _) (hB.mono (by simp))).cell (p := ⟨pb, po + 1, none⟩) hpb).trans herr
    have his := is_fault wr a hSr pb po c (k + 1) (mem_codes h1 h8) (mem_codes (by omega) (by omega)) herr1
    clear herr1
    by_cases e : c = k + 1
    · rw [decide_eq_true e] at his
      have HIS := hide his
      clear his
      have HE := hide e
      clear e
      go_wp2_with (go_at_call 39; refine HIS.out.mono ?_; rintro e w2 ⟨rfl, rfl⟩)
      go_ret2
      refine ⟨?_, ?_⟩
      · have := HE.out
        subst this
        rfl
      · exact (below_alloc' hB0 _).trans (hB.mono (by have := hB0.size; omega))
    · rw [decide_eq_false e] at his
      have HIS := hide his
      clear his
      have hk2 : k + 1 < c := by omega
      clear e
      go_wp2_with (go_at_call 39; refine HIS.out.mono ?_; rintro e w2 ⟨rfl, rfl⟩)
      go_roundw
      case rel => exact ⟨k + 1, hk2, by go_num, rfl, hB⟩
      case measure => simp [intOf]; omega

set_option maxHeartbeats 1000000 in
/-- coded: is the error's code this one? -/
theorem coded_any (w : World) (a : Nat → Addr) (hS : Sent codes w a) (hH : Handle w) (c : Nat) (hc : c ≤ 8) (x : Int) :
    Calls Tryd.prog 14 #[errC a c, .int .i64 x] w fun e w' => e = .returned (.bool (decide ((c : Int) = x))) ∧ Below w.heap.size w w' := by
  by_cases h0 : c = 0
  · subst h0
    have e0 : errC a ((0 : Nat) : Int) = .nilIface := rfl
    rw [e0]
    by_cases hx : x = 0
    · subst hx
      go_enter Tryd.func14, Tryd.ntmps14
      go_wp2_with (go_at_call 30; refine (code_nil _).mono ?_; rintro e w' ⟨rfl, rfl⟩)
      go_ret
      exact ⟨rfl, Below.refl _ _⟩
    · have h1 : (0 == x) = false := by simpa using fun h : 0 = x => hx h.symm
      have h2 : decide (((0 : Nat) : Int) = x) = false := decide_eq_false (fun h => hx h.symm)
      rw [h2]
      clear hx h2
      go_enter Tryd.func14, Tryd.ntmps14
      go_wp2_with (go_at_call 30; refine (code_nil _).mono ?_; rintro e w' ⟨rfl, rfl⟩)
      go_ret
      exact ⟨rfl, Below.refl _ _⟩
  · have e0 : errC a (c : Int) = .iface 108 (.pointer (some (a c))) := by unfold errC; rw [if_neg (by omega)]; rfl
    rw [e0]
    have hcode := code_sent w a hS hH c (by omega) hc
    have HC := hide hcode
    clear hcode e0 h0
    generalize a c = a0 at HC ⊢
    have hcc : ∃ y : Int, y = (c : Int) := ⟨_, rfl⟩
    obtain ⟨y, hy⟩ := hcc
    rw [← hy] at HC ⊢
    clear hy hc
    by_cases hx : y = x
    · subst hx
      rw [decide_eq_true rfl]
      go_enter Tryd.func14, Tryd.ntmps14
      go_wp2_with (go_at_call 30; refine HC.out.mono ?_; rintro e w' ⟨rfl, hb⟩)
      go_ret
      exact ⟨rfl, hb⟩
    · have h1 : (y == x) = false := by simpa using hx
      rw [decide_eq_false hx]
      clear hx
      go_enter Tryd.func14, Tryd.ntmps14
      go_wp2_with (go_at_call 30; refine HC.out.mono ?_; rintro e w' ⟨rfl, hb⟩)
      go_ret
      exact ⟨rfl, hb⟩
end Go.Proofs.YtehheklbibocjaaDoor

/- What a row's list of laid variables gives a walk: the sentinels' cells, their blocks, none twice, and the handle of the type error; the closing of a law's row. No condition. -/
namespace Go.Proofs.YtehheklbibocjaaDoor
open Go.ChangeShapes Go.WideShapes Go.RowKit

theorem tr_own : ownKnob Tryd.prog.godebug = none := by kernel_rfl
theorem tr_laidOut : laidOutB Tryd.prog = true := by kernel_rfl
theorem tr_star : "*" ++ "errors.errorString" = "*errors.errorString" := by decide
theorem tr_row (u : TypeId) (h : Tryd.prog.typeName? 3 u = some "*errors.errorString") : u = 108 :=
  typeName_ptr_named (nm := "errors.errorString") (by rw [tr_star]; kernel_rfl) (by kernel_rfl) (by decide) u (by rw [tr_star]; exact h)
theorem tr_cells1 : Tryd.prog.cellsOf 131 = 1 := by kernel_rfl
theorem tr_cells2 : Tryd.prog.cellsOf 9 = 1 := by kernel_rfl

/-- a sentinel's datum -/
def sdat (x : String × List UInt8) : String × DataW Unit := (x.1, .iface "*errors.errorString" (.ptr (.agg [.lit (.string x.2)])))

theorem sents_gen {P : Program} {nm : String} {ti tp te ts : TypeId} {ms : Array (String × TypeId)} {f : Field} (hi : P.underlying ti = some (.interface ms)) (hrow : ∀ u, P.typeName? 3 u = some nm → u = tp)
    (hp : P.underlying tp = some (.pointer te)) (he : P.underlying te = some (.struct #[f])) (hft : f.type = ts) (hfo : f.offset = 0) (hs : P.underlying ts = some .string) (hc : P.cellsOf te = 1) (hcs : P.cellsOf ts = 1) {W : World} :
    ∀ (L : List (String × List UInt8)) (ps : List MemPlace), DataW.LaidVars P W (L.map fun x => (x.1, .iface nm (.ptr (.agg [.lit (.string x.2)])))) ps → ps.Nodup →
    (∀ b off, MemPlace.cell b off ∈ ps → (∃ c t, W.heap[b]? = some (.cells c t (0, 0))) ∧ ∀ u v, W.cell? ⟨b, off, none⟩ = some (.iface u v) → Value.okWide P W .any 0 u v) →
    (∀ x, x ∈ L → ∃ g, P.globalNamed x.1 = some g ∧ (P.globals[g]?).map (·.type) = some ti) →
    ∃ bs : List Addr, bs.length = L.length ∧ bs.Nodup ∧ (∀ b, b ∈ bs → MemPlace.cell b.block b.off ∈ ps) ∧ ∀ i (hi : i < L.length) (hj : i < bs.length), W.var? P (L[i]).1 = some #[.iface tp (.pointer (some bs[i]))] ∧ ∃ c t, W.heap[(bs[i]).block]? = some (.cells c t (0, 0))
  | [], _, _, _, _, _ => ⟨[], rfl, List.nodup_nil, fun b h => absurd h (by simp), fun i hi _ => absurd hi (by simp)⟩
  | x :: L, ps, hv, hnd, hrows, hg => by
    obtain ⟨g0, t0, cs0, f0, p0, q0, hg0, ht0, hv0, hd0, hrest, e0⟩ := hv
    subst e0
    obtain ⟨g, hg1, ht1⟩ := hg x (List.mem_cons_self ..)
    obtain rfl := Option.some.inj (hg1.symm.trans hg0)
    obtain rfl := Option.some.inj (ht1.symm.trans ht0)
    have hqnd : q0.Nodup := List.Nodup.sublist (List.sublist_append_right _ _) hnd
    obtain ⟨bs, hlen, hbnd, hmem, hall⟩ := sents_gen hi hrow hp he hft hfo hs hc hcs L q0 hrest hqnd (fun b off hm => hrows b off (List.mem_append_right _ hm)) (fun y hy => hg y (List.mem_cons_of_mem _ hy))
    obtain ⟨l0⟩ := cs0
    have ok0 : ∀ u v, l0 = [.iface u v] → Value.okWide P W .any 0 u v := fun u v e => by
      subst e
      exact (hrows g 0 (by simp [MemPlace.row])).2 u v (by simpa using World.var?_cell hg0 hv0 0)
    obtain ⟨a0, s0, rfl, hc0, hs0, hz0, rfl⟩ := errorString_of_trod hi hrow hp he hft hfo hs hc hcs hd0 ok0
    have ha0 : MemPlace.cell a0.block a0.off ∈ MemPlace.row a0 1 := by simp [MemPlace.row]
    refine ⟨a0 :: bs, by simp [hlen], ?_, ?_, ?_⟩
    · refine List.nodup_cons.2 ⟨fun hin => ?_, hbnd⟩
      have h1 := hmem a0 hin
      exact (List.nodup_append.1 hnd).2.2 _ (List.mem_append_right _ ha0) _ h1 rfl
    · intro b hb
      rcases List.mem_cons.1 hb with rfl | hb
      · exact List.mem_append_left _ (List.mem_append_right _ ha0)
      · exact List.mem_append_right _ (hmem b hb)
    · intro i hi hj
      cases i with
      | zero => exact ⟨hv0, (hrows a0.block a0.off (List.mem_append_left _ (List.mem_append_right _ ha0))).1⟩
      | succ i => exact hall i (by simpa using hi) (by simpa using hj)

theorem sents_of_vars {W : World} (L : List (String × List UInt8)) (ps : List MemPlace) (h : DataW.LaidVars Tryd.prog W (L.map sdat) ps) (hnd : ps.Nodup)
    (hrows : ∀ b off, MemPlace.cell b off ∈ ps → (∃ c t, W.heap[b]? = some (.cells c t (0, 0))) ∧ ∀ u v, W.cell? ⟨b, off, none⟩ = some (.iface u v) → Value.okWide Tryd.prog W .any 0 u v)
    (hg : ∀ x, x ∈ L → ∃ g, Tryd.prog.globalNamed x.1 = some g ∧ (Tryd.prog.globals[g]?).map (·.type) = some 29) :
    ∃ bs : List Addr, bs.length = L.length ∧ bs.Nodup ∧ (∀ b, b ∈ bs → MemPlace.cell b.block b.off ∈ ps) ∧ ∀ i (hi : i < L.length) (hj : i < bs.length), W.var? Tryd.prog (L[i]).1 = some #[.iface 108 (.pointer (some bs[i]))] ∧ ∃ c t, W.heap[(bs[i]).block]? = some (.cells c t (0, 0)) :=
  sents_gen Tryd.underlying29 tr_row Tryd.underlying108 Tryd.underlying131 rfl rfl Tryd.underlying9 tr_cells1 tr_cells2 L ps h hnd hrows hg

def names8 : List (String × List UInt8) := [("demon/api.ErrText", [100, 101, 109, 111, 110, 58, 32, 116, 101, 120, 116]), ("demon/api.ErrBound", [100, 101, 109, 111, 110, 58, 32, 98, 111, 117, 110, 100]),
  ("demon/api.ErrShape", [100, 101, 109, 111, 110, 58, 32, 115, 104, 97, 112, 101]), ("demon/api.ErrZero", [100, 101, 109, 111, 110, 58, 32, 122, 101, 114, 111]), ("demon/api.ErrName", [100, 101, 109, 111, 110, 58, 32, 110, 97, 109, 101]),
  ("demon/api.ErrNone", [100, 101, 109, 111, 110, 58, 32, 110, 111, 110, 101]), ("demon/api.ErrOrder", [100, 101, 109, 111, 110, 58, 32, 111, 114, 100, 101, 114]), ("demon/api.ErrKind", [100, 101, 109, 111, 110, 58, 32, 107, 105, 110, 100])]
theorem glob1 : Tryd.prog.globalNamed "demon/api.ErrText" = some 2 := by kernel_rfl
theorem glob2 : Tryd.prog.globalNamed "demon/api.ErrBound" = some 0 := by kernel_rfl
theorem glob3 : Tryd.prog.globalNamed "demon/api.ErrShape" = some 1 := by kernel_rfl
theorem glob4 : Tryd.prog.globalNamed "demon/api.ErrZero" = some 3 := by kernel_rfl
theorem glob5 : Tryd.prog.globalNamed "demon/api.ErrName" = some 4 := by kernel_rfl
theorem glob6 : Tryd.prog.globalNamed "demon/api.ErrNone" = some 5 := by kernel_rfl
theorem glob7 : Tryd.prog.globalNamed "demon/api.ErrOrder" = some 6 := by kernel_rfl
theorem glob8 : Tryd.prog.globalNamed "demon/api.ErrKind" = some 7 := by kernel_rfl
theorem globT (g : Nat) (h : g ∈ [2, 0, 1, 3, 4, 5, 6, 7]) : (Tryd.prog.globals[g]?).map (·.type) = some 29 := by
  have e : ([2, 0, 1, 3, 4, 5, 6, 7].map fun g => (Tryd.prog.globals[g]?).map (·.type)) = List.replicate 8 (some 29) := by kernel_rfl
  have h1 : (Tryd.prog.globals[g]?).map (·.type) ∈ List.replicate 8 (some 29) := by rw [← e]; exact List.mem_map.2 ⟨g, h, rfl⟩
  exact (List.mem_replicate.1 h1).2

theorem names8_glob : ∀ x, x ∈ names8 → ∃ g, Tryd.prog.globalNamed x.1 = some g ∧ (Tryd.prog.globals[g]?).map (·.type) = some 29 := by
  intro x hx
  simp only [names8, List.mem_cons, List.not_mem_nil, or_false] at hx
  rcases hx with rfl | rfl | rfl | rfl | rfl | rfl | rfl | rfl
  · exact ⟨_, glob1, globT _ (by decide)⟩
  · exact ⟨_, glob2, globT _ (by decide)⟩
  · exact ⟨_, glob3, globT _ (by decide)⟩
  · exact ⟨_, glob4, globT _ (by decide)⟩
  · exact ⟨_, glob5, globT _ (by decide)⟩
  · exact ⟨_, glob6, globT _ (by decide)⟩
  · exact ⟨_, glob7, globT _ (by decide)⟩
  · exact ⟨_, glob8, globT _ (by decide)⟩

theorem list8 {α : Type} {l : List α} (h : l.length = 8) : ∃ a b c d e f g i, l = [a, b, c, d, e, f, g, i] := by
  match l, h with
  | [a, b, c, d, e, f, g, i], _ => exact ⟨a, b, c, d, e, f, g, i, rfl⟩
theorem list2 {α : Type} {l : List α} (h : l.length = 2) : ∃ a b, l = [a, b] := by
  match l, h with
  | [a, b], _ => exact ⟨a, b, rfl⟩

/-- the codes' places, out of eight -/
def at8 (a1 a2 a3 a4 a5 a6 a7 a8 : Addr) : Nat → Addr
  | 1 => a1 | 2 => a2 | 3 => a3 | 4 => a4 | 5 => a5 | 6 => a6 | 7 => a7 | _ => a8

theorem sent8 {W : World} (h : laidMet Tryd.prog (names8.map sdat) W) : ∃ a, Sent [1, 2, 3, 4, 5, 6, 7, 8] W a := by
  obtain ⟨ps, hv, hnd, hrows⟩ := h
  obtain ⟨bs, hlen, hbnd, _, hall⟩ := sents_of_vars names8 ps hv hnd hrows names8_glob
  obtain ⟨a1, a2, a3, a4, a5, a6, a7, a8, rfl⟩ := list8 hlen
  have x1 := hall 0 (by decide) (by simp)
  have x2 := hall 1 (by decide) (by simp)
  have x3 := hall 2 (by decide) (by simp)
  have x4 := hall 3 (by decide) (by simp)
  have x5 := hall 4 (by decide) (by simp)
  have x6 := hall 5 (by decide) (by simp)
  have x7 := hall 6 (by decide) (by simp)
  have x8 := hall 7 (by decide) (by simp)
  refine ⟨at8 a1 a2 a3 a4 a5 a6 a7 a8, ⟨⟨?_⟩, ?_, ?_⟩⟩
  · intro c hc
    simp only [List.mem_cons, List.not_mem_nil, or_false] at hc
    rcases hc with rfl | rfl | rfl | rfl | rfl | rfl | rfl | rfl
    · show W.cell? ⟨2, 0, none⟩ = some (.iface 108 (.pointer (some a1)))
      simpa using World.var?_cell glob1 x1.1 0
    · show W.cell? ⟨0, 0, none⟩ = some (.iface 108 (.pointer (some a2)))
      simpa using World.var?_cell glob2 x2.1 0
    · show W.cell? ⟨1, 0, none⟩ = some (.iface 108 (.pointer (some a3)))
      simpa using World.var?_cell glob3 x3.1 0
    · show W.cell? ⟨3, 0, none⟩ = some (.iface 108 (.pointer (some a4)))
      simpa using World.var?_cell glob4 x4.1 0
    · show W.cell? ⟨4, 0, none⟩ = some (.iface 108 (.pointer (some a5)))
      simpa using World.var?_cell glob5 x5.1 0
    · show W.cell? ⟨5, 0, none⟩ = some (.iface 108 (.pointer (some a6)))
      simpa using World.var?_cell glob6 x6.1 0
    · show W.cell? ⟨6, 0, none⟩ = some (.iface 108 (.pointer (some a7)))
      simpa using World.var?_cell glob7 x7.1 0
    · show W.cell? ⟨7, 0, none⟩ = some (.iface 108 (.pointer (some a8)))
      simpa using World.var?_cell glob8 x8.1 0
  · intro c hc
    simp only [List.mem_cons, List.not_mem_nil, or_false] at hc
    rcases hc with rfl | rfl | rfl | rfl | rfl | rfl | rfl | rfl
    · exact x1.2
    · exact x2.2
    · exact x3.2
    · exact x4.2
    · exact x5.2
    · exact x6.2
    · exact x7.2
    · exact x8.2
  · intro c hc d hd e
    clear hall x1 x2 x3 x4 x5 x6 x7 x8
    simp only [List.nodup_cons, List.mem_cons, List.not_mem_nil, or_false, not_or] at hbnd
    simp only [List.mem_cons, List.not_mem_nil, or_false] at hc hd
    rcases hc with rfl | rfl | rfl | rfl | rfl | rfl | rfl | rfl <;> rcases hd with rfl | rfl | rfl | rfl | rfl | rfl | rfl | rfl <;> first
      | rfl
      | (exfalso; simp only [at8] at e; simp_all)

theorem tr_et : Tryd.prog.globalNamed "errors.errorType" = some 8 := by kernel_rfl
theorem tr_rt : (Tryd.prog.cutTypes.find? (·.1 == "internal/reflectlite.rtype")).map (·.2) = some 94 := by kernel_rfl
theorem tr_size : Tryd.prog.types.size = 147 := by kernel_rfl
theorem tr_oneRow : ((List.range 147).filter fun t => Tryd.prog.rowNamed t [101, 114, 114, 111, 114]) = [29] := by kernel_rfl
theorem tr_handle : typeHandle Tryd.prog 29 = .pointer (some ⟨9, 29, none⟩) := by kernel_rfl

theorem handle_of_laid {W : World} (h : handlesMet Tryd.prog [("errors.errorType", Rows.laid_errors_errorType)] W) : Handle W := by
  obtain ⟨name, u, ty, e1, e2, e3, e4, e5⟩ := h _ (List.mem_singleton.2 rfl)
  have en : name = [101, 114, 114, 111, 114] := (Option.some.inj e1).symm
  subst en
  obtain rfl := Option.some.inj (tr_rt.symm.trans e2)
  have hm : ty ∈ (List.range 147).filter fun t => Tryd.prog.rowNamed t [101, 114, 114, 111, 114] := List.mem_filter.2 ⟨List.mem_range.2 (by rw [← tr_size]; exact e3), e4⟩
  rw [tr_oneRow] at hm
  obtain rfl := List.mem_singleton.1 hm
  rw [tr_handle] at e5
  have := World.var?_cell tr_et e5 0
  simpa [Handle] using this

/-- ALL NINE: what the list of a law with coded gives -/
theorem full_of_laid {W : World} (h : laidMetH Tryd.prog [("errors.errorType", Rows.laid_errors_errorType), ("demon/api.ErrText", Rows.laid_demon_api_ErrText), ("demon/api.ErrBound", Rows.laid_demon_api_ErrBound), ("demon/api.ErrShape", Rows.laid_demon_api_ErrShape), ("demon/api.ErrZero", Rows.laid_demon_api_ErrZero), ("demon/api.ErrName", Rows.laid_demon_api_ErrName), ("demon/api.ErrNone", Rows.laid_demon_api_ErrNone), ("demon/api.ErrOrder", Rows.laid_demon_api_ErrOrder), ("demon/api.ErrKind", Rows.laid_demon_api_ErrKind)] W) :
    ∃ a, Sent [1, 2, 3, 4, 5, 6, 7, 8] W a ∧ Handle W := by
  have h' : laidMet Tryd.prog (names8.map sdat) W ∧ handlesMet Tryd.prog [("errors.errorType", Rows.laid_errors_errorType)] W := h
  obtain ⟨a, ha⟩ := sent8 h'.1
  exact ⟨a, ha, handle_of_laid h'.2⟩

/-! ### the closing of a law's row -/
theorem trodAll_below {H : Type} {enc : TypeId × Value → H} {W W' : World} (hb : Below W.heap.size W W') :
    ∀ (ts : List TypeId) (vs : List Value) (ds : List (DataW H)) (ps : List MemPlace), (∀ t, t ∈ ts → Tryd.prog.readableRec t = true ∧ t < Tryd.prog.types.size) →
      DataW.TrodAll enc Tryd.prog W 0 (fun _ => true) true ts vs ds ps → (∀ x ∈ ps, x.block < W.heap.size) → DataW.TrodAll enc Tryd.prog W' 0 (fun b => decide (b < W.heap.size)) true ts vs ds ps
  | [], [], [], _, _, h, _ => h
  | t :: ts, v :: vs, d :: ds, ps, hr, h, hlt => by
    obtain ⟨p, q, h1, h2, rfl⟩ := h
    exact ⟨p, q, Below.trod tr_laidOut (hr t (List.mem_cons_self ..)).1 (hr t (List.mem_cons_self ..)).2 h1 hb (fun x hx => hlt x (List.mem_append_left _ hx)),
      trodAll_below hb ts vs ds q (fun u hu => hr u (List.mem_cons_of_mem _ hu)) h2 (fun x hx => hlt x (List.mem_append_right _ hx)), rfl⟩
  | [], [], _ :: _, _, _, h, _ => h.elim
  | [], _ :: _, [], _, _, h, _ => h.elim
  | [], _ :: _, _ :: _, _, _, h, _ => h.elim
  | _ :: _, [], [], _, _, h, _ => h.elim
  | _ :: _, [], _ :: _, _, _, h, _ => h.elim
  | _ :: _, _ :: _, [], _, _, h, _ => h.elim

/-- a law's call that gives true and leaves what was there: what its row asks behind it -/
theorem post_true {H : Type} {enc : TypeId × Value → H} {f : Func} {s : ChangeSpec} {W W' : World} {args : Array Value} {ds gs : List (DataW H)} {before : List MemPlace}
    (hf : f.resultTypes = #[4]) (hvars : s.vars = []) (hfn : (s.fn H (ds ++ gs)) = { results := [.lit (.bool true)], args := ds }) (hr : ∀ t, t ∈ f.params.toList → Tryd.prog.readableRec t = true ∧ t < Tryd.prog.types.size)
    (hW : DataW.Whole enc Tryd.prog f.params.toList s.vars false W args.toList ds gs before) (hb : Below W.heap.size W W') : s.post enc Tryd.prog f false true false false W args (.bool true) W' := by
  have hlt := hW.lt
  have hW' := hW
  obtain ⟨p, q, hA, hV, rfl, _, _⟩ := hW
  refine ⟨ds, gs, p ++ q, [], p, [], hW', ?_, ?_, ?_, hb.frame _, fun h => by cases h⟩
  · rw [hfn, hf]; exact trodAll_mk1 (shut_bool Tryd.underlying4 true)
  · rw [hfn]; exact trodAll_below hb _ _ _ _ hr hA (fun x hx => hlt x (List.mem_append_left _ hx))
  · rw [hfn, hvars]; rfl
end Go.Proofs.YtehheklbibocjaaDoor
