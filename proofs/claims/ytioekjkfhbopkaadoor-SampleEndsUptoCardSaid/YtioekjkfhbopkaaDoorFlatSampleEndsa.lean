/- Words, plain laws and walks behind the law SampleEnds, part 1. No condition. -/
import Derived.Test.YtioekjkfhbopkaaDoorPSampleDrawx0
import Derived.WalkKit
import Derived.Test.YtioekjkfhbopkaaDoorProg
import Derived.WalkSpells
import Derived.WalkLawsBesides
import Derived.BigQuiet
import Derived.Deep.QuietTactic
import Derived.Deep.OwnRows
import Derived.OwnWalk
import Derived.Laws.MakeOwn
import Derived.Laws.OwnMore
import Derived.Deep.LoopGhost
import Derived.Maps.AppendAt
import Derived.Deep.AppendLies
import Derived.RegionTactic
import Derived.Deep.Draws
import Derived.Test.YtioekjkfhbopkaaDoorWWords
import Derived.Test.YtioekjkfhbopkaaDoorWApart
import Derived.Test.YtioekjkfhbopkaaDoorPSampleDrawx3
import Derived.Test.YtioekjkfhbopkaaDoorPSamplePastx2
import Derived.Test.YtioekjkfhbopkaaDoorPSamplePastx3
import Derived.Test.YtioekjkfhbopkaaDoorPSamplePastx4

/- What the print gives of some functions. No condition. -/
namespace Go.Proofs.YtioekjkfhbopkaaDoor.PSampleDraw
open Go.RowKit Go.Proofs.YtioekjkfhbopkaaDoorW.PrintWords Go.Proofs.YtioekjkfhbopkaaDoorW.PrintLast Go.Proofs.YtioekjkfhbopkaaDoorW.PrintMore
attribute [local go_sem] max2_int min2_int max_two min_two max_three min_three max_four min_four   -- for this text's walks alone
set_option linter.unusedVariables false
set_option linter.unusedSimpArgs false

-- NOT PRINTED: function 55 (dist_list)

-- NOT PRINTED: function 36 (dist_Valid)

/-! ### dist_Total: function 63 -/
def dist_Total.l0 : Nat → Int → List Int → Int → Int → Option (Int)
  | 0, _, _, _, _ => none
  | k + 1, x3, x6, x7, x8 => if x8 < x7 then (if 0 ≤ x8 then (if x8 < (x6.length : Int) then (dist_Total.l0 k (wrap64 (x3 + (rd x6 x8))) x6 x7 (wrap64 (x8 + 1))) else (none)) else (none)) else (some x3)
def dist_Total.f (k : Nat) (l0 : List Int) : Option (Int) := dist_Total.l0 k 0 l0 (l0.length : Int) 0
theorem dist_Total.mono_l : ∀ k, (∀ y0 y1 y2 y3, LeO (dist_Total.l0 k y0 y1 y2 y3) (dist_Total.l0 (k + 1) y0 y1 y2 y3))
  | 0 => fun _ _ _ _ r h => by simp [dist_Total.l0] at h
  | k + 1 => by
    have ih0 := dist_Total.mono_l k
    · intro y0 y1 y2 y3
      unfold dist_Total.l0
      repeat' first
      | (with_reducible exact ih0 _ _ _ _)
      | (with_reducible exact LeO.refl _)
      | (with_reducible exact LeO.none _)
      | (with_reducible refine LeO.ite ?_ ?_)
      | (with_reducible refine LeO.bind ?_ (fun _ => ?_))
      | exact ih0 _ _ _ _
      | exact LeO.none _
      | refine LeO.ite ?_ ?_
      | refine LeO.bind ?_ (fun _ => ?_)
theorem dist_Total.mono : ∀ a0 k, LeO (dist_Total.f k a0) (dist_Total.f (k + 1) a0) := by
  intro a0 k
  have ih0 := dist_Total.mono_l k
  unfold dist_Total.f
  repeat' first
      | (with_reducible exact ih0 _ _ _ _)
      | (with_reducible exact LeO.refl _)
      | (with_reducible exact LeO.none _)
      | (with_reducible refine LeO.ite ?_ ?_)
      | (with_reducible refine LeO.bind ?_ (fun _ => ?_))
      | exact ih0 _ _ _ _
      | exact LeO.none _
      | refine LeO.ite ?_ ?_
      | refine LeO.bind ?_ (fun _ => ?_)
set_option maxHeartbeats 8000000 in
set_option maxRecDepth 100000 in
theorem dist_Total.calls (k : Nat) (A0 : Option Addr) (c0 : Nat) (l0 : List Int) (r : Int) (w : World) (hr0 : Kd.C (Kd.int .i64) w A0 l0.length l0) (hc0 : l0.length ≤ c0) (h : dist_Total.f k l0 = some r) :
    Calls Tryd.prog 63 #[.slice A0 l0.length c0] w fun e w' => e = .returned (.int .i64 r) ∧ Drawn0 w w' := by
  have HR0 := Aside0.mk hr0
  have HC0 := Aside0.mk hc0
  clear hr0 hc0
  have H : (dist_Total.l0 k 0 l0 (l0.length : Int) 0) = some r := h
  clear h
  have H' := Aside0.mk H
  clear H
  go_enter Tryd.func63, Tryd.ntmps63
  go_wp2
  go_loopg [3, 8] k (fun kq v3 v8 w' => ∃ (x3_1 : Int) (x8_1 : Int), v3 = .int .i64 x3_1 ∧ v8 = .int .i64 x8_1 ∧ Aside0 (dist_Total.l0 kq x3_1 l0 (l0.length : Int) x8_1 = some r) ∧ Aside0 (kq ≤ k) ∧ Drawn0 w w')
  case atStart => exact ⟨(0), (0), (by first | rfl | (simp; done) | (simp [*]; done)), (by first | rfl | (simp; done) | (simp [*]; done)), H', ⟨Nat.le_refl _⟩, by repeat (first | exact Drawn0.refl _ | apply Drawn0.step)⟩
  case round =>
    clear H'
    obtain ⟨x3_1, x8_1, rfl, rfl, HA, HK1, ⟨m1, rfl⟩⟩ := hrel
    cases gk with
    | zero => exact absurd HA.out (by simp [dist_Total.l0])
    | succ k1 =>
      have H := HA.out
      clear HA
      simp only [dist_Total.l0] at H
      by_cases c2 : x8_1 < (l0.length : Int)
      · rw [if_pos c2] at H
        have c2b0 : decide (x8_1 < (l0.length : Int)) = true := decide_eq_true c2
        clear c2
        by_cases c3 : 0 ≤ x8_1
        · rw [if_pos c3] at H
          have c3b0 : decide (0 ≤ x8_1) = true := decide_eq_true c3
          clear c3
          by_cases c4 : x8_1 < (l0.length : Int)
          · rw [if_pos c4] at H
            have c4b0 : decide (x8_1 < (l0.length : Int)) = true := decide_eq_true c4
            clear c4
            have H' := Aside0.mk H
            clear H
            have p105 : 0 ≤ (x8_1 : Int) := of_decide_eq_true (by first | (with_reducible assumption) | assumption)
            have q105 : x8_1 < (l0.length : Int) := of_decide_eq_true (by first | (with_reducible assumption) | assumption)
            obtain ⟨ad105, e105, hx105_0⟩ := Kd.at_int HR0.out x8_1 p105 q105
            cases e105
            replace p105 := eq_true p105
            replace q105 := eq_true q105
            go_wp2
            go_roundg k1
            case measure => have := HK1.out; omega
            case rel => exact ⟨(wrap64 (x3_1 + (rd l0 x8_1))), (wrap64 (x8_1 + 1)), (by first | rfl | (simp; done) | (simp [*]; done)), (by first | rfl | (simp; done) | (simp [*]; done)), H', ⟨by have := HK1.out; omega⟩, by repeat (first | exact Drawn0.refl _ | apply Drawn0.step)⟩
          · rw [if_neg c4] at H
            exact absurd H (by simp)
        · rw [if_neg c3] at H
          exact absurd H (by simp)
      · rw [if_neg c2] at H
        have c2b0 : decide (x8_1 < (l0.length : Int)) = false := decide_eq_false c2
        clear c2
        obtain rfl := Option.some.inj H
        go_wp2
        go_ret
        exact ⟨by first | rfl | (simp; done) | (simp [*]; done), by repeat (first | exact Drawn0.refl _ | apply Drawn0.step)⟩

/-! ### demonlaw4_ints: function 13 -/
def demonlaw4_ints.f (l0 : List Int) : Option (List Int) := if ([] : List Int).length + l0.length < 17592186044416 then (some (([] : List Int) ++ l0)) else (none)
set_option maxHeartbeats 8000000 in
set_option maxRecDepth 100000 in
theorem demonlaw4_ints.calls (A0 : Option Addr) (c0 : Nat) (l0 : List Int) (r : List Int) (w : World) (hr0 : Kd.C (Kd.int .i64) w A0 l0.length l0) (hc0 : l0.length ≤ c0) (h : demonlaw4_ints.f l0 = some r) :
    Calls Tryd.prog 13 #[.slice A0 l0.length c0] w fun e w' => ∃ v0_ : Value, e = .returned (v0_) ∧ Kd.R (Kd.int .i64) 3 w' w.heap.size (fun _ => True) v0_ r ∧ Below w.heap.size w w' := by
  have HR0 := Aside0.mk hr0
  have HC0 := Aside0.mk hc0
  clear hr0 hc0
  have HB := Aside0.mk (Below.refl w.heap.size w)
  have H : (if ([] : List Int).length + l0.length < 17592186044416 then (some (([] : List Int) ++ l0)) else (none)) = some r := h
  clear h
  by_cases c2 : ([] : List Int).length + l0.length < 17592186044416
  · rw [if_pos c2] at H
    have LMc2 := Aside0.mk c2
    clear c2
    obtain ⟨y112, hy112⟩ : ∃ y_ : List Int, y_ = (([] : List Int) ++ l0) := ⟨_, rfl⟩
    replace H : (some y112) = some r := by first | (rw [hy112]; with_reducible exact H) | (have H2_ := (Option.bind_some _ _).symm.trans H; rw [hy112]; with_reducible exact H2_) | (have H2_ := (Option.bind_some _ _).symm.trans H; with_reducible exact H2_) | with_reducible exact H | (rw [hy112]; exact H) | exact H
    have Ny112 := Aside0.mk hy112
    clear hy112
    obtain rfl := Option.some.inj H
    go_enter Tryd.func13, Tryd.ntmps13
    go_wp2_with (first | ((with_reducible refine gate_builtin (b := .append) (xs := #[.tmp 4, .tmp 5]) rfl ?_); at_builtin; refine Kd.R_append_rows (Kd.int .i64) (w0 := w) w.heap.size rfl (.tmp 4) (.tmp 5) 23 3 (.int .i64 0) 8 rfl Tryd.underlying23 info3 rfl (by decide) (by omega) (.slice none 0 0) ([] : List Int) l0 _ _ _ (fun _ => True) (fun _ => False) rfl rfl ?aO ?aR (fun _ _ h => h) (fun _ h => h.elim) ?aF ?aB ?aS ?aL ?_; (case aR => repeat (first | exact HR0.out | (with_reducible refine Kd.C_alloc ?_ _) | (with_reducible refine Kd.C_drewN ?_ _) | (with_reducible refine Kd.C_drew ?_))); (case aB => exact (by repeat (first | (with_reducible first | exact HB.out | apply below_alloc | apply pw_below_drewN | apply below_drew1) | exact HB.out))); (case aF => exact (fun _ _ => trivial)); (case aO => exact ((Kd.R_nil _ _ _ _ (fun _ => True)))); (case aS => exact (below_size (by repeat (first | (with_reducible first | exact HB.out | apply below_alloc | apply pw_below_drewN | apply below_drew1) | exact HB.out)))); (case aL => have := LMc2.out; omega); intro v113 w3 ho hb hg hat; rw [← Ny112.out] at ho; have n0_ := Aside0.mk (hb); have n1_ := Aside0.mk (ho); clear HB; have HB := n0_; have HO114 := n1_; clear n0_ n1_; clear ho hb hg hat))
    go_ret
    exact ⟨_, by first | rfl | (simp [errW_none, errW_some] <;> rfl) | (simp [*, errW_none, errW_some] <;> rfl), by (with_reducible repeat (first | apply Kd.R_alloc | apply Kd.R_drewN | apply Kd.R_drew)); exact HO114.out, by repeat (first | (with_reducible first | exact HB.out | apply below_alloc | apply pw_below_drewN | apply below_drew1) | exact HB.out)⟩
  · rw [if_neg c2] at H
    exact absurd H (by simp)

end Go.Proofs.YtioekjkfhbopkaaDoor.PSampleDraw

/- KNUTH and YAO's tree, plain: the leaves of each depth, what a walk along bits comes to; a walk never goes below the deepest leaves. No condition. -/
namespace Go.Proofs.YtioekjkfhbopkaaDoor

/-- the bit of 2^k of a number -/
def bitAt (x k : Nat) : Bool := decide (x / 2 ^ k % 2 = 1)
theorem mod_bit (x k : Nat) : x % 2 ^ (k + 1) = 2 ^ k * (if bitAt x k = true then 1 else 0) + x % 2 ^ k := by
  have h := Nat.mod_mul (x := x) (a := 2 ^ k) (b := 2)
  rw [Nat.pow_succ, h]
  have h2 : x / 2 ^ k % 2 = if bitAt x k = true then 1 else 0 := by
    unfold bitAt
    rcases Nat.mod_two_eq_zero_or_one (x / 2 ^ k) with e | e <;> rw [e] <;> rfl
  rw [h2, Nat.add_comm]
def modSum (l : List Nat) (m : Nat) : Nat := (l.map (· % m)).sum
theorem modSum_bit (l : List Nat) (k : Nat) : modSum l (2 ^ (k + 1)) = 2 ^ k * l.countP (bitAt · k) + modSum l (2 ^ k) := by
  induction l with
  | nil => rfl
  | cons x r ih =>
    unfold modSum at *
    rw [List.map_cons, List.sum_cons, ih, List.map_cons, List.sum_cons, mod_bit, List.countP_cons]
    by_cases h : bitAt x k = true
    · rw [if_pos h, Nat.mul_add]; omega
    · rw [if_neg h]; simp only [Nat.mul_zero, Nat.add_zero]; omega
theorem modSum_one (l : List Nat) : modSum l 1 = 0 := by
  induction l with
  | nil => rfl
  | cons x r ih =>
    unfold modSum at *
    rw [List.map_cons, List.sum_cons, ih, Nat.mod_one]
theorem modSum_big (l : List Nat) (m : Nat) (h : ∀ x, x ∈ l → x < m) : modSum l m = l.sum := by
  induction l with
  | nil => rfl
  | cons x r ih =>
    unfold modSum at *
    rw [List.map_cons, List.sum_cons, List.sum_cons, ih (fun y hy => h y (List.mem_cons_of_mem _ hy)), Nat.mod_eq_of_lt (h x (List.mem_cons_self ..))]
theorem le_sumN (l : List Nat) (x : Nat) (h : x ∈ l) : x ≤ l.sum := by
  induction l with
  | nil => cases h
  | cons y r ih =>
    rw [List.sum_cons]
    rcases List.mem_cons.1 h with e | e
    · omega
    · have := ih e
      omega

/-- how many leaves and nodes there are at a depth, of parts that make 2^D together -/
def cntAt (l : List Nat) (D d : Nat) : Nat := l.countP (bitAt · (D - d))
def nodesAt (l : List Nat) (D : Nat) : Nat → Nat
  | 0 => 1
  | d + 1 => 2 * (nodesAt l D d - cntAt l D d)
theorem nodes_mod (l : List Nat) (D : Nat) (h : l.sum = 2 ^ D) : ∀ d, d ≤ D → nodesAt l D d * 2 ^ (D - d) = modSum l (2 ^ (D - d + 1))
  | 0, _ => by
    rw [nodesAt, Nat.one_mul, Nat.sub_zero, modSum_big l _ (fun x hx => by
      have := le_sumN l x hx
      rw [h] at this
      rw [Nat.pow_succ]
      have : 0 < 2 ^ D := Nat.two_pow_pos D
      omega), h]
  | d + 1, hd => by
    have ih := nodes_mod l D h d (by omega)
    have hb := modSum_bit l (D - d)
    rw [hb] at ih
    have e : D - d = D - (d + 1) + 1 := by omega
    have e2 : nodesAt l D (d + 1) * 2 ^ (D - (d + 1)) = (nodesAt l D d - cntAt l D d) * 2 ^ (D - d) := by
      rw [nodesAt]
      conv => rhs; rw [e, Nat.pow_succ]
      generalize 2 ^ (D - (d + 1)) = q
      generalize nodesAt l D d - cntAt l D d = x
      rw [Nat.mul_comm 2 x, Nat.mul_assoc, Nat.mul_comm 2 q]
    rw [e2, ← e, Nat.sub_mul, ih]
    unfold cntAt
    rw [Nat.mul_comm (2 ^ (D - d))]
    omega
theorem cnt_le (l : List Nat) (D : Nat) (h : l.sum = 2 ^ D) (d : Nat) (hd : d ≤ D) : cntAt l D d ≤ nodesAt l D d := by
  have h1 := nodes_mod l D h d hd
  rw [modSum_bit] at h1
  have h2 : cntAt l D d * 2 ^ (D - d) ≤ nodesAt l D d * 2 ^ (D - d) := by
    rw [h1]
    unfold cntAt
    rw [Nat.mul_comm]
    omega
  exact Nat.le_of_mul_le_mul_right h2 (Nat.two_pow_pos _)
theorem nodes_deep (l : List Nat) (D : Nat) (h : l.sum = 2 ^ D) : nodesAt l D D = cntAt l D D := by
  have h1 := nodes_mod l D h D (Nat.le_refl _)
  rw [modSum_bit, Nat.sub_self, Nat.pow_zero, modSum_one] at h1
  unfold cntAt
  rw [Nat.sub_self]
  omega
/-- the places of the leaves of a depth -/
def leafs (l : List Nat) (D d : Nat) : List Nat := (List.range l.length).filter fun i => bitAt (l.getD i 0) (D - d)
theorem filter_range_count (p : Nat → Bool) (l : List Nat) : ∀ n, n ≤ l.length → ((List.range n).filter fun i => p (l.getD i 0)).length = (l.take n).countP p
  | 0, _ => rfl
  | n + 1, h => by
    have hn : n < l.length := by omega
    rw [List.range_succ, List.filter_append, List.length_append, filter_range_count p l n (by omega), List.take_succ_eq_append_getElem hn, List.countP_append]
    have e : l.getD n 0 = l[n] := by simp [List.getD_eq_getElem?_getD, hn]
    congr 1
    rw [List.filter_cons, List.countP_cons, e]
    cases p l[n] <;> rfl
theorem leafs_len (l : List Nat) (D d : Nat) : (leafs l D d).length = cntAt l D d := by
  have := filter_range_count (bitAt · (D - d)) l l.length (Nat.le_refl _)
  rw [List.take_length] at this
  exact this
/-- the walk: bits left, node, depth, bits used; the last part's leaves begin again -/
def drawB (l : List Nat) (D : Nat) : List Nat → Nat → Nat → Nat → Option (Nat × Nat)
  | [], v, d, used => if v < (leafs l D d).length ∧ (leafs l D d).getD v 0 + 1 < l.length then some ((leafs l D d).getD v 0, used) else none
  | b :: r, v, d, used => if v < (leafs l D d).length then (if (leafs l D d).getD v 0 + 1 < l.length then some ((leafs l D d).getD v 0, used) else drawB l D r b 1 (used + 1)) else drawB l D r (2 * (v - (leafs l D d).length) + b) (d + 1) (used + 1)
/-- a node that is there, and no leaf, is not at the last depth; what lies behind it is there -/
theorem next_node {l : List Nat} {D : Nat} (h : l.sum = 2 ^ D) {v d b : Nat} (hd : d ≤ D) (hv : v < nodesAt l D d) (hn : ¬ v < (leafs l D d).length) (hb : b ≤ 1) :
    d + 1 ≤ D ∧ 2 * (v - (leafs l D d).length) + b < nodesAt l D (d + 1) := by
  rw [leafs_len] at *
  have h1 : d ≠ D := by
    intro e
    subst e
    have := nodes_deep l d h
    omega
  refine ⟨by omega, ?_⟩
  rw [nodesAt]
  omega
end Go.Proofs.YtioekjkfhbopkaaDoor

/- The words of our walks: a slice that reads as a list of whole numbers, of pairs, of lists; what memory keeps; the sentinels' cells. No condition. -/
namespace Go.Proofs.YtioekjkfhbopkaaDoor
open Go.RowKit Go.Deep

theorem hide {p : Prop} (h : p) : Hid p := h

/-- the slice at A reads as the numbers l -/
structure Ints (w : World) (A : Option Addr) (l : List Int) : Prop where
  len : l.length ≤ 9223372036854775807
  at_ : ∀ i, i < l.length → ∃ b off, A = some ⟨b, off, none⟩ ∧ b < w.heap.size ∧ w.cell? ⟨b, off + i, none⟩ = some (.int .i64 (l.getD i 0))

/-- the slice at A reads as the pairs l -/
structure Pairs (w : World) (A : Option Addr) (l : List (Int × Int)) : Prop where
  len : l.length ≤ 9223372036854775807
  at_ : ∀ i, i < l.length → ∃ b off, A = some ⟨b, off, none⟩ ∧ b < w.heap.size ∧ w.cell? ⟨b, off + i * 2, none⟩ = some (.int .i64 (l.getD i (0, 0)).1) ∧ w.cell? ⟨b, off + i * 2 + 1, none⟩ = some (.int .i64 (l.getD i (0, 0)).2)

/-- the slice at A reads as the lists l -/
structure Lists (w : World) (A : Option Addr) (l : List (List Int)) : Prop where
  len : l.length ≤ 9223372036854775807
  at_ : ∀ i, i < l.length → ∃ b off A' c, A = some ⟨b, off, none⟩ ∧ b < w.heap.size ∧ w.cell? ⟨b, off + i, none⟩ = some (.slice A' (l.getD i []).length c) ∧ (l.getD i []).length ≤ c ∧ Ints w A' (l.getD i [])

theorem Ints.below {w w' : World} {A : Option Addr} {l : List Int} (h : Ints w A l) (hb : Below w.heap.size w w') : Ints w' A l :=
  ⟨h.len, fun i hi => by
    obtain ⟨b, off, e, h1, h2⟩ := h.at_ i hi
    exact ⟨b, off, e, Nat.lt_of_lt_of_le h1 hb.size, (hb.cell (p := ⟨b, off + i, none⟩) h1).trans h2⟩⟩
theorem Pairs.below {w w' : World} {A : Option Addr} {l : List (Int × Int)} (h : Pairs w A l) (hb : Below w.heap.size w w') : Pairs w' A l :=
  ⟨h.len, fun i hi => by
    obtain ⟨b, off, e, h1, h2, h3⟩ := h.at_ i hi
    exact ⟨b, off, e, Nat.lt_of_lt_of_le h1 hb.size, (hb.cell (p := ⟨b, off + i * 2, none⟩) h1).trans h2, (hb.cell (p := ⟨b, off + i * 2 + 1, none⟩) h1).trans h3⟩⟩
theorem Lists.below {w w' : World} {A : Option Addr} {l : List (List Int)} (h : Lists w A l) (hb : Below w.heap.size w w') : Lists w' A l :=
  ⟨h.len, fun i hi => by
    obtain ⟨b, off, A', c, e, h1, h2, h3, h4⟩ := h.at_ i hi
    exact ⟨b, off, A', c, e, Nat.lt_of_lt_of_le h1 hb.size, (hb.cell (p := ⟨b, off + i, none⟩) h1).trans h2, h3, h4.below hb⟩⟩
theorem Ints.nil (w : World) (A : Option Addr) : Ints w A [] := ⟨by simp, fun i h => absurd h (by simp)⟩
theorem Pairs.nil (w : World) (A : Option Addr) : Pairs w A [] := ⟨by simp, fun i h => absurd h (by simp)⟩
theorem Lists.nil (w : World) (A : Option Addr) : Lists w A [] := ⟨by simp, fun i h => absurd h (by simp)⟩

theorem below_then {B : Nat} {w w1 w2 : World} (h : Below B w w1) (hB : B ≤ w1.heap.size) (k : Below w1.heap.size w1 w2) : Below B w w2 :=
  h.trans (k.mono hB)
theorem below_trans {w w1 w2 : World} (h : Below w.heap.size w w1) (k : Below w1.heap.size w1 w2) : Below w.heap.size w w2 :=
  h.trans (k.mono h.size)
theorem below_drewN' {B : Nat} {a w : World} (h : Below B a w) (n : Nat) : Below B a (w.drewN n) := ⟨h.os, h.tape, h.output, h.size, h.block⟩
theorem below_alloc' {w W : World} (h : Below w.heap.size w W) (o : Obj) : Below w.heap.size w (W.alloc o) := h.alloc h.size o
theorem below_cells {B : Nat} {W w1 : World} (hb : Below B W w1) : (∀ b o, b < B → w1.cell? ⟨b, o, none⟩ = W.cell? ⟨b, o, none⟩) ∧ (∀ b o, b < B → w1.frozen? ⟨b, o, none⟩ = W.frozen? ⟨b, o, none⟩) :=
  ⟨fun b o h => hb.cell (p := ⟨b, o, none⟩) h, fun b o h => hb.frozen (p := ⟨b, o, none⟩) h⟩

theorem below_of_grown {W w1 : World} {v : Value} (hg : W.grownBy w1 v.ownBlock) (h : v.ownBlock = none) : Below W.heap.size W w1 :=
  ⟨hg.os, hg.tape, hg.output, hg.size, fun k hk => hg.block k hk (by rw [h]; simp)⟩

/-- a row known whole reads as the list of its numbers -/
theorem Ints.ofRow {w : World} {b n : Nat} {t : TypeId} {f : Nat → Int} (h : w.rowIs b t n (fun i => .int .i64 (f i))) (hn : n ≤ 9223372036854775807) : Ints w (some ⟨b, 0, none⟩) ((List.range n).map f) :=
  ⟨by simpa using hn, fun i hi => by
    have hi' : i < n := by simpa using hi
    refine ⟨b, 0, rfl, h.lt, ?_⟩
    have := h.cell hi'
    simpa [List.getD_eq_getElem?_getD, List.getElem?_map, List.getElem?_range hi'] using this⟩

/-- the number of the variable of an error's code -/
def glob : Nat → Nat
  | 1 => 2 | 2 => 0 | 3 => 1 | 4 => 5 | 5 => 6 | 6 => 3 | 7 => 4 | _ => 7
/-- the error value whose text lies at a -/
def errAt (a : Addr) : Value := .iface 160 (.pointer (some a))
/-- the error of a code -/
def errC (a : Nat → Addr) (c : Int) : Value := if c = 0 then .nilIface else errAt (a c.toNat)
theorem errC_zero (a : Nat → Addr) : errC a 0 = .nilIface := rfl
theorem errC_two (a : Nat → Addr) : errC a 2 = .iface 160 (.pointer (some (a 2))) := rfl
theorem errC_three (a : Nat → Addr) : errC a 3 = .iface 160 (.pointer (some (a 3))) := rfl
/-- the sentinels of the codes S hold errors at the places a -/
structure Env (S : List Nat) (w : World) (a : Nat → Addr) : Prop where
  cell : ∀ c, c ∈ S → w.cell? ⟨glob c, 0, none⟩ = some (.iface 160 (.pointer (some (a c))))
theorem Env.below {S : List Nat} {w w' : World} {a : Nat → Addr} (h : Env S w a) (hb : Below w.heap.size w w') : Env S w' a :=
  ⟨fun c hc => (hb.cell (p := ⟨glob c, 0, none⟩) (World.block_lt_of_cell? w _ (h.cell c hc))).trans (h.cell c hc)⟩
theorem Env.lt {S : List Nat} {w : World} {a : Nat → Addr} (h : Env S w a) {c : Nat} (hc : c ∈ S) : glob c < w.heap.size := World.block_lt_of_cell? w _ (h.cell c hc)
theorem Env.sub {S S' : List Nat} {w : World} {a : Nat → Addr} (h : Env S w a) (hs : ∀ c, c ∈ S' → c ∈ S) : Env S' w a := ⟨fun c hc => h.cell c (hs c hc)⟩
/-- a slice that reads as l, and no error -/
def RetIntsErr (l : List Int) (w : World) (e : Ending) (w' : World) : Prop :=
  ∃ A c, e = .returned (.tuple #[.slice A l.length c, .nilIface]) ∧ Ints w' A l ∧ l.length ≤ c ∧ Below w.heap.size w w'
/-- a slice that reads as l -/
def RetInts (l : List Int) (w : World) (e : Ending) (w' : World) : Prop :=
  ∃ A c, e = .returned (.slice A l.length c) ∧ Ints w' A l ∧ l.length ≤ c ∧ Below w.heap.size w w'
theorem ret_int {k : IntKind} {a b : Int} (h : a = b) : Ending.returned (.int k a) = .returned (.int k b) := by rw [h]
theorem ret_bool {a b : Bool} (h : a = b) : Ending.returned (.bool a) = .returned (.bool b) := by rw [h]
end Go.Proofs.YtioekjkfhbopkaaDoor

/- A slice that reads as a list of cells, nil let in; append onto a row of the call's own, the source nil, empty or not (lemmas that the kit's page extra-words offers for copying, laid into this seat's namespace; the last section is ours). No condition. -/
namespace Go.Proofs.YtioekjkfhbopkaaDoor
open Go.RowKit Go.Deep

theorem block_of_add (a : Addr) (n : Nat) : (a.add n).block = a.block := by unfold Addr.add; split <;> rfl
theorem add_of_add (a : Addr) (i j : Nat) : (a.add i).add j = a.add (i + j) := by
  unfold Addr.add
  by_cases hi : i = 0 <;> by_cases hj : j = 0 <;> simp [hi, hj, Nat.add_assoc]

def Reads (w : World) (B size : Nat) (A : Option Addr) (n : Nat) (xs : List Value) : Prop :=
  xs.length = n * size ∧ (0 < n → ∃ ad, A = some ad ∧ ad.block < B ∧ ∀ j u, xs[j]? = some u → w.cell? (ad.add j) = some u)

section
variable {w w' : World} {B B' size n : Nat} {A : Option Addr} {xs : List Value}
theorem Reads.none_ : Reads w B size A 0 [] := ⟨by simp, fun h => absurd h (by omega)⟩
theorem Reads.at_ {k : Nat} (h : Reads w B 1 A n xs) (hk : k < n) : ∃ ad u, A = some ad ∧ ad.block < B ∧ xs[k]? = some u ∧ w.cell? (ad.add k) = some u := by
  obtain ⟨ad, e, hb, hc⟩ := h.2 (by omega)
  have hl : k < xs.length := by have := h.1; omega
  exact ⟨ad, xs[k], e, hb, List.getElem?_eq_getElem hl, hc k _ (List.getElem?_eq_getElem hl)⟩
theorem Reads.keep (h : Reads w B size A n xs) (hk : ∀ p : Addr, p.block < B → w'.cell? p = w.cell? p) : Reads w' B size A n xs :=
  ⟨h.1, fun hn => by
    obtain ⟨ad, e, hb, hc⟩ := h.2 hn
    exact ⟨ad, e, hb, fun j u hu => (hk _ (by rw [block_of_add]; exact hb)).trans (hc j u hu)⟩⟩
theorem Reads.more (h : Reads w B size A n xs) (hB : B ≤ B') : Reads w B' size A n xs :=
  ⟨h.1, fun hn => by
    obtain ⟨ad, e, hb, hc⟩ := h.2 hn
    exact ⟨ad, e, by omega, hc⟩⟩
theorem Reads.below (h : Reads w B size A n xs) (hb : Below B w w') : Reads w' B size A n xs := h.keep fun _ hp => hb.cell hp
theorem Reads.drew (h : Reads w B size A n xs) : Reads w.drew B size A n xs := h
theorem Reads.drewN (h : Reads w B size A n xs) (k : Nat) : Reads (w.drewN k) B size A n xs := h
theorem Reads.alloc (h : Reads w B size A n xs) (hB : B ≤ w.heap.size) (o : Obj) : Reads (w.alloc o) B size A n xs := h.keep fun p hp => World.cell?_alloc_lt w o p (by omega)
theorem Reads.setCell (h : Reads w B size A n xs) {p : Addr} (hB : B ≤ p.block) (u : Value) : Reads (w.setCell p u) B size A n xs :=
  h.keep fun q hq => World.cell?_setCell_other w p q u (fun e => by subst e; omega)
theorem Reads.grown (h : Reads w B size A n xs) {row : Option Nat} (hg : w.grownBy w' row) (hB : B ≤ w.heap.size) (hr : ∀ g, row = some g → B ≤ g) : Reads w' B size A n xs :=
  h.keep fun p hp => World.cell?_of_block (hg.block p.block (by omega) (fun e => by have := hr _ e.symm; omega))
theorem Reads.cut (h : Reads w B size A n xs) {k cap : Nat} (hk : k ≤ n) (hc : n ≤ cap) :
    Reads w B size (if cap = k then A else A.map (·.add (k * size))) (n - k) (xs.drop (k * size)) := by
  refine ⟨by rw [List.length_drop, h.1, Nat.sub_mul], fun hn => ?_⟩
  obtain ⟨ad, rfl, hb, hcell⟩ := h.2 (by omega)
  rw [if_neg (by omega)]
  refine ⟨ad.add (k * size), rfl, by rw [block_of_add]; exact hb, fun j u hu => ?_⟩
  rw [add_of_add]
  exact hcell _ u (by rw [← hu, List.getElem?_drop])
theorem Reads.of_own {base : Nat} {e : TypeId} {c : Nat} (h : w.ownsRow base e size (.slice A n c) n xs) : Reads w w.heap.size size A n xs := by
  refine ⟨h.1, fun hn => ?_⟩
  obtain ⟨g, cap, hv, _, hlt⟩ := h.form hn
  have hA : A = some ⟨g, 0, none⟩ := by injection hv
  subst hA
  exact ⟨_, rfl, hlt, h.cells (g := g) rfl⟩
end
section
variable {P : Program} (w : World)

theorem run_append_of_nil (base : Nat) (t ty e : TypeId) (i : TypeInfo) (size : Nat) (ht : P.underlying t = some (.slice e)) (hi : P.info? e = some i)
    (v : Value) (n : Nat) (xs : List Value) (hown : w.ownsRow base e size v n xs) (c : Nat) : (Builtin.append_ #[t, t] ty #[v, .slice none 0 c]).run P w = .ok v w := by
  rcases hown.2 with ⟨rfl, rfl⟩ | ⟨g, cap, cur, rfl, _, _, hnc, _⟩
  · simp [Builtin.append_, run_underlying ht, sizeOf, typeInfo, hi, Builtin.lenOf, Builtin.firstCells]
  · simp [Builtin.append_, run_underlying ht, sizeOf, typeInfo, hi, Builtin.lenOf, Builtin.firstCells, hnc, storeCells]

theorem run_append_any (base : Nat) (t ty e : TypeId) (i : TypeInfo) (z : Value) (size bytes : Nat) (ht : P.underlying t = some (.slice e)) (hi : P.info? e = some i) (hz : i.zero = some z)
    (hsize : i.size = size) (hby : i.bytes = bytes) (hzs : z.cells.size = size) (hsz : 0 < size)
    (v : Value) (n : Nat) (xs : List Value) (hown : w.ownsRow base e size v n xs)
    (B : Nat) (A : Option Addr) (m c : Nat) (news : List Value) (hr : Reads w B size A m news) (h1 : ∀ u ∈ news, u.oneCell' = true)
    (h63 : n + m ≤ maxLen) (hbytes : (n + m) * bytes ≤ 140737488355328) (hbase : base ≤ w.heap.size) :
    ∃ v' w', (Builtin.append_ #[t, t] ty #[v, .slice A m c]).run P w = .ok v' w' ∧ w'.ownsRow base e size v' (n + m) (xs ++ news) ∧ w.grownBy w' v.ownBlock ∧
      (v'.ownBlock = v.ownBlock ∨ v'.ownBlock = some w.heap.size) := by
  rcases A with _ | ad
  · have hm : m = 0 := by
      rcases Nat.eq_zero_or_pos m with h0 | h0
      · exact h0
      · obtain ⟨ad, h, _⟩ := hr.2 h0
        cases h
    subst hm
    have hn : news = [] := List.eq_nil_of_length_eq_zero (by simpa using hr.1)
    subst hn
    exact ⟨v, w, run_append_of_nil w base t ty e i size ht hi v n xs hown c, by simpa using hown, World.grownBy.refl w _, .inl rfl⟩
  · have hcells : ∀ j u, news[j]? = some u → w.cell? (ad.add j) = some u := by
      intro j u hu
      rcases Nat.eq_zero_or_pos m with h0 | h0
      · subst h0
        have hn : news = [] := List.eq_nil_of_length_eq_zero (by simpa using hr.1)
        subst hn
        simp at hu
      · obtain ⟨ad', h, _, hc⟩ := hr.2 h0
        injection h with h
        subst h
        exact hc j u hu
    obtain ⟨v', w', hrun, h2, h3, _, h5⟩ := run_append_own_at (P := P) w base t ty e i z size bytes ht hi hz hsize hby hzs hsz v n xs hown ad m c news hr.1 hcells h1 h63 hbytes hbase
    exact ⟨v', w', hrun, h2, h3, h5⟩

theorem wp_append_any {o : Oper} {a : Act} {K : Act → World → Prop} {Q : Exit → Act → World → Prop} (s x : Operand) (t : TypeId)
    (ho : o.op = .call { callee := .builtin .append, args := #[s, x], argTypes := #[t, t] })
    (base : Nat) (e : TypeId) (i : TypeInfo) (z : Value) (size bytes : Nat) (ht : P.underlying t = some (.slice e)) (hi : P.info? e = some i) (hz : i.zero = some z)
    (hsize : i.size = size) (hby : i.bytes = bytes) (hzs : z.cells.size = size) (hsz : 0 < size)
    (v : Value) (n : Nat) (xs : List Value) (hs : a.eval s = v) (hown : w.ownsRow base e size v n xs)
    (B : Nat) (A : Option Addr) (m c : Nat) (news : List Value) (hx : a.eval x = .slice A m c) (hr : Reads w B size A m news) (h1 : ∀ u ∈ news, u.oneCell' = true)
    (h63 : n + m ≤ maxLen) (hbytes : (n + m) * bytes ≤ 140737488355328) (hbase : base ≤ w.heap.size)
    (h : ∀ v' w', w'.ownsRow base e size v' (n + m) (xs ++ news) → w.grownBy w' v.ownBlock → (v'.ownBlock = v.ownBlock ∨ v'.ownBlock = some w.heap.size) → K (a.put o.dst v') w') : o.wp P a w K Q := by
  obtain ⟨v', w', hrun, h2, h3, h4⟩ := run_append_any (P := P) w base t o.type e i z size bytes ht hi hz hsize hby hzs hsz v n xs hown B A m c news hr h1 h63 hbytes hbase
  unfold Oper.wp execOp
  simp only [ho, resolve, invoke, builtin, Sem.run_bind, Sem.run_pure, Result.andThen_ok, List.map_toArray, List.map_cons, List.map_nil, hs, hx, hrun]
  exact h v' w' h2 h3 h4

theorem wpList_append_any {ops : Array Oper} {rest : List Oper} {o : Oper} {a : Act} {Q : Exit → Act → World → Prop} (hgd : o.guard = none) (s x : Operand) (t : TypeId)
    (ho : o.op = .call { callee := .builtin .append, args := #[s, x], argTypes := #[t, t] })
    (base : Nat) (e : TypeId) (i : TypeInfo) (z : Value) (size bytes : Nat) (ht : P.underlying t = some (.slice e)) (hi : P.info? e = some i) (hz : i.zero = some z)
    (hsize : i.size = size) (hby : i.bytes = bytes) (hzs : z.cells.size = size) (hsz : 0 < size)
    (v : Value) (n : Nat) (xs : List Value) (hs : a.eval s = v) (hown : w.ownsRow base e size v n xs)
    (B : Nat) (A : Option Addr) (m c : Nat) (news : List Value) (hx : a.eval x = .slice A m c) (hr : Reads w B size A m news) (h1 : ∀ u ∈ news, u.oneCell' = true)
    (h63 : n + m ≤ maxLen) (hbytes : (n + m) * bytes ≤ 140737488355328) (hbase : base ≤ w.heap.size)
    (h : ∀ v' w', w'.ownsRow base e size v' (n + m) (xs ++ news) → w.grownBy w' v.ownBlock → (v'.ownBlock = v.ownBlock ∨ v'.ownBlock = some w.heap.size) → wpList P ops Q rest (a.put o.dst v') w') : wpList P ops Q (o :: rest) a w :=
  wpList_plain hgd fun _ hK => wp_append_any w s x t ho base e i z size bytes ht hi hz hsize hby hzs hsz v n xs hs hown B A m c news hx hr h1 h63 hbytes hbase fun v' w' h2 h3 h4 => hK _ _ (h v' w' h2 h3 h4)

theorem step_append_any {ops : Array Oper} {o : Oper} {a : Act} {K : Act → World → Prop} {Q : Exit → Act → World → Prop} {E : Prop} (hgd : o.guard = none) (s x : Operand) (t : TypeId)
    (ho : o.op = .call { callee := .builtin .append, args := #[s, x], argTypes := #[t, t] })
    (base : Nat) (e : TypeId) (i : TypeInfo) (z : Value) (size bytes : Nat) (ht : P.underlying t = some (.slice e)) (hi : P.info? e = some i) (hz : i.zero = some z)
    (hsize : i.size = size) (hby : i.bytes = bytes) (hzs : z.cells.size = size) (hsz : 0 < size)
    (v : Value) (n : Nat) (xs : List Value) (hs : a.eval s = v) (hown : w.ownsRow base e size v n xs)
    (B : Nat) (A : Option Addr) (m c : Nat) (news : List Value) (hx : a.eval x = .slice A m c) (hr : Reads w B size A m news) (h1 : ∀ u ∈ news, u.oneCell' = true)
    (h63 : n + m ≤ maxLen) (hbytes : (n + m) * bytes ≤ 140737488355328) (hbase : base ≤ w.heap.size)
    (h : ∀ v' w', w'.ownsRow base e size v' (n + m) (xs ++ news) → w.grownBy w' v.ownBlock → (v'.ownBlock = v.ownBlock ∨ v'.ownBlock = some w.heap.size) → K (a.put o.dst v') w') :
    if Region.wanted o (yielded ops a.tmps) = true then Oper.wp P o a w K Q else E := by
  have hw : Region.wanted o (yielded ops a.tmps) = true := by simp [Region.wanted, hgd]
  rw [if_pos hw]
  exact wp_append_any w s x t ho base e i z size bytes ht hi hz hsize hby hzs hsz v n xs hs hown B A m c news hx hr h1 h63 hbytes hbase h
end

/-! ### our own: from our readings to Reads, and from a row of the call's own to our readings -/
def intCells (l : List Int) : List Value := l.map (Value.int .i64)
def pairCells (l : List (Int × Int)) : List Value := l.flatMap fun p => [Value.int .i64 p.1, Value.int .i64 p.2]
theorem intCells_length (l : List Int) : (intCells l).length = l.length := by simp [intCells]
theorem pairCells_length (l : List (Int × Int)) : (pairCells l).length = l.length * 2 := by
  induction l with
  | nil => rfl
  | cons p l ih => simp only [pairCells, List.flatMap_cons, List.length_append, List.length_cons, List.length_nil] at ih ⊢; omega
theorem intCells_append (l m : List Int) : intCells (l ++ m) = intCells l ++ intCells m := by simp [intCells]
theorem pairCells_append (l m : List (Int × Int)) : pairCells (l ++ m) = pairCells l ++ pairCells m := by simp [pairCells]
theorem intCells_one (l : List Int) : ∀ u ∈ intCells l, u.oneCell' = true := by
  intro u hu
  simp only [intCells, List.mem_map] at hu
  obtain ⟨x, _, rfl⟩ := hu
  rfl
theorem pairCells_one (l : List (Int × Int)) : ∀ u ∈ pairCells l, u.oneCell' = true := by
  intro u hu
  simp only [pairCells, List.mem_flatMap] at hu
  obtain ⟨x, _, h⟩ := hu
  simp at h
  rcases h with rfl | rfl <;> rfl
theorem pairCells_at (l : List (Int × Int)) : ∀ i, i < l.length → (pairCells l)[i * 2]? = some (.int .i64 (l.getD i (0, 0)).1) ∧ (pairCells l)[i * 2 + 1]? = some (.int .i64 (l.getD i (0, 0)).2) := by
  induction l with
  | nil => intro i h; simp at h
  | cons p l ih =>
    intro i h
    cases i with
    | zero => exact ⟨rfl, rfl⟩
    | succ i =>
      have hi : i < l.length := by simpa using h
      have := ih i hi
      have e : pairCells (p :: l) = Value.int .i64 p.1 :: Value.int .i64 p.2 :: pairCells l := by simp [pairCells]
      rw [e, show (i + 1) * 2 = i * 2 + 1 + 1 from by omega, List.getElem?_cons_succ, List.getElem?_cons_succ, List.getElem?_cons_succ, List.getElem?_cons_succ, List.getD_cons_succ]
      exact this
theorem intCells_at (l : List Int) : ∀ i, i < l.length → (intCells l)[i]? = some (.int .i64 (l.getD i 0)) := by
  intro i h
  simp [intCells, List.getD_eq_getElem?_getD, h]
theorem addr_add (b o n : Nat) : (⟨b, o, none⟩ : Addr).add n = ⟨b, o + n, none⟩ := by
  unfold Addr.add
  by_cases h : n = 0
  · subst h; rfl
  · simp [h]
theorem Ints.reads {w : World} {A : Option Addr} {l : List Int} (h : Ints w A l) : Reads w w.heap.size 1 A l.length (intCells l) := by
  refine ⟨by rw [intCells_length]; omega, fun hn => ?_⟩
  obtain ⟨b, off, e, hb, _⟩ := h.at_ 0 hn
  refine ⟨⟨b, off, none⟩, e, hb, fun j u hu => ?_⟩
  have hj : j < l.length := by
    rcases Nat.lt_or_ge j l.length with h1 | h1
    · exact h1
    · rw [List.getElem?_eq_none (by rw [intCells_length]; exact h1)] at hu; cases hu
  obtain ⟨b', off', e', _, hc⟩ := h.at_ j hj
  rw [e] at e'
  injection e' with e'
  injection e' with e1 e2 e3
  subst e1; subst e2
  rw [intCells_at l j hj] at hu
  rw [addr_add]
  exact hc.trans hu
theorem Pairs.reads {w : World} {A : Option Addr} {l : List (Int × Int)} (h : Pairs w A l) : Reads w w.heap.size 2 A l.length (pairCells l) := by
  refine ⟨by rw [pairCells_length], fun hn => ?_⟩
  obtain ⟨b, off, e, hb, _⟩ := h.at_ 0 hn
  refine ⟨⟨b, off, none⟩, e, hb, fun j u hu => ?_⟩
  have hj : j < l.length * 2 := by
    rcases Nat.lt_or_ge j (l.length * 2) with h1 | h1
    · exact h1
    · rw [List.getElem?_eq_none (by rw [pairCells_length]; exact h1)] at hu; cases hu
  obtain ⟨b', off', e', _, hc1, hc2⟩ := h.at_ (j / 2) (by omega)
  rw [e] at e'
  injection e' with e'
  injection e' with e1 e2 e3
  subst e1; subst e2
  have hp := pairCells_at l (j / 2) (by omega)
  rw [addr_add]
  rcases Nat.mod_two_eq_zero_or_one j with h2 | h2
  · rw [show j = j / 2 * 2 from by omega] at hu ⊢
    rw [hp.1] at hu
    exact hc1.trans hu
  · rw [show j = j / 2 * 2 + 1 from by omega] at hu ⊢
    rw [hp.2] at hu
    exact hc2.trans hu
theorem own_shape {w : World} {base n : Nat} {e : TypeId} {size : Nat} {v : Value} {xs : List Value} (h : w.ownsRow base e size v n xs) : ∃ A c, v = .slice A n c ∧ n ≤ c ∧ n ≤ 9223372036854775807 := by
  rcases h.2 with ⟨rfl, rfl⟩ | ⟨g, cap, cur, rfl, _, _, h1, h2, _⟩
  · exact ⟨none, 0, rfl, Nat.le_refl _, by omega⟩
  · exact ⟨_, cap, rfl, h1, by simp only [maxLen] at h2; omega⟩
theorem Ints.own {w : World} {base c : Nat} {e : TypeId} {A : Option Addr} {l : List Int} (h : w.ownsRow base e 1 (.slice A l.length c) l.length (intCells l)) : Ints w A l := by
  obtain ⟨A', c', hv, _, hm⟩ := own_shape h
  refine ⟨hm, fun i hi => ?_⟩
  rcases h.2 with ⟨hn, h0⟩ | ⟨g, cap, cur, hv, hb, hh, h1, h2, _⟩
  · omega
  · injection hv with hA _ _
    subst hA
    refine ⟨g, 0, rfl, (Array.getElem?_eq_some_iff.1 hh).1, ?_⟩
    have := h.cells (g := g) rfl i _ (intCells_at l i hi)
    rw [addr_add] at this
    exact this
theorem Pairs.own {w : World} {base c : Nat} {e : TypeId} {A : Option Addr} {l : List (Int × Int)} (h : w.ownsRow base e 2 (.slice A l.length c) l.length (pairCells l)) : Pairs w A l := by
  obtain ⟨A', c', hv, _, hm⟩ := own_shape h
  refine ⟨hm, fun i hi => ?_⟩
  rcases h.2 with ⟨hn, h0⟩ | ⟨g, cap, cur, hv, hb, hh, h1, h2, _⟩
  · omega
  · injection hv with hA _ _
    subst hA
    refine ⟨g, 0, rfl, (Array.getElem?_eq_some_iff.1 hh).1, ?_, ?_⟩
    · have := h.cells (g := g) rfl (i * 2) _ (pairCells_at l i hi).1
      rw [addr_add] at this
      exact this
    · have := h.cells (g := g) rfl (i * 2 + 1) _ (pairCells_at l i hi).2
      rw [addr_add] at this
      rw [show 0 + i * 2 + 1 = 0 + (i * 2 + 1) from by omega]
      exact this
theorem nil_own (w : World) (base : Nat) (e : TypeId) (size : Nat) : w.ownsRow base e size (.slice none 0 0) 0 [] := ⟨by simp, .inl ⟨rfl, rfl⟩⟩

/-! ### append at the types of this seat -/
theorem int_info : (Tryd.prog.info? 3).map (fun i => (i.zero, i.size, i.bytes)) = some (some (.int .i64 0), 1, 8) := by kernel_rfl
/-- append of a slice of whole numbers onto a row of the call's own -/
theorem wp_app_ints (w : World) {ops : Array Oper} {rest : List Oper} {o : Oper} {a : Act} {Q : Exit → Act → World → Prop} (hgd : o.guard = none) (s x : Operand)
    (ho : o.op = .call { callee := .builtin .append, args := #[s, x], argTypes := #[23, 23] })
    (base : Nat) (v : Value) (l0 : List Int) (hs : a.eval s = v) (hown : w.ownsRow base 3 1 v l0.length (intCells l0))
    (A : Option Addr) (m c : Nat) (l : List Int) (hx : a.eval x = .slice A m c) (hm : m = l.length) (hr : Ints w A l)
    (hbytes : (l0.length + m) * 8 ≤ 140737488355328) (hbase : base ≤ w.heap.size)
    (h : ∀ A' c' w', (l0 ++ l).length ≤ c' → w'.ownsRow base 3 1 (.slice A' (l0 ++ l).length c') (l0 ++ l).length (intCells (l0 ++ l)) → w.grownBy w' v.ownBlock → ((Value.slice A' (l0 ++ l).length c').ownBlock = v.ownBlock ∨ (Value.slice A' (l0 ++ l).length c').ownBlock = some w.heap.size) →
      wpList Tryd.prog ops Q rest (a.put o.dst (.slice A' (l0 ++ l).length c')) w') : wpList Tryd.prog ops Q (o :: rest) a w := by
  obtain ⟨i0, hi0, hz0, hz1, hz2⟩ := info_parts int_info
  subst hm
  refine wpList_append_any w hgd s x _ ho base 3 i0 _ 1 8 Tryd.underlying23 hi0 hz0 hz1 hz2 rfl (by omega) v l0.length (intCells l0) hs hown w.heap.size A l.length c (intCells l) hx hr.reads (intCells_one l) (by simp only [maxLen]; omega) hbytes hbase ?_
  intro v' w' h1 h2 h3
  rw [← intCells_append, ← List.length_append] at h1
  obtain ⟨A', c', rfl, hc, _⟩ := own_shape h1
  exact h A' c' w' hc h1 h2 h3

/-! ### make([]int, n) -/
theorem wp_make_ints (w : World) {ops : Array Oper} {rest : List Oper} {o : Oper} {a : Act} {Q : Exit → Act → World → Prop}
    (hg : o.guard = none) (l c : Operand) (hop : o.op = Op.makeSlice 23 l c) (kl kc : IntKind) (n : Nat) (hl : a.eval l = .int kl (n : Int)) (hc : a.eval c = .int kc (n : Int)) (hn : n ≤ 35184372088832)
    (hK : ∀ w', w'.rowIs w.heap.size 3 n (fun _ => .int .i64 0) → Below w.heap.size w w' → w.heap.size < w'.heap.size → wpList Tryd.prog ops Q rest (a.put o.dst (.slice (some ⟨w.heap.size, 0, none⟩) n n)) w') :
    wpList Tryd.prog ops Q (o :: rest) a w := by
  obtain ⟨i0, hi0, hz0, hz1, hz2⟩ := info_parts int_info
  refine wpList_make_row w hg l c _ hop 3 i0 _ Tryd.underlying23 hi0 hz0 hz1 rfl kl kc n hl hc (by rw [hz2]; omega) (by omega) ?_
  exact hK _ (World.rowIs_made w _ n _) ((Below.refl _ _).alloc (Nat.le_refl _) _) (by simp)
end Go.Proofs.YtioekjkfhbopkaaDoor

/- Between our words for memory and those of the printed texts: a slice that reads as a list, a table. No condition. -/
namespace Go.Proofs.YtioekjkfhbopkaaDoor
open Go.RowKit Go.Deep Go.Proofs.YtioekjkfhbopkaaDoorW.PrintWords

theorem Ints.toC {w : World} {A : Option Addr} {l : List Int} (h : Ints w A l) : Kd.C (Kd.int .i64) w A l.length l := by
  refine ⟨rfl, h.len, fun hn => ?_⟩
  obtain ⟨b, off, rfl, _, _⟩ := h.at_ 0 hn
  refine ⟨_, rfl, fun j p hj => ⟨[.int .i64 p], rfl, rfl, fun i u hu => ?_⟩⟩
  have hjl : j < l.length := by
    rcases Nat.lt_or_ge j l.length with h1 | h1
    · exact h1
    · rw [List.getElem?_eq_none h1] at hj; cases hj
  obtain ⟨b', off', e, _, hc⟩ := h.at_ j hjl
  injection e with e
  injection e with e1 e2 _
  subst e1 e2
  have hi : i = 0 := by
    rcases Nat.eq_zero_or_pos i with h1 | h1
    · exact h1
    · rw [List.getElem?_eq_none (by simp; omega)] at hu; cases hu
  subst hi
  rw [addr_add]
  have hp : l.getD j 0 = p := by rw [List.getD_eq_getElem?_getD, hj]; rfl
  rw [hp] at hc
  simp at hu
  subst hu
  show w.cell? ⟨b, off + (j * 1 + 0), none⟩ = _
  rw [Nat.mul_one, Nat.add_zero]
  exact hc
theorem Ints.ofC {w : World} {g off : Nat} {l : List Int} (h : Kd.C (Kd.int .i64) w (some ⟨g, off, none⟩) l.length l) : Ints w (some ⟨g, off, none⟩) l :=
  ⟨h.2.1, fun i hi => by
    obtain ⟨ad, c, e, _, hK, hc⟩ := Kd.C_get h 0 i (by omega) (by omega)
    obtain rfl := Option.some.inj e
    have hK' : c = [.int .i64 (l.getD i 0)] := hK
    subst hK'
    have h1 := hc 0 _ rfl
    rw [addr_add] at h1
    have h2 : w.cell? ⟨g, off + i, none⟩ = some (.int .i64 (l.getD i 0)) := by
      have e1 : off + ((i : Int).toNat * (Kd.int IntKind.i64).sz + 0) = off + i := by
        show off + ((i : Int).toNat * 1 + 0) = off + i
        omega
      rw [e1] at h1
      exact h1
    exact ⟨g, off, rfl, World.block_lt_of_cell? w _ h2, h2⟩⟩
theorem Ints.ofR {w : World} {e base : Nat} {ok : Nat → Prop} {v : Value} {l : List Int} (h : Kd.R (Kd.int .i64) e w base ok v l) : ∃ A c, v = .slice A l.length c ∧ Ints w A l ∧ l.length ≤ c := by
  obtain ⟨A, c, rfl, hc, hC⟩ := Kd.R_reads h
  refine ⟨A, c, rfl, ?_, hc⟩
  rcases Nat.eq_zero_or_pos l.length with h0 | h0
  · rw [List.eq_nil_of_length_eq_zero h0]; exact Ints.nil w A
  · obtain ⟨g, cap, e1, _⟩ := Kd.R_form h h0
    injection e1 with e1
    subst e1
    exact Ints.ofC hC
theorem Lists.toC {w : World} {A : Option Addr} {l : List (List Int)} (h : Lists w A l) : Kd.C (Kd.slice 3 (Kd.int .i64)) w A l.length l := by
  refine ⟨rfl, h.len, fun hn => ?_⟩
  obtain ⟨b, off, _, _, rfl, _⟩ := h.at_ 0 hn
  refine ⟨_, rfl, fun j p hj => ?_⟩
  have hjl : j < l.length := by
    rcases Nat.lt_or_ge j l.length with h1 | h1
    · exact h1
    · rw [List.getElem?_eq_none h1] at hj; cases hj
  obtain ⟨b', off', A', c, e, _, hc, hle, hI⟩ := h.at_ j hjl
  injection e with e
  injection e with e1 e2 _
  subst e1 e2
  have hp : l.getD j [] = p := by rw [List.getD_eq_getElem?_getD, hj]; rfl
  rw [hp] at hc hle hI
  refine ⟨[.slice A' p.length c], rfl, ⟨A', c, rfl, hle, hI.toC⟩, fun i u hu => ?_⟩
  have hi : i = 0 := by
    rcases Nat.eq_zero_or_pos i with h1 | h1
    · exact h1
    · rw [List.getElem?_eq_none (by simp; omega)] at hu; cases hu
  subst hi
  simp at hu
  subst hu
  rw [addr_add]
  show w.cell? ⟨b, off + (j * 1 + 0), none⟩ = _
  rw [Nat.mul_one, Nat.add_zero]
  exact hc
theorem Lists.ofR {w : World} {e base : Nat} {ok : Nat → Prop} {v : Value} {l : List (List Int)} (h : Kd.R (Kd.slice 3 (Kd.int .i64)) e w base ok v l) : ∃ A c, v = .slice A l.length c ∧ Lists w A l ∧ l.length ≤ c := by
  obtain ⟨A, c, rfl, hc, hC⟩ := Kd.R_reads h
  refine ⟨A, c, rfl, ?_, hc⟩
  rcases Nat.eq_zero_or_pos l.length with h0 | h0
  · rw [List.eq_nil_of_length_eq_zero h0]; exact Lists.nil w A
  · obtain ⟨g, cap, e1, _⟩ := Kd.R_form h h0
    injection e1 with e1
    subst e1
    refine ⟨hC.2.1, fun i hi => ?_⟩
    obtain ⟨_, inner, ho, hr⟩ := h
    have hp : l[i]? = some (l.getD i []) := by rw [List.getD_eq_getElem?_getD, List.getElem?_eq_getElem hi]; rfl
    obtain ⟨u, hu, hR⟩ := hr.2 i _ hp
    obtain ⟨A', c', rfl, hI, hle⟩ := Ints.ofR hR
    have hin : inner[i]? = some (.slice A' (l.getD i []).length c') := by
      have h1 : ((inner.drop (i * 1)).take 1)[0]? = some (.slice A' (l.getD i []).length c') := by
        have : ((inner.drop (i * 1)).take 1) = [.slice A' (l.getD i []).length c'] := hu
        rw [this]
        rfl
      rw [List.getElem?_take_of_lt (by omega), List.getElem?_drop, Nat.mul_one, Nat.add_zero] at h1
      exact h1
    have hcell : w.cell? ⟨g, 0 + i, none⟩ = some (.slice A' (l.getD i []).length c') := by
      have := ho.cells (g := g) rfl i _ hin
      rw [addr_add] at this
      exact this
    exact ⟨g, 0, A', c', rfl, World.block_lt_of_cell? w _ hcell, hcell, hle, hI⟩
theorem drawn_below {w w' : World} (h : Drawn0 w w') : Below w.heap.size w w' := by
  obtain ⟨n, rfl⟩ := h
  exact below_drewN' (Below.refl _ _) n
theorem rd_getD (l : List Int) (i : Nat) : rd l (i : Int) = l.getD i 0 := rfl
end Go.Proofs.YtioekjkfhbopkaaDoor

/- Plain words for systems: which pair is bad; the code of a system's error. No condition. -/
namespace Go.Proofs.YtioekjkfhbopkaaDoor

def badPair (n : Int) (p : Int × Int) : Bool := decide (p.1 < 0 ∨ p.2 < 0 ∨ n ≤ p.1 ∨ n ≤ p.2 ∨ p.1 = p.2)
def vcode (n : Int) (l : List (Int × Int)) : Int := if n < 0 ∨ 14 < n ∨ 30 < l.length then 2 else if l.any (badPair n) then 3 else 0

/-- all pairs ahead of place k are right -/
structure Good (n : Int) (l : List (Int × Int)) (k : Nat) : Prop where
  out : ∀ j, j < k → badPair n (l.getD j (0, 0)) = false
theorem Good.zero (n : Int) (l : List (Int × Int)) : Good n l 0 := ⟨fun j h => absurd h (by omega)⟩
theorem Good.succ {n : Int} {l : List (Int × Int)} {k : Nat} (h : Good n l k) (hk : badPair n (l.getD k (0, 0)) = false) : Good n l (k + 1) :=
  ⟨fun j hj => by
    by_cases e : j = k
    · rw [e]; exact hk
    · exact h.out j (by omega)⟩
theorem getD_eq {α : Type} (l : List α) (i : Nat) (d : α) (h : i < l.length) : l.getD i d = l[i] := by simp [List.getD_eq_getElem?_getD, h]
theorem vcode_big {n : Int} {l : List (Int × Int)} (h : n < 0 ∨ 14 < n ∨ 30 < l.length) : vcode n l = 2 := by unfold vcode; rw [if_pos h]
theorem vcode_bad {n : Int} {l : List (Int × Int)} {k : Nat} (h0 : 0 ≤ n) (h1 : n ≤ 14) (h2 : l.length ≤ 30) (hk : k < l.length) (hb : badPair n (l.getD k (0, 0)) = true) : vcode n l = 3 := by
  unfold vcode
  rw [if_neg (by omega), if_pos]
  rw [List.any_eq_true]
  rw [getD_eq l k _ hk] at hb
  exact ⟨l[k], List.getElem_mem hk, hb⟩
theorem vcode_good {n : Int} {l : List (Int × Int)} (h0 : 0 ≤ n) (h1 : n ≤ 14) (h2 : l.length ≤ 30) (h : Good n l l.length) : vcode n l = 0 := by
  unfold vcode
  rw [if_neg (by omega), if_neg]
  rw [List.any_eq_true]
  rintro ⟨p, hp, hb⟩
  obtain ⟨i, hi, rfl⟩ := List.getElem_of_mem hp
  have := h.out i hi
  rw [getD_eq l i _ hi] at this
  rw [this] at hb
  cases hb
theorem vcode_zero {n : Int} {l : List (Int × Int)} (h : vcode n l = 0) : 0 ≤ n ∧ n ≤ 14 ∧ l.length ≤ 30 ∧ Good n l l.length := by
  unfold vcode at h
  by_cases c : n < 0 ∨ 14 < n ∨ 30 < l.length
  · rw [if_pos c] at h; cases h
  · rw [if_neg c] at h
    by_cases d : l.any (badPair n) = true
    · rw [if_pos d] at h; cases h
    · refine ⟨by omega, by omega, by omega, ⟨fun j hj => ?_⟩⟩
      rw [getD_eq l j _ hj]
      cases e : badPair n l[j]
      · rfl
      · exact absurd (List.any_eq_true.2 ⟨l[j], List.getElem_mem hj, e⟩) d
theorem vcode_cases (n : Int) (l : List (Int × Int)) : vcode n l = 0 ∨ vcode n l = 2 ∨ vcode n l = 3 := by
  unfold vcode
  split
  · exact .inr (.inl rfl)
  · split
    · exact .inr (.inr rfl)
    · exact .inl rfl
theorem badPair_true {n : Int} {p : Int × Int} (h : p.1 < 0 ∨ p.2 < 0 ∨ n ≤ p.1 ∨ n ≤ p.2 ∨ p.1 = p.2) : badPair n p = true := decide_eq_true h
theorem badPair_false {n : Int} {p : Int × Int} (h0 : 0 ≤ p.1) (h1 : 0 ≤ p.2) (h2 : p.1 < n) (h3 : p.2 < n) (h4 : p.1 ≠ p.2) : badPair n p = false := decide_eq_false (by omega)
theorem badPair_of_false {n : Int} {p : Int × Int} (h : badPair n p = false) : 0 ≤ p.1 ∧ 0 ≤ p.2 ∧ p.1 < n ∧ p.2 < n ∧ p.1 ≠ p.2 := by
  have := of_decide_eq_false h
  omega
end Go.Proofs.YtioekjkfhbopkaaDoor

/- Plain words for weights; what the printed functions on them answer. No condition. -/
namespace Go.Proofs.YtioekjkfhbopkaaDoor
open Go Go.RowKit Go.Proofs.YtioekjkfhbopkaaDoorW.PrintWords

theorem wrap_up (i : Nat) (h : i ≤ 2000000) : wrap64 ((i : Int) + 1) = ((i + 1 : Nat) : Int) := by
  unfold wrap64
  omega
theorem rd_nat (l : List Int) (i : Nat) : rd l (i : Int) = l.getD i 0 := rfl
def anyNeg (l : List Int) : Bool := l.any fun x => decide (x < 0)
def anyPos (l : List Int) : Bool := l.any fun x => decide (0 < x)
/-- the code of weights' error -/
def wcode (most : Int) (l : List Int) : Int := if anyNeg l then 3 else if anyPos l then (if most < l.sum then 2 else 0) else 3
def wErr (l : List Int) : Int := if 16 < l.length then 2 else wcode 4096 l
theorem take_at (l : List Int) (i : Nat) (h : i < l.length) : l.take (i + 1) = l.take i ++ [l.getD i 0] := by
  rw [List.take_succ_eq_append_getElem h, getD_eq l i 0 h]
theorem any_take (p : Int → Bool) (l : List Int) (i : Nat) (h : i < l.length) : (l.take (i + 1)).any p = ((l.take i).any p || p (l.getD i 0)) := by
  rw [take_at l i h, List.any_append]
  simp
theorem sum_take (l : List Int) (i : Nat) (h : i < l.length) : (l.take (i + 1)).sum = (l.take i).sum + l.getD i 0 := by
  rw [take_at l i h, List.sum_append]
  simp
theorem wcode_neg (most : Int) (l : List Int) (i : Nat) (h : i < l.length) (hx : l.getD i 0 < 0) : wcode most l = 3 := by
  unfold wcode
  rw [if_pos]
  unfold anyNeg
  rw [List.any_eq_true]
  rw [getD_eq l i 0 h] at hx
  exact ⟨l[i], List.getElem_mem h, decide_eq_true hx⟩
theorem anyNeg_false (l : List Int) (h : anyNeg (l.take l.length) = false) : anyNeg l = false := by rw [List.take_length] at h; exact h
theorem sum_nonneg (l : List Int) (h : anyNeg l = false) : 0 ≤ l.sum := by
  induction l with
  | nil => simp
  | cons x l ih =>
    simp only [anyNeg, List.any_cons, Bool.or_eq_false_iff, decide_eq_false_iff_not] at h
    have := ih h.2
    rw [List.sum_cons]
    omega
theorem wcode_end (most : Int) (l : List Int) (s g : Bool) (hn : anyNeg l = false) (hs : s = anyPos l) (hg : g = decide (most < l.sum)) : wcode most l = if s = true then (if g = true then 2 else 0) else 3 := by
  unfold wcode
  rw [if_neg (by simp [hn]), hs, hg]
  simp
theorem listError_l0 (l : List Int) (most : Int) (hm : 0 ≤ most) (hm2 : most ≤ 2000000) (hl : l.length ≤ 2000000) : ∀ (d i k : Nat) (s g : Bool) (t : Int), i + d = l.length → d < k →
    anyNeg (l.take i) = false → s = anyPos (l.take i) → g = decide (most < (l.take i).sum) → (g = false → t = (l.take i).sum) → PSampleDraw.demonref1_listError.l0 k l most s g t (i : Int) = some (wcode most l) := by
  intro d
  induction d with
  | zero =>
    intro i k s g t hi hk hn hs hg _
    obtain ⟨k, rfl⟩ : ∃ m, k = m + 1 := ⟨k - 1, by omega⟩
    obtain rfl : i = l.length := by omega
    rw [List.take_length] at hn hs hg
    simp only [PSampleDraw.demonref1_listError.l0]
    rw [if_neg (by omega), wcode_end most l s g hn hs hg]
    cases s <;> cases g <;> rfl
  | succ d ih =>
    intro i k s g t hi hk hn hs hg ht
    obtain ⟨k, rfl⟩ : ∃ m, k = m + 1 := ⟨k - 1, by omega⟩
    have hil : i < l.length := by omega
    simp only [PSampleDraw.demonref1_listError.l0]
    rw [if_pos (by omega), if_pos (by omega), rd_nat, wrap_up i (by omega)]
    by_cases hx : l.getD i 0 < 0
    · rw [if_pos hx, wcode_neg most l i hil hx]
    · rw [if_neg hx]
      have hn' : anyNeg (l.take (i + 1)) = false := by
        unfold anyNeg at hn ⊢
        rw [any_take _ l i hil, hn, decide_eq_false hx]
        rfl
      have hp' : anyPos (l.take (i + 1)) = (anyPos (l.take i) || decide (0 < l.getD i 0)) := any_take _ l i hil
      have hs' := sum_take l i hil
      have h0 := sum_nonneg _ hn
      generalize l.getD i 0 = x at hx hp' hs' ⊢
      have key : ∀ (s' g' : Bool) (t' : Int), s' = (s || decide (0 < x)) → g' = decide (most < (l.take i).sum + x) → (g' = false → t' = (l.take i).sum + x) → PSampleDraw.demonref1_listError.l0 k l most s' g' t' ((i + 1 : Nat) : Int) = some (wcode most l) := fun s' g' t' e1 e2 e3 =>
        ih (i + 1) k s' g' t' (by omega) (by omega) hn' (by rw [hp', e1, hs]) (by rw [hs', e2]) (fun h => by rw [hs', e3 h])
      clear ih
      cases g
      · have ht' := ht rfl
        have hg' : ¬ most < (l.take i).sum := by simpa using hg.symm
        have hw : x ≤ most → wrap64 (t + x) = (l.take i).sum + x := fun hxm => by rw [ht']; unfold wrap64; omega
        by_cases hxm : x > most
        · have k2 : decide (x > most) = decide (most < (l.take i).sum + x) := by rw [decide_eq_true hxm, decide_eq_true (by omega)]
          cases s
          · simp only [Bool.false_eq_true, if_false]
            rw [if_pos hxm]
            exact key _ _ _ (by rw [Bool.false_or]) k2 (fun h => by rw [decide_eq_true hxm] at h; cases h)
          · simp only [Bool.false_eq_true, if_false, if_true]
            rw [if_pos hxm]
            exact key _ _ _ (by rw [Bool.true_or]) k2 (fun h => by rw [decide_eq_true hxm] at h; cases h)
        · have hw' := hw (by omega)
          cases s
          · simp only [Bool.false_eq_true, if_false]
            rw [if_neg hxm, hw']
            exact key _ _ _ (by rw [Bool.false_or]) rfl (fun _ => rfl)
          · simp only [Bool.false_eq_true, if_false, if_true]
            rw [if_neg hxm, hw']
            exact key _ _ _ (by rw [Bool.true_or]) rfl (fun _ => rfl)
      · have hg' : most < (l.take i).sum := by simpa using hg.symm
        have k2 : true = decide (most < (l.take i).sum + x) := (decide_eq_true (by omega)).symm
        cases s
        · simp only [Bool.false_eq_true, if_false, if_true]
          exact key _ _ _ (by rw [Bool.false_or]) k2 (fun h => by cases h)
        · simp only [if_true]
          exact key _ _ _ (by rw [Bool.true_or]) k2 (fun h => by cases h)
theorem listError_f (l : List Int) (most : Int) (hm : 0 ≤ most) (hm2 : most ≤ 2000000) (hl : l.length ≤ 2000000) : PSampleDraw.demonref1_listError.f (l.length + 1) l most = some (wcode most l) :=
  listError_l0 l most hm hm2 hl l.length 0 _ false false 0 (by omega) (by omega) rfl rfl (by rw [List.take_zero, List.sum_nil, decide_eq_false (by omega)]) (fun _ => by simp)
theorem weightsError_f (l : List Int) (hl : l.length ≤ 2000000) : PSampleDraw.demonref1_WeightsError.f (l.length + 1) l = some (wErr l) := by
  unfold PSampleDraw.demonref1_WeightsError.f wErr
  by_cases h : 16 < l.length
  · rw [if_pos (by omega), if_pos h]
  · rw [if_neg (by omega), if_neg h, listError_f l 4096 (by decide) (by decide) hl]
    rfl
theorem bits_l0 (s : ByteArray) (hs : s.size ≤ 2000000) : ∀ (d i k : Nat), i + d = s.size → d < k → (∀ j, j < i → bt s (j : Int) = 48 ∨ bt s (j : Int) = 49) →
    ∃ b, PSampleDraw.demonref1_Bits.l0 k s (i : Int) = some b ∧ (b = true ↔ ∀ j, j < s.size → bt s (j : Int) = 48 ∨ bt s (j : Int) = 49) := by
  intro d
  induction d with
  | zero =>
    intro i k hi hk hb
    obtain ⟨k, rfl⟩ : ∃ m, k = m + 1 := ⟨k - 1, by omega⟩
    obtain rfl : i = s.size := by omega
    simp only [PSampleDraw.demonref1_Bits.l0]
    rw [if_neg (by omega)]
    exact ⟨true, rfl, by simpa using hb⟩
  | succ d ih =>
    intro i k hi hk hb
    obtain ⟨k, rfl⟩ : ∃ m, k = m + 1 := ⟨k - 1, by omega⟩
    simp only [PSampleDraw.demonref1_Bits.l0]
    rw [if_pos (by omega), if_pos (by omega), wrap_up i (by omega)]
    by_cases h1 : bt s (i : Int) = 48
    · rw [if_pos h1]
      exact ih (i + 1) k (by omega) (by omega) (fun j hj => by
        by_cases e : j = i
        · subst e; exact .inl h1
        · exact hb j (by omega))
    · rw [if_neg h1]
      by_cases h2 : bt s (i : Int) = 49
      · rw [if_pos h2]
        exact ih (i + 1) k (by omega) (by omega) (fun j hj => by
          by_cases e : j = i
          · subst e; exact .inr h2
          · exact hb j (by omega))
      · rw [if_neg h2]
        refine ⟨false, rfl, ⟨fun h => (by cases h), fun h => ?_⟩⟩
        rcases h i (by omega) with h | h
        · exact absurd h h1
        · exact absurd h h2
/-- a text of 0 and 1 alone -/
def isBits (s : ByteArray) : Bool := s.data.toList.all fun b => b == 48 || b == 49
theorem bt_list (s : ByteArray) (i : Nat) : bt s (i : Int) = ((s.data.toList.getD i 0).toNat : Int) := by
  unfold bt
  by_cases h : i < s.size
  · rw [dif_pos (by simpa using h)]
    have h' : i < s.data.toList.length := by simpa using h
    rw [List.getD_eq_getElem?_getD, List.getElem?_eq_getElem h']
    rfl
  · rw [dif_neg (by simpa using h)]
    have h' : s.data.toList.length ≤ i := by
      have : s.data.toList.length = s.size := rfl
      omega
    rw [List.getD_eq_getElem?_getD, List.getElem?_eq_none h']
    rfl
theorem isBits_iff (s : ByteArray) : isBits s = true ↔ ∀ j, j < s.size → bt s (j : Int) = 48 ∨ bt s (j : Int) = 49 := by
  have hl : s.data.toList.length = s.size := rfl
  have hu : ∀ (b : UInt8) (n : Nat), n < 256 → (((b.toNat : Nat) : Int) = (n : Int) ↔ b = UInt8.ofNat n) := fun b n hn => by
    constructor
    · intro h
      apply UInt8.toNat_inj.1
      rw [UInt8.toNat_ofNat_of_lt' hn]
      omega
    · rintro rfl
      rw [UInt8.toNat_ofNat_of_lt' hn]
  unfold isBits
  rw [List.all_eq_true]
  constructor
  · intro h j hj
    rw [bt_list, List.getD_eq_getElem?_getD, List.getElem?_eq_getElem (by rw [hl]; exact hj)]
    have := h _ (List.getElem_mem (l := s.data.toList) (n := j) (by rw [hl]; exact hj))
    simp only [Bool.or_eq_true, beq_iff_eq] at this
    rcases this with e | e
    · exact .inl ((hu _ 48 (by decide)).2 e)
    · exact .inr ((hu _ 49 (by decide)).2 e)
  · intro h b hb
    obtain ⟨j, hj, rfl⟩ := List.getElem_of_mem hb
    have := h j (by rw [← hl]; exact hj)
    rw [bt_list, List.getD_eq_getElem?_getD, List.getElem?_eq_getElem hj] at this
    simp only [Bool.or_eq_true, beq_iff_eq]
    rcases this with e | e
    · exact .inl ((hu _ 48 (by decide)).1 e)
    · exact .inr ((hu _ 49 (by decide)).1 e)
theorem bits_f (s : ByteArray) (hs : s.size ≤ 2000000) : PSampleDraw.demonref1_Bits.f (s.size + 1) s = some (isBits s) := by
  obtain ⟨b, h1, h2⟩ := bits_l0 s hs s.size 0 (s.size + 1) (by omega) (by omega) (fun j h => absurd h (Nat.not_lt_zero _))
  have : b = isBits s := by
    rw [Bool.eq_iff_iff, h2, isBits_iff]
  rw [← this]
  exact h1
/-- right weights -/
structure GoodW (W : List Int) : Prop where
  len : W.length ≤ 16
  pos : 0 < W.sum
  le : W.sum ≤ 4096
  nn : ∀ i, 0 ≤ W.getD i 0
theorem getD_nonneg {K : List Int} (h : anyNeg K = false) (i : Nat) : 0 ≤ K.getD i 0 := by
  unfold anyNeg at h
  rw [List.any_eq_false] at h
  by_cases hi : i < K.length
  · rw [getD_eq K i 0 hi]
    have := h _ (List.getElem_mem hi)
    simp at this
    omega
  · rw [List.getD_eq_getElem?_getD, List.getElem?_eq_none (by omega)]
    exact Int.le_refl _
theorem sum_pos_of {K : List Int} (h : anyNeg K = false) (h2 : anyPos K = true) : 0 < K.sum := by
  induction K with
  | nil => simp [anyPos] at h2
  | cons x l ih =>
    simp only [anyNeg, List.any_cons, Bool.or_eq_false_iff, decide_eq_false_iff_not] at h
    rw [List.sum_cons]
    have h0 := sum_nonneg l h.2
    simp only [anyPos, List.any_cons, Bool.or_eq_true, decide_eq_true_eq] at h2
    rcases h2 with h2 | h2
    · omega
    · have := ih h.2 h2
      omega
theorem good_of {W : List Int} (h : wErr W = 0) : GoodW W := by
  unfold wErr at h
  by_cases h1 : 16 < W.length
  · rw [if_pos h1] at h; cases h
  · rw [if_neg h1] at h
    unfold wcode at h
    cases h2 : anyNeg W
    · rw [h2] at h
      cases h3 : anyPos W
      · rw [h3] at h; simp at h
      · rw [h3] at h
        simp only [Bool.false_eq_true, if_false, if_true] at h
        by_cases h4 : (4096 : Int) < W.sum
        · rw [if_pos h4] at h; cases h
        · exact ⟨by omega, sum_pos_of h2 h3, by omega, getD_nonneg h2⟩
    · rw [h2] at h; simp at h
theorem wErr_nat (W : List Int) : ∃ c : Nat, wErr W = c ∧ c ≤ 8 := by
  unfold wErr wcode
  repeat' split
  all_goals first | exact ⟨2, rfl, by decide⟩ | exact ⟨3, rfl, by decide⟩ | exact ⟨0, rfl, by decide⟩
theorem take_le {W : List Int} (h : ∀ i, 0 ≤ W.getD i 0) : ∀ i, i ≤ W.length → 0 ≤ (W.take i).sum ∧ (W.take i).sum ≤ W.sum := by
  have mono : ∀ d i, i + d = W.length → (W.take i).sum ≤ W.sum := by
    intro d
    induction d with
    | zero => intro i hi; obtain rfl : i = W.length := by omega
              rw [List.take_length]; exact Int.le_refl _
    | succ d ih => intro i hi; have := ih (i + 1) (by omega); rw [sum_take W i (by omega)] at this; have := h i; omega
  intro i hi
  refine ⟨?_, mono (W.length - i) i (by omega)⟩
  induction i with
  | zero => simp
  | succ i ih => rw [sum_take W i (by omega)]; have := ih (by omega); have := h i; omega
theorem sum_l0 {W : List Int} (h : GoodW W) : ∀ (d i : Nat), i + d = W.length → Ev (fun k => PSampleDraw.demonref1_Sum.l0 k W (W.take i).sum (i : Int)) W.sum := by
  intro d
  induction d with
  | zero =>
    intro i hi
    obtain rfl : i = W.length := by omega
    refine Ev.step (f := fun _ => some W.sum) (fun k => ?_) (Ev.now _)
    simp only [PSampleDraw.demonref1_Sum.l0]
    rw [if_neg (by omega), List.take_length]
  | succ d ih =>
    intro i hi
    refine Ev.step (fun k => ?_) (ih (i + 1) (by omega))
    have h1 := take_le h.nn (i + 1) (by omega)
    have h2 := h.le
    have hw : wrap64 ((W.take i).sum + W.getD i 0) = (W.take (i + 1)).sum := by rw [sum_take W i (by omega)] at *; unfold wrap64; omega
    simp only [PSampleDraw.demonref1_Sum.l0]
    have := h.len
    rw [if_pos (by omega), if_pos (by omega), rd_nat, hw, wrap_up i (by omega)]
theorem sum_f {W : List Int} (h : GoodW W) : Ev (fun k => PSampleDraw.demonref1_Sum.f k W) W.sum := sum_l0 h W.length 0 (by omega)
theorem total_l0 {W : List Int} (h : GoodW W) : ∀ (d i : Nat), i + d = W.length → Ev (fun k => PSampleDraw.dist_Total.l0 k (W.take i).sum W (W.length : Int) (i : Int)) W.sum := by
  intro d
  induction d with
  | zero =>
    intro i hi
    obtain rfl : i = W.length := by omega
    refine Ev.step (f := fun _ => some W.sum) (fun k => ?_) (Ev.now _)
    simp only [PSampleDraw.dist_Total.l0]
    rw [if_neg (by omega), List.take_length]
  | succ d ih =>
    intro i hi
    refine Ev.step (fun k => ?_) (ih (i + 1) (by omega))
    have h1 := take_le h.nn (i + 1) (by omega)
    have h2 := h.le
    have hw : wrap64 ((W.take i).sum + W.getD i 0) = (W.take (i + 1)).sum := by rw [sum_take W i (by omega)] at *; unfold wrap64; omega
    simp only [PSampleDraw.dist_Total.l0]
    have := h.len
    rw [if_pos (by omega), if_pos (by omega), if_pos (by omega), rd_nat, hw, wrap_up i (by omega)]
theorem total_f {W : List Int} (h : GoodW W) : Ev (fun k => PSampleDraw.dist_Total.f k W) W.sum := total_l0 h W.length 0 (by omega)
end Go.Proofs.YtioekjkfhbopkaaDoor

/- Rules: right ones, plain; what the reference answers of them; what few and lists answer. No condition. -/
namespace Go.Proofs.YtioekjkfhbopkaaDoor
open Go Go.RowKit Go.Proofs.YtioekjkfhbopkaaDoorW.PrintWords

theorem rdL_nat (m : List (List Int)) (i : Nat) : PSamplePast.rd_L1 m (i : Int) = m.getD i [] := rfl
theorem getDL_eq (l : List (List Int)) (i : Nat) (h : i < l.length) : l.getD i [] = l[i] := by simp [List.getD_eq_getElem?_getD, h]
theorem takeL_at (l : List (List Int)) (i : Nat) (h : i < l.length) : l.take (i + 1) = l.take i ++ [l.getD i []] := by
  rw [List.take_succ_eq_append_getElem h, getDL_eq l i h]
theorem row_le (l : List (List Int)) (i : Nat) : (l.getD i []).length ≤ l.flatten.length := by
  rcases Nat.lt_or_ge i l.length with h | h
  · rw [getDL_eq l i h]
    have : l[i] ∈ l := List.getElem_mem h
    exact List.Sublist.length_le (List.sublist_flatten_of_mem this)
  · rw [List.getD_eq_getElem?_getD, List.getElem?_eq_none h]
    simp
theorem flat_take (l : List (List Int)) (i : Nat) (h : i < l.length) : (l.take (i + 1)).flatten = (l.take i).flatten ++ l.getD i [] := by
  rw [takeL_at l i h, List.flatten_append]
  simp
theorem flat_take_le (l : List (List Int)) (i : Nat) : (l.take i).flatten.length ≤ l.flatten.length := by
  have : l.flatten = (l.take i).flatten ++ (l.drop i).flatten := by rw [← List.flatten_append, List.take_append_drop]
  rw [this, List.length_append]
  omega
theorem flat_l0 (l : List (List Int)) (hl : l.length ≤ 2000000) (hf : l.flatten.length ≤ 2000000) : ∀ (d i k : Nat), i + d = l.length → d < k → PSamplePast.demonref1_Flat.l0 k l (l.take i).flatten (i : Int) = some l.flatten := by
  intro d
  induction d with
  | zero =>
    intro i k hi hk
    obtain ⟨k, rfl⟩ : ∃ m, k = m + 1 := ⟨k - 1, by omega⟩
    obtain rfl : i = l.length := by omega
    simp only [PSamplePast.demonref1_Flat.l0]
    rw [if_neg (by omega), List.take_length]
  | succ d ih =>
    intro i k hi hk
    obtain ⟨k, rfl⟩ : ∃ m, k = m + 1 := ⟨k - 1, by omega⟩
    have hil : i < l.length := by omega
    have h1 := flat_take_le l i
    have h2 := row_le l i
    simp only [PSamplePast.demonref1_Flat.l0]
    rw [if_pos (by omega), if_pos (by omega), rdL_nat, if_pos (by omega), wrap_up i (by omega), ← flat_take l i hil]
    exact ih (i + 1) k (by omega) (by omega)
theorem flat_f (l : List (List Int)) (hl : l.length ≤ 2000000) (hf : l.flatten.length ≤ 2000000) (k : Nat) (hk : l.length < k) : PSamplePast.demonref1_Flat.f k l = some l.flatten :=
  flat_l0 l hl hf l.length 0 k (by omega) hk
/-- is a table of few rows and few numbers? -/
def fewS (l : List (List Int)) : Bool := decide (l.length ≤ 70) && decide (l.flatten.length ≤ 600)
theorem few_f (l : List (List Int)) (hl : l.length ≤ 2000000) (hf : l.flatten.length ≤ 2000000) (k : Nat) (hk : l.length < k) : PSamplePast.demonlaw4_few.f k l = some (fewS l) := by
  unfold PSamplePast.demonlaw4_few.f fewS
  by_cases h : l.length ≤ 70
  · rw [if_pos (by omega), flat_f l hl hf k hk]
    have e : decide ((l.flatten.length : Int) ≤ 600) = decide (l.flatten.length ≤ 600) := by
      by_cases h2 : l.flatten.length ≤ 600
      · rw [decide_eq_true h2, decide_eq_true (by omega)]
      · rw [decide_eq_false h2, decide_eq_false (by omega)]
    show some (decide ((l.flatten.length : Int) ≤ 600)) = _
    rw [e, decide_eq_true h, Bool.true_and]
  · rw [if_neg (by omega), decide_eq_false h, Bool.false_and]
theorem intsS_f (l : List Int) (hl : l.length ≤ 2000000) : PSamplePast.demonlaw4_ints.f l = some l := by
  unfold PSamplePast.demonlaw4_ints.f
  rw [if_pos (by simp; omega)]
  rfl
theorem lists_l0 (l : List (List Int)) (hl : l.length ≤ 2000000) (hf : l.flatten.length ≤ 2000000) : ∀ (d i k : Nat), i + d = l.length → d < k → PSamplePast.demonlaw4_lists.l0 k l (l.take i) (i : Int) = some l := by
  intro d
  induction d with
  | zero =>
    intro i k hi hk
    obtain ⟨k, rfl⟩ : ∃ m, k = m + 1 := ⟨k - 1, by omega⟩
    obtain rfl : i = l.length := by omega
    simp only [PSamplePast.demonlaw4_lists.l0]
    rw [if_neg (by omega), List.take_length]
  | succ d ih =>
    intro i k hi hk
    obtain ⟨k, rfl⟩ : ∃ m, k = m + 1 := ⟨k - 1, by omega⟩
    have hil : i < l.length := by omega
    have h2 := row_le l i
    have h3 : (l.take i).length ≤ i := by simp; omega
    simp only [PSamplePast.demonlaw4_lists.l0]
    rw [if_pos (by omega), if_pos (by omega), rdL_nat, intsS_f _ (by omega), Option.bind_some, if_pos (by omega), wrap_up i (by omega), ← takeL_at l i hil]
    exact ih (i + 1) k (by omega) (by omega)
theorem lists_f (l : List (List Int)) (hl : l.length ≤ 2000000) (hf : l.flatten.length ≤ 2000000) (k : Nat) (hk : l.length < k) : PSamplePast.demonlaw4_lists.f k l = some l :=
  lists_l0 l hl hf l.length 0 k (by omega) hk

/-- the first k numbers do not fall -/
def asc (f : List Int) (k : Nat) : Bool := (List.range k).all fun j => decide (j = 0 ∨ f.getD (j - 1) 0 ≤ f.getD j 0)
theorem asc_succ (f : List Int) (k : Nat) : asc f (k + 1) = (asc f k && decide (k = 0 ∨ f.getD (k - 1) 0 ≤ f.getD k 0)) := by
  unfold asc
  rw [List.range_succ, List.all_append]
  simp
theorem asc_bad (f : List Int) (i n : Nat) (h : i < n) (hb : ¬ (i = 0 ∨ f.getD (i - 1) 0 ≤ f.getD i 0)) : asc f n = false := by
  unfold asc
  rw [List.all_eq_false]
  exact ⟨i, List.mem_range.2 h, by simpa using hb⟩
theorem asc_good (f : List Int) (n : Nat) (h : ∀ j, j < n → j = 0 ∨ f.getD (j - 1) 0 ≤ f.getD j 0) : asc f n = true := by
  unfold asc
  rw [List.all_eq_true]
  exact fun j hj => decide_eq_true (h j (List.mem_range.1 hj))
theorem isSorted_l0 (f : List Int) (hl : f.length ≤ 2000000) : ∀ i, i < f.length → (∀ j, i < j → j < f.length → f.getD (j - 1) 0 ≤ f.getD j 0) → Ev (fun k => PSamplePast.slices_IsSorted_int_int.l0 k f (i : Int)) (asc f f.length) := by
  intro i
  induction i with
  | zero =>
    intro hi h
    refine Ev.step (f := fun _ => some (asc f f.length)) (fun k => ?_) (Ev.now _)
    simp only [PSamplePast.slices_IsSorted_int_int.l0]
    rw [if_neg (by omega), asc_good f _ (fun j hj => by
      rcases Nat.eq_zero_or_pos j with q | q
      · exact .inl q
      · exact .inr (h j q hj))]
  | succ i ih =>
    intro hi h
    have hw : wrap64 (((i + 1 : Nat) : Int) - 1) = (i : Int) := by unfold wrap64; omega
    have hless : PSamplePast.cmp_Less_int.f (f.getD (i + 1) 0) (f.getD i 0) = some (decide (f.getD (i + 1) 0 < f.getD i 0)) := by
      unfold PSamplePast.cmp_Less_int.f PSamplePast.cmp_isNaN_int.f
      simp
    by_cases hb : f.getD (i + 1) 0 < f.getD i 0
    · refine Ev.step (f := fun _ => some (asc f f.length)) (fun k => ?_) (Ev.now _)
      simp only [PSamplePast.slices_IsSorted_int_int.l0]
      rw [hw, if_pos (by omega), if_pos (by omega), if_pos (by omega), if_pos (by omega), if_pos (by omega), rd_nat, rd_nat, hless, decide_eq_true hb, asc_bad f (i + 1) _ hi (by
        rintro (q | q)
        · omega
        · rw [Nat.add_sub_cancel] at q; omega)]
      rfl
    · refine Ev.step (fun k => ?_) (ih (by omega) (fun j hj hj2 => by
        by_cases e : j = i + 1
        · subst e; rw [Nat.add_sub_cancel]; omega
        · exact h j (by omega) hj2))
      simp only [PSamplePast.slices_IsSorted_int_int.l0]
      rw [hw, if_pos (by omega), if_pos (by omega), if_pos (by omega), if_pos (by omega), if_pos (by omega), rd_nat, rd_nat, hless, decide_eq_false hb]
      rfl
theorem isSorted_f (f : List Int) (hl : f.length ≤ 2000000) : Ev (fun k => PSamplePast.slices_IsSorted_int_int.f k f) (asc f f.length) := by
  rcases Nat.eq_zero_or_pos f.length with q | q
  · have e : f = [] := List.length_eq_zero_iff.1 q
    subst e
    have e : wrap64 ((([] : List Int).length : Int) - 1) = -1 := by unfold wrap64; decide
    refine Ev.step (f := fun _ => some (asc [] 0)) (fun k => ?_) (Ev.now _)
    unfold PSamplePast.slices_IsSorted_int_int.f
    rw [e]
    simp only [PSamplePast.slices_IsSorted_int_int.l0]
    rw [if_neg (by omega)]
    rfl
  · have e : wrap64 ((f.length : Int) - 1) = ((f.length - 1 : Nat) : Int) := by unfold wrap64; omega
    refine Ev.congr (fun k => ?_) (isSorted_l0 f hl (f.length - 1) (by omega) (fun j h1 h2 => by omega))
    unfold PSamplePast.slices_IsSorted_int_int.f
    rw [e]
/-- a right rule of n states -/
def goodR (n : Nat) (f : List Int) : Bool := decide (f.length = n) && decide (0 < f.length) && f.all fun x => decide (0 ≤ x) && decide (x < f.length)
/-- the code of rules' error -/
def rErr (r : List (List Int)) : Int := if 16 < r.length then 2 else if r.any (fun f => decide (16 < f.length)) then 2 else if r.length = 0 then 3 else if r.all (goodR (r.getD 0 []).length) then (if r.all (fun f => asc f f.length) then 0 else 7) else 3
theorem rErr_bad {r : List (List Int)} (h1 : r.length ≤ 16) (h2 : r.any (fun f => decide (16 < f.length)) = false) {i : Nat} (hi : i < r.length) (hb : goodR (r.getD 0 []).length (r.getD i []) = false) : rErr r = 3 := by
  have h3 : r.all (goodR (r.getD 0 []).length) = false := by
    rw [List.all_eq_false]
    exact ⟨r.getD i [], by rw [getDL_eq r i hi]; exact List.getElem_mem hi, by rw [hb]; decide⟩
  unfold rErr
  rw [if_neg (by omega), if_neg (by rw [h2]; decide), if_neg (by omega), if_neg (by rw [h3]; decide)]
theorem rErr_end {r : List (List Int)} (h1 : r.length ≤ 16) (h2 : r.any (fun f => decide (16 < f.length)) = false) (h0 : r.length ≠ 0) (h3 : r.all (goodR (r.getD 0 []).length) = true) : rErr r = if r.all (fun f => asc f f.length) then 0 else 7 := by
  unfold rErr
  rw [if_neg (by omega), if_neg (by rw [h2]; decide), if_neg h0, if_pos h3]
theorem all_upto {r : List (List Int)} (p : List Int → Bool) (h : ∀ j, j < r.length → p (r.getD j []) = true) : r.all p = true := by
  rw [List.all_eq_true]
  intro f hf
  obtain ⟨j, hj, rfl⟩ := List.getElem_of_mem hf
  rw [← getDL_eq r j hj]
  exact h j hj
theorem goodR_range {n : Nat} {f : List Int} (hl : f.length = n) (h0 : 0 < f.length) (h : ∀ j, j < f.length → 0 ≤ f.getD j 0 ∧ f.getD j 0 < f.length) : goodR n f = true := by
  unfold goodR
  rw [decide_eq_true hl, decide_eq_true h0, Bool.true_and, Bool.true_and, List.all_eq_true]
  intro x hx
  obtain ⟨j, hj, rfl⟩ := List.getElem_of_mem hx
  have := h j hj
  rw [getD_eq f j 0 hj] at this
  rw [decide_eq_true this.1, decide_eq_true this.2]
  rfl
theorem goodR_bad {n : Nat} {f : List Int} {j : Nat} (hj : j < f.length) (h : f.getD j 0 < 0 ∨ (f.length : Int) ≤ f.getD j 0) : goodR n f = false := by
  unfold goodR
  have : (f.all fun x => decide (0 ≤ x) && decide (x < f.length)) = false := by
    rw [List.all_eq_false]
    refine ⟨f[j], List.getElem_mem hj, ?_⟩
    rw [getD_eq f j 0 hj] at h
    rcases h with h | h
    · rw [decide_eq_false (by omega)]; simp
    · rw [decide_eq_false (by omega : ¬ f[j] < (f.length : Int))]; simp
  rw [this, Bool.and_false]
theorem goodR_of {n : Nat} {f : List Int} (h : goodR n f = true) : f.length = n ∧ 0 < f.length ∧ ∀ j, j < f.length → 0 ≤ f.getD j 0 ∧ f.getD j 0 < f.length := by
  unfold goodR at h
  rw [Bool.and_eq_true, Bool.and_eq_true, decide_eq_true_eq, decide_eq_true_eq, List.all_eq_true] at h
  refine ⟨h.1.1, h.1.2, fun j hj => ?_⟩
  have := h.2 _ (List.getElem_mem hj)
  rw [Bool.and_eq_true, decide_eq_true_eq, decide_eq_true_eq] at this
  rw [getD_eq f j 0 hj]
  exact this
theorem rules_l2 {r : List (List Int)} (h1 : r.length ≤ 16) (h2 : r.any (fun f => decide (16 < f.length)) = false) (i : Nat) (hi : i < r.length) (hlen : (r.getD i []).length = (r.getD 0 []).length) (hpos : 0 < (r.getD i []).length) (h16 : (r.getD i []).length ≤ 16)
    (next : goodR (r.getD 0 []).length (r.getD i []) = true → ∀ b, b = !((r.take (i + 1)).all fun f => asc f f.length) → Ev (fun k => PSamplePast.demonref4_RulesError.l1 k r b ((i + 1 : Nat) : Int)) (rErr r)) :
    ∀ (e k : Nat) (b : Bool), k + e = (r.getD i []).length → b = !(((r.take i).all fun f => asc f f.length) && asc (r.getD i []) k) → (∀ j, j < k → 0 ≤ (r.getD i []).getD j 0 ∧ (r.getD i []).getD j 0 < (r.getD i []).length) →
      Ev (fun n => PSamplePast.demonref4_RulesError.l2 n r b (i : Int) (k : Int)) (rErr r) := by
  intro e
  induction e with
  | zero =>
    intro k b hk hb hr
    obtain rfl : k = (r.getD i []).length := by omega
    refine Ev.step (fun n => ?_) (next (goodR_range hlen hpos hr) b (by rw [hb, takeL_at r i hi, List.all_append]; simp))
    simp only [PSamplePast.demonref4_RulesError.l2]
    rw [if_pos (by omega), if_pos (by omega), rdL_nat, if_neg (by omega), wrap_up i (by omega)]
  | succ e ih =>
    intro k b hk hb hr
    have hkl : k < (r.getD i []).length := by omega
    by_cases hx0 : (r.getD i []).getD k 0 < 0
    · refine Ev.step (f := fun _ => some (rErr r)) (fun n => ?_) (Ev.now _)
      simp only [PSamplePast.demonref4_RulesError.l2]
      rw [if_pos (by omega), if_pos (by omega), rdL_nat, if_pos (by omega), if_pos (by omega), rd_nat, if_pos hx0, rErr_bad h1 h2 hi (goodR_bad hkl (.inl hx0))]
    · by_cases hx1 : (r.getD i []).getD k 0 ≥ ((r.getD i []).length : Int)
      · refine Ev.step (f := fun _ => some (rErr r)) (fun n => ?_) (Ev.now _)
        simp only [PSamplePast.demonref4_RulesError.l2]
        rw [if_pos (by omega), if_pos (by omega), rdL_nat, if_pos (by omega), if_pos (by omega), rd_nat, if_neg hx0, if_pos hx1, rErr_bad h1 h2 hi (goodR_bad hkl (.inr hx1))]
      · have hr' : ∀ j, j < k + 1 → 0 ≤ (r.getD i []).getD j 0 ∧ (r.getD i []).getD j 0 < (r.getD i []).length := fun j hj => by
          by_cases q : j = k
          · subst q; exact ⟨by omega, by omega⟩
          · exact hr j (by omega)
        have hsu := asc_succ (r.getD i []) k
        cases b with
        | true =>
          have hb' : (((r.take i).all fun f => asc f f.length) && asc (r.getD i []) k) = false := by have := hb.symm; rwa [Bool.not_eq_true'] at this
          refine Ev.step (fun n => ?_) (ih (k + 1) true (by omega) (by rw [hsu, ← Bool.and_assoc, hb']; rfl) hr')
          simp only [PSamplePast.demonref4_RulesError.l2]
          rw [if_pos (by omega), if_pos (by omega), rdL_nat, if_pos (by omega), if_pos (by omega), rd_nat, if_neg hx0, if_neg hx1, if_pos (by trivial), wrap_up k (by omega)]
        | false =>
          have hb' : (((r.take i).all fun f => asc f f.length) && asc (r.getD i []) k) = true := by have := hb.symm; rwa [Bool.not_eq_false'] at this
          rw [Bool.and_eq_true] at hb'
          rcases Nat.eq_zero_or_pos k with q | q
          · subst q
            refine Ev.step (fun n => ?_) (ih 1 false (by omega) (by rw [hsu, hb'.1, hb'.2]; rfl) hr')
            simp only [PSamplePast.demonref4_RulesError.l2]
            rw [if_pos (by omega), if_pos (by omega), rdL_nat, if_pos (by omega), if_pos (by omega), rd_nat, if_neg hx0, if_neg hx1, if_neg (by decide), if_neg (by omega), wrap_up 0 (by omega)]
          · have hw : wrap64 ((k : Int) - 1) = ((k - 1 : Nat) : Int) := by unfold wrap64; omega
            refine Ev.step (fun n => ?_) (ih (k + 1) (decide ((r.getD i []).getD (k - 1) 0 > (r.getD i []).getD k 0)) (by omega) (by
              rw [hsu, hb'.1, hb'.2, Bool.true_and, Bool.true_and]
              by_cases g : (r.getD i []).getD (k - 1) 0 ≤ (r.getD i []).getD k 0
              · rw [decide_eq_true (.inr g : k = 0 ∨ _), decide_eq_false (by omega)]; rfl
              · rw [decide_eq_false (fun (h : k = 0 ∨ (r.getD i []).getD (k - 1) 0 ≤ (r.getD i []).getD k 0) => by rcases h with h | h <;> omega), decide_eq_true (by omega)]; rfl) hr')
            simp only [PSamplePast.demonref4_RulesError.l2]
            rw [hw, if_pos (by omega), if_pos (by omega), rdL_nat, if_pos (by omega), if_pos (by omega), rd_nat, rd_nat, if_neg hx0, if_neg hx1, if_neg (by decide), if_pos (by omega), if_pos (by omega), if_pos (by omega), wrap_up k (by omega)]
theorem rules_l1 {r : List (List Int)} (h1 : r.length ≤ 16) (h0 : 0 < r.length) (h2 : r.any (fun f => decide (16 < f.length)) = false) : ∀ (e i : Nat) (b : Bool), i + e = r.length → b = !((r.take i).all fun f => asc f f.length) → (∀ j, j < i → goodR (r.getD 0 []).length (r.getD j []) = true) →
    Ev (fun k => PSamplePast.demonref4_RulesError.l1 k r b (i : Int)) (rErr r) := by
  have h16 : ∀ i, i < r.length → (r.getD i []).length ≤ 16 := fun i hi => by
    rw [List.any_eq_false] at h2
    have := h2 (r.getD i []) (by rw [getDL_eq r i hi]; exact List.getElem_mem hi)
    simpa using this
  intro e
  induction e with
  | zero =>
    intro i b hi hb hg
    obtain rfl : i = r.length := by omega
    have hend := rErr_end h1 h2 (by omega) (all_upto _ hg)
    rw [List.take_length] at hb
    refine Ev.step (f := fun _ => some (rErr r)) (fun n => ?_) (Ev.now _)
    simp only [PSamplePast.demonref4_RulesError.l1]
    rw [if_neg (by omega), hend, hb]
    cases (r.all fun f => asc f f.length) <;> rfl
  | succ e ih =>
    intro i b hi hb hg
    have hil : i < r.length := by omega
    have h16i := h16 i hil
    by_cases hz : (r.getD i []).length = 0
    · have hbad : goodR (r.getD 0 []).length (r.getD i []) = false := by unfold goodR; rw [decide_eq_false (by omega : ¬ 0 < (r.getD i []).length)]; simp
      refine Ev.step (f := fun n => PSamplePast.demonref4_RulesError.j2 n r b (i : Int) true) (fun n => ?_) (Ev.step (f := fun _ => some (rErr r)) (fun n => ?_) (Ev.now _))
      · simp only [PSamplePast.demonref4_RulesError.l1]
        rw [if_pos (by omega), if_pos (by omega), rdL_nat, if_pos (by omega)]
      · simp only [PSamplePast.demonref4_RulesError.j2]
        rw [if_pos (by trivial), rErr_bad h1 h2 hil hbad]
    · have e0 : PSamplePast.rd_L1 r 0 = r.getD 0 [] := rfl
      refine Ev.step (f := fun n => PSamplePast.demonref4_RulesError.j2 n r b (i : Int) (((r.getD i []).length : Int) != ((r.getD 0 []).length : Int))) (fun n => ?_) ?_
      · simp only [PSamplePast.demonref4_RulesError.l1]
        rw [if_pos (by omega), if_pos (by omega), rdL_nat, e0, if_neg (by omega), if_pos (by omega)]
      · by_cases hne : (r.getD i []).length = (r.getD 0 []).length
        · have e1 : (((r.getD i []).length : Int) != ((r.getD 0 []).length : Int)) = false := by rw [hne]; exact bne_self_eq_false _
          rw [e1]
          refine Ev.step (fun n => ?_) (rules_l2 h1 h2 i hil hne (by omega) h16i (fun hgd b' hb' => ih (i + 1) b' (by omega) hb' (fun j hj => by
            by_cases q : j = i
            · subst q; exact hgd
            · exact hg j (by omega))) (r.getD i []).length 0 b (by omega) (by rw [hb]; simp [asc]) (fun j hj => absurd hj (Nat.not_lt_zero _)))
          simp only [PSamplePast.demonref4_RulesError.j2]
          rw [if_neg (by decide)]
          rfl
        · have e1 : (((r.getD i []).length : Int) != ((r.getD 0 []).length : Int)) = true := bne_iff_ne.2 (by omega)
          have hbad : goodR (r.getD 0 []).length (r.getD i []) = false := by unfold goodR; rw [decide_eq_false hne]; simp
          rw [e1]
          refine Ev.step (f := fun _ => some (rErr r)) (fun n => ?_) (Ev.now _)
          simp only [PSamplePast.demonref4_RulesError.j2]
          rw [if_pos (by trivial), rErr_bad h1 h2 hil hbad]
theorem rules_l0 {r : List (List Int)} (h1 : r.length ≤ 16) : ∀ (e i : Nat), i + e = r.length → (∀ j, j < i → (r.getD j []).length ≤ 16) → Ev (fun k => PSamplePast.demonref4_RulesError.l0 k r (i : Int)) (rErr r) := by
  intro e
  induction e with
  | zero =>
    intro i hi hs
    obtain rfl : i = r.length := by omega
    have h2 : r.any (fun f => decide (16 < f.length)) = false := by
      rw [List.any_eq_false]
      intro f hf
      obtain ⟨j, hj, rfl⟩ := List.getElem_of_mem hf
      have := hs j hj
      rw [getDL_eq r j hj] at this
      simpa using this
    rcases Nat.eq_zero_or_pos r.length with q | q
    · refine Ev.step (f := fun _ => some (rErr r)) (fun n => ?_) (Ev.now _)
      simp only [PSamplePast.demonref4_RulesError.l0]
      rw [if_neg (by omega), if_pos (by omega)]
      unfold rErr
      rw [if_neg (by omega), if_neg (by rw [h2]; decide), if_pos q]
    · refine Ev.step (fun n => ?_) (rules_l1 h1 q h2 r.length 0 false (by omega) (by simp) (fun j hj => absurd hj (Nat.not_lt_zero _)))
      simp only [PSamplePast.demonref4_RulesError.l0]
      rw [if_neg (by omega), if_neg (by omega)]
      rfl
  | succ e ih =>
    intro i hi hs
    have hil : i < r.length := by omega
    by_cases hb : 16 < (r.getD i []).length
    · have h2 : r.any (fun f => decide (16 < f.length)) = true := by
        rw [List.any_eq_true]
        exact ⟨r.getD i [], by rw [getDL_eq r i hil]; exact List.getElem_mem hil, decide_eq_true hb⟩
      refine Ev.step (f := fun _ => some (rErr r)) (fun n => ?_) (Ev.now _)
      simp only [PSamplePast.demonref4_RulesError.l0]
      rw [if_pos (by omega), if_pos (by omega), rdL_nat, if_pos (by omega)]
      unfold rErr
      rw [if_neg (by omega), if_pos h2]
    · refine Ev.step (fun n => ?_) (ih (i + 1) (by omega) (fun j hj => by
        by_cases q : j = i
        · subst q; omega
        · exact hs j (by omega)))
      simp only [PSamplePast.demonref4_RulesError.l0]
      rw [if_pos (by omega), if_pos (by omega), rdL_nat, if_neg (by omega), wrap_up i (by omega)]
theorem rules_f (r : List (List Int)) : Ev (fun k => PSamplePast.demonref4_RulesError.f k r) (rErr r) := by
  by_cases h1 : 16 < r.length
  · refine Ev.congr (f := fun _ => some (rErr r)) (fun k => ?_) (Ev.now _)
    unfold PSamplePast.demonref4_RulesError.f rErr
    rw [if_pos (by omega), if_pos h1]
  · refine Ev.congr (fun k => ?_) (rules_l0 (by omega) r.length 0 (by omega) (fun j hj => absurd hj (Nat.not_lt_zero _)))
    unfold PSamplePast.demonref4_RulesError.f
    rw [if_neg (by omega)]
    rfl
theorem rErr_nat (r : List (List Int)) : ∃ c : Nat, rErr r = c ∧ c ≤ 8 := by
  unfold rErr
  repeat' split
  all_goals first | exact ⟨2, rfl, by decide⟩ | exact ⟨3, rfl, by decide⟩ | exact ⟨0, rfl, by decide⟩ | exact ⟨7, rfl, by decide⟩
end Go.Proofs.YtioekjkfhbopkaaDoor
