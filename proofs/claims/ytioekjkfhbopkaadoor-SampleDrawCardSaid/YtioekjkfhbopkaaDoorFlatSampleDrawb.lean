/- Words, plain laws and walks behind the law SampleDraw, part 2. No condition. -/
import Derived.Test.YtioekjkfhbopkaaDoorPSampleDrawx0
import Derived.WalkKit
import Derived.Test.YtioekjkfhbopkaaDoorFlatSampleDrawa
import Derived.Test.YtioekjkfhbopkaaDoorWWords
import Derived.Test.YtioekjkfhbopkaaDoorWApart
import Derived.Test.YtioekjkfhbopkaaDoorPSampleDrawx3
import Derived.Lib.BitFns

/- What the print gives of some functions. No condition. -/
namespace Go.Proofs.YtioekjkfhbopkaaDoor.PSampleDraw
open Go.RowKit Go.Proofs.YtioekjkfhbopkaaDoorW.PrintWords Go.Proofs.YtioekjkfhbopkaaDoorW.PrintLast Go.Proofs.YtioekjkfhbopkaaDoorW.PrintMore
attribute [local go_sem] max2_int min2_int max_two min_two max_three min_three max_four min_four   -- for this text's walks alone
set_option linter.unusedVariables false
set_option linter.unusedSimpArgs false

-- NOT PRINTED: function 55 (dist_list)

-- NOT PRINTED: function 36 (dist_Valid)

/-! ### dist_Total: function 63 -/
def dist_Total.l0 : Nat → Int → List Int → Int → Int → Option (Int)
  | 0, _, _, _, _ => none
  | k + 1, x3, x6, x7, x8 => if x8 < x7 then (if 0 ≤ x8 then (if x8 < (x6.length : Int) then (dist_Total.l0 k (wrap64 (x3 + (rd x6 x8))) x6 x7 (wrap64 (x8 + 1))) else (none)) else (none)) else (some x3)
def dist_Total.f (k : Nat) (l0 : List Int) : Option (Int) := dist_Total.l0 k 0 l0 (l0.length : Int) 0
theorem dist_Total.mono_l : ∀ k, (∀ y0 y1 y2 y3, LeO (dist_Total.l0 k y0 y1 y2 y3) (dist_Total.l0 (k + 1) y0 y1 y2 y3))
  | 0 => fun _ _ _ _ r h => by simp [dist_Total.l0] at h
  | k + 1 => by
    have ih0 := dist_Total.mono_l k
    · intro y0 y1 y2 y3
      unfold dist_Total.l0
      repeat' first
      | (with_reducible exact ih0 _ _ _ _)
      | (with_reducible exact LeO.refl _)
      | (with_reducible exact LeO.none _)
      | (with_reducible refine LeO.ite ?_ ?_)
      | (with_reducible refine LeO.bind ?_ (fun _ => ?_))
      | exact ih0 _ _ _ _
      | exact LeO.none _
      | refine LeO.ite ?_ ?_
      | refine LeO.bind ?_ (fun _ => ?_)
theorem dist_Total.mono : ∀ a0 k, LeO (dist_Total.f k a0) (dist_Total.f (k + 1) a0) := by
  intro a0 k
  have ih0 := dist_Total.mono_l k
  unfold dist_Total.f
  repeat' first
      | (with_reducible exact ih0 _ _ _ _)
      | (with_reducible exact LeO.refl _)
      | (with_reducible exact LeO.none _)
      | (with_reducible refine LeO.ite ?_ ?_)
      | (with_reducible refine LeO.bind ?_ (fun _ => ?_))
      | exact ih0 _ _ _ _
      | exact LeO.none _
      | refine LeO.ite ?_ ?_
      | refine LeO.bind ?_ (fun _ => ?_)
set_option maxHeartbeats 8000000 in
set_option maxRecDepth 100000 in
theorem dist_Total.calls (k : Nat) (A0 : Option Addr) (c0 : Nat) (l0 : List Int) (r : Int) (w : World) (hr0 : Kd.C (Kd.int .i64) w A0 l0.length l0) (hc0 : l0.length ≤ c0) (h : dist_Total.f k l0 = some r) :
    Calls Tryd.prog 63 #[.slice A0 l0.length c0] w fun e w' => e = .returned (.int .i64 r) ∧ Drawn0 w w' := by
  have HR0 := Aside0.mk hr0
  have HC0 := Aside0.mk hc0
  clear hr0 hc0
  have H : (dist_Total.l0 k 0 l0 (l0.length : Int) 0) = some r := h
  clear h
  have H' := Aside0.mk H
  clear H
  go_enter Tryd.func63, Tryd.ntmps63
  go_wp2
  go_loopg [3, 8] k (fun kq v3 v8 w' => ∃ (x3_1 : Int) (x8_1 : Int), v3 = .int .i64 x3_1 ∧ v8 = .int .i64 x8_1 ∧ Aside0 (dist_Total.l0 kq x3_1 l0 (l0.length : Int) x8_1 = some r) ∧ Aside0 (kq ≤ k) ∧ Drawn0 w w')
  case atStart => exact ⟨(0), (0), (by first | rfl | (simp; done) | (simp [*]; done)), (by first | rfl | (simp; done) | (simp [*]; done)), H', ⟨Nat.le_refl _⟩, by repeat (first | exact Drawn0.refl _ | apply Drawn0.step)⟩
  case round =>
    clear H'
    obtain ⟨x3_1, x8_1, rfl, rfl, HA, HK1, ⟨m1, rfl⟩⟩ := hrel
    cases gk with
    | zero => exact absurd HA.out (by simp [dist_Total.l0])
    | succ k1 =>
      have H := HA.out
      clear HA
      simp only [dist_Total.l0] at H
      by_cases c2 : x8_1 < (l0.length : Int)
      · rw [if_pos c2] at H
        have c2b0 : decide (x8_1 < (l0.length : Int)) = true := decide_eq_true c2
        clear c2
        by_cases c3 : 0 ≤ x8_1
        · rw [if_pos c3] at H
          have c3b0 : decide (0 ≤ x8_1) = true := decide_eq_true c3
          clear c3
          by_cases c4 : x8_1 < (l0.length : Int)
          · rw [if_pos c4] at H
            have c4b0 : decide (x8_1 < (l0.length : Int)) = true := decide_eq_true c4
            clear c4
            have H' := Aside0.mk H
            clear H
            have p105 : 0 ≤ (x8_1 : Int) := of_decide_eq_true (by first | (with_reducible assumption) | assumption)
            have q105 : x8_1 < (l0.length : Int) := of_decide_eq_true (by first | (with_reducible assumption) | assumption)
            obtain ⟨ad105, e105, hx105_0⟩ := Kd.at_int HR0.out x8_1 p105 q105
            cases e105
            replace p105 := eq_true p105
            replace q105 := eq_true q105
            go_wp2
            go_roundg k1
            case measure => have := HK1.out; omega
            case rel => exact ⟨(wrap64 (x3_1 + (rd l0 x8_1))), (wrap64 (x8_1 + 1)), (by first | rfl | (simp; done) | (simp [*]; done)), (by first | rfl | (simp; done) | (simp [*]; done)), H', ⟨by have := HK1.out; omega⟩, by repeat (first | exact Drawn0.refl _ | apply Drawn0.step)⟩
          · rw [if_neg c4] at H
            exact absurd H (by simp)
        · rw [if_neg c3] at H
          exact absurd H (by simp)
      · rw [if_neg c2] at H
        have c2b0 : decide (x8_1 < (l0.length : Int)) = false := decide_eq_false c2
        clear c2
        obtain rfl := Option.some.inj H
        go_wp2
        go_ret
        exact ⟨by first | rfl | (simp; done) | (simp [*]; done), by repeat (first | exact Drawn0.refl _ | apply Drawn0.step)⟩

/-! ### demonlaw4_ints: function 13 -/
def demonlaw4_ints.f (l0 : List Int) : Option (List Int) := if ([] : List Int).length + l0.length < 17592186044416 then (some (([] : List Int) ++ l0)) else (none)
set_option maxHeartbeats 8000000 in
set_option maxRecDepth 100000 in
theorem demonlaw4_ints.calls (A0 : Option Addr) (c0 : Nat) (l0 : List Int) (r : List Int) (w : World) (hr0 : Kd.C (Kd.int .i64) w A0 l0.length l0) (hc0 : l0.length ≤ c0) (h : demonlaw4_ints.f l0 = some r) :
    Calls Tryd.prog 13 #[.slice A0 l0.length c0] w fun e w' => ∃ v0_ : Value, e = .returned (v0_) ∧ Kd.R (Kd.int .i64) 3 w' w.heap.size (fun _ => True) v0_ r ∧ Below w.heap.size w w' := by
  have HR0 := Aside0.mk hr0
  have HC0 := Aside0.mk hc0
  clear hr0 hc0
  have HB := Aside0.mk (Below.refl w.heap.size w)
  have H : (if ([] : List Int).length + l0.length < 17592186044416 then (some (([] : List Int) ++ l0)) else (none)) = some r := h
  clear h
  by_cases c2 : ([] : List Int).length + l0.length < 17592186044416
  · rw [if_pos c2] at H
    have LMc2 := Aside0.mk c2
    clear c2
    obtain ⟨y112, hy112⟩ : ∃ y_ : List Int, y_ = (([] : List Int) ++ l0) := ⟨_, rfl⟩
    replace H : (some y112) = some r := by first | (rw [hy112]; with_reducible exact H) | (have H2_ := (Option.bind_some _ _).symm.trans H; rw [hy112]; with_reducible exact H2_) | (have H2_ := (Option.bind_some _ _).symm.trans H; with_reducible exact H2_) | with_reducible exact H | (rw [hy112]; exact H) | exact H
    have Ny112 := Aside0.mk hy112
    clear hy112
    obtain rfl := Option.some.inj H
    go_enter Tryd.func13, Tryd.ntmps13
    go_wp2_with (first | ((with_reducible refine gate_builtin (b := .append) (xs := #[.tmp 4, .tmp 5]) rfl ?_); at_builtin; refine Kd.R_append_rows (Kd.int .i64) (w0 := w) w.heap.size rfl (.tmp 4) (.tmp 5) 23 3 (.int .i64 0) 8 rfl Tryd.underlying23 info3 rfl (by decide) (by omega) (.slice none 0 0) ([] : List Int) l0 _ _ _ (fun _ => True) (fun _ => False) rfl rfl ?aO ?aR (fun _ _ h => h) (fun _ h => h.elim) ?aF ?aB ?aS ?aL ?_; (case aR => repeat (first | exact HR0.out | (with_reducible refine Kd.C_alloc ?_ _) | (with_reducible refine Kd.C_drewN ?_ _) | (with_reducible refine Kd.C_drew ?_))); (case aB => exact (by repeat (first | (with_reducible first | exact HB.out | apply below_alloc | apply pw_below_drewN | apply below_drew1) | exact HB.out))); (case aF => exact (fun _ _ => trivial)); (case aO => exact ((Kd.R_nil _ _ _ _ (fun _ => True)))); (case aS => exact (below_size (by repeat (first | (with_reducible first | exact HB.out | apply below_alloc | apply pw_below_drewN | apply below_drew1) | exact HB.out)))); (case aL => have := LMc2.out; omega); intro v113 w3 ho hb hg hat; rw [← Ny112.out] at ho; have n0_ := Aside0.mk (hb); have n1_ := Aside0.mk (ho); clear HB; have HB := n0_; have HO114 := n1_; clear n0_ n1_; clear ho hb hg hat))
    go_ret
    exact ⟨_, by first | rfl | (simp [errW_none, errW_some] <;> rfl) | (simp [*, errW_none, errW_some] <;> rfl), by (with_reducible repeat (first | apply Kd.R_alloc | apply Kd.R_drewN | apply Kd.R_drew)); exact HO114.out, by repeat (first | (with_reducible first | exact HB.out | apply below_alloc | apply pw_below_drewN | apply below_drew1) | exact HB.out)⟩
  · rw [if_neg c2] at H
    exact absurd H (by simp)

end Go.Proofs.YtioekjkfhbopkaaDoor.PSampleDraw

/- KNUTH and YAO's tree, plain: the leaves of each depth, what a walk along bits comes to; a walk never goes below the deepest leaves. No condition. -/
namespace Go.Proofs.YtioekjkfhbopkaaDoor

/-- the bit of 2^k of a number -/
def bitAt (x k : Nat) : Bool := decide (x / 2 ^ k % 2 = 1)
theorem mod_bit (x k : Nat) : x % 2 ^ (k + 1) = 2 ^ k * (if bitAt x k = true then 1 else 0) + x % 2 ^ k := by
  have h := Nat.mod_mul (x := x) (a := 2 ^ k) (b := 2)
  rw [Nat.pow_succ, h]
  have h2 : x / 2 ^ k % 2 = if bitAt x k = true then 1 else 0 := by
    unfold bitAt
    rcases Nat.mod_two_eq_zero_or_one (x / 2 ^ k) with e | e <;> rw [e] <;> rfl
  rw [h2, Nat.add_comm]
def modSum (l : List Nat) (m : Nat) : Nat := (l.map (· % m)).sum
theorem modSum_bit (l : List Nat) (k : Nat) : modSum l (2 ^ (k + 1)) = 2 ^ k * l.countP (bitAt · k) + modSum l (2 ^ k) := by
  induction l with
  | nil => rfl
  | cons x r ih =>
    unfold modSum at *
    rw [List.map_cons, List.sum_cons, ih, List.map_cons, List.sum_cons, mod_bit, List.countP_cons]
    by_cases h : bitAt x k = true
    · rw [if_pos h, Nat.mul_add]; omega
    · rw [if_neg h]; simp only [Nat.mul_zero, Nat.add_zero]; omega
theorem modSum_one (l : List Nat) : modSum l 1 = 0 := by
  induction l with
  | nil => rfl
  | cons x r ih =>
    unfold modSum at *
    rw [List.map_cons, List.sum_cons, ih, Nat.mod_one]
theorem modSum_big (l : List Nat) (m : Nat) (h : ∀ x, x ∈ l → x < m) : modSum l m = l.sum := by
  induction l with
  | nil => rfl
  | cons x r ih =>
    unfold modSum at *
    rw [List.map_cons, List.sum_cons, List.sum_cons, ih (fun y hy => h y (List.mem_cons_of_mem _ hy)), Nat.mod_eq_of_lt (h x (List.mem_cons_self ..))]
theorem le_sumN (l : List Nat) (x : Nat) (h : x ∈ l) : x ≤ l.sum := by
  induction l with
  | nil => cases h
  | cons y r ih =>
    rw [List.sum_cons]
    rcases List.mem_cons.1 h with e | e
    · omega
    · have := ih e
      omega

/-- how many leaves and nodes there are at a depth, of parts that make 2^D together -/
def cntAt (l : List Nat) (D d : Nat) : Nat := l.countP (bitAt · (D - d))
def nodesAt (l : List Nat) (D : Nat) : Nat → Nat
  | 0 => 1
  | d + 1 => 2 * (nodesAt l D d - cntAt l D d)
theorem nodes_mod (l : List Nat) (D : Nat) (h : l.sum = 2 ^ D) : ∀ d, d ≤ D → nodesAt l D d * 2 ^ (D - d) = modSum l (2 ^ (D - d + 1))
  | 0, _ => by
    rw [nodesAt, Nat.one_mul, Nat.sub_zero, modSum_big l _ (fun x hx => by
      have := le_sumN l x hx
      rw [h] at this
      rw [Nat.pow_succ]
      have : 0 < 2 ^ D := Nat.two_pow_pos D
      omega), h]
  | d + 1, hd => by
    have ih := nodes_mod l D h d (by omega)
    have hb := modSum_bit l (D - d)
    rw [hb] at ih
    have e : D - d = D - (d + 1) + 1 := by omega
    have e2 : nodesAt l D (d + 1) * 2 ^ (D - (d + 1)) = (nodesAt l D d - cntAt l D d) * 2 ^ (D - d) := by
      rw [nodesAt]
      conv => rhs; rw [e, Nat.pow_succ]
      generalize 2 ^ (D - (d + 1)) = q
      generalize nodesAt l D d - cntAt l D d = x
      rw [Nat.mul_comm 2 x, Nat.mul_assoc, Nat.mul_comm 2 q]
    rw [e2, ← e, Nat.sub_mul, ih]
    unfold cntAt
    rw [Nat.mul_comm (2 ^ (D - d))]
    omega
theorem cnt_le (l : List Nat) (D : Nat) (h : l.sum = 2 ^ D) (d : Nat) (hd : d ≤ D) : cntAt l D d ≤ nodesAt l D d := by
  have h1 := nodes_mod l D h d hd
  rw [modSum_bit] at h1
  have h2 : cntAt l D d * 2 ^ (D - d) ≤ nodesAt l D d * 2 ^ (D - d) := by
    rw [h1]
    unfold cntAt
    rw [Nat.mul_comm]
    omega
  exact Nat.le_of_mul_le_mul_right h2 (Nat.two_pow_pos _)
theorem nodes_deep (l : List Nat) (D : Nat) (h : l.sum = 2 ^ D) : nodesAt l D D = cntAt l D D := by
  have h1 := nodes_mod l D h D (Nat.le_refl _)
  rw [modSum_bit, Nat.sub_self, Nat.pow_zero, modSum_one] at h1
  unfold cntAt
  rw [Nat.sub_self]
  omega
/-- the places of the leaves of a depth -/
def leafs (l : List Nat) (D d : Nat) : List Nat := (List.range l.length).filter fun i => bitAt (l.getD i 0) (D - d)
theorem filter_range_count (p : Nat → Bool) (l : List Nat) : ∀ n, n ≤ l.length → ((List.range n).filter fun i => p (l.getD i 0)).length = (l.take n).countP p
  | 0, _ => rfl
  | n + 1, h => by
    have hn : n < l.length := by omega
    rw [List.range_succ, List.filter_append, List.length_append, filter_range_count p l n (by omega), List.take_succ_eq_append_getElem hn, List.countP_append]
    have e : l.getD n 0 = l[n] := by simp [List.getD_eq_getElem?_getD, hn]
    congr 1
    rw [List.filter_cons, List.countP_cons, e]
    cases p l[n] <;> rfl
theorem leafs_len (l : List Nat) (D d : Nat) : (leafs l D d).length = cntAt l D d := by
  have := filter_range_count (bitAt · (D - d)) l l.length (Nat.le_refl _)
  rw [List.take_length] at this
  exact this
/-- the walk: bits left, node, depth, bits used; the last part's leaves begin again -/
def drawB (l : List Nat) (D : Nat) : List Nat → Nat → Nat → Nat → Option (Nat × Nat)
  | [], v, d, used => if v < (leafs l D d).length ∧ (leafs l D d).getD v 0 + 1 < l.length then some ((leafs l D d).getD v 0, used) else none
  | b :: r, v, d, used => if v < (leafs l D d).length then (if (leafs l D d).getD v 0 + 1 < l.length then some ((leafs l D d).getD v 0, used) else drawB l D r b 1 (used + 1)) else drawB l D r (2 * (v - (leafs l D d).length) + b) (d + 1) (used + 1)
/-- a node that is there, and no leaf, is not at the last depth; what lies behind it is there -/
theorem next_node {l : List Nat} {D : Nat} (h : l.sum = 2 ^ D) {v d b : Nat} (hd : d ≤ D) (hv : v < nodesAt l D d) (hn : ¬ v < (leafs l D d).length) (hb : b ≤ 1) :
    d + 1 ≤ D ∧ 2 * (v - (leafs l D d).length) + b < nodesAt l D (d + 1) := by
  rw [leafs_len] at *
  have h1 : d ≠ D := by
    intro e
    subst e
    have := nodes_deep l d h
    omega
  refine ⟨by omega, ?_⟩
  rw [nodesAt]
  omega
end Go.Proofs.YtioekjkfhbopkaaDoor

/- Between our words for memory and those of the printed texts: a slice that reads as a list, a table. No condition. -/
namespace Go.Proofs.YtioekjkfhbopkaaDoor
open Go.RowKit Go.Deep Go.Proofs.YtioekjkfhbopkaaDoorW.PrintWords

theorem Ints.toC {w : World} {A : Option Addr} {l : List Int} (h : Ints w A l) : Kd.C (Kd.int .i64) w A l.length l := by
  refine ⟨rfl, h.len, fun hn => ?_⟩
  obtain ⟨b, off, rfl, _, _⟩ := h.at_ 0 hn
  refine ⟨_, rfl, fun j p hj => ⟨[.int .i64 p], rfl, rfl, fun i u hu => ?_⟩⟩
  have hjl : j < l.length := by
    rcases Nat.lt_or_ge j l.length with h1 | h1
    · exact h1
    · rw [List.getElem?_eq_none h1] at hj; cases hj
  obtain ⟨b', off', e, _, hc⟩ := h.at_ j hjl
  injection e with e
  injection e with e1 e2 _
  subst e1 e2
  have hi : i = 0 := by
    rcases Nat.eq_zero_or_pos i with h1 | h1
    · exact h1
    · rw [List.getElem?_eq_none (by simp; omega)] at hu; cases hu
  subst hi
  rw [addr_add]
  have hp : l.getD j 0 = p := by rw [List.getD_eq_getElem?_getD, hj]; rfl
  rw [hp] at hc
  simp at hu
  subst hu
  show w.cell? ⟨b, off + (j * 1 + 0), none⟩ = _
  rw [Nat.mul_one, Nat.add_zero]
  exact hc
theorem Ints.ofC {w : World} {g off : Nat} {l : List Int} (h : Kd.C (Kd.int .i64) w (some ⟨g, off, none⟩) l.length l) : Ints w (some ⟨g, off, none⟩) l :=
  ⟨h.2.1, fun i hi => by
    obtain ⟨ad, c, e, _, hK, hc⟩ := Kd.C_get h 0 i (by omega) (by omega)
    obtain rfl := Option.some.inj e
    have hK' : c = [.int .i64 (l.getD i 0)] := hK
    subst hK'
    have h1 := hc 0 _ rfl
    rw [addr_add] at h1
    have h2 : w.cell? ⟨g, off + i, none⟩ = some (.int .i64 (l.getD i 0)) := by
      have e1 : off + ((i : Int).toNat * (Kd.int IntKind.i64).sz + 0) = off + i := by
        show off + ((i : Int).toNat * 1 + 0) = off + i
        omega
      rw [e1] at h1
      exact h1
    exact ⟨g, off, rfl, World.block_lt_of_cell? w _ h2, h2⟩⟩
theorem Ints.ofR {w : World} {e base : Nat} {ok : Nat → Prop} {v : Value} {l : List Int} (h : Kd.R (Kd.int .i64) e w base ok v l) : ∃ A c, v = .slice A l.length c ∧ Ints w A l ∧ l.length ≤ c := by
  obtain ⟨A, c, rfl, hc, hC⟩ := Kd.R_reads h
  refine ⟨A, c, rfl, ?_, hc⟩
  rcases Nat.eq_zero_or_pos l.length with h0 | h0
  · rw [List.eq_nil_of_length_eq_zero h0]; exact Ints.nil w A
  · obtain ⟨g, cap, e1, _⟩ := Kd.R_form h h0
    injection e1 with e1
    subst e1
    exact Ints.ofC hC
theorem Lists.toC {w : World} {A : Option Addr} {l : List (List Int)} (h : Lists w A l) : Kd.C (Kd.slice 3 (Kd.int .i64)) w A l.length l := by
  refine ⟨rfl, h.len, fun hn => ?_⟩
  obtain ⟨b, off, _, _, rfl, _⟩ := h.at_ 0 hn
  refine ⟨_, rfl, fun j p hj => ?_⟩
  have hjl : j < l.length := by
    rcases Nat.lt_or_ge j l.length with h1 | h1
    · exact h1
    · rw [List.getElem?_eq_none h1] at hj; cases hj
  obtain ⟨b', off', A', c, e, _, hc, hle, hI⟩ := h.at_ j hjl
  injection e with e
  injection e with e1 e2 _
  subst e1 e2
  have hp : l.getD j [] = p := by rw [List.getD_eq_getElem?_getD, hj]; rfl
  rw [hp] at hc hle hI
  refine ⟨[.slice A' p.length c], rfl, ⟨A', c, rfl, hle, hI.toC⟩, fun i u hu => ?_⟩
  have hi : i = 0 := by
    rcases Nat.eq_zero_or_pos i with h1 | h1
    · exact h1
    · rw [List.getElem?_eq_none (by simp; omega)] at hu; cases hu
  subst hi
  simp at hu
  subst hu
  rw [addr_add]
  show w.cell? ⟨b, off + (j * 1 + 0), none⟩ = _
  rw [Nat.mul_one, Nat.add_zero]
  exact hc
theorem Lists.ofR {w : World} {e base : Nat} {ok : Nat → Prop} {v : Value} {l : List (List Int)} (h : Kd.R (Kd.slice 3 (Kd.int .i64)) e w base ok v l) : ∃ A c, v = .slice A l.length c ∧ Lists w A l ∧ l.length ≤ c := by
  obtain ⟨A, c, rfl, hc, hC⟩ := Kd.R_reads h
  refine ⟨A, c, rfl, ?_, hc⟩
  rcases Nat.eq_zero_or_pos l.length with h0 | h0
  · rw [List.eq_nil_of_length_eq_zero h0]; exact Lists.nil w A
  · obtain ⟨g, cap, e1, _⟩ := Kd.R_form h h0
    injection e1 with e1
    subst e1
    refine ⟨hC.2.1, fun i hi => ?_⟩
    obtain ⟨_, inner, ho, hr⟩ := h
    have hp : l[i]? = some (l.getD i []) := by rw [List.getD_eq_getElem?_getD, List.getElem?_eq_getElem hi]; rfl
    obtain ⟨u, hu, hR⟩ := hr.2 i _ hp
    obtain ⟨A', c', rfl, hI, hle⟩ := Ints.ofR hR
    have hin : inner[i]? = some (.slice A' (l.getD i []).length c') := by
      have h1 : ((inner.drop (i * 1)).take 1)[0]? = some (.slice A' (l.getD i []).length c') := by
        have : ((inner.drop (i * 1)).take 1) = [.slice A' (l.getD i []).length c'] := hu
        rw [this]
        rfl
      rw [List.getElem?_take_of_lt (by omega), List.getElem?_drop, Nat.mul_one, Nat.add_zero] at h1
      exact h1
    have hcell : w.cell? ⟨g, 0 + i, none⟩ = some (.slice A' (l.getD i []).length c') := by
      have := ho.cells (g := g) rfl i _ hin
      rw [addr_add] at this
      exact this
    exact ⟨g, 0, A', c', rfl, World.block_lt_of_cell? w _ hcell, hcell, hle, hI⟩
theorem drawn_below {w w' : World} (h : Drawn0 w w') : Below w.heap.size w w' := by
  obtain ⟨n, rfl⟩ := h
  exact below_drewN' (Below.refl _ _) n
theorem rd_getD (l : List Int) (i : Nat) : rd l (i : Int) = l.getD i 0 := rfl
end Go.Proofs.YtioekjkfhbopkaaDoor

/- Plain words for systems: which pair is bad; the code of a system's error. No condition. -/
namespace Go.Proofs.YtioekjkfhbopkaaDoor

def badPair (n : Int) (p : Int × Int) : Bool := decide (p.1 < 0 ∨ p.2 < 0 ∨ n ≤ p.1 ∨ n ≤ p.2 ∨ p.1 = p.2)
def vcode (n : Int) (l : List (Int × Int)) : Int := if n < 0 ∨ 14 < n ∨ 30 < l.length then 2 else if l.any (badPair n) then 3 else 0

/-- all pairs ahead of place k are right -/
structure Good (n : Int) (l : List (Int × Int)) (k : Nat) : Prop where
  out : ∀ j, j < k → badPair n (l.getD j (0, 0)) = false
theorem Good.zero (n : Int) (l : List (Int × Int)) : Good n l 0 := ⟨fun j h => absurd h (by omega)⟩
theorem Good.succ {n : Int} {l : List (Int × Int)} {k : Nat} (h : Good n l k) (hk : badPair n (l.getD k (0, 0)) = false) : Good n l (k + 1) :=
  ⟨fun j hj => by
    by_cases e : j = k
    · rw [e]; exact hk
    · exact h.out j (by omega)⟩
theorem getD_eq {α : Type} (l : List α) (i : Nat) (d : α) (h : i < l.length) : l.getD i d = l[i] := by simp [List.getD_eq_getElem?_getD, h]
theorem vcode_big {n : Int} {l : List (Int × Int)} (h : n < 0 ∨ 14 < n ∨ 30 < l.length) : vcode n l = 2 := by unfold vcode; rw [if_pos h]
theorem vcode_bad {n : Int} {l : List (Int × Int)} {k : Nat} (h0 : 0 ≤ n) (h1 : n ≤ 14) (h2 : l.length ≤ 30) (hk : k < l.length) (hb : badPair n (l.getD k (0, 0)) = true) : vcode n l = 3 := by
  unfold vcode
  rw [if_neg (by omega), if_pos]
  rw [List.any_eq_true]
  rw [getD_eq l k _ hk] at hb
  exact ⟨l[k], List.getElem_mem hk, hb⟩
theorem vcode_good {n : Int} {l : List (Int × Int)} (h0 : 0 ≤ n) (h1 : n ≤ 14) (h2 : l.length ≤ 30) (h : Good n l l.length) : vcode n l = 0 := by
  unfold vcode
  rw [if_neg (by omega), if_neg]
  rw [List.any_eq_true]
  rintro ⟨p, hp, hb⟩
  obtain ⟨i, hi, rfl⟩ := List.getElem_of_mem hp
  have := h.out i hi
  rw [getD_eq l i _ hi] at this
  rw [this] at hb
  cases hb
theorem vcode_zero {n : Int} {l : List (Int × Int)} (h : vcode n l = 0) : 0 ≤ n ∧ n ≤ 14 ∧ l.length ≤ 30 ∧ Good n l l.length := by
  unfold vcode at h
  by_cases c : n < 0 ∨ 14 < n ∨ 30 < l.length
  · rw [if_pos c] at h; cases h
  · rw [if_neg c] at h
    by_cases d : l.any (badPair n) = true
    · rw [if_pos d] at h; cases h
    · refine ⟨by omega, by omega, by omega, ⟨fun j hj => ?_⟩⟩
      rw [getD_eq l j _ hj]
      cases e : badPair n l[j]
      · rfl
      · exact absurd (List.any_eq_true.2 ⟨l[j], List.getElem_mem hj, e⟩) d
theorem vcode_cases (n : Int) (l : List (Int × Int)) : vcode n l = 0 ∨ vcode n l = 2 ∨ vcode n l = 3 := by
  unfold vcode
  split
  · exact .inr (.inl rfl)
  · split
    · exact .inr (.inr rfl)
    · exact .inl rfl
theorem badPair_true {n : Int} {p : Int × Int} (h : p.1 < 0 ∨ p.2 < 0 ∨ n ≤ p.1 ∨ n ≤ p.2 ∨ p.1 = p.2) : badPair n p = true := decide_eq_true h
theorem badPair_false {n : Int} {p : Int × Int} (h0 : 0 ≤ p.1) (h1 : 0 ≤ p.2) (h2 : p.1 < n) (h3 : p.2 < n) (h4 : p.1 ≠ p.2) : badPair n p = false := decide_eq_false (by omega)
theorem badPair_of_false {n : Int} {p : Int × Int} (h : badPair n p = false) : 0 ≤ p.1 ∧ 0 ≤ p.2 ∧ p.1 < n ∧ p.2 < n ∧ p.1 ≠ p.2 := by
  have := of_decide_eq_false h
  omega
end Go.Proofs.YtioekjkfhbopkaaDoor

/- Plain words for weights; what the printed functions on them answer. No condition. -/
namespace Go.Proofs.YtioekjkfhbopkaaDoor
open Go Go.RowKit Go.Proofs.YtioekjkfhbopkaaDoorW.PrintWords

theorem wrap_up (i : Nat) (h : i ≤ 2000000) : wrap64 ((i : Int) + 1) = ((i + 1 : Nat) : Int) := by
  unfold wrap64
  omega
theorem rd_nat (l : List Int) (i : Nat) : rd l (i : Int) = l.getD i 0 := rfl
def anyNeg (l : List Int) : Bool := l.any fun x => decide (x < 0)
def anyPos (l : List Int) : Bool := l.any fun x => decide (0 < x)
/-- the code of weights' error -/
def wcode (most : Int) (l : List Int) : Int := if anyNeg l then 3 else if anyPos l then (if most < l.sum then 2 else 0) else 3
def wErr (l : List Int) : Int := if 16 < l.length then 2 else wcode 4096 l
theorem take_at (l : List Int) (i : Nat) (h : i < l.length) : l.take (i + 1) = l.take i ++ [l.getD i 0] := by
  rw [List.take_succ_eq_append_getElem h, getD_eq l i 0 h]
theorem any_take (p : Int → Bool) (l : List Int) (i : Nat) (h : i < l.length) : (l.take (i + 1)).any p = ((l.take i).any p || p (l.getD i 0)) := by
  rw [take_at l i h, List.any_append]
  simp
theorem sum_take (l : List Int) (i : Nat) (h : i < l.length) : (l.take (i + 1)).sum = (l.take i).sum + l.getD i 0 := by
  rw [take_at l i h, List.sum_append]
  simp
theorem wcode_neg (most : Int) (l : List Int) (i : Nat) (h : i < l.length) (hx : l.getD i 0 < 0) : wcode most l = 3 := by
  unfold wcode
  rw [if_pos]
  unfold anyNeg
  rw [List.any_eq_true]
  rw [getD_eq l i 0 h] at hx
  exact ⟨l[i], List.getElem_mem h, decide_eq_true hx⟩
theorem anyNeg_false (l : List Int) (h : anyNeg (l.take l.length) = false) : anyNeg l = false := by rw [List.take_length] at h; exact h
theorem sum_nonneg (l : List Int) (h : anyNeg l = false) : 0 ≤ l.sum := by
  induction l with
  | nil => simp
  | cons x l ih =>
    simp only [anyNeg, List.any_cons, Bool.or_eq_false_iff, decide_eq_false_iff_not] at h
    have := ih h.2
    rw [List.sum_cons]
    omega
theorem wcode_end (most : Int) (l : List Int) (s g : Bool) (hn : anyNeg l = false) (hs : s = anyPos l) (hg : g = decide (most < l.sum)) : wcode most l = if s = true then (if g = true then 2 else 0) else 3 := by
  unfold wcode
  rw [if_neg (by simp [hn]), hs, hg]
  simp
theorem listError_l0 (l : List Int) (most : Int) (hm : 0 ≤ most) (hm2 : most ≤ 2000000) (hl : l.length ≤ 2000000) : ∀ (d i k : Nat) (s g : Bool) (t : Int), i + d = l.length → d < k →
    anyNeg (l.take i) = false → s = anyPos (l.take i) → g = decide (most < (l.take i).sum) → (g = false → t = (l.take i).sum) → PSampleDraw.demonref1_listError.l0 k l most s g t (i : Int) = some (wcode most l) := by
  intro d
  induction d with
  | zero =>
    intro i k s g t hi hk hn hs hg _
    obtain ⟨k, rfl⟩ : ∃ m, k = m + 1 := ⟨k - 1, by omega⟩
    obtain rfl : i = l.length := by omega
    rw [List.take_length] at hn hs hg
    simp only [PSampleDraw.demonref1_listError.l0]
    rw [if_neg (by omega), wcode_end most l s g hn hs hg]
    cases s <;> cases g <;> rfl
  | succ d ih =>
    intro i k s g t hi hk hn hs hg ht
    obtain ⟨k, rfl⟩ : ∃ m, k = m + 1 := ⟨k - 1, by omega⟩
    have hil : i < l.length := by omega
    simp only [PSampleDraw.demonref1_listError.l0]
    rw [if_pos (by omega), if_pos (by omega), rd_nat, wrap_up i (by omega)]
    by_cases hx : l.getD i 0 < 0
    · rw [if_pos hx, wcode_neg most l i hil hx]
    · rw [if_neg hx]
      have hn' : anyNeg (l.take (i + 1)) = false := by
        unfold anyNeg at hn ⊢
        rw [any_take _ l i hil, hn, decide_eq_false hx]
        rfl
      have hp' : anyPos (l.take (i + 1)) = (anyPos (l.take i) || decide (0 < l.getD i 0)) := any_take _ l i hil
      have hs' := sum_take l i hil
      have h0 := sum_nonneg _ hn
      generalize l.getD i 0 = x at hx hp' hs' ⊢
      have key : ∀ (s' g' : Bool) (t' : Int), s' = (s || decide (0 < x)) → g' = decide (most < (l.take i).sum + x) → (g' = false → t' = (l.take i).sum + x) → PSampleDraw.demonref1_listError.l0 k l most s' g' t' ((i + 1 : Nat) : Int) = some (wcode most l) := fun s' g' t' e1 e2 e3 =>
        ih (i + 1) k s' g' t' (by omega) (by omega) hn' (by rw [hp', e1, hs]) (by rw [hs', e2]) (fun h => by rw [hs', e3 h])
      clear ih
      cases g
      · have ht' := ht rfl
        have hg' : ¬ most < (l.take i).sum := by simpa using hg.symm
        have hw : x ≤ most → wrap64 (t + x) = (l.take i).sum + x := fun hxm => by rw [ht']; unfold wrap64; omega
        by_cases hxm : x > most
        · have k2 : decide (x > most) = decide (most < (l.take i).sum + x) := by rw [decide_eq_true hxm, decide_eq_true (by omega)]
          cases s
          · simp only [Bool.false_eq_true, if_false]
            rw [if_pos hxm]
            exact key _ _ _ (by rw [Bool.false_or]) k2 (fun h => by rw [decide_eq_true hxm] at h; cases h)
          · simp only [Bool.false_eq_true, if_false, if_true]
            rw [if_pos hxm]
            exact key _ _ _ (by rw [Bool.true_or]) k2 (fun h => by rw [decide_eq_true hxm] at h; cases h)
        · have hw' := hw (by omega)
          cases s
          · simp only [Bool.false_eq_true, if_false]
            rw [if_neg hxm, hw']
            exact key _ _ _ (by rw [Bool.false_or]) rfl (fun _ => rfl)
          · simp only [Bool.false_eq_true, if_false, if_true]
            rw [if_neg hxm, hw']
            exact key _ _ _ (by rw [Bool.true_or]) rfl (fun _ => rfl)
      · have hg' : most < (l.take i).sum := by simpa using hg.symm
        have k2 : true = decide (most < (l.take i).sum + x) := (decide_eq_true (by omega)).symm
        cases s
        · simp only [Bool.false_eq_true, if_false, if_true]
          exact key _ _ _ (by rw [Bool.false_or]) k2 (fun h => by cases h)
        · simp only [if_true]
          exact key _ _ _ (by rw [Bool.true_or]) k2 (fun h => by cases h)
theorem listError_f (l : List Int) (most : Int) (hm : 0 ≤ most) (hm2 : most ≤ 2000000) (hl : l.length ≤ 2000000) : PSampleDraw.demonref1_listError.f (l.length + 1) l most = some (wcode most l) :=
  listError_l0 l most hm hm2 hl l.length 0 _ false false 0 (by omega) (by omega) rfl rfl (by rw [List.take_zero, List.sum_nil, decide_eq_false (by omega)]) (fun _ => by simp)
theorem weightsError_f (l : List Int) (hl : l.length ≤ 2000000) : PSampleDraw.demonref1_WeightsError.f (l.length + 1) l = some (wErr l) := by
  unfold PSampleDraw.demonref1_WeightsError.f wErr
  by_cases h : 16 < l.length
  · rw [if_pos (by omega), if_pos h]
  · rw [if_neg (by omega), if_neg h, listError_f l 4096 (by decide) (by decide) hl]
    rfl
theorem bits_l0 (s : ByteArray) (hs : s.size ≤ 2000000) : ∀ (d i k : Nat), i + d = s.size → d < k → (∀ j, j < i → bt s (j : Int) = 48 ∨ bt s (j : Int) = 49) →
    ∃ b, PSampleDraw.demonref1_Bits.l0 k s (i : Int) = some b ∧ (b = true ↔ ∀ j, j < s.size → bt s (j : Int) = 48 ∨ bt s (j : Int) = 49) := by
  intro d
  induction d with
  | zero =>
    intro i k hi hk hb
    obtain ⟨k, rfl⟩ : ∃ m, k = m + 1 := ⟨k - 1, by omega⟩
    obtain rfl : i = s.size := by omega
    simp only [PSampleDraw.demonref1_Bits.l0]
    rw [if_neg (by omega)]
    exact ⟨true, rfl, by simpa using hb⟩
  | succ d ih =>
    intro i k hi hk hb
    obtain ⟨k, rfl⟩ : ∃ m, k = m + 1 := ⟨k - 1, by omega⟩
    simp only [PSampleDraw.demonref1_Bits.l0]
    rw [if_pos (by omega), if_pos (by omega), wrap_up i (by omega)]
    by_cases h1 : bt s (i : Int) = 48
    · rw [if_pos h1]
      exact ih (i + 1) k (by omega) (by omega) (fun j hj => by
        by_cases e : j = i
        · subst e; exact .inl h1
        · exact hb j (by omega))
    · rw [if_neg h1]
      by_cases h2 : bt s (i : Int) = 49
      · rw [if_pos h2]
        exact ih (i + 1) k (by omega) (by omega) (fun j hj => by
          by_cases e : j = i
          · subst e; exact .inr h2
          · exact hb j (by omega))
      · rw [if_neg h2]
        refine ⟨false, rfl, ⟨fun h => (by cases h), fun h => ?_⟩⟩
        rcases h i (by omega) with h | h
        · exact absurd h h1
        · exact absurd h h2
/-- a text of 0 and 1 alone -/
def isBits (s : ByteArray) : Bool := s.data.toList.all fun b => b == 48 || b == 49
theorem bt_list (s : ByteArray) (i : Nat) : bt s (i : Int) = ((s.data.toList.getD i 0).toNat : Int) := by
  unfold bt
  by_cases h : i < s.size
  · rw [dif_pos (by simpa using h)]
    have h' : i < s.data.toList.length := by simpa using h
    rw [List.getD_eq_getElem?_getD, List.getElem?_eq_getElem h']
    rfl
  · rw [dif_neg (by simpa using h)]
    have h' : s.data.toList.length ≤ i := by
      have : s.data.toList.length = s.size := rfl
      omega
    rw [List.getD_eq_getElem?_getD, List.getElem?_eq_none h']
    rfl
theorem isBits_iff (s : ByteArray) : isBits s = true ↔ ∀ j, j < s.size → bt s (j : Int) = 48 ∨ bt s (j : Int) = 49 := by
  have hl : s.data.toList.length = s.size := rfl
  have hu : ∀ (b : UInt8) (n : Nat), n < 256 → (((b.toNat : Nat) : Int) = (n : Int) ↔ b = UInt8.ofNat n) := fun b n hn => by
    constructor
    · intro h
      apply UInt8.toNat_inj.1
      rw [UInt8.toNat_ofNat_of_lt' hn]
      omega
    · rintro rfl
      rw [UInt8.toNat_ofNat_of_lt' hn]
  unfold isBits
  rw [List.all_eq_true]
  constructor
  · intro h j hj
    rw [bt_list, List.getD_eq_getElem?_getD, List.getElem?_eq_getElem (by rw [hl]; exact hj)]
    have := h _ (List.getElem_mem (l := s.data.toList) (n := j) (by rw [hl]; exact hj))
    simp only [Bool.or_eq_true, beq_iff_eq] at this
    rcases this with e | e
    · exact .inl ((hu _ 48 (by decide)).2 e)
    · exact .inr ((hu _ 49 (by decide)).2 e)
  · intro h b hb
    obtain ⟨j, hj, rfl⟩ := List.getElem_of_mem hb
    have := h j (by rw [← hl]; exact hj)
    rw [bt_list, List.getD_eq_getElem?_getD, List.getElem?_eq_getElem hj] at this
    simp only [Bool.or_eq_true, beq_iff_eq]
    rcases this with e | e
    · exact .inl ((hu _ 48 (by decide)).1 e)
    · exact .inr ((hu _ 49 (by decide)).1 e)
theorem bits_f (s : ByteArray) (hs : s.size ≤ 2000000) : PSampleDraw.demonref1_Bits.f (s.size + 1) s = some (isBits s) := by
  obtain ⟨b, h1, h2⟩ := bits_l0 s hs s.size 0 (s.size + 1) (by omega) (by omega) (fun j h => absurd h (Nat.not_lt_zero _))
  have : b = isBits s := by
    rw [Bool.eq_iff_iff, h2, isBits_iff]
  rw [← this]
  exact h1
/-- right weights -/
structure GoodW (W : List Int) : Prop where
  len : W.length ≤ 16
  pos : 0 < W.sum
  le : W.sum ≤ 4096
  nn : ∀ i, 0 ≤ W.getD i 0
theorem getD_nonneg {K : List Int} (h : anyNeg K = false) (i : Nat) : 0 ≤ K.getD i 0 := by
  unfold anyNeg at h
  rw [List.any_eq_false] at h
  by_cases hi : i < K.length
  · rw [getD_eq K i 0 hi]
    have := h _ (List.getElem_mem hi)
    simp at this
    omega
  · rw [List.getD_eq_getElem?_getD, List.getElem?_eq_none (by omega)]
    exact Int.le_refl _
theorem sum_pos_of {K : List Int} (h : anyNeg K = false) (h2 : anyPos K = true) : 0 < K.sum := by
  induction K with
  | nil => simp [anyPos] at h2
  | cons x l ih =>
    simp only [anyNeg, List.any_cons, Bool.or_eq_false_iff, decide_eq_false_iff_not] at h
    rw [List.sum_cons]
    have h0 := sum_nonneg l h.2
    simp only [anyPos, List.any_cons, Bool.or_eq_true, decide_eq_true_eq] at h2
    rcases h2 with h2 | h2
    · omega
    · have := ih h.2 h2
      omega
theorem good_of {W : List Int} (h : wErr W = 0) : GoodW W := by
  unfold wErr at h
  by_cases h1 : 16 < W.length
  · rw [if_pos h1] at h; cases h
  · rw [if_neg h1] at h
    unfold wcode at h
    cases h2 : anyNeg W
    · rw [h2] at h
      cases h3 : anyPos W
      · rw [h3] at h; simp at h
      · rw [h3] at h
        simp only [Bool.false_eq_true, if_false, if_true] at h
        by_cases h4 : (4096 : Int) < W.sum
        · rw [if_pos h4] at h; cases h
        · exact ⟨by omega, sum_pos_of h2 h3, by omega, getD_nonneg h2⟩
    · rw [h2] at h; simp at h
theorem wErr_nat (W : List Int) : ∃ c : Nat, wErr W = c ∧ c ≤ 8 := by
  unfold wErr wcode
  repeat' split
  all_goals first | exact ⟨2, rfl, by decide⟩ | exact ⟨3, rfl, by decide⟩ | exact ⟨0, rfl, by decide⟩
theorem take_le {W : List Int} (h : ∀ i, 0 ≤ W.getD i 0) : ∀ i, i ≤ W.length → 0 ≤ (W.take i).sum ∧ (W.take i).sum ≤ W.sum := by
  have mono : ∀ d i, i + d = W.length → (W.take i).sum ≤ W.sum := by
    intro d
    induction d with
    | zero => intro i hi; obtain rfl : i = W.length := by omega
              rw [List.take_length]; exact Int.le_refl _
    | succ d ih => intro i hi; have := ih (i + 1) (by omega); rw [sum_take W i (by omega)] at this; have := h i; omega
  intro i hi
  refine ⟨?_, mono (W.length - i) i (by omega)⟩
  induction i with
  | zero => simp
  | succ i ih => rw [sum_take W i (by omega)]; have := ih (by omega); have := h i; omega
theorem sum_l0 {W : List Int} (h : GoodW W) : ∀ (d i : Nat), i + d = W.length → Ev (fun k => PSampleDraw.demonref1_Sum.l0 k W (W.take i).sum (i : Int)) W.sum := by
  intro d
  induction d with
  | zero =>
    intro i hi
    obtain rfl : i = W.length := by omega
    refine Ev.step (f := fun _ => some W.sum) (fun k => ?_) (Ev.now _)
    simp only [PSampleDraw.demonref1_Sum.l0]
    rw [if_neg (by omega), List.take_length]
  | succ d ih =>
    intro i hi
    refine Ev.step (fun k => ?_) (ih (i + 1) (by omega))
    have h1 := take_le h.nn (i + 1) (by omega)
    have h2 := h.le
    have hw : wrap64 ((W.take i).sum + W.getD i 0) = (W.take (i + 1)).sum := by rw [sum_take W i (by omega)] at *; unfold wrap64; omega
    simp only [PSampleDraw.demonref1_Sum.l0]
    have := h.len
    rw [if_pos (by omega), if_pos (by omega), rd_nat, hw, wrap_up i (by omega)]
theorem sum_f {W : List Int} (h : GoodW W) : Ev (fun k => PSampleDraw.demonref1_Sum.f k W) W.sum := sum_l0 h W.length 0 (by omega)
theorem total_l0 {W : List Int} (h : GoodW W) : ∀ (d i : Nat), i + d = W.length → Ev (fun k => PSampleDraw.dist_Total.l0 k (W.take i).sum W (W.length : Int) (i : Int)) W.sum := by
  intro d
  induction d with
  | zero =>
    intro i hi
    obtain rfl : i = W.length := by omega
    refine Ev.step (f := fun _ => some W.sum) (fun k => ?_) (Ev.now _)
    simp only [PSampleDraw.dist_Total.l0]
    rw [if_neg (by omega), List.take_length]
  | succ d ih =>
    intro i hi
    refine Ev.step (fun k => ?_) (ih (i + 1) (by omega))
    have h1 := take_le h.nn (i + 1) (by omega)
    have h2 := h.le
    have hw : wrap64 ((W.take i).sum + W.getD i 0) = (W.take (i + 1)).sum := by rw [sum_take W i (by omega)] at *; unfold wrap64; omega
    simp only [PSampleDraw.dist_Total.l0]
    have := h.len
    rw [if_pos (by omega), if_pos (by omega), if_pos (by omega), rd_nat, hw, wrap_up i (by omega)]
theorem total_f {W : List Int} (h : GoodW W) : Ev (fun k => PSampleDraw.dist_Total.f k W) W.sum := total_l0 h W.length 0 (by omega)
end Go.Proofs.YtioekjkfhbopkaaDoor

/- KNUTH and YAO's tree of right weights: what the reference's functions answer. No condition. -/
namespace Go.Proofs.YtioekjkfhbopkaaDoor
open Go Go.RowKit Go.Proofs.YtioekjkfhbopkaaDoorW.PrintWords

theorem bitLen_bounds : ∀ (m : Nat), m < 2 ^ 13 → m < 2 ^ Lib.bitLen m ∧ (∀ k, k < Lib.bitLen m → 2 ^ k ≤ m) ∧ Lib.bitLen m ≤ 13 := by
  have key : ∀ (n m : Nat), m < 2 ^ n → n ≤ 13 → m < 2 ^ Lib.bitLen m ∧ (∀ k, k < Lib.bitLen m → 2 ^ k ≤ m) ∧ Lib.bitLen m ≤ n := by
    intro n
    induction n with
    | zero =>
      intro m hm _
      obtain rfl : m = 0 := by simpa using hm
      have e : Lib.bitLen 0 = 0 := by decide
      rw [e]
      exact ⟨by decide, fun k h => absurd h (Nat.not_lt_zero _), Nat.le_refl _⟩
    | succ n ih =>
      intro m hm hn
      by_cases h0 : m = 0
      · subst h0
        have e : Lib.bitLen 0 = 0 := by decide
        rw [e]
        exact ⟨by decide, fun k h => absurd h (Nat.not_lt_zero _), Nat.zero_le _⟩
      · have h13 : (2 : Nat) ^ (n + 1) ≤ 2 ^ 13 := Nat.pow_le_pow_right (by decide) hn
        have hb := Lib.bitLen_half m h0 (by
          have : (2 : Nat) ^ 13 ≤ 2 ^ 64 := Nat.pow_le_pow_right (by decide) (by decide)
          omega)
        obtain ⟨a, b, c⟩ := ih (m / 2) (by rw [Nat.pow_succ] at hm; omega) (by omega)
        rw [hb]
        generalize Lib.bitLen (m / 2) = q at a b c
        refine ⟨by rw [Nat.add_comm, Nat.pow_succ]; omega, fun k hk => ?_, by omega⟩
        cases k with
        | zero => simp; omega
        | succ k => have := b k (by omega); rw [Nat.pow_succ]; omega
  exact fun m hm => key 13 m hm (Nat.le_refl _)
/-- the depth of the tree -/
def dep (W : List Int) : Nat := Lib.bitLen (W.sum - 1).toNat
theorem dep_le {W : List Int} (h : GoodW W) : W.sum ≤ (2 ^ dep W : Nat) ∧ (∀ k, k < dep W → ((2 ^ k : Nat) : Int) < W.sum) ∧ dep W ≤ 12 := by
  have h1 := h.pos
  have h2 := h.le
  obtain ⟨a, b, c⟩ := bitLen_bounds (W.sum - 1).toNat (by omega)
  unfold dep
  refine ⟨by omega, fun k hk => by have := b k hk; omega, ?_⟩
  rcases Nat.lt_or_ge 12 (Lib.bitLen (W.sum - 1).toNat) with q | q
  · have := b 12 q
    omega
  · exact q
/-- the parts: the weights, and what is left over -/
def parts (W : List Int) : List Nat := W.map Int.toNat ++ [(((2 ^ dep W : Nat) : Int) - W.sum).toNat]
theorem parts_len (W : List Int) : (parts W).length = W.length + 1 := by simp [parts]
theorem parts_at {W : List Int} (h : GoodW W) (i : Nat) (hi : i < W.length) : ((parts W).getD i 0 : Int) = W.getD i 0 := by
  unfold parts
  have h0 := h.nn i
  rw [List.getD_eq_getElem?_getD, List.getElem?_append_left (by simpa using hi), List.getElem?_map]
  rw [List.getD_eq_getElem?_getD] at h0 ⊢
  rw [List.getElem?_eq_getElem hi] at h0 ⊢
  simp at h0 ⊢
  omega
theorem parts_last {W : List Int} (h : GoodW W) : ((parts W).getD W.length 0 : Int) = ((2 ^ dep W : Nat) : Int) - W.sum := by
  have := (dep_le h).1
  unfold parts
  generalize 2 ^ dep W = q at this ⊢
  rw [List.getD_eq_getElem?_getD, List.getElem?_append_right (by simp)]
  simp
  omega
theorem sum_toNat {W : List Int} (h : ∀ i, 0 ≤ W.getD i 0) : ((W.map Int.toNat).sum : Int) = W.sum := by
  induction W with
  | nil => rfl
  | cons x l ih =>
    have h0 := h 0
    have := ih (fun i => by have := h (i + 1); simpa using this)
    simp at h0
    rw [List.map_cons, List.sum_cons, List.sum_cons]
    omega
theorem parts_sum {W : List Int} (h : GoodW W) : (parts W).sum = 2 ^ dep W := by
  have h1 := sum_toNat h.nn
  have h2 := (dep_le h).1
  unfold parts
  generalize 2 ^ dep W = q at h2 ⊢
  rw [List.sum_append, List.sum_cons, List.sum_nil]
  generalize (W.map Int.toNat).sum = s at h1 ⊢
  omega
theorem parts_le {W : List Int} (h : GoodW W) (i : Nat) : (parts W).getD i 0 ≤ 4096 := by
  by_cases hi : i < (parts W).length
  · have h1 : (parts W).getD i 0 ∈ parts W := by
      rw [List.getD_eq_getElem?_getD, List.getElem?_eq_getElem hi]
      exact List.getElem_mem hi
    have h2 := le_sumN _ _ h1
    rw [parts_sum h] at h2
    have h3 : (2 : Nat) ^ dep W ≤ 2 ^ 12 := Nat.pow_le_pow_right (by decide) (dep_le h).2.2
    omega
  · rw [List.getD_eq_getElem?_getD, List.getElem?_eq_none (by omega)]
    exact Nat.zero_le _
theorem powerAbove_l0 {W : List Int} (h : GoodW W) : ∀ (e k : Nat), k + e = dep W → Ev (fun n => PSampleDraw.demonref4_PowerAbove.l0 n W.sum ((2 ^ k : Nat) : Int) (k : Int)) (((2 ^ dep W : Nat) : Int), (dep W : Int)) := by
  obtain ⟨h1, h2, h3⟩ := dep_le h
  intro e
  induction e with
  | zero =>
    intro k hk
    obtain rfl : k = dep W := by omega
    refine Ev.step (f := fun _ => some _) (fun n => ?_) (Ev.now _)
    simp only [PSampleDraw.demonref4_PowerAbove.l0]
    rw [if_neg (by omega)]
  | succ e ih =>
    intro k hk
    refine Ev.step (fun n => ?_) (ih (k + 1) (by omega))
    have h4 := h2 k (by omega)
    have h5 := h.le
    have hw : wrap64 (((2 ^ k : Nat) : Int) * 2) = ((2 ^ (k + 1) : Nat) : Int) := by rw [Nat.pow_succ]; unfold wrap64; omega
    simp only [PSampleDraw.demonref4_PowerAbove.l0]
    rw [if_pos h4, hw, wrap_up k (by omega)]
theorem powerAbove_f {W : List Int} (h : GoodW W) : Ev (fun n => PSampleDraw.demonref4_PowerAbove.f n W.sum) (((2 ^ dep W : Nat) : Int), (dep W : Int)) := powerAbove_l0 h (dep W) 0 (by omega)
/-- the places of the leaves among the first i -/
def leafTo (P : List Nat) (k i : Nat) : List Int := ((List.range i).filter fun j => bitAt (P.getD j 0) k).map fun (j : Nat) => (j : Int)
theorem leafTo_succ (P : List Nat) (k i : Nat) : leafTo P k (i + 1) = if bitAt (P.getD i 0) k = true then leafTo P k i ++ [(i : Int)] else leafTo P k i := by
  unfold leafTo
  rw [List.range_succ, List.filter_append, List.map_append]
  by_cases h : bitAt (P.getD i 0) k = true
  · rw [if_pos h, List.filter_cons_of_pos (p := fun j => bitAt (P.getD j 0) k) h]
    rfl
  · rw [if_neg h, List.filter_cons_of_neg (p := fun j => bitAt (P.getD j 0) k) h]
    simp
theorem leafTo_len (P : List Nat) (k : Nat) : ∀ i, (leafTo P k i).length ≤ i
  | 0 => by simp [leafTo]
  | i + 1 => by
    rw [leafTo_succ]
    have := leafTo_len P k i
    split
    · rw [List.length_append]; simp; omega
    · omega
theorem leafTo_all (P : List Nat) (D d : Nat) : leafTo P (D - d) P.length = (leafs P D d).map fun (j : Nat) => (j : Int) := rfl
theorem bit_test (x k : Nat) (hx : x ≤ 4096) (hk : k ≤ 12) : Int.tmod (wrap64 (Int.tdiv (x : Int) ((2 ^ k : Nat) : Int))) 2 = 1 ↔ bitAt x k = true := by
  have e : Int.tdiv (x : Int) ((2 ^ k : Nat) : Int) = ((x / 2 ^ k : Nat) : Int) := by
    rw [Int.tdiv_eq_ediv_of_nonneg (by omega)]
    rfl
  have hle : x / 2 ^ k ≤ x := Nat.div_le_self _ _
  unfold bitAt
  rw [e, decide_eq_true_iff]
  generalize x / 2 ^ k = q at hle ⊢
  have ew : wrap64 (q : Int) = (q : Int) := by unfold wrap64; omega
  rw [ew, Int.tmod_eq_emod_of_nonneg (by omega)]
  omega
theorem leavesAt_l1 {W : List Int} (h : GoodW W) (k : Nat) (hk : k ≤ 12) : ∀ (e i : Nat), i + e = W.length + 1 →
    Ev (fun n => PSampleDraw.demonref4_LeavesAt.l1 n W ((2 ^ dep W : Nat) : Int) (leafTo (parts W) k i) ((2 ^ k : Nat) : Int) (i : Int)) (leafTo (parts W) k (W.length + 1)) := by
  have hpow : 0 < 2 ^ k := Nat.two_pow_pos k
  have hlen := h.len
  intro e
  induction e with
  | zero =>
    intro i hi
    obtain rfl : i = W.length + 1 := by omega
    refine Ev.step (f := fun _ => some _) (fun n => ?_) (Ev.now _)
    simp only [PSampleDraw.demonref4_LeavesAt.l1]
    rw [if_neg (by omega)]
  | succ e ih =>
    intro i hi
    have hih := ih (i + 1) (by omega)
    have hx := parts_le h i
    have hlt := leafTo_len (parts W) k i
    have bt := bit_test ((parts W).getD i 0) k hx hk
    rw [leafTo_succ] at hih
    have step : ∀ y : Int, y = ((parts W).getD i 0 : Int) → Ev (fun n => if (((2 ^ k : Nat) : Int)) > 0 then (if ((2 ^ k : Nat) : Int) = 0 then (none) else (if (Int.tmod (wrap64 (Int.tdiv y ((2 ^ k : Nat) : Int))) 2) = 1 then (if (leafTo (parts W) k i).length < 17592186044416 then (PSampleDraw.demonref4_LeavesAt.l1 n W ((2 ^ dep W : Nat) : Int) (leafTo (parts W) k i ++ [(i : Int)]) ((2 ^ k : Nat) : Int) (wrap64 ((i : Int) + 1))) else (none)) else (PSampleDraw.demonref4_LeavesAt.l1 n W ((2 ^ dep W : Nat) : Int) (leafTo (parts W) k i) ((2 ^ k : Nat) : Int) (wrap64 ((i : Int) + 1))))) else (PSampleDraw.demonref4_LeavesAt.l1 n W ((2 ^ dep W : Nat) : Int) (leafTo (parts W) k i) ((2 ^ k : Nat) : Int) (wrap64 ((i : Int) + 1)))) (leafTo (parts W) k (W.length + 1)) := by
      intro y hy
      subst hy
      by_cases hb : bitAt ((parts W).getD i 0) k = true
      · rw [if_pos hb] at hih
        exact Ev.congr (fun n => by rw [if_pos (by omega), if_neg (by omega), if_pos (bt.2 hb), if_pos (by omega), wrap_up i (by omega)]) hih
      · rw [if_neg hb] at hih
        exact Ev.congr (fun n => by rw [if_pos (by omega), if_neg (by omega), if_neg (fun q => hb (bt.1 q)), wrap_up i (by omega)]) hih
    by_cases hi2 : i < W.length
    · have hy := parts_at h i hi2
      refine Ev.step (f := fun n => (PSampleDraw.demonref1_Sum.f n W).bind fun t => _) (fun n => ?_) (Ev.bind (sum_f h) (step _ hy.symm))
      simp only [PSampleDraw.demonref4_LeavesAt.l1]
      rw [if_pos (by omega)]
      congr 1
      funext t
      rw [if_pos (by omega), if_pos (by omega), rd_nat]
    · obtain rfl : i = W.length := by omega
      have hy := parts_last h
      have hs := h.le
      have hs0 := h.pos
      have hd := dep_le h
      have hp12 : (2 : Nat) ^ dep W ≤ 2 ^ 12 := Nat.pow_le_pow_right (by decide) hd.2.2
      have hw : wrap64 (((2 ^ dep W : Nat) : Int) - W.sum) = ((2 ^ dep W : Nat) : Int) - W.sum := by unfold wrap64; omega
      refine Ev.step (f := fun n => (PSampleDraw.demonref1_Sum.f n W).bind fun t => _) (fun n => ?_) (Ev.bind (f := fun n t => if (((2 ^ k : Nat) : Int)) > 0 then (if ((2 ^ k : Nat) : Int) = 0 then (none) else (if (Int.tmod (wrap64 (Int.tdiv (wrap64 (((2 ^ dep W : Nat) : Int) - t)) ((2 ^ k : Nat) : Int))) 2) = 1 then (if (leafTo (parts W) k W.length).length < 17592186044416 then (PSampleDraw.demonref4_LeavesAt.l1 n W ((2 ^ dep W : Nat) : Int) (leafTo (parts W) k W.length ++ [(W.length : Int)]) ((2 ^ k : Nat) : Int) (wrap64 ((W.length : Int) + 1))) else (none)) else (PSampleDraw.demonref4_LeavesAt.l1 n W ((2 ^ dep W : Nat) : Int) (leafTo (parts W) k W.length) ((2 ^ k : Nat) : Int) (wrap64 ((W.length : Int) + 1))))) else (PSampleDraw.demonref4_LeavesAt.l1 n W ((2 ^ dep W : Nat) : Int) (leafTo (parts W) k W.length) ((2 ^ k : Nat) : Int) (wrap64 ((W.length : Int) + 1)))) (sum_f h) (step _ (by rw [hw]; exact hy.symm)))
      simp only [PSampleDraw.demonref4_LeavesAt.l1]
      rw [if_pos (by omega)]
      congr 1
      funext t
      rw [if_neg (by omega)]
theorem leavesAt_l0 {W : List Int} (h : GoodW W) (d : Nat) (hd : d ≤ dep W) : ∀ (e i : Nat), i + e = d →
    Ev (fun n => PSampleDraw.demonref4_LeavesAt.l0 n W (d : Int) ((2 ^ dep W : Nat) : Int) ((2 ^ (dep W - i) : Nat) : Int) (i : Int)) (leafTo (parts W) (dep W - d) (W.length + 1)) := by
  have h12 := (dep_le h).2.2
  intro e
  induction e with
  | zero =>
    intro i hi
    obtain rfl : i = d := by omega
    refine Ev.step (fun n => ?_) (leavesAt_l1 h (dep W - i) (by omega) (W.length + 1) 0 (by omega))
    simp only [PSampleDraw.demonref4_LeavesAt.l0]
    rw [if_neg (by omega)]
    rfl
  | succ e ih =>
    intro i hi
    refine Ev.step (fun n => ?_) (ih (i + 1) (by omega))
    have hp : (2 : Nat) ^ (dep W - i) = 2 ^ (dep W - (i + 1)) * 2 := by
      rw [← Nat.pow_succ]
      congr 1
      omega
    have hp12 : (2 : Nat) ^ (dep W - i) ≤ 2 ^ 12 := Nat.pow_le_pow_right (by decide) (by omega)
    have hw : wrap64 (Int.tdiv ((2 ^ (dep W - i) : Nat) : Int) 2) = ((2 ^ (dep W - (i + 1)) : Nat) : Int) := by
      rw [Int.tdiv_eq_ediv_of_nonneg (by omega)]
      unfold wrap64
      omega
    simp only [PSampleDraw.demonref4_LeavesAt.l0]
    rw [if_pos (by omega), hw, wrap_up i (by omega)]
theorem leavesAt_f {W : List Int} (h : GoodW W) (d : Nat) (hd : d ≤ dep W) : Ev (fun n => PSampleDraw.demonref4_LeavesAt.f n W (d : Int)) ((leafs (parts W) (dep W) d).map fun (j : Nat) => (j : Int)) := by
  have h0 := leavesAt_l0 h d hd d 0 (by omega)
  rw [Nat.sub_zero, show W.length + 1 = (parts W).length from (parts_len W).symm, leafTo_all] at h0
  exact Ev.bind (sum_f h) (Ev.bind (powerAbove_f h) h0)
end Go.Proofs.YtioekjkfhbopkaaDoor

/- What the reference draws: the walk along the tree. No condition. -/
namespace Go.Proofs.YtioekjkfhbopkaaDoor
open Go Go.RowKit Go.Proofs.YtioekjkfhbopkaaDoorW.PrintWords

/-- a text's bits -/
def bitsOf (s : ByteArray) : List Nat := s.data.toList.map fun b => if b = 49 then 1 else 0
theorem bitsOf_len (s : ByteArray) : (bitsOf s).length = s.size := by
  unfold bitsOf
  rw [List.length_map]
  rfl
theorem bitsOf_drop (s : ByteArray) (i : Nat) (hi : i < s.size) : (bitsOf s).drop i = (if bt s (i : Int) = 49 then 1 else 0) :: (bitsOf s).drop (i + 1) := by
  have hl : s.data.toList.length = s.size := rfl
  rw [List.drop_eq_getElem_cons (by rw [bitsOf_len]; exact hi)]
  congr 1
  unfold bitsOf
  rw [List.getElem_map, bt_list, List.getD_eq_getElem?_getD, List.getElem?_eq_getElem (by rw [hl]; exact hi)]
  simp only [Option.getD_some]
  generalize s.data.toList[i]'(by rw [hl]; exact hi) = b
  by_cases h : b = 49
  · subst h; rfl
  · rw [if_neg h, if_neg]
    intro e
    apply h
    apply UInt8.toNat_inj.1
    have : b.toNat = 49 := by omega
    rw [this]
    rfl
theorem modSum_le (l : List Nat) (m : Nat) : modSum l m ≤ l.sum := by
  induction l with
  | nil => exact Nat.le_refl _
  | cons x r ih =>
    unfold modSum at *
    rw [List.map_cons, List.sum_cons, List.sum_cons]
    have := Nat.mod_le x m
    omega
theorem nodes_le {l : List Nat} {D : Nat} (h : l.sum = 2 ^ D) (d : Nat) (hd : d ≤ D) : nodesAt l D d ≤ 2 ^ D := by
  have h1 := nodes_mod l D h d hd
  have h2 := modSum_le l (2 ^ (D - d + 1))
  rw [h] at h2
  rw [← h1] at h2
  exact Nat.le_trans (Nat.le_mul_of_pos_right _ (Nat.two_pow_pos _)) h2
theorem nodes_le' {W : List Int} (h : GoodW W) (d : Nat) (hd : d ≤ dep W) : nodesAt (parts W) (dep W) d ≤ 4096 := by
  have h1 := nodes_le (parts_sum h) d hd
  have h2 : (2 : Nat) ^ dep W ≤ 2 ^ 12 := Nat.pow_le_pow_right (by decide) (dep_le h).2.2
  omega
theorem getD_le_of_sum (l : List Nat) (i : Nat) : l.getD i 0 ≤ l.sum := by
  by_cases hi : i < l.length
  · rw [List.getD_eq_getElem?_getD, List.getElem?_eq_getElem hi]
    exact le_sumN _ _ (List.getElem_mem hi)
  · rw [List.getD_eq_getElem?_getD, List.getElem?_eq_none (by omega)]
    exact Nat.zero_le _
theorem leaf_mem (P : List Nat) (D d v : Nat) (hv : v < (leafs P D d).length) : (leafs P D d).getD v 0 < P.length ∧ bitAt (P.getD ((leafs P D d).getD v 0) 0) (D - d) = true := by
  have hm : (leafs P D d).getD v 0 ∈ leafs P D d := by
    rw [List.getD_eq_getElem?_getD, List.getElem?_eq_getElem hv]
    exact List.getElem_mem hv
  obtain ⟨h1, h2⟩ := List.mem_filter.1 hm
  exact ⟨List.mem_range.1 h1, h2⟩
/-- where the tree begins again it has two nodes at depth one -/
theorem again_nodes {W : List Int} (h : GoodW W) {d v : Nat} (hv : v < (leafs (parts W) (dep W) d).length) (ha : ¬ (leafs (parts W) (dep W) d).getD v 0 + 1 < (parts W).length) :
    1 ≤ dep W ∧ nodesAt (parts W) (dep W) 1 = 2 ∧ (leafs (parts W) (dep W) 0).length = 0 := by
  obtain ⟨h1, h2⟩ := leaf_mem _ _ _ _ hv
  have hl := parts_len W
  have e : (leafs (parts W) (dep W) d).getD v 0 = W.length := by omega
  rw [e] at h2
  have h3 := parts_last h
  have h4 := h.pos
  have hx : 0 < (parts W).getD W.length 0 := by
    rcases Nat.eq_zero_or_pos ((parts W).getD W.length 0) with q | q
    · rw [q] at h2
      unfold bitAt at h2
      simp at h2
    · exact q
  have hlast : (parts W).getD W.length 0 < 2 ^ dep W := by omega
  have hsum := parts_sum h
  -- no part is the whole
  have small : ∀ i, (parts W).getD i 0 < 2 ^ dep W := by
    intro i
    have hle := getD_le_of_sum (parts W) i
    by_cases hi : i < W.length
    · have h5 := parts_at h i hi
      have h6 : W.getD i 0 ≤ W.sum := by
        have := take_le h.nn (i + 1) (by omega)
        rw [sum_take W i hi] at this
        have := (take_le h.nn i (by omega)).1
        omega
      omega
    · by_cases hi2 : i = W.length
      · subst hi2; exact hlast
      · rw [List.getD_eq_getElem?_getD, List.getElem?_eq_none (by omega)]
        exact Nat.two_pow_pos _
  have hc : (leafs (parts W) (dep W) 0).length = 0 := by
    rw [List.length_eq_zero_iff]
    unfold leafs
    rw [List.filter_eq_nil_iff]
    intro i _
    have := small i
    unfold bitAt
    rw [Nat.sub_zero, Nat.div_eq_of_lt this]
    decide
  refine ⟨?_, ?_, hc⟩
  · rcases Nat.eq_zero_or_pos (dep W) with q | q
    · rw [q] at hlast; omega
    · exact q
  · rw [nodesAt, nodesAt, ← leafs_len, hc]
/-- what is drawn, in the program's words -/
def drawn (o : Option (Nat × Nat)) : Int × Int × Bool := match o with
  | some (k, n) => ((k : Int), (n : Int), true)
  | none => (0, 0, false)
/-- what a round does with the leaves of its depth -/
def drawK (k : Nat) (x0 : List Int) (x1 : ByteArray) (x7 x8 x9 : Int) (l : List Int) : Option (Int × Int × Bool) :=
  if x7 < (l.length : Int) then (if 0 ≤ x7 then (if (rd l x7) < (x0.length : Int) then (some (rd l x7, x9, true)) else ((PSampleDraw.demonref4_LeavesAt.f k x0 0).bind fun t139 => (PSampleDraw.demonref4_DrawOf.j1 k x0 x1 0 0 x9 t139))) else (none)) else (PSampleDraw.demonref4_DrawOf.j1 k x0 x1 x7 x8 x9 l)
theorem draw_round {W : List Int} {s : ByteArray} {v d used : Int} {L : List Int} {r : Int × Int × Bool} (hL : Ev (fun n => PSampleDraw.demonref4_LeavesAt.f n W d) L) (h : Ev (fun n => drawK n W s v d used L) r) : Ev (fun n => PSampleDraw.demonref4_DrawOf.l0 n W s v d used) r :=
  Ev.step (f := fun n => (PSampleDraw.demonref4_LeavesAt.f n W d).bind (drawK n W s v d used)) (fun n => by simp only [PSampleDraw.demonref4_DrawOf.l0]; rfl) (Ev.bind hL h)
theorem drawOf_l0 {W : List Int} (h : GoodW W) (s : ByteArray) (hs : s.size ≤ 2000000) (hb : isBits s = true) : ∀ (e used v d : Nat), used + e = s.size → d ≤ dep W → v < nodesAt (parts W) (dep W) d →
    Ev (fun n => PSampleDraw.demonref4_DrawOf.l0 n W s (v : Int) (d : Int) (used : Int)) (drawn (drawB (parts W) (dep W) ((bitsOf s).drop used) v d used)) := by
  have hD := dep_le h
  have hbits := (isBits_iff s).1 hb
  intro e
  induction e with
  | zero =>
    intro used v d hu hd hv
    obtain rfl : used = s.size := by omega
    have hdrop : (bitsOf s).drop s.size = [] := List.drop_eq_nil_of_le (by rw [bitsOf_len]; exact Nat.le_refl _)
    have hv4 := nodes_le' h d hd
    rw [hdrop]
    have fin2 : ∀ (v8 d8 : Int), Ev (fun n => PSampleDraw.demonref4_DrawOf.j2 n W s v8 d8 (s.size : Int)) (0, 0, false) := fun v8 d8 =>
      Ev.step (f := fun _ => some (0, 0, false)) (fun n => by simp only [PSampleDraw.demonref4_DrawOf.j2]; rw [if_pos (by simp)]) (Ev.now _)
    have fin1 : ∀ (v8 d8 : Int) (l : List Int), Ev (fun n => PSampleDraw.demonref4_DrawOf.j1 n W s v8 d8 (s.size : Int) l) (0, 0, false) := fun v8 d8 l => by
      by_cases q : d8 = 0
      · exact Ev.step (fun n => by simp only [PSampleDraw.demonref4_DrawOf.j1]; rw [if_pos q]) (fin2 _ _)
      · exact Ev.step (fun n => by simp only [PSampleDraw.demonref4_DrawOf.j1]; rw [if_neg q]) (fin2 _ _)
    have hL := leavesAt_f h d hd
    unfold drawB
    generalize hLs : leafs (parts W) (dep W) d = L at hL ⊢
    by_cases c1 : v < L.length
    · have c1' : (v : Int) < ((L.map fun (j : Nat) => (j : Int)).length : Int) := by rw [List.length_map]; omega
      have hr : rd (L.map fun (j : Nat) => (j : Int)) (v : Int) = ((L.getD v 0 : Nat) : Int) := by
        rw [rd_nat]; simp [List.getD_eq_getElem?_getD, c1]
      by_cases c2 : L.getD v 0 + 1 < (parts W).length
      · rw [if_pos ⟨c1, c2⟩]
        rw [parts_len] at c2
        exact draw_round hL (Ev.congr (fun n => by unfold drawK; rw [if_pos c1', if_pos (by omega), hr, if_pos (by omega)]; rfl) (Ev.now _))
      · rw [if_neg (fun q => c2 q.2)]
        rw [parts_len] at c2
        exact draw_round hL (Ev.congr (f := fun n => (PSampleDraw.demonref4_LeavesAt.f n W ((0 : Nat) : Int)).bind fun t => PSampleDraw.demonref4_DrawOf.j1 n W s 0 0 (s.size : Int) t) (fun n => by unfold drawK; rw [if_pos c1', if_pos (by omega), hr, if_neg (by omega)]; rfl) (Ev.bind (leavesAt_f h 0 (by omega)) (fin1 _ _ _)))
    · rw [if_neg (fun q => c1 q.1)]
      exact draw_round hL (Ev.congr (fun n => by unfold drawK; rw [if_neg (by rw [List.length_map]; omega)]) (fin1 _ _ _))
  | succ e ih =>
    intro used v d hu hd hv
    have hlt : used < s.size := by omega
    have hv4 := nodes_le' h d hd
    rw [bitsOf_drop s used hlt]
    have hbt := hbits used hlt
    obtain ⟨b, hb1, hb2, hbe⟩ : ∃ b : Nat, (if bt s (used : Int) = 49 then 1 else 0) = b ∧ b ≤ 1 ∧ (bt s (used : Int) = 49 ↔ b = 1) := by
      by_cases q : bt s (used : Int) = 49
      · exact ⟨1, by rw [if_pos q], by decide, by simp [q]⟩
      · exact ⟨0, by rw [if_neg q], by decide, by simp [q]⟩
    rw [hb1]
    have step2 : ∀ (v8 d8 : Nat), v8 ≤ 4096 → d8 ≤ 4096 → d8 + 1 ≤ dep W → 2 * v8 + b < nodesAt (parts W) (dep W) (d8 + 1) → Ev (fun n => PSampleDraw.demonref4_DrawOf.j2 n W s (v8 : Int) (d8 : Int) (used : Int)) (drawn (drawB (parts W) (dep W) ((bitsOf s).drop (used + 1)) (2 * v8 + b) (d8 + 1) (used + 1))) := by
      intro v8 d8 h8 h9 g1 g2
      have hih := ih (used + 1) (2 * v8 + b) (d8 + 1) (by omega) g1 g2
      have hw2 : wrap64 (2 * (v8 : Int)) = ((2 * v8 : Nat) : Int) := by unfold wrap64; omega
      by_cases q : bt s (used : Int) = 49
      · have := hbe.1 q
        subst this
        exact Ev.step (fun n => by simp only [PSampleDraw.demonref4_DrawOf.j2]; rw [if_neg (by omega), if_pos (by omega), if_pos (by omega), if_pos q, hw2, wrap_up _ (by omega), wrap_up d8 (by omega), wrap_up used (by omega)]) hih
      · obtain rfl : b = 0 := by
          rcases Nat.eq_zero_or_pos b with r | r
          · exact r
          · exact absurd (hbe.2 (by omega)) q
        exact Ev.step (fun n => by simp only [PSampleDraw.demonref4_DrawOf.j2]; rw [if_neg (by omega), if_pos (by omega), if_pos (by omega), if_neg q, hw2, wrap_up d8 (by omega), wrap_up used (by omega)]; rfl) hih
    have hL := leavesAt_f h d hd
    unfold drawB
    by_cases c1 : v < (leafs (parts W) (dep W) d).length
    · have hag := fun c2 => again_nodes h c1 c2
      rw [if_pos c1]
      generalize hLs : leafs (parts W) (dep W) d = L at hL c1 hag ⊢
      have c1' : (v : Int) < ((L.map fun (j : Nat) => (j : Int)).length : Int) := by rw [List.length_map]; omega
      have hr : rd (L.map fun (j : Nat) => (j : Int)) (v : Int) = ((L.getD v 0 : Nat) : Int) := by
        rw [rd_nat]; simp [List.getD_eq_getElem?_getD, c1]
      by_cases c2 : L.getD v 0 + 1 < (parts W).length
      · rw [if_pos c2]
        rw [parts_len] at c2
        exact draw_round hL (Ev.congr (fun n => by unfold drawK; rw [if_pos c1', if_pos (by omega), hr, if_pos (by omega)]; rfl) (Ev.now _))
      · rw [if_neg c2]
        obtain ⟨a1, a2, a3⟩ := hag c2
        rw [parts_len] at c2
        have := step2 0 0 (by omega) (by omega) (by omega) (by rw [a2]; omega)
        rw [Nat.mul_zero, Nat.zero_add, Nat.zero_add] at this
        exact draw_round hL (Ev.congr (f := fun n => (PSampleDraw.demonref4_LeavesAt.f n W ((0 : Nat) : Int)).bind fun t => PSampleDraw.demonref4_DrawOf.j1 n W s 0 0 (used : Int) t) (fun n => by unfold drawK; rw [if_pos c1', if_pos (by omega), hr, if_neg (by omega)]; rfl) (Ev.bind (leavesAt_f h 0 (by omega)) (Ev.step (f := fun n => PSampleDraw.demonref4_DrawOf.j2 n W s 0 0 (used : Int)) (fun n => by simp only [PSampleDraw.demonref4_DrawOf.j1]; rw [if_pos (by trivial)]) this)))
    · rw [if_neg c1]
      obtain ⟨n1, n2⟩ := next_node (parts_sum h) hd hv c1 hb2
      have hn4 := nodes_le' h (d + 1) n1
      generalize hLs : leafs (parts W) (dep W) d = L at hL c1 n2 ⊢
      have hst := step2 (v - L.length) d (by omega) (by omega) n1 n2
      refine draw_round hL (Ev.congr (fun n => by unfold drawK; rw [if_neg (by rw [List.length_map]; omega)]) ?_)
      by_cases q : d = 0
      · subst q
        have hv0 : v = 0 := by rw [nodesAt] at hv; omega
        have hz : v - L.length = 0 := by omega
        rw [hz] at hst ⊢
        exact Ev.step (fun n => by simp only [PSampleDraw.demonref4_DrawOf.j1]; rw [if_pos (by simp)]; rfl) hst
      · have hw : wrap64 ((v : Int) - ((L.map fun (j : Nat) => (j : Int)).length : Int)) = ((v - L.length : Nat) : Int) := by rw [List.length_map]; unfold wrap64; omega
        exact Ev.step (fun n => by simp only [PSampleDraw.demonref4_DrawOf.j1]; rw [if_neg (by omega), hw]) hst
theorem drawOf_f {W : List Int} (h : GoodW W) (s : ByteArray) (hs : s.size ≤ 2000000) (hb : isBits s = true) : Ev (fun n => PSampleDraw.demonref4_DrawOf.f n W s) (drawn (drawB (parts W) (dep W) (bitsOf s) 0 0 0)) :=
  drawOf_l0 h s hs hb s.size 0 0 0 (by omega) (Nat.zero_le _) (by rw [nodesAt]; omega)
end Go.Proofs.YtioekjkfhbopkaaDoor
