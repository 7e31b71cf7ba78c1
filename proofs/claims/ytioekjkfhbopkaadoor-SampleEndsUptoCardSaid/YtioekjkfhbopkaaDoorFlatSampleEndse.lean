/- Words, plain laws and walks behind the law SampleEnds, part 5. No condition. -/
import Derived.Test.YtioekjkfhbopkaaDoorFlatSampleEndsd
import Derived.Test.YtioekjkfhbopkaaDoorPSampleEndsx4
import Derived.Test.YtioekjkfhbopkaaDoorFlatSampleEndsa
import Derived.Test.YtioekjkfhbopkaaDoorRows
import Derived.Test.YtioekjkfhbopkaaDoorCards
import Derived.Test.YtioekjkfhbopkaaDoorTie
import Derived.Test.YtioekjkfhbopkaaDoorFlatSampleEndsc
import Derived.ProofKit
import Derived.LaidMore
import Derived.LaidLaws
import Derived.LaidHandle
import Derived.Stop.LaidErr
import Derived.Deep.DeepHandedRow
import Derived.Deep.DeepWitnessRowRef
import Derived.OpenShut
import Derived.Deep.Slices
import Derived.Deep.Matrix
import Derived.Lib.SmallJoins
import Derived.LaidSub
import Derived.Lay
import Derived.Deep.DeepLaidRun
import Derived.ChangeMaps5

/- What the reference says of the past: plain. No condition. -/
namespace Go.Proofs.YtioekjkfhbopkaaDoor
open Go Go.RowKit Go.Proofs.YtioekjkfhbopkaaDoorW.PrintWords

theorem asc_mono {f : List Int} (h : asc f f.length = true) : ∀ j i, i ≤ j → j < f.length → f.getD i 0 ≤ f.getD j 0 := by
  unfold asc at h
  rw [List.all_eq_true] at h
  intro j
  induction j with
  | zero => intro i hi _; obtain rfl : i = 0 := by omega
            exact Int.le_refl _
  | succ j ih =>
    intro i hi hj
    by_cases e : i = j + 1
    · subst e; exact Int.le_refl _
    · have h1 := ih i (by omega) (by omega)
      have h2 := h (j + 1) (List.mem_range.2 hj)
      rw [decide_eq_true_eq] at h2
      rcases h2 with h2 | h2
      · omega
      · rw [Nat.add_sub_cancel] at h2; omega
theorem rules_asc {r : List (List Int)} (h : rErr r = 0) (j : Nat) (hj : j < r.length) : asc (r.getD j []) (r.getD j []).length = true := by
  unfold rErr at h
  by_cases h1 : 16 < r.length
  · rw [if_pos h1] at h; cases h
  rw [if_neg h1] at h
  cases h2 : r.any (fun f => decide (16 < f.length)) with
  | true => rw [h2, if_pos rfl] at h; cases h
  | false =>
    rw [h2, if_neg (by decide)] at h
    by_cases h3 : r.length = 0
    · omega
    rw [if_neg h3] at h
    cases h4 : r.all (goodR (r.getD 0 []).length) with
    | false => rw [h4, if_neg (by decide)] at h; cases h
    | true =>
      rw [h4, if_pos rfl] at h
      cases h5 : r.all (fun f => asc f f.length) with
      | false => rw [h5, if_neg (by decide)] at h; cases h
      | true =>
        rw [List.all_eq_true] at h5
        rw [getDL_eq r j hj]
        exact h5 _ (List.getElem_mem hj)
theorem stepR_mono {r : List (List Int)} {n : Nat} (h : GoodRs r n) (ha : ∀ j, j < r.length → asc (r.getD j []) (r.getD j []).length = true) {k x y : Int} (hk : 0 ≤ k ∧ k < r.length) (hx : 0 ≤ x) (hxy : x ≤ y) (hy : y < n) : stepR r k x ≤ stepR r k y :=
  asc_mono (ha k.toNat (by omega)) y.toNat x.toNat (by omega) (by rw [(h.rows k.toNat (by omega)).1]; omega)
theorem goodT_cons {r : List (List Int)} {k : Int} {l : List Int} (ht : goodT r (k :: l)) : (0 ≤ k ∧ k < r.length) ∧ goodT r l :=
  ⟨by have := ht 0 (by simp); simpa using this, fun i hi => by have := ht (i + 1) (by simpa using hi); simpa using this⟩
theorem comeTo_mono {r : List (List Int)} {n : Nat} (h : GoodRs r n) (ha : ∀ j, j < r.length → asc (r.getD j []) (r.getD j []).length = true) {tape : List Int} (ht : goodT r tape) {x y : Int} (hx : 0 ≤ x) (hxy : x ≤ y) (hy : y < n) : comeTo r tape x ≤ comeTo r tape y := by
  induction tape with
  | nil => exact hxy
  | cons k l ih =>
    obtain ⟨hk, hl⟩ := goodT_cons ht
    rw [comeTo_cons, comeTo_cons]
    exact stepR_mono h ha hk (comeTo_range h hl ⟨hx, by omega⟩).1 (ih hl) (comeTo_range h hl ⟨by omega, hy⟩).2
def comesRes (r : List (List Int)) (m : Nat) (tape : List Int) : Int := if comeTo r tape 0 = comeTo r tape ((m : Int) - 1) then comeTo r tape 0 else -1
theorem comesTo_l1 {r : List (List Int)} {n : Nat} (h : GoodRs r n) {tape : List Int} (ht : goodT r tape) (hl : tape.length ≤ 2000000) (out : Int) (s : Nat) (hs : s < n) (res : Int)
    (fin : Ev (fun k => if (s : Int) > 0 then (if comeTo r tape s = out then (PSamplePast.demonref4_ComesTo.l0 k r tape (comeTo r tape s) (wrap64 ((s : Int) + 1))) else (some (-1))) else (PSamplePast.demonref4_ComesTo.l0 k r tape (comeTo r tape s) (wrap64 ((s : Int) + 1)))) res) :
    ∀ i, i ≤ tape.length → Ev (fun k => PSamplePast.demonref4_ComesTo.l1 k r tape out (s : Int) (comeTo r (tape.drop i) s) ((i : Int) - 1)) res := by
  have h16 := h.n16
  intro i
  induction i with
  | zero =>
    intro _
    refine Ev.step (fun k => ?_) fin
    simp only [PSamplePast.demonref4_ComesTo.l1]
    rw [if_neg (by omega), List.drop_zero]
  | succ i ih =>
    intro hi
    have hil : i < tape.length := by omega
    obtain ⟨t0, t1⟩ := ht i hil
    have hgd : goodT r (tape.drop (i + 1)) := fun j hj => by
      rw [List.length_drop] at hj
      have := ht (i + 1 + j) (by omega)
      rw [List.getD_eq_getElem?_getD, List.getElem?_drop, ← List.getD_eq_getElem?_getD]
      exact this
    obtain ⟨x0, x1⟩ := comeTo_range h hgd (s := (s : Int)) ⟨by omega, by omega⟩
    have ed : tape.drop i = tape.getD i 0 :: tape.drop (i + 1) := by rw [List.drop_eq_getElem_cons hil, getD_eq tape i 0 hil]
    have hrow := (h.rows (tape.getD i 0).toNat (by omega)).1
    have hih := ih (by omega)
    rw [ed, comeTo_cons] at hih
    refine Ev.step (fun k => ?_) hih
    have e1 : ((i + 1 : Nat) : Int) - 1 = (i : Int) := by omega
    have e2 : wrap64 ((i : Int) - 1) = (i : Int) - 1 := by unfold wrap64; omega
    have e3 : PSamplePast.rd_L1 r (tape.getD i 0) = r.getD (tape.getD i 0).toNat [] := rfl
    rw [e1]
    simp only [PSamplePast.demonref4_ComesTo.l1]
    rw [if_pos (by omega), if_pos (by omega), if_pos (by omega), rd_nat, if_pos (by omega), if_pos (by omega), if_pos (by omega), e3, if_pos (by rw [hrow]; omega), e2]
    rfl
theorem comesTo_l0 {r : List (List Int)} {n : Nat} (h : GoodRs r n) (ha : ∀ j, j < r.length → asc (r.getD j []) (r.getD j []).length = true) {tape : List Int} (ht : goodT r tape) (hl : tape.length ≤ 2000000) : ∀ (e s : Nat) (out : Int), s + e = n → (0 < s → out = comeTo r tape ((s : Int) - 1)) → (∀ j : Nat, j < s → comeTo r tape j = comeTo r tape 0) →
    Ev (fun k => PSamplePast.demonref4_ComesTo.l0 k r tape out (s : Int)) (comesRes r n tape) := by
  have h16 := h.n16
  have hn0 := h.n0
  have hp := h.pos
  have hf : (PSamplePast.rd_L1 r 0).length = n := h.first
  intro e
  induction e with
  | zero =>
    intro s out hs ho hall
    obtain rfl : s = n := by omega
    have e1 := ho hn0
    have e2 := hall (s - 1) (by omega)
    rw [show ((s - 1 : Nat) : Int) = (s : Int) - 1 by omega] at e2
    refine Ev.step (f := fun _ => some (comesRes r s tape)) (fun k => ?_) (Ev.now _)
    simp only [PSamplePast.demonref4_ComesTo.l0]
    rw [if_pos (by omega), hf, if_neg (by omega), e1]
    unfold comesRes
    rw [if_pos e2.symm, e2]
  | succ e ih =>
    intro s out hs ho hall
    have hsn : s < n := by omega
    have hw : wrap64 ((s : Int) + 1) = ((s + 1 : Nat) : Int) := wrap_up s (by omega)
    have hl1 : wrap64 ((tape.length : Int) - 1) = (tape.length : Int) - 1 := by unfold wrap64; omega
    have hnext : comeTo r tape s = comeTo r tape 0 → Ev (fun k => PSamplePast.demonref4_ComesTo.l0 k r tape (comeTo r tape s) (wrap64 ((s : Int) + 1))) (comesRes r n tape) := fun heq => by
      rw [hw]
      refine ih (s + 1) _ (by omega) (fun _ => by rw [show ((s + 1 : Nat) : Int) - 1 = (s : Int) by omega]) (fun j hj => ?_)
      by_cases q : j = s
      · subst q; exact heq
      · exact hall j (by omega)
    have hl1' := comesTo_l1 h ht hl out s hsn (comesRes r n tape) (by
      rcases Nat.eq_zero_or_pos s with q | q
      · subst q
        exact Ev.congr (fun k => by rw [if_neg (by omega)]) (hnext rfl)
      · have e1 := ho q
        have e2 := hall (s - 1) (by omega)
        rw [show ((s - 1 : Nat) : Int) = (s : Int) - 1 by omega] at e2
        by_cases heq : comeTo r tape s = out
        · exact Ev.congr (fun k => by rw [if_pos (by omega), if_pos heq]) (hnext (by rw [heq, e1, e2]))
        · refine Ev.congr (f := fun _ => some (comesRes r n tape)) (fun k => ?_) (Ev.now _)
          rw [if_pos (by omega), if_neg heq]
          have m1 := comeTo_mono h ha ht (x := (s : Int) - 1) (y := (s : Int)) (by omega) (by omega) (by omega)
          have m2 := comeTo_mono h ha ht (x := (s : Int)) (y := (n : Int) - 1) (by omega) (by omega) (by omega)
          unfold comesRes
          rw [if_neg (by rw [e1] at heq; omega)]) tape.length (Nat.le_refl _)
    rw [List.drop_length] at hl1'
    refine Ev.step (fun k => ?_) hl1'
    simp only [PSamplePast.demonref4_ComesTo.l0]
    rw [if_pos (by omega), hf, if_pos (by omega), hl1]
    rfl
theorem comesTo_f {r : List (List Int)} {n : Nat} (h : GoodRs r n) (ha : ∀ j, j < r.length → asc (r.getD j []) (r.getD j []).length = true) {tape : List Int} (ht : goodT r tape) (hl : tape.length ≤ 2000000) : Ev (fun k => PSamplePast.demonref4_ComesTo.f k r tape) (comesRes r n tape) :=
  comesTo_l0 h ha ht hl n 0 (-1) (by omega) (fun q => absurd q (Nat.lt_irrefl _)) (fun j hj => absurd hj (Nat.not_lt_zero _))
theorem pastOf_l0 {r : List (List Int)} {m : Nat} (h : GoodRs r m) (ha : ∀ j, j < r.length → asc (r.getD j []) (r.getD j []).length = true) {tape : List Int} (ht : goodT r tape) (hl : tape.length ≤ 2000000) : ∀ (f n : Nat), 0 < n → n ≤ 2 * tape.length + 1 → tape.length + 1 - n ≤ f → Ev (fun k => PSamplePast.demonref4_PastOf.l0 k r tape (n : Int)) (pastF r m tape (tape.length + 1 - n) n) := by
  have hm0 := h.n0
  intro f
  induction f with
  | zero =>
    intro n hn _ hf
    rw [pastF_end r m tape _ n (by omega)]
    refine Ev.step (f := fun _ => some (0, 0, false)) (fun k => ?_) (Ev.now _)
    simp only [PSamplePast.demonref4_PastOf.l0]
    rw [if_neg (by omega)]
  | succ f ih =>
    intro n hn hn2 hf
    by_cases hnl : n ≤ tape.length
    · have hc := comesTo_f h ha (ht.take n) (by rw [List.length_take]; omega)
      have hw : wrap64 ((n : Int) * 2) = ((n * 2 : Nat) : Int) := by unfold wrap64; omega
      have hrg := comeTo_range h (ht.take n) (s := 0) ⟨by omega, by omega⟩
      rw [pastF_step r m tape n hn hnl]
      refine Ev.step (f := fun k => (PSamplePast.demonref4_ComesTo.f k r (tape.take n)).bind fun t => if t ≥ 0 then some (t, (n : Int), true) else PSamplePast.demonref4_PastOf.l0 k r tape (wrap64 ((n : Int) * 2))) (fun k => ?_) (Ev.bind (f := fun k t => if t ≥ 0 then some (t, (n : Int), true) else PSamplePast.demonref4_PastOf.l0 k r tape (wrap64 ((n : Int) * 2))) hc ?_)
      · simp only [PSamplePast.demonref4_PastOf.l0]
        rw [if_pos (by omega), if_pos (by omega), Int.toNat_natCast]
      · unfold comesRes
        by_cases he : comeTo r (tape.take n) 0 = comeTo r (tape.take n) ((m : Int) - 1)
        · rw [if_pos he, if_pos he]
          exact Ev.congr (fun k => by rw [if_pos (by omega)]) (Ev.now _)
        · rw [if_neg he, if_neg he]
          exact Ev.congr (fun k => by rw [if_neg (by omega), hw]) (ih (n * 2) (by omega) (by omega) (by omega))
    · rw [pastF_end r m tape _ n (by omega)]
      refine Ev.step (f := fun _ => some (0, 0, false)) (fun k => ?_) (Ev.now _)
      simp only [PSamplePast.demonref4_PastOf.l0]
      rw [if_neg (by omega)]
theorem pastOf_f {r : List (List Int)} {m : Nat} (h : GoodRs r m) (ha : ∀ j, j < r.length → asc (r.getD j []) (r.getD j []).length = true) {tape : List Int} (ht : goodT r tape) (hl : tape.length ≤ 2000000) : Ev (fun k => PSamplePast.demonref4_PastOf.f k r tape) (pastR r m tape) := by
  have := pastOf_l0 h ha ht hl (tape.length + 1) 1 (by omega) (by omega) (by omega)
  rw [pastF_fuel r m tape (tape.length + 1 - 1) 1 (tape.length + 1) (by omega) (by omega) (by omega)] at this
  exact this
theorem pastOf_ok (A B : Option Addr) (r : List (List Int)) (tape : List Int) (c d : Nat) (w : World) (hA : Lists w A r) (hB : Ints w B tape) (hc : r.length ≤ c) (hd : tape.length ≤ d) (h0 : rErr r = 0) (ht : goodT r tape) (hl : tape.length ≤ 2000000) :
    Calls Tryd.prog 26 #[.slice A r.length c, .slice B tape.length d] w fun e w' => e = .returned (.tuple #[.int .i64 (pastR r (r.getD 0 []).length tape).1, .int .i64 (pastR r (r.getD 0 []).length tape).2.1, .bool (pastR r (r.getD 0 []).length tape).2.2]) ∧ Below w.heap.size w w' := by
  obtain ⟨k, hk⟩ := (pastOf_f (good_rules h0) (rules_asc h0) ht hl).rounds
  refine (PSamplePast.demonref4_PastOf.calls k A c r B d tape _ _ _ w hA.toC hc hB.toC hd hk).mono ?_
  rintro e w' ⟨rfl, h⟩
  exact ⟨rfl, drawn_below h⟩
end Go.Proofs.YtioekjkfhbopkaaDoor

/- All tapes of a length, plain: the tree's order and the reference's, one outcome each. No condition. -/
namespace Go.Proofs.YtioekjkfhbopkaaDoor
open Go Go.RowKit Go.Proofs.YtioekjkfhbopkaaDoorW.PrintWords

/-- all tapes of a length, the first step first -/
def allT (m : Nat) : Nat → List (List Int)
  | 0 => [[]]
  | n + 1 => (List.range m).flatMap fun (j : Nat) => (allT m n).map fun t => (j : Int) :: t
/-- the k-th tape of the reference -/
def digs (m : Nat) : Nat → Nat → List Int
  | 0, _ => []
  | n + 1, k => ((k % m : Nat) : Int) :: digs m n (k / m)
theorem range_mul (M K : Nat) : List.range (M * K) = (List.range K).flatMap fun q => (List.range M).map fun j => q * M + j := by
  induction K with
  | zero => simp
  | succ K ih =>
    rw [Nat.mul_succ, List.range_add, ih, List.range_succ, List.flatMap_append]
    simp [Nat.mul_comm]
theorem flat_cons {α β : Type} (h : α → β) (f : α → List β) (l : List α) : (l.flatMap fun j => h j :: f j).Perm (l.map h ++ l.flatMap f) := by
  induction l with
  | nil => simp
  | cons a l ih =>
    simp only [List.flatMap_cons, List.map_cons, List.cons_append]
    refine List.Perm.cons _ ?_
    exact (List.Perm.append_left _ ih).trans (by rw [← List.append_assoc, ← List.append_assoc]; exact List.Perm.append_right _ List.perm_append_comm)
theorem flat_swap {α β γ : Type} (g : α → β → γ) (js : List α) (ks : List β) : (ks.flatMap fun q => js.map fun j => g j q).Perm (js.flatMap fun j => ks.map fun q => g j q) := by
  induction ks with
  | nil => simp
  | cons q ks ih =>
    simp only [List.flatMap_cons, List.map_cons]
    exact (List.Perm.append_left _ ih).trans (flat_cons (fun j => g j q) (fun j => ks.map fun q => g j q) js).symm
theorem flat_perm {α β : Type} {f g : α → List β} (l : List α) (h : ∀ j, (f j).Perm (g j)) : (l.flatMap f).Perm (l.flatMap g) := by
  induction l with
  | nil => simp
  | cons a l ih =>
    simp only [List.flatMap_cons]
    exact List.Perm.append (h a) ih
theorem flat_congr {α β : Type} {f g : α → List β} (l : List α) (h : ∀ j, f j = g j) : l.flatMap f = l.flatMap g := by
  rw [show f = g from funext h]
theorem digs_perm (m n : Nat) : ((List.range (m ^ n)).map (digs m n)).Perm (allT m n) := by
  induction n with
  | zero => simp [digs, allT]
  | succ n ih =>
    have e : (List.range (m ^ (n + 1))).map (digs m (n + 1)) = (List.range (m ^ n)).flatMap fun q => (List.range m).map fun j => ((j : Nat) : Int) :: digs m n q := by
      rw [Nat.pow_succ, Nat.mul_comm, range_mul, List.map_flatMap]
      refine flat_congr _ fun q => ?_
      rw [List.map_map]
      refine List.map_congr_left fun j hj => ?_
      have hj := List.mem_range.1 hj
      show ((((q * m + j) % m : Nat) : Int) :: digs m n ((q * m + j) / m)) = _
      rw [Nat.mul_comm q m, Nat.mul_add_mod, Nat.mod_eq_of_lt hj, Nat.mul_add_div (by omega), Nat.div_eq_of_lt hj, Nat.add_zero]
    rw [e]
    refine (flat_swap (fun (j : Nat) (q : Nat) => ((j : Nat) : Int) :: digs m n q) (List.range m) (List.range (m ^ n))).trans ?_
    refine flat_perm _ fun (j : Nat) => ?_
    have h2 := ih.map (fun t => (j : Int) :: t)
    rw [List.map_map] at h2
    exact h2
/-- one more outcome: a state, or none -/
def tally (st : List Int × Int) (x : Int) : List Int × Int := if x < 0 then (st.1, st.2 + 1) else (st.1.set x.toNat (st.1.getD x.toNat 0 + 1), st.2)
theorem getD_set {l : List Int} {i j : Nat} {v : Int} (hi : i < l.length) : (l.set i v).getD j 0 = if i = j then v else l.getD j 0 := by
  by_cases e : i = j
  · subst e
    rw [if_pos rfl, List.getD_eq_getElem?_getD, List.getElem?_set_self hi]
    rfl
  · rw [if_neg e, List.getD_eq_getElem?_getD, List.getElem?_set_ne e, ← List.getD_eq_getElem?_getD]
theorem getD_set_ne {l : List Int} {i j : Nat} {v : Int} (e : i ≠ j) : (l.set i v).getD j 0 = l.getD j 0 := by
  rw [List.getD_eq_getElem?_getD, List.getElem?_set_ne e, ← List.getD_eq_getElem?_getD]
theorem tally_comm (st : List Int × Int) (x y : Int) : tally (tally st x) y = tally (tally st y) x := by
  unfold tally
  by_cases hx : x < 0
  · by_cases hy : y < 0
    · simp [hx, hy]
    · simp [hx, hy]
  · by_cases hy : y < 0
    · simp [hx, hy]
    · simp only [hx, hy, if_false]
      by_cases e : x.toNat = y.toNat
      · rw [e]
      · rw [getD_set_ne e, getD_set_ne (Ne.symm e), List.set_comm _ _ e]
theorem fold_perm {l1 l2 : List Int} (h : l1.Perm l2) (st : List Int × Int) : l1.foldl tally st = l2.foldl tally st := by
  induction h generalizing st with
  | nil => rfl
  | cons x _ ih => exact ih _
  | swap x y l => simp only [List.foldl_cons]; rw [tally_comm]
  | trans _ _ i1 i2 => rw [i1, i2]
/-- bounds of what has been told -/
structure Bd (n : Nat) (b : Nat) (st : List Int × Int) : Prop where
  len : st.1.length = n
  op : 0 ≤ st.2 ∧ st.2 ≤ b
  out : ∀ i, 0 ≤ st.1.getD i 0 ∧ st.1.getD i 0 ≤ b
theorem Bd.tally {n b : Nat} {st : List Int × Int} (h : Bd n b st) (x : Int) : Bd n (b + 1) (tally st x) := by
  have h1 := h.op
  unfold Go.Proofs.YtioekjkfhbopkaaDoor.tally
  by_cases hx : x < 0
  · rw [if_pos hx]
    exact ⟨h.len, by dsimp only; omega, fun i => by have := h.out i; dsimp only; omega⟩
  · rw [if_neg hx]
    refine ⟨by dsimp only; rw [List.length_set]; exact h.len, by dsimp only; omega, fun i => ?_⟩
    have h3 := h.out i
    have h4 := h.out x.toNat
    dsimp only
    by_cases hl : x.toNat < st.1.length
    · rw [getD_set hl]
      split <;> omega
    · rw [List.set_eq_of_length_le (by omega)]
      omega
theorem Bd.fold {n : Nat} (l : List Int) {b : Nat} {st : List Int × Int} (h : Bd n b st) : Bd n (b + l.length) (l.foldl Go.Proofs.YtioekjkfhbopkaaDoor.tally st) := by
  induction l generalizing b st with
  | nil => exact h
  | cons x l ih =>
    have := ih (h.tally x)
    rw [List.foldl_cons, List.length_cons, show b + (l.length + 1) = b + 1 + l.length by omega]
    exact this
theorem Bd.zero (n : Nat) : Bd n 0 (List.replicate n 0, 0) := ⟨by simp, by dsimp only; omega, fun i => by
  dsimp only
  rw [List.getD_eq_getElem?_getD, List.getElem?_replicate]
  split <;> simp⟩
/-- what all tapes that go on from one come to -/
def outs (r : List (List Int)) (n M d : Nat) (pre : List Int) : List Int := (allT M d).map fun ext => comesRes r n (pre ++ ext)
theorem outs_zero (r : List (List Int)) (n M : Nat) (pre : List Int) : outs r n M 0 pre = [comesRes r n pre] := by simp [outs, allT]
theorem outs_succ (r : List (List Int)) (n M d : Nat) (pre : List Int) : outs r n M (d + 1) pre = (List.range M).flatMap fun (j : Nat) => outs r n M d (pre ++ [(j : Int)]) := by
  simp [outs, allT, List.map_flatMap, Function.comp_def]
theorem allT_length (M d : Nat) : (allT M d).length = M ^ d := by
  have h := (digs_perm M d).length_eq
  rw [List.length_map, List.length_range] at h
  exact h.symm
theorem outs_length (r : List (List Int)) (n M d : Nat) (pre : List Int) : (outs r n M d pre).length = M ^ d := by
  rw [outs, List.length_map, allT_length]
theorem flat_length {f : Nat → List Int} {K : Nat} (hf : ∀ j, (f j).length = K) (j : Nat) : ((List.range j).flatMap f).length = j * K := by
  induction j with
  | zero => simp
  | succ j ih => rw [List.range_succ, List.flatMap_append, List.length_append, ih]; simp [hf, Nat.succ_mul]
/-- what all tapes come to -/
def endsR (r : List (List Int)) (n steps : Nat) : List Int × Int := (outs r n r.length steps []).foldl tally (List.replicate n 0, 0)
theorem endsR_digs (r : List (List Int)) (n steps : Nat) : ((List.range (r.length ^ steps)).map fun k => comesRes r n (digs r.length steps k)).foldl tally (List.replicate n 0, 0) = endsR r n steps := by
  unfold endsR outs
  refine fold_perm ?_ _
  have := (digs_perm r.length steps).map (fun t => comesRes r n t)
  rw [List.map_map] at this
  simpa [Function.comp_def] using this
theorem comesRes_range {r : List (List Int)} {n : Nat} (h : GoodRs r n) {tape : List Int} (ht : goodT r tape) : -1 ≤ comesRes r n tape ∧ comesRes r n tape < n := by
  have h0 := h.n0
  have := comeTo_range h ht (s := 0) ⟨by omega, by omega⟩
  unfold comesRes
  split <;> omega
theorem goodT_nil (r : List (List Int)) : goodT r [] := fun i hi => absurd hi (Nat.not_lt_zero _)
theorem goodT_of_cons {r : List (List Int)} {k : Int} {l : List Int} (hk : 0 ≤ k ∧ k < r.length) (hl : goodT r l) : goodT r (k :: l) := fun i hi => by
  cases i with
  | zero => simpa using hk
  | succ i => have := hl i (by simpa using hi); simpa using this
theorem digs_good {r : List (List Int)} (hp : 0 < r.length) (n : Nat) : ∀ k, goodT r (digs r.length n k) := by
  induction n with
  | zero => exact fun k => goodT_nil r
  | succ n ih => exact fun k => goodT_of_cons ⟨by omega, by have := Nat.mod_lt k hp; omega⟩ (ih _)
theorem digs_length (m n : Nat) : ∀ k, (digs m n k).length = n := by
  induction n with
  | zero => exact fun k => rfl
  | succ n ih => exact fun k => by simp [digs, ih]
theorem comesToE_l1 {r : List (List Int)} {n : Nat} (h : GoodRs r n) {tape : List Int} (ht : goodT r tape) (hl : tape.length ≤ 2000000) (out : Int) (s : Nat) (hs : s < n) (res : Int)
    (fin : Ev (fun k => if (s : Int) > 0 then (if comeTo r tape s = out then (PSampleEnds.demonref4_ComesTo.l0 k r tape (comeTo r tape s) (wrap64 ((s : Int) + 1))) else (some (-1))) else (PSampleEnds.demonref4_ComesTo.l0 k r tape (comeTo r tape s) (wrap64 ((s : Int) + 1)))) res) :
    ∀ i, i ≤ tape.length → Ev (fun k => PSampleEnds.demonref4_ComesTo.l1 k r tape out (s : Int) (comeTo r (tape.drop i) s) ((i : Int) - 1)) res := by
  have h16 := h.n16
  intro i
  induction i with
  | zero =>
    intro _
    refine Ev.step (fun k => ?_) fin
    simp only [PSampleEnds.demonref4_ComesTo.l1]
    rw [if_neg (by omega), List.drop_zero]
  | succ i ih =>
    intro hi
    have hil : i < tape.length := by omega
    obtain ⟨t0, t1⟩ := ht i hil
    have hgd : goodT r (tape.drop (i + 1)) := fun j hj => by
      rw [List.length_drop] at hj
      have := ht (i + 1 + j) (by omega)
      rw [List.getD_eq_getElem?_getD, List.getElem?_drop, ← List.getD_eq_getElem?_getD]
      exact this
    obtain ⟨x0, x1⟩ := comeTo_range h hgd (s := (s : Int)) ⟨by omega, by omega⟩
    have ed : tape.drop i = tape.getD i 0 :: tape.drop (i + 1) := by rw [List.drop_eq_getElem_cons hil, getD_eq tape i 0 hil]
    have hrow := (h.rows (tape.getD i 0).toNat (by omega)).1
    have hih := ih (by omega)
    rw [ed, comeTo_cons] at hih
    refine Ev.step (fun k => ?_) hih
    have e1 : ((i + 1 : Nat) : Int) - 1 = (i : Int) := by omega
    have e2 : wrap64 ((i : Int) - 1) = (i : Int) - 1 := by unfold wrap64; omega
    have e3 : PSampleEnds.rd_L1 r (tape.getD i 0) = r.getD (tape.getD i 0).toNat [] := rfl
    rw [e1]
    simp only [PSampleEnds.demonref4_ComesTo.l1]
    rw [if_pos (by omega), if_pos (by omega), if_pos (by omega), rd_nat, if_pos (by omega), if_pos (by omega), if_pos (by omega), e3, if_pos (by rw [hrow]; omega), e2]
    rfl
theorem comesToE_l0 {r : List (List Int)} {n : Nat} (h : GoodRs r n) (ha : ∀ j, j < r.length → asc (r.getD j []) (r.getD j []).length = true) {tape : List Int} (ht : goodT r tape) (hl : tape.length ≤ 2000000) : ∀ (e s : Nat) (out : Int), s + e = n → (0 < s → out = comeTo r tape ((s : Int) - 1)) → (∀ j : Nat, j < s → comeTo r tape j = comeTo r tape 0) →
    Ev (fun k => PSampleEnds.demonref4_ComesTo.l0 k r tape out (s : Int)) (comesRes r n tape) := by
  have h16 := h.n16
  have hn0 := h.n0
  have hp := h.pos
  have hf : (PSampleEnds.rd_L1 r 0).length = n := h.first
  intro e
  induction e with
  | zero =>
    intro s out hs ho hall
    obtain rfl : s = n := by omega
    have e1 := ho hn0
    have e2 := hall (s - 1) (by omega)
    rw [show ((s - 1 : Nat) : Int) = (s : Int) - 1 by omega] at e2
    refine Ev.step (f := fun _ => some (comesRes r s tape)) (fun k => ?_) (Ev.now _)
    simp only [PSampleEnds.demonref4_ComesTo.l0]
    rw [if_pos (by omega), hf, if_neg (by omega), e1]
    unfold comesRes
    rw [if_pos e2.symm, e2]
  | succ e ih =>
    intro s out hs ho hall
    have hsn : s < n := by omega
    have hw : wrap64 ((s : Int) + 1) = ((s + 1 : Nat) : Int) := wrap_up s (by omega)
    have hl1 : wrap64 ((tape.length : Int) - 1) = (tape.length : Int) - 1 := by unfold wrap64; omega
    have hnext : comeTo r tape s = comeTo r tape 0 → Ev (fun k => PSampleEnds.demonref4_ComesTo.l0 k r tape (comeTo r tape s) (wrap64 ((s : Int) + 1))) (comesRes r n tape) := fun heq => by
      rw [hw]
      refine ih (s + 1) _ (by omega) (fun _ => by rw [show ((s + 1 : Nat) : Int) - 1 = (s : Int) by omega]) (fun j hj => ?_)
      by_cases q : j = s
      · subst q; exact heq
      · exact hall j (by omega)
    have hl1' := comesToE_l1 h ht hl out s hsn (comesRes r n tape) (by
      rcases Nat.eq_zero_or_pos s with q | q
      · subst q
        exact Ev.congr (fun k => by rw [if_neg (by omega)]) (hnext rfl)
      · have e1 := ho q
        have e2 := hall (s - 1) (by omega)
        rw [show ((s - 1 : Nat) : Int) = (s : Int) - 1 by omega] at e2
        by_cases heq : comeTo r tape s = out
        · exact Ev.congr (fun k => by rw [if_pos (by omega), if_pos heq]) (hnext (by rw [heq, e1, e2]))
        · refine Ev.congr (f := fun _ => some (comesRes r n tape)) (fun k => ?_) (Ev.now _)
          rw [if_pos (by omega), if_neg heq]
          have m1 := comeTo_mono h ha ht (x := (s : Int) - 1) (y := (s : Int)) (by omega) (by omega) (by omega)
          have m2 := comeTo_mono h ha ht (x := (s : Int)) (y := (n : Int) - 1) (by omega) (by omega) (by omega)
          unfold comesRes
          rw [if_neg (by rw [e1] at heq; omega)]) tape.length (Nat.le_refl _)
    rw [List.drop_length] at hl1'
    refine Ev.step (fun k => ?_) hl1'
    simp only [PSampleEnds.demonref4_ComesTo.l0]
    rw [if_pos (by omega), hf, if_pos (by omega), hl1]
    rfl
theorem comesToE_f {r : List (List Int)} {n : Nat} (h : GoodRs r n) (ha : ∀ j, j < r.length → asc (r.getD j []) (r.getD j []).length = true) {tape : List Int} (ht : goodT r tape) (hl : tape.length ≤ 2000000) : Ev (fun k => PSampleEnds.demonref4_ComesTo.f k r tape) (comesRes r n tape) :=
  comesToE_l0 h ha ht hl n 0 (-1) (by omega) (fun q => absurd q (Nat.lt_irrefl _)) (fun j hj => absurd hj (Nat.not_lt_zero _))
theorem endsOf_l1 {r : List (List Int)} (hm : 0 < r.length) (steps : Nat) (hs : steps ≤ 6) (out : List Int) (op k : Int) (res : List Int × Int) :
    ∀ (e i : Nat) (acc : List Int) (rest : Nat), i + e = steps → acc.length = i → rest ≤ 20000 →
      Ev (fun q => (PSampleEnds.demonref4_ComesTo.f q r (acc ++ digs r.length e rest)).bind fun t158 => (if t158 < 0 then (PSampleEnds.demonref4_EndsOf.l0 q r (steps : Int) out (wrap64 (op + 1)) (wrap64 (k + 1))) else (if 0 ≤ t158 then (if t158 < (out.length : Int) then (PSampleEnds.demonref4_EndsOf.l0 q r (steps : Int) (out.set (t158 : Int).toNat (wrap64 ((rd out t158) + 1))) op (wrap64 (k + 1))) else (none)) else (none)))) res →
      Ev (fun q => PSampleEnds.demonref4_EndsOf.l1 q r (steps : Int) out op k acc (rest : Int) (i : Int)) res := by
  intro e
  induction e with
  | zero =>
    intro i acc rest hi ha hr fin
    rw [digs, List.append_nil] at fin
    refine Ev.step (fun q => ?_) fin
    simp only [PSampleEnds.demonref4_EndsOf.l1]
    rw [if_neg (by omega)]
  | succ e ih =>
    intro i acc rest hi ha hr fin
    have h1 := ih (i + 1) (acc ++ [((rest % r.length : Nat) : Int)]) (rest / r.length) (by omega) (by simp [ha]) (Nat.le_trans (Nat.div_le_self _ _) hr) (by
      rw [List.append_assoc]
      exact fin)
    have e4 : acc.length < 17592186044416 := by omega
    have c1 : (i : Int) < (steps : Int) := by omega
    have c2 : ¬ (r.length : Int) = 0 := by omega
    have e3 : wrap64 ((i : Int) + 1) = ((i + 1 : Nat) : Int) := wrap_up i (by omega)
    have e1 : Int.tmod (rest : Int) (r.length : Int) = ((rest % r.length : Nat) : Int) := by
      rw [Int.tmod_eq_emod_of_nonneg (Int.natCast_nonneg _)]; rfl
    have e2 : wrap64 (Int.tdiv (rest : Int) (r.length : Int)) = ((rest / r.length : Nat) : Int) := by
      rw [Int.tdiv_eq_ediv_of_nonneg (Int.natCast_nonneg _)]
      have h3 : ((rest : Int) / (r.length : Int)) = ((rest / r.length : Nat) : Int) := rfl
      rw [h3]
      have h4 := Nat.div_le_self rest r.length
      clear e3 e1 e4 h1 fin ih
      generalize rest / r.length = x at h4 ⊢
      unfold wrap64
      omega
    refine Ev.step (fun q => ?_) h1
    simp only [PSampleEnds.demonref4_EndsOf.l1]
    rw [if_pos c1, if_neg c2, if_pos e4, e1, e2, e3]
theorem tapesOf_f {r : List (List Int)} (hm : 0 < r.length) (hm16 : r.length ≤ 16) (steps : Nat) (hs : steps ≤ 6) : Ev (fun q => PSampleEnds.demonref4_TapesOf.f q r (steps : Int)) (if r.length ^ steps ≤ 20000 then ((r.length ^ steps : Nat) : Int) else 0) := by
  have key : ∀ (e i : Nat), i + e = steps → r.length ^ i ≤ 20000 → Ev (fun q => PSampleEnds.demonref4_TapesOf.l0 q r (steps : Int) ((r.length ^ i : Nat) : Int) (i : Int)) (if r.length ^ steps ≤ 20000 then ((r.length ^ steps : Nat) : Int) else 0) := by
    intro e
    induction e with
    | zero =>
      intro i hi hp
      obtain rfl : i = steps := by omega
      refine Ev.step (f := fun _ => some ((r.length ^ i : Nat) : Int)) (fun q => ?_) (by rw [if_pos hp]; exact Ev.now _)
      simp only [PSampleEnds.demonref4_TapesOf.l0]
      rw [if_neg (by omega)]
    | succ e ih =>
      intro i hi hp
      have e3 : wrap64 ((i : Int) + 1) = ((i + 1 : Nat) : Int) := wrap_up i (by omega)
      have hpw : r.length ^ (i + 1) = r.length ^ i * r.length := Nat.pow_succ _ _
      have hle : r.length ^ i * r.length ≤ 20000 * 16 := Nat.mul_le_mul hp hm16
      have e4 : wrap64 (((r.length ^ i : Nat) : Int) * (r.length : Int)) = ((r.length ^ (i + 1) : Nat) : Int) := by
        rw [hpw, ← Int.natCast_mul]
        generalize r.length ^ i * r.length = x at hle
        unfold wrap64
        omega
      by_cases hgt : r.length ^ (i + 1) ≤ 20000
      · refine Ev.step (fun q => ?_) (ih (i + 1) (by omega) hgt)
        simp only [PSampleEnds.demonref4_TapesOf.l0]
        rw [if_pos (by omega), e4, if_neg (by omega), e3]
      · have hbig : r.length ^ (i + 1) ≤ r.length ^ steps := Nat.pow_le_pow_right hm (by omega)
        refine Ev.step (f := fun _ => some 0) (fun q => ?_) (by rw [if_neg (by omega)]; exact Ev.now _)
        simp only [PSampleEnds.demonref4_TapesOf.l0]
        rw [if_pos (by omega), e4, if_pos (by omega)]
  have := key steps 0 (by omega) (by simp)
  unfold PSampleEnds.demonref4_TapesOf.f
  simpa using this
theorem endsOf_l0 {r : List (List Int)} {n : Nat} (h : GoodRs r n) (h16 : r.length ≤ 16) (ha : ∀ j, j < r.length → asc (r.getD j []) (r.getD j []).length = true) (steps : Nat) (hs : steps ≤ 6) (hT : r.length ^ steps ≤ 20000) :
    ∀ (e k : Nat) (st : List Int × Int), k + e = r.length ^ steps → Bd n k st →
      Ev (fun q => PSampleEnds.demonref4_EndsOf.l0 q r (steps : Int) st.1 st.2 (k : Int)) (((List.range' k e).map fun j => comesRes r n (digs r.length steps j)).foldl tally st) := by
  have hp := h.pos
  have htp := tapesOf_f hp h16 steps hs
  rw [if_pos hT] at htp
  intro e
  induction e with
  | zero =>
    intro k st hk hb
    refine Ev.step (f := fun q => (PSampleEnds.demonref4_TapesOf.f q r (steps : Int)).bind fun t => if (k : Int) < t then PSampleEnds.demonref4_EndsOf.l1 q r (steps : Int) st.1 st.2 (k : Int) [] (k : Int) 0 else some (st.1, st.2)) (fun q => ?_) (Ev.bind (f := fun q t => if (k : Int) < t then PSampleEnds.demonref4_EndsOf.l1 q r (steps : Int) st.1 st.2 (k : Int) [] (k : Int) 0 else some (st.1, st.2)) htp ?_)
    · simp only [PSampleEnds.demonref4_EndsOf.l0]
    · exact Ev.congr (fun q => by rw [if_neg (by omega)]; rfl) (Ev.now _)
  | succ e ih =>
    intro k st hk hb
    have hgd := digs_good hp steps k
    have hrg := comesRes_range h hgd
    have hc := comesToE_f h ha hgd (by rw [digs_length]; omega)
    have hop := hb.op
    have hw : wrap64 ((k : Int) + 1) = ((k + 1 : Nat) : Int) := wrap_up k (by omega)
    refine Ev.step (f := fun q => (PSampleEnds.demonref4_TapesOf.f q r (steps : Int)).bind fun t => if (k : Int) < t then PSampleEnds.demonref4_EndsOf.l1 q r (steps : Int) st.1 st.2 (k : Int) [] (k : Int) 0 else some (st.1, st.2)) (fun q => ?_) (Ev.bind (f := fun q t => if (k : Int) < t then PSampleEnds.demonref4_EndsOf.l1 q r (steps : Int) st.1 st.2 (k : Int) [] (k : Int) 0 else some (st.1, st.2)) htp ?_)
    · simp only [PSampleEnds.demonref4_EndsOf.l0]
    · refine Ev.congr (f := fun q => PSampleEnds.demonref4_EndsOf.l1 q r (steps : Int) st.1 st.2 (k : Int) [] (k : Int) 0) (fun q => by rw [if_pos (by omega)]) ?_
      refine endsOf_l1 hp steps hs st.1 st.2 (k : Int) _ steps 0 [] k (by omega) rfl (by omega) ?_
      rw [List.nil_append]
      refine Ev.bind (f := fun q t158 => (if t158 < 0 then (PSampleEnds.demonref4_EndsOf.l0 q r (steps : Int) st.1 (wrap64 (st.2 + 1)) (wrap64 ((k : Int) + 1))) else (if 0 ≤ t158 then (if t158 < (st.1.length : Int) then (PSampleEnds.demonref4_EndsOf.l0 q r (steps : Int) (st.1.set (t158 : Int).toNat (wrap64 ((rd st.1 t158) + 1))) st.2 (wrap64 ((k : Int) + 1))) else (none)) else (none)))) hc ?_
      have hih := ih (k + 1) (tally st (comesRes r n (digs r.length steps k))) (by omega) (hb.tally _)
      rw [List.range'_succ, List.map_cons, List.foldl_cons]
      generalize comesRes r n (digs r.length steps k) = t at hrg hih ⊢
      by_cases h0 : t < 0
      · have e1 : tally st t = (st.1, st.2 + 1) := by unfold tally; rw [if_pos h0]
        have e2 : wrap64 (st.2 + 1) = st.2 + 1 := by unfold wrap64; omega
        rw [e1] at hih ⊢
        exact Ev.congr (fun q => by rw [if_pos h0, e2, hw]) hih
      · have e1 : tally st t = (st.1.set t.toNat (st.1.getD t.toNat 0 + 1), st.2) := by unfold tally; rw [if_neg h0]
        have hg := hb.out t.toNat
        have e3 : rd st.1 t = st.1.getD t.toNat 0 := rfl
        have e2 : wrap64 (st.1.getD t.toNat 0 + 1) = st.1.getD t.toNat 0 + 1 := by unfold wrap64; omega
        rw [e1] at hih ⊢
        exact Ev.congr (fun q => by rw [if_neg h0, if_pos (by omega), if_pos (by rw [hb.len]; omega), e3, e2, hw]) hih
theorem endsOf_f {r : List (List Int)} (h0 : rErr r = 0) (steps : Nat) (hs : steps ≤ 6) (hT : r.length ^ steps ≤ 20000) (h16 : r.length ≤ 16) : Ev (fun q => PSampleEnds.demonref4_EndsOf.f q r (steps : Int)) (endsR r (r.getD 0 []).length steps) := by
  have h := good_rules h0
  have hp := h.pos
  have hn := h.n16
  have e0 : PSampleEnds.rd_L1 r 0 = r.getD 0 [] := rfl
  have hk := endsOf_l0 h h16 (rules_asc h0) steps hs hT (r.length ^ steps) 0 _ (by omega) (Bd.zero _)
  rw [← List.range_eq_range', endsR_digs] at hk
  refine Ev.congr (fun q => ?_) hk
  unfold PSampleEnds.demonref4_EndsOf.f
  rw [if_pos (by omega), e0, if_pos (by omega), if_pos (by omega)]
  rfl
theorem rules_few {r : List (List Int)} (h : rErr r = 0) : r.length ≤ 16 := by
  unfold rErr at h
  by_cases h1 : 16 < r.length
  · rw [if_pos h1] at h; cases h
  · omega
end Go.Proofs.YtioekjkfhbopkaaDoor

/- The walk of sample.Ends' inner function: all tapes that go on from one. No condition. -/
namespace Go.Proofs.YtioekjkfhbopkaaDoor
open Go.RowKit Go.Deep Go.Proofs.YtioekjkfhbopkaaDoorW.PrintWords

/-- what the inner function reads and never writes -/
structure FS (w : World) (A : Option Addr) (r : List (List Int)) (c n steps R : Nat) (V : World) : Prop where
  below : Below w.heap.size w V
  low : w.heap.size + 2 ≤ R
  size : R + 6 ≤ V.heap.size
  cr : V.cell? ⟨w.heap.size, 0, none⟩ = some (.slice A r.length c)
  cs : V.cell? ⟨w.heap.size + 1, 0, none⟩ = some (.int .i64 (steps : Int))
  co : V.cell? ⟨R + 1, 0, none⟩ = some (.slice (some ⟨R, 0, none⟩) n n)
  ct : V.cell? ⟨R + 4, 0, none⟩ = some (.slice (some ⟨R + 3, 0, none⟩) steps steps)
  cf : V.cell? ⟨R + 5, 0, none⟩ = some (.func (.func 52) #[] #[.pointer (some ⟨w.heap.size + 1, 0, none⟩), .pointer (some ⟨w.heap.size, 0, none⟩), .pointer (some ⟨R + 4, 0, none⟩), .pointer (some ⟨R + 1, 0, none⟩), .pointer (some ⟨R + 2, 0, none⟩), .pointer (some ⟨R + 5, 0, none⟩)])
/-- what it writes: the tape, the states' counts, the count of none -/
structure FT (n steps R : Nat) (V : World) (tp : List Int) (st : List Int × Int) : Prop where
  tl : tp.length = steps
  rt : V.rowIs (R + 3) 3 steps (fun j => .int .i64 (tp.getD j 0))
  ro : V.rowIs R 3 n (fun j => .int .i64 (st.1.getD j 0))
  cp : V.cell? ⟨R + 2, 0, none⟩ = some (.int .i64 st.2)
  fp : V.frozen? ⟨R + 2, 0, none⟩ = false
theorem FS.later {w : World} {A : Option Addr} {r : List (List Int)} {c n steps R : Nat} {V V' : World} (h : FS w A r c n steps R V) (b : Below V.heap.size V V') : FS w A r c n steps R V' := by
  have h1 := h.low
  have h2 := h.size
  exact ⟨below_trans h.below b, h.low, Nat.le_trans h.size b.size, (b.cell (p := ⟨w.heap.size, 0, none⟩) (by show w.heap.size < _; omega)).trans h.cr, (b.cell (p := ⟨w.heap.size + 1, 0, none⟩) (by show w.heap.size + 1 < _; omega)).trans h.cs, (b.cell (p := ⟨R + 1, 0, none⟩) (by show R + 1 < _; omega)).trans h.co, (b.cell (p := ⟨R + 4, 0, none⟩) (by show R + 4 < _; omega)).trans h.ct, (b.cell (p := ⟨R + 5, 0, none⟩) (by show R + 5 < _; omega)).trans h.cf⟩
theorem FT.later {w : World} {A : Option Addr} {r : List (List Int)} {c n steps R : Nat} {V V' : World} {tp : List Int} {st : List Int × Int} (s : FS w A r c n steps R V) (h : FT n steps R V tp st) (b : Below V.heap.size V V') : FT n steps R V' tp st := by
  have h2 := s.size
  exact ⟨h.tl, h.rt.of_block (b.block _ h.rt.lt), h.ro.of_block (b.block _ h.ro.lt), (b.cell (p := ⟨R + 2, 0, none⟩) (by show R + 2 < _; omega)).trans h.cp, (b.frozen (p := ⟨R + 2, 0, none⟩) (by show R + 2 < _; omega)).trans h.fp⟩
theorem FS.put {w : World} {A : Option Addr} {r : List (List Int)} {c n steps R : Nat} {V : World} (h : FS w A r c n steps R V) (b i : Nat) (hb : b = R ∨ b = R + 2 ∨ b = R + 3) (v : Value) : FS w A r c n steps R (V.setCell ⟨b, i, none⟩ v) := by
  have h1 := h.low
  have key : ∀ q o, q ≠ b → (V.setCell ⟨b, i, none⟩ v).cell? ⟨q, o, none⟩ = V.cell? ⟨q, o, none⟩ := fun q o hq => World.cell?_setCell_other _ _ _ _ (fun e => hq (by injection e with e; exact e.symm))
  exact ⟨h.below.setCell (p := ⟨b, i, none⟩) (by show w.heap.size ≤ b; omega) v, h.low, by rw [World.size_setCell]; exact h.size, (key _ _ (by omega)).trans h.cr, (key _ _ (by omega)).trans h.cs, (key _ _ (by omega)).trans h.co, (key _ _ (by omega)).trans h.ct, (key _ _ (by omega)).trans h.cf⟩
theorem FT.putT {n steps R : Nat} {V : World} {tp : List Int} {st : List Int × Int} (h : FT n steps R V tp st) (i : Nat) (x : Int) (hi : i < steps) : FT n steps R (V.setCell ⟨R + 3, i, none⟩ (.int .i64 x)) (tp.set i x) st := by
  refine ⟨by rw [List.length_set]; exact h.tl, (h.rt.set i _).congr fun j hj => ?_, h.ro.setOther (a := ⟨R + 3, i, none⟩) (by show R ≠ R + 3; omega) _, (World.cell?_setCell_other _ _ _ _ (fun e => by injection e with e; omega)).trans h.cp, by rw [World.frozen?_setCell]; exact h.fp⟩
  rw [getD_set (by rw [h.tl]; exact hi)]
  by_cases e : j = i
  · rw [if_pos e, if_pos e.symm]
  · rw [if_neg e, if_neg (Ne.symm e)]
theorem FT.putO {n steps R : Nat} {V : World} {tp : List Int} {st : List Int × Int} (h : FT n steps R V tp st) (hl : st.1.length = n) (i : Nat) (x : Int) (hi : i < n) : FT n steps R (V.setCell ⟨R, i, none⟩ (.int .i64 x)) tp (st.1.set i x, st.2) := by
  refine ⟨h.tl, h.rt.setOther (a := ⟨R, i, none⟩) (by show R + 3 ≠ R; omega) _, (h.ro.set i _).congr fun j hj => ?_, (World.cell?_setCell_other _ _ _ _ (fun e => by injection e with e; omega)).trans h.cp, by rw [World.frozen?_setCell]; exact h.fp⟩
  rw [getD_set (by rw [hl]; exact hi)]
  by_cases e : j = i
  · rw [if_pos e, if_pos e.symm]
  · rw [if_neg e, if_neg (Ne.symm e)]
theorem FT.putP {n steps R : Nat} {V : World} {tp : List Int} {st : List Int × Int} (h : FT n steps R V tp st) (x : Int) : FT n steps R (V.setCell ⟨R + 2, 0, none⟩ (.int .i64 x)) tp (st.1, x) :=
  ⟨h.tl, h.rt.setOther (a := ⟨R + 2, 0, none⟩) (by show R + 3 ≠ R + 2; omega) _, h.ro.setOther (a := ⟨R + 2, 0, none⟩) (by show R ≠ R + 2; omega) _, World.cell?_setCell_same' _ _ _ (by rw [h.cp]; rfl), by rw [World.frozen?_setCell]; exact h.fp⟩
theorem rowInts {V : World} {b n : Nat} {t : TypeId} {l : List Int} (h : V.rowIs b t n (fun j => .int .i64 (l.getD j 0))) (hl : l.length = n) (hn : n ≤ 2000000) : Ints V (some ⟨b, 0, none⟩) l :=
  ⟨by omega, fun i hi => ⟨b, 0, rfl, h.lt, by rw [Nat.zero_add]; exact h.cell (by omega)⟩⟩
theorem take_set_succ {tp : List Int} {i : Nat} (x : Int) (hi : i < tp.length) : (tp.set i x).take (i + 1) = tp.take i ++ [x] := by
  rw [List.take_add_one, List.take_set_of_le (Nat.le_refl _), List.getElem?_set_self hi]
  rfl
theorem goodT_snoc {r : List (List Int)} {l : List Int} {k : Int} (h : goodT r l) (hk : 0 ≤ k ∧ k < r.length) : goodT r (l ++ [k]) := fun i hi => by
  rw [List.length_append, List.length_singleton] at hi
  by_cases e : i < l.length
  · have := h i e
    rw [List.getD_eq_getElem?_getD, List.getElem?_append_left e, ← List.getD_eq_getElem?_getD]
    exact this
  · obtain rfl : i = l.length := by omega
    rw [List.getD_eq_getElem?_getD, List.getElem?_append_right (Nat.le_refl _)]
    simpa using hk
/-- the outcomes of the first j children -/
def kids (r : List (List Int)) (n d : Nat) (pre : List Int) (j : Nat) : List Int := (List.range j).flatMap fun (q : Nat) => outs r n r.length d (pre ++ [(q : Int)])
theorem kids_succ (r : List (List Int)) (n d : Nat) (pre : List Int) (j : Nat) : kids r n d pre (j + 1) = kids r n d pre j ++ outs r n r.length d (pre ++ [(j : Int)]) := by
  unfold kids
  rw [List.range_succ, List.flatMap_append]
  simp
theorem kids_length (r : List (List Int)) (n d : Nat) (pre : List Int) (j : Nat) : (kids r n d pre j).length = j * r.length ^ d := flat_length (fun _ => outs_length _ _ _ _ _) j

set_option maxRecDepth 100000 in
set_option maxHeartbeats 4000000 in
theorem fill_ok (A : Option Addr) (r : List (List Int)) (c n steps R : Nat) (w : World) (hA : Lists w A r) (hg : GoodRs r n) (hs : steps ≤ 6) : ∀ (d i : Nat), i + d = steps → ∀ (V : World) (tp : List Int) (st : List Int × Int) (b : Nat), FS w A r c n steps R V → FT n steps R V tp st → goodT r (tp.take i) → Bd n b st → b + r.length ^ d ≤ 2000000 →
    Calls Tryd.prog 52 #[.int .i64 (i : Int), .pointer (some ⟨w.heap.size + 1, 0, none⟩), .pointer (some ⟨w.heap.size, 0, none⟩), .pointer (some ⟨R + 4, 0, none⟩), .pointer (some ⟨R + 1, 0, none⟩), .pointer (some ⟨R + 2, 0, none⟩), .pointer (some ⟨R + 5, 0, none⟩)] V fun e V' =>
      (∃ v, e = .returned v) ∧ ∃ tp', FS w A r c n steps R V' ∧ FT n steps R V' tp' ((outs r n r.length d (tp.take i)).foldl tally st) ∧ tp'.take i = tp.take i := by
  have hm16 := hA.len
  intro d
  induction d with
  | zero =>
    intro i hi V tp st b hS hT ht hb hbb
    obtain rfl : i = steps := by omega
    have htl := hT.tl
    have htk : tp.take i = tp := List.take_of_length_le (by omega)
    rw [htk] at ht ⊢
    rw [outs_zero, List.foldl_cons, List.foldl_nil]
    have hend := ends_okB A (R + 3) 0 r n tp c i V (hA.below hS.below) (rowInts hT.rt htl (by omega)) hT.rt.lt hg ht (by omega)
    rw [htl] at hend
    have hrg := comeTo_range hg ht (s := 0) ⟨by omega, by have := hg.n0; omega⟩
    have hcr : comesRes r n tp = if comeTo r tp 0 = comeTo r tp ((n : Int) - 1) then comeTo r tp 0 else -1 := rfl
    rw [hcr]
    clear hcr
    generalize comeTo r tp 0 = lo at hend hrg ⊢
    generalize comeTo r tp ((n : Int) - 1) = hi' at hend ⊢
    have HEND := hide hend
    obtain ⟨s1, s2, s3, k1, k2, k3, k4, k5⟩ := id hS
    have HS := hide hS
    have HT := hide hT
    have HB := hide hb
    clear hend hS hT hb ht hA hg s1
    by_cases he : lo = hi'
    · rw [if_pos he]
      subst he
      obtain ⟨lN, rfl⟩ : ∃ lN : Nat, lo = (lN : Int) := ⟨lo.toNat, by omega⟩
      have l0 : (0 : Int) ≤ (lN : Int) := hrg.1
      have l1 : (lN : Int) < (n : Int) := hrg.2
      have hq := HB.out.out lN
      obtain ⟨x, hx⟩ : ∃ x, st.1.getD lN 0 = x := ⟨_, rfl⟩
      rw [hx] at hq
      have hwr : wrap64 (x + 1) = x + 1 := by unfold wrap64; simp only [Nat.pow_zero] at hbb; omega
      have htl' : tally st (lN : Int) = (st.1.set lN (x + 1), st.2) := by unfold tally; rw [if_neg (by omega), Int.toNat_natCast, hx]
      have HX := hide hx
      have HWR := hide hwr
      have HTL := hide htl'
      clear hwr htl' hx
      go_enter Tryd.func52, Tryd.ntmps52
      go_wp2_with (go_at_call 33; refine Calls.mono HEND.out ?_; rintro e w5 ⟨rfl, b5⟩; have hS5 := HS.out.later b5; have hT5 := FT.later HS.out HT.out b5; obtain ⟨_, _, _, m1, m2, m3, m4, m5⟩ := id hS5; have m6 := hT5.ro.cell (i := lN) (by omega); have m7 := hT5.ro.frozen lN; rw [HX.out] at m6)
      refine bodyPost_ret (results_none rfl _ _ _) rfl ?_
      refine ⟨⟨_, rfl⟩, tp, hS5.put R lN (.inl rfl) _, ?_, htk⟩
      rw [HTL.out]
      try rw [HWR.out]
      exact hT5.putO HB.out.len lN (x + 1) (by omega)
    · rw [if_neg he]
      have he' : (lo == hi') = false := beq_eq_false_iff_ne.2 he
      have hq := HB.out.op
      obtain ⟨x, hx⟩ : ∃ x, st.2 = x := ⟨_, rfl⟩
      rw [hx] at hq
      have hwr : wrap64 (x + 1) = x + 1 := by unfold wrap64; simp only [Nat.pow_zero] at hbb; omega
      have htl' : tally st (-1) = (st.1, x + 1) := by unfold tally; rw [if_pos (by decide), hx]
      have HX := hide hx
      have HWR := hide hwr
      have HTL := hide htl'
      clear hwr htl' hx he
      go_enter Tryd.func52, Tryd.ntmps52
      go_wp2_with (go_at_call 33; refine Calls.mono HEND.out ?_; rintro e w5 ⟨rfl, b5⟩; have hS5 := HS.out.later b5; have hT5 := FT.later HS.out HT.out b5; obtain ⟨_, _, _, m1, m2, m3, m4, m5⟩ := id hS5; have m6 := hT5.cp; have m7 := hT5.fp; rw [HX.out] at m6)
      refine bodyPost_ret (results_none rfl _ _ _) rfl ?_
      refine ⟨⟨_, rfl⟩, tp, hS5.put (R + 2) 0 (.inr (.inl rfl)) _, ?_, htk⟩
      rw [HTL.out]
      try rw [HWR.out]
      exact hT5.putP (x + 1)
  | succ d ih =>
    intro i hi V tp st b hS hT ht hb hbb
    have HIH := hide (fun V tp st b h1 h2 h3 h4 h5 => ih (i + 1) (by omega) V tp st b h1 h2 h3 h4 h5)
    have hk : outs r n r.length (d + 1) (tp.take i) = kids r n d (tp.take i) r.length := outs_succ _ _ _ _ _
    rw [hk]
    obtain ⟨pre, hpre⟩ : ∃ pre, tp.take i = pre := ⟨_, rfl⟩
    have hpl : pre.length = i := by rw [← hpre, List.length_take, hT.tl]; omega
    rw [hpre] at ht ⊢
    have i1 : (i : Int) < (steps : Int) := by omega
    have hne : ((i : Int) == (steps : Int)) = false := beq_eq_false_iff_ne.2 (by omega)
    have hil : i < steps := by omega
    have hi0 : (0 : Int) ≤ (i : Int) := Int.natCast_nonneg _
    have HST := hide (show FT n steps R V tp ((kids r n d pre 0).foldl tally st) from hT)
    have HS := hide hS
    have HPR := hide hpre
    have HG := hide ht
    have HB := hide hb
    have HBB := hide hbb
    obtain ⟨_, _, _, k1, k2, k3, k4, k5⟩ := id hS
    clear hS hT hpre ht hb hbb hk ih hA
    go_enter Tryd.func52, Tryd.ntmps52
    go_wp2_with (fail)
    go_loopw [32] (fun jv wr => ∃ (j : Nat) (tpj : List Int), j ≤ r.length ∧ jv = .int .i64 j ∧ FS w A r c n steps R wr ∧ FT n steps R wr tpj ((kids r n d pre j).foldl tally st) ∧ Hid (tpj.take i = pre)) (fun jv _ => r.length - (intOf jv).toNat)
    case atStart => exact ⟨0, tp, Nat.zero_le _, rfl, HS.out, HST.out, HPR⟩
    case round =>
      obtain ⟨j, tpj, hj, rfl, hSj, hTj, HPJ⟩ := hrel
      by_cases hjl : j < r.length
      · have j1 : (j : Int) < (r.length : Int) := by omega
        have hS1 := hSj.put (R + 3) i (.inr (.inr rfl)) (.int .i64 (j : Int))
        have hT1 := hTj.putT i (j : Int) hil
        have hkl : (kids r n d pre (j + 1)).length ≤ r.length ^ (d + 1) := by
          rw [kids_length, Nat.pow_succ, Nat.mul_comm _ r.length]
          exact Nat.mul_le_mul_right _ hjl
        rw [kids_succ, List.length_append, outs_length] at hkl
        have hts : (tpj.set i (j : Int)).take (i + 1) = pre ++ [(j : Int)] := by rw [take_set_succ _ (by rw [hTj.tl]; exact hil), HPJ.out]
        have hc := HIH.out _ _ _ (b + (kids r n d pre j).length) hS1 hT1 (by rw [hts]; exact goodT_snoc HG.out ⟨by omega, j1⟩) (HB.out.fold _) (by have := HBB.out; omega)
        rw [hts, ← List.foldl_append, ← kids_succ] at hc
        have hc' : Calls Tryd.prog 52 #[.int .i64 ((i : Int) + 1), .pointer (some ⟨w.heap.size + 1, 0, none⟩), .pointer (some ⟨w.heap.size, 0, none⟩), .pointer (some ⟨R + 4, 0, none⟩), .pointer (some ⟨R + 1, 0, none⟩), .pointer (some ⟨R + 2, 0, none⟩), .pointer (some ⟨R + 5, 0, none⟩)] _ _ := hc
        have HC := hide hc'
        have m1 := hTj.rt.cell (i := i) hil
        have m2 := hTj.rt.frozen i
        obtain ⟨_, _, _, n1, n2, n3, n4, n5⟩ := id hSj
        obtain ⟨_, _, _, q1, q2, q3, q4, q5⟩ := id hS1
        clear hc hc' hS1 hT1 hkl hts
        generalize tpj.getD i 0 = x at m1
        go_wp2_with (go_at_call 52; refine Calls.mono HC.out ?_; rintro e w6 ⟨⟨v, rfl⟩, tp6, hS6, hT6, h6⟩)
        go_roundw
        case rel =>
          refine ⟨j + 1, tp6, by omega, by go_num, hS6, hT6, hide ?_⟩
          have h7 : tp6.take i = (tp6.take (i + 1)).take i := by rw [List.take_take, Nat.min_eq_left (Nat.le_succ _)]
          rw [h7, h6, List.take_append_of_le_length (by omega), List.take_of_length_le (by omega)]
        case measure => simp [intOf]; omega
      · obtain rfl : j = r.length := by omega
        go_wp2_with (fail)
        go_end0
        exact ⟨⟨_, rfl⟩, tpj, hSj, hTj, HPJ.out⟩
end Go.Proofs.YtioekjkfhbopkaaDoor

/- The walk of sample.Ends. Condition: the variables read as laid. -/
namespace Go.Proofs.YtioekjkfhbopkaaDoor
open Go.RowKit Go.Deep Go.Proofs.YtioekjkfhbopkaaDoorW.PrintWords Go.Proofs.YtioekjkfhbopkaaDoorW.PrintLast Go.Proofs.YtioekjkfhbopkaaDoorW.PrintMore
def mnI (x y : Int) : Int := if y < x then y else x
def mxI (x y : Int) : Int := if x < y then y else x
theorem min2_own (k k' : IntKind) (x y : Int) : Builtin.min2 (.int k x) (.int k' y) = pure (.int k (mnI x y)) := min2_int k k' x y
theorem max2_own (k k' : IntKind) (x y : Int) : Builtin.max2 (.int k x) (.int k' y) = pure (.int k (mxI x y)) := max2_int k k' x y
theorem run_store_func {P : Program} (w : World) (a : Addr) (m : Mode) (fn : Fn) (x y : Array Value) : (store a (.func fn x y) m).run P w = stored P w a (.func fn x y) m := run_store P w a _ m rfl
attribute [local go_sem] max2_own min2_own max_two min_two run_store_func

theorem wp_make_at (w : World) {ops : Array Oper} {rest : List Oper} {o : Oper} {a : Act} {Q : Exit → Act → World → Prop}
    (hg : o.guard = none) (l c : Operand) (hop : o.op = Op.makeSlice 23 l c) (kl kc : IntKind) (n : Nat) (hl : a.eval l = .int kl (n : Int)) (hc : a.eval c = .int kc (n : Int)) (hn : n ≤ 35184372088832)
    (hK : ∀ w', w'.rowIs w.heap.size 3 n (fun _ => .int .i64 0) → Below w.heap.size w w' → w'.heap.size = w.heap.size + 1 → wpList Tryd.prog ops Q rest (a.put o.dst (.slice (some ⟨w.heap.size, 0, none⟩) n n)) w') :
    wpList Tryd.prog ops Q (o :: rest) a w := by
  obtain ⟨i0, hi0, hz0, hz1, hz2⟩ := info_parts int_info
  refine wpList_make_row w hg l c _ hop 3 i0 _ Tryd.underlying23 hi0 hz0 hz1 rfl kl kc n hl hc (by rw [hz2]; omega) (by omega) ?_
  exact hK _ (World.rowIs_made w _ n _) ((Below.refl _ _).alloc (Nat.le_refl _) _) (by simp)
/-- how many tapes, told to 20001 -/
def mny (m : Nat) (i : Nat) : Nat := min (m ^ i) 20001
theorem mny_le (m i : Nat) : mny m i ≤ 20001 := Nat.min_le_right _ _
theorem mny_step {m : Nat} (h0 : 0 < m) (h16 : m ≤ 16) (i : Nat) : mnI (wrap64 (((mny m i : Nat) : Int) * (m : Int))) 20001 = ((mny m (i + 1) : Nat) : Int) := by
  have h1 := mny_le m i
  have h2 : mny m i * m ≤ 20001 * 16 := Nat.mul_le_mul h1 h16
  rw [← Int.natCast_mul]
  have e : wrap64 ((mny m i * m : Nat) : Int) = ((mny m i * m : Nat) : Int) := by
    generalize mny m i * m = x at h2
    unfold wrap64
    omega
  rw [e]
  have h3 : mny m (i + 1) = min (mny m i * m) 20001 := by
    unfold mny
    rw [Nat.pow_succ]
    by_cases q : m ^ i ≤ 20001
    · rw [Nat.min_eq_left q]
    · rw [Nat.min_eq_right (show 20001 ≤ m ^ i by omega)]
      exact (Nat.min_eq_right (Nat.le_trans (Nat.le_of_lt (Nat.lt_of_not_le q)) (Nat.le_mul_of_pos_right _ h0))).trans (Nat.min_eq_right (Nat.le_mul_of_pos_right _ h0)).symm
  rw [h3]
  generalize mny m i * m = x
  unfold mnI
  split <;> omega
theorem mny_zero (m : Nat) : mny m 0 = 1 := rfl
theorem mny_few {m s : Nat} (h : m ^ s ≤ 20000) : mny m s ≤ 20000 := Nat.le_trans (Nat.min_le_left _ _) h
theorem mny_many {m s : Nat} (h : 20000 < m ^ s) : mny m s = 20001 := Nat.min_eq_right (by omega)

set_option maxHeartbeats 2000000 in
theorem allEnds_rules (A : Option Addr) (r : List (List Int)) (steps : Int) (c : Nat) (w : World) (a : Nat → Addr) (hE : Env codesD w a) (hA : Lists w A r) (hc : r.length ≤ c) (h0 : rErr r ≠ 0) :
    Calls Tryd.prog 30 #[.slice A r.length c, .int .i64 steps] w fun e w' => e = .returned (.tuple #[.slice none 0 0, .int .i64 0, .iface 160 (.pointer (some (a (rErr r).toNat)))]) ∧ Below w.heap.size w w' := by
  have hb2 : Below w.heap.size w ((w.alloc (.cells #[.slice A r.length c] 66)).alloc (.cells #[.int .i64 steps] 3)) := below_alloc' (below_alloc' (Below.refl _ _) _) _
  have hv := valid_any A r c ((w.alloc (.cells #[.slice A r.length c] 66)).alloc (.cells #[.int .i64 steps] 3)) a ((hE.below hb2).sub (fun c h => subD23 h)) ((hE.below hb2).sub (fun c h => subD7 h)) (hA.below hb2) hc
  rw [errC_pos' a h0] at hv
  generalize a (rErr r).toNat = x at hv ⊢
  have HV := hide hv
  have HB2 := hide hb2
  clear hv h0 hE hb2
  go_enter Tryd.func30, Tryd.ntmps30
  go_wp2_with (go_at_call 24; refine Calls.mono HV.out ?_; rintro e w1 ⟨rfl, hB1⟩)
  go_ret3
  exact ⟨rfl, below_trans HB2.out hB1⟩

set_option maxRecDepth 100000 in
set_option maxHeartbeats 4000000 in
theorem allEnds_bound (A : Option Addr) (r : List (List Int)) (steps : Int) (c : Nat) (w : World) (a : Nat → Addr) (hE : Env codesD w a) (hA : Lists w A r) (hc : r.length ≤ c) (h0 : rErr r = 0) (hbad : steps < 0 ∨ 6 < steps ∨ (0 ≤ steps ∧ steps ≤ 6 ∧ 20000 < r.length ^ steps.toNat)) :
    Calls Tryd.prog 30 #[.slice A r.length c, .int .i64 steps] w fun e w' => e = .returned (.tuple #[.slice none 0 0, .int .i64 0, .iface 160 (.pointer (some (a 2)))]) ∧ Below w.heap.size w w' := by
  have hp := (good_rules h0).pos
  have hm16 := rules_few h0
  have hb2 : Below w.heap.size w ((w.alloc (.cells #[.slice A r.length c] 66)).alloc (.cells #[.int .i64 steps] 3)) := below_alloc' (below_alloc' (Below.refl _ _) _) _
  have hv := valid_any A r c ((w.alloc (.cells #[.slice A r.length c] 66)).alloc (.cells #[.int .i64 steps] 3)) a ((hE.below hb2).sub (fun c h => subD23 h)) ((hE.below hb2).sub (fun c h => subD7 h)) (hA.below hb2) hc
  rw [h0, errC_zero] at hv
  have HV := hide hv
  have hcl : ∀ w1, Below ((w.alloc (.cells #[.slice A r.length c] 66)).alloc (.cells #[.int .i64 steps] 3)).heap.size ((w.alloc (.cells #[.slice A r.length c] 66)).alloc (.cells #[.int .i64 steps] 3)) w1 →
      w1.cell? ⟨w.heap.size, 0, none⟩ = some (.slice A r.length c) ∧ w1.cell? ⟨w.heap.size + 1, 0, none⟩ = some (.int .i64 steps) ∧ w1.cell? ⟨0, 0, none⟩ = some (.iface 160 (.pointer (some (a 2)))) ∧ Below w.heap.size w w1 := fun w1 h =>
    ⟨(h.cell (p := ⟨w.heap.size, 0, none⟩) (by show w.heap.size < _; rw [World.size_alloc, World.size_alloc]; omega)).trans (by simp), (h.cell (p := ⟨w.heap.size + 1, 0, none⟩) (by show w.heap.size + 1 < _; rw [World.size_alloc, World.size_alloc]; omega)).trans (by simp), ((hE.below hb2).below h).cell 2 (by decide), below_trans hb2 h⟩
  have HCL := hide hcl
  obtain ⟨q, hq, hq7, hqs⟩ : ∃ q : Nat, mxI 0 (mnI steps 7) = (q : Int) ∧ q ≤ 7 ∧ (0 ≤ steps ∧ steps ≤ 6 → q = steps.toNat) :=
    ⟨(mxI 0 (mnI steps 7)).toNat, by unfold mxI mnI; split <;> split <;> omega, by unfold mxI mnI; split <;> split <;> omega, by intro h; unfold mxI mnI; split <;> split <;> omega⟩
  have HST := hide (fun i => mny_step hp hm16 i)
  have HZ := hide (mny_zero r.length)
  have hfin : steps < 0 ∨ (0 ≤ steps ∧ 6 < steps) ∨ (0 ≤ steps ∧ steps ≤ 6 ∧ mny r.length q = 20001) := by
    rcases hbad with h | h | ⟨h1, h2, h3⟩
    · exact .inl h
    · exact .inr (.inl ⟨by omega, h⟩)
    · exact .inr (.inr ⟨h1, h2, by rw [hqs ⟨h1, h2⟩]; exact mny_many h3⟩)
  have HFIN := hide hfin
  clear hv h0 hE hb2 hcl hbad hqs hfin
  go_enter Tryd.func30, Tryd.ntmps30
  go_wp2_with (go_at_call 24; refine Calls.mono HV.out ?_; rintro e w1 ⟨rfl, hB1⟩; obtain ⟨k1, k2, k3, hbw⟩ := HCL.out w1 hB1)
  go_loopw [8, 21] (fun mv iv wr => ∃ i : Nat, i ≤ q ∧ iv = .int .i64 i ∧ mv = .int .i64 (mny r.length i : Nat) ∧ wr = w1) (fun _ iv _ => q - (intOf iv).toNat)
  case atStart => exact ⟨0, Nat.zero_le _, rfl, by rw [HZ.out]; rfl, rfl⟩
  case round =>
    obtain ⟨i, hi, rfl, rfl, rfl⟩ := hrel
    by_cases hil : i < q
    · have i1 : (i : Int) < (q : Int) := by omega
      have hst := HST.out i
      have hmy := mny_le r.length i
      go_wp2_with (fail)
      go_roundw
      case rel => exact ⟨i + 1, by omega, by go_num, by rw [← hst], by first | trivial | rfl | simp⟩
      case measure => simp [intOf]; omega
    · obtain rfl : i = q := by omega
      rcases HFIN.out with s1 | ⟨s1, s2⟩ | ⟨s1, s2, s3⟩
      · go_wp2_with (fail)
        go_region
        all_goals go_wp2_with (fail)
        all_goals go_ret3
        all_goals exact ⟨rfl, by first | exact hbw.drew | exact below_drewN' hbw _⟩
      · go_wp2_with (fail)
        go_region
        all_goals go_wp2_with (fail)
        all_goals go_ret3
        all_goals exact ⟨rfl, by first | exact hbw.drew | exact below_drewN' hbw _⟩
      · rw [s3]
        go_wp2_with (fail)
        go_region
        all_goals go_wp2_with (fail)
        all_goals go_ret3
        all_goals exact ⟨rfl, by first | exact hbw.drew | exact below_drewN' hbw _⟩
theorem getD_rep (n j : Nat) : (List.replicate n (0 : Int)).getD j 0 = 0 := by
  rw [List.getD_eq_getElem?_getD, List.getElem?_replicate]
  split <;> rfl
/-- where the inner function begins -/
theorem start_ok {w wr w2 W3 w4 W5 : World} {A : Option Addr} {r : List (List Int)} {c n i : Nat} (hbw : Below w.heap.size w wr) (hsz : w.heap.size + 2 ≤ wr.heap.size)
    (k1 : wr.cell? ⟨w.heap.size, 0, none⟩ = some (.slice A r.length c)) (k2 : wr.cell? ⟨w.heap.size + 1, 0, none⟩ = some (.int .i64 (i : Int)))
    (hrow2 : w2.rowIs wr.heap.size 3 n (fun _ => .int .i64 0)) (hb2 : Below wr.heap.size wr w2) (z2 : w2.heap.size = wr.heap.size + 1)
    (hW3 : W3 = (w2.alloc (.cells #[.slice (some ⟨wr.heap.size, 0, none⟩) n n] 23)).alloc (.cells #[.int .i64 0] 3))
    (hrow4 : w4.rowIs W3.heap.size 3 i (fun _ => .int .i64 0)) (hb4 : Below W3.heap.size W3 w4) (z4 : w4.heap.size = W3.heap.size + 1)
    (hW5 : W5 = (w4.alloc (.cells #[.slice (some ⟨wr.heap.size + 3, 0, none⟩) i i] 23)).alloc (.cells #[.func (.func 52) #[] #[.pointer (some ⟨w.heap.size + 1, 0, none⟩), .pointer (some ⟨w.heap.size, 0, none⟩), .pointer (some ⟨wr.heap.size + 4, 0, none⟩), .pointer (some ⟨wr.heap.size + 1, 0, none⟩), .pointer (some ⟨wr.heap.size + 2, 0, none⟩), .pointer (some ⟨wr.heap.size + 5, 0, none⟩)]] 88)) :
    FS w A r c n i wr.heap.size W5 ∧ FT n i wr.heap.size W5 (List.replicate i 0) (List.replicate n 0, 0) := by
  have s3 : W3.heap.size = wr.heap.size + 3 := by rw [hW3, World.size_alloc, World.size_alloc, z2]
  have s5 : W5.heap.size = wr.heap.size + 6 := by rw [hW5, World.size_alloc, World.size_alloc, z4, s3]
  have b23 : Below w2.heap.size w2 W3 := by rw [hW3]; exact below_alloc' (below_alloc' (Below.refl _ _) _) _
  have b45 : Below w4.heap.size w4 W5 := by rw [hW5]; exact below_alloc' (below_alloc' (Below.refl _ _) _) _
  have b35 : Below W3.heap.size W3 W5 := below_trans hb4 b45
  have br5 : Below wr.heap.size wr W5 := below_trans (below_trans hb2 b23) b35
  have h1 : W3.heap[wr.heap.size + 1]? = some (.cells #[.slice (some ⟨wr.heap.size, 0, none⟩) n n] 23 (0, 0)) := by
    rw [hW3, alloc_old _ _ _ (by rw [World.size_alloc]; omega), ← z2, alloc_at]
  have h2 : W3.heap[wr.heap.size + 2]? = some (.cells #[.int .i64 0] 3 (0, 0)) := by
    rw [hW3, show wr.heap.size + 2 = (w2.alloc (.cells #[.slice (some ⟨wr.heap.size, 0, none⟩) n n] 23)).heap.size by rw [World.size_alloc]; omega, alloc_at]
  have g4 := alloc_at w4 (.cells #[.slice (some ⟨wr.heap.size + 3, 0, none⟩) i i] 23)
  have h4 : W5.heap[wr.heap.size + 4]? = some (.cells #[.slice (some ⟨wr.heap.size + 3, 0, none⟩) i i] 23 (0, 0)) := by
    rw [hW5, alloc_old _ _ _ (by rw [World.size_alloc]; omega), show wr.heap.size + 4 = w4.heap.size by omega, alloc_at]
  have h5 : W5.heap[wr.heap.size + 5]? = some (.cells #[.func (.func 52) #[] #[.pointer (some ⟨w.heap.size + 1, 0, none⟩), .pointer (some ⟨w.heap.size, 0, none⟩), .pointer (some ⟨wr.heap.size + 4, 0, none⟩), .pointer (some ⟨wr.heap.size + 1, 0, none⟩), .pointer (some ⟨wr.heap.size + 2, 0, none⟩), .pointer (some ⟨wr.heap.size + 5, 0, none⟩)]] 88 (0, 0)) := by
    rw [hW5]
    rw [show wr.heap.size + 5 = (w4.alloc (.cells #[.slice (some ⟨wr.heap.size + 3, 0, none⟩) i i] 23)).heap.size by rw [World.size_alloc]; omega]
    rw [show wr.heap.size + 5 = (w4.alloc (.cells #[.slice (some ⟨wr.heap.size + 3, 0, none⟩) i i] 23)).heap.size by rw [World.size_alloc]; omega] at *
    exact alloc_at _ _
  have c1 := (cell_of _ _ 0 _ _ (.slice (some ⟨wr.heap.size, 0, none⟩) n n) h1 rfl).1
  have c2 := cell_of _ _ 0 _ _ (.int .i64 0) h2 rfl
  refine ⟨⟨below_trans hbw br5, hsz, by omega, (br5.cell (p := ⟨w.heap.size, 0, none⟩) (by show w.heap.size < _; omega)).trans k1, (br5.cell (p := ⟨w.heap.size + 1, 0, none⟩) (by show w.heap.size + 1 < _; omega)).trans k2, (b35.cell (p := ⟨wr.heap.size + 1, 0, none⟩) (by show wr.heap.size + 1 < _; omega)).trans c1, (cell_of _ _ 0 _ _ _ h4 rfl).1, (cell_of _ _ 0 _ _ _ h5 rfl).1⟩, ⟨by simp, ?_, ?_, (b35.cell (p := ⟨wr.heap.size + 2, 0, none⟩) (by show wr.heap.size + 2 < _; omega)).trans c2.1, (b35.frozen (p := ⟨wr.heap.size + 2, 0, none⟩) (by show wr.heap.size + 2 < _; omega)).trans c2.2⟩⟩
  · rw [s3] at hrow4
    exact (hrow4.of_block (b45.block _ (by omega))).congr fun j _ => by rw [getD_rep]
  · exact ((hrow2.of_block (b23.block _ (by omega))).of_block (b35.block _ (by omega))).congr fun j _ => by rw [getD_rep]
set_option maxRecDepth 100000 in
set_option maxHeartbeats 4000000 in
theorem allEnds_good (A : Option Addr) (r : List (List Int)) (steps : Nat) (c : Nat) (w : World) (a : Nat → Addr) (hE : Env codesD w a) (hA : Lists w A r) (hc : r.length ≤ c) (h0 : rErr r = 0) (hs : steps ≤ 6) (hT : r.length ^ steps ≤ 20000) :
    Calls Tryd.prog 30 #[.slice A r.length c, .int .i64 (steps : Int)] w fun e w' => ∃ B d, e = .returned (.tuple #[.slice B (r.getD 0 []).length d, .int .i64 (endsR r (r.getD 0 []).length steps).2, .nilIface]) ∧ Ints w' B (endsR r (r.getD 0 []).length steps).1 ∧ (r.getD 0 []).length ≤ d ∧ Below w.heap.size w w' := by
  have hg := good_rules h0
  have hp := hg.pos
  have hn0 := hg.n0
  have hn16 := hg.n16
  have hm16 := rules_few h0
  obtain ⟨bA, oA, A0, c0, rfl, hbA, hcell0, _, _⟩ := hA.at_ 0 hp
  rw [Nat.add_zero] at hcell0
  generalize hn : (r.getD 0 []).length = n at *
  have hb2 : Below w.heap.size w ((w.alloc (.cells #[.slice (some ⟨bA, oA, none⟩) r.length c] 66)).alloc (.cells #[.int .i64 (steps : Int)] 3)) := below_alloc' (below_alloc' (Below.refl _ _) _) _
  have hv := valid_any (some ⟨bA, oA, none⟩) r c ((w.alloc (.cells #[.slice (some ⟨bA, oA, none⟩) r.length c] 66)).alloc (.cells #[.int .i64 (steps : Int)] 3)) a ((hE.below hb2).sub (fun c h => subD23 h)) ((hE.below hb2).sub (fun c h => subD7 h)) (hA.below hb2) hc
  rw [h0, errC_zero] at hv
  have HV := hide hv
  have hcl : ∀ w1, Below ((w.alloc (.cells #[.slice (some ⟨bA, oA, none⟩) r.length c] 66)).alloc (.cells #[.int .i64 (steps : Int)] 3)).heap.size ((w.alloc (.cells #[.slice (some ⟨bA, oA, none⟩) r.length c] 66)).alloc (.cells #[.int .i64 (steps : Int)] 3)) w1 →
      w1.cell? ⟨w.heap.size, 0, none⟩ = some (.slice (some ⟨bA, oA, none⟩) r.length c) ∧ w1.cell? ⟨w.heap.size + 1, 0, none⟩ = some (.int .i64 (steps : Int)) ∧ w1.cell? ⟨bA, oA, none⟩ = some (.slice A0 n c0) ∧ Below w.heap.size w w1 ∧ w.heap.size + 2 ≤ w1.heap.size := fun w1 h =>
    ⟨(h.cell (p := ⟨w.heap.size, 0, none⟩) (by show w.heap.size < _; rw [World.size_alloc, World.size_alloc]; omega)).trans (by simp), (h.cell (p := ⟨w.heap.size + 1, 0, none⟩) (by show w.heap.size + 1 < _; rw [World.size_alloc, World.size_alloc]; omega)).trans (by simp), ((below_trans hb2 h).cell (p := ⟨bA, oA, none⟩) hbA).trans hcell0, below_trans hb2 h, by have := h.size; rw [World.size_alloc, World.size_alloc] at this; omega⟩
  have HCL := hide hcl
  have hq : mxI 0 (mnI (steps : Int) 7) = (steps : Int) := by unfold mxI mnI; split <;> split <;> omega
  have HST := hide (fun i => mny_step hp hm16 i)
  have HZ := hide (mny_zero r.length)
  have hmf := mny_few hT
  have s0 : (0 : Int) ≤ (steps : Int) := Int.natCast_nonneg _
  have s6 : (steps : Int) ≤ 6 := by omega
  have r0 : (0 : Int) < (r.length : Int) := by omega
  have HN := hide hn
  have HG := hide hg
  have HA := hide hA
  clear hv h0 hE hb2 hcl hn hg hA
  go_enter Tryd.func30, Tryd.ntmps30
  go_wp2_with (go_at_call 24; refine Calls.mono HV.out ?_; rintro e w1 ⟨rfl, hB1⟩; obtain ⟨k1, k2, k3, hbw, hsz⟩ := HCL.out w1 hB1)
  go_loopw [8, 21] (fun mv iv wr => ∃ i : Nat, i ≤ steps ∧ iv = .int .i64 i ∧ mv = .int .i64 (mny r.length i : Nat) ∧ wr = w1) (fun _ iv _ => steps - (intOf iv).toNat)
  case atStart => exact ⟨0, Nat.zero_le _, rfl, by rw [HZ.out]; rfl, rfl⟩
  case round =>
    obtain ⟨i, hi, rfl, rfl, rfl⟩ := hrel
    by_cases hil : i < steps
    · have i1 : (i : Int) < (steps : Int) := by omega
      have hst := HST.out i
      have hmy := mny_le r.length i
      go_wp2_with (fail)
      go_roundw
      case rel => exact ⟨i + 1, by omega, by go_num, by rw [← hst], by first | trivial | rfl | simp⟩
      case measure => simp [intOf]; omega
    · obtain rfl : i = steps := by omega
      generalize mny r.length i = M at hmf
      go_wp2_with (first
        | (at_make; refine wp_make_at _ rfl (.tmp 43) (.tmp 43) rfl .i64 .i64 n rfl rfl (by omega) ?_; intro w2 hrow2 hb2 z2
           have q2 : ((w2.alloc (.cells #[.slice (some ⟨wr.heap.size, 0, none⟩) n n] 23)).alloc (.cells #[.int .i64 0] 3)).cell? ⟨w.heap.size + 1, 0, none⟩ = some (.int .i64 (i : Int)) :=
             ((below_alloc' (below_alloc' hb2 _) _).cell (p := ⟨w.heap.size + 1, 0, none⟩) (by show w.heap.size + 1 < _; omega)).trans k2
           have Z2 := hide z2
           clear z2)
        | (at_make; refine wp_make_at _ rfl (.tmp 45) (.tmp 45) rfl .i64 .i64 i rfl rfl (by omega) ?_; intro w4 hrow4 hb4 z4
           have Z4 := hide z4
           clear z4)
        | (go_at_call 52
           have e2 := Z2.out
           have e4 : w4.heap.size = wr.heap.size + 4 := by rw [Z4.out, World.size_alloc, World.size_alloc, e2]
           obtain ⟨hS, hT'⟩ := start_ok hbw hsz k1 k2 hrow2 hb2 e2 rfl hrow4 hb4 Z4.out rfl
           rw [e4, e2]
           refine Calls.mono (fill_ok _ r c n i wr.heap.size w HA.out HG.out hs i 0 (by omega) _ _ _ 0 hS hT' (by rw [List.take_zero]; exact goodT_nil r) (Bd.zero n) (by omega)) ?_
           rintro e w6 ⟨⟨v, rfl⟩, tp6, hS6, hT6, _⟩
           have hT7 : FT n i wr.heap.size w6 tp6 (endsR r n i) := hT6
           have m1 : w6.cell? ⟨wr.heap.size + 1, 0, none⟩ = some (.slice (some ⟨wr.heap.size, 0, none⟩) n n) := hS6.co
           have m2 : w6.cell? ⟨wr.heap.size + 1 + 1, 0, none⟩ = some (.int .i64 (endsR r n i).2) := hT7.cp))
      go_region
      all_goals go_wp2_with (fail)
      all_goals go_ret3
      all_goals exact ⟨some ⟨wr.heap.size, 0, none⟩, n, rfl, rowInts hT7.ro (Bd.fold _ (Bd.zero n)).len (by omega), Nat.le_refl _, by first | exact hS6.below.drew | exact below_drewN' hS6.below _⟩
end Go.Proofs.YtioekjkfhbopkaaDoor

/- The walk of demonref1.SameInts. No condition. -/
namespace Go.Proofs.YtioekjkfhbopkaaDoor
open Go.RowKit Go.Deep

/-- two lists are alike ahead of place k -/
structure AlikeTo (l m : List Int) (k : Nat) : Prop where
  out : ∀ j, j < k → l.getD j 0 = m.getD j 0
theorem AlikeTo.zero (l m : List Int) : AlikeTo l m 0 := ⟨fun j h => absurd h (by omega)⟩
theorem AlikeTo.succ {l m : List Int} {k : Nat} (h : AlikeTo l m k) (hk : l.getD k 0 = m.getD k 0) : AlikeTo l m (k + 1) :=
  ⟨fun j hj => by
    by_cases e : j = k
    · rw [e]; exact hk
    · exact h.out j (by omega)⟩
theorem AlikeTo.eq {l m : List Int} (h : AlikeTo l m l.length) (hl : l.length = m.length) : l = m := by
  apply List.ext_getElem hl
  intro i h1 h2
  have := h.out i h1
  simpa [List.getD_eq_getElem?_getD, h1, h2] using this

set_option maxHeartbeats 1000000 in
theorem same_any (A B : Option Addr) (l m : List Int) (c d : Nat) (w : World) (hA : Ints w A l) (hB : Ints w B m) :
    Calls Tryd.prog 31 #[.slice A l.length c, .slice B m.length d] w fun e w' => e = .returned (.bool (decide (l = m))) ∧ Below w.heap.size w w' := by
  have hl := hA.len
  have hm := hB.len
  by_cases he : l.length = m.length
  · have HE := hide he
    have h1 : ((l.length : Int) != (m.length : Int)) = false := by rw [he]; simp
    have h2 : (l.length != m.length) = false := by rw [he]; simp
    clear he
    go_enter Tryd.func31, Tryd.ntmps31
    go_wp2
    go_loopw [5] (fun i wr => ∃ k : Nat, k ≤ l.length ∧ i = .int .i64 k ∧ AlikeTo l m k ∧ Below w.heap.size w wr) (fun i _ => l.length - (intOf i).toNat)
    case atStart => exact ⟨0, Nat.zero_le _, rfl, AlikeTo.zero _ _, Below.refl _ _⟩
    case round =>
      obtain ⟨k, hk, rfl, ha, hb⟩ := hrel
      by_cases hlt : k < l.length
      · have hlt2 : k < m.length := by rw [← HE.out]; exact hlt
        obtain ⟨b, o, rfl, hbl, c1⟩ := (hA.below hb).at_ k hlt
        obtain ⟨b', o', rfl, hbl', c2⟩ := (hB.below hb).at_ k hlt2
        by_cases hx : l.getD k 0 = m.getD k 0
        · have ha' := ha.succ hx
          have hx' : ((l.getD k 0) != (m.getD k 0)) = false := by rw [hx]; simp
          generalize l.getD k 0 = x at c1 hx'
          generalize m.getD k 0 = y at c2 hx'
          clear hx
          go_wp2
          go_quiet (fail)
          go_wp2
          go_roundw
          case rel => exact ⟨k + 1, by omega, by go_num, ha', below_drewN' hb _⟩
          case measure => simp [intOf]; omega
        · have hne : l ≠ m := fun e => hx (by rw [e])
          have hx' : ((l.getD k 0) != (m.getD k 0)) = true := by simpa using hx
          generalize l.getD k 0 = x at c1 hx'
          generalize m.getD k 0 = y at c2 hx'
          clear hx
          go_wp2
          go_quiet (fail)
          go_wp2
          go_ret
          exact ⟨ret_bool (decide_eq_false hne).symm, below_drewN' hb _⟩
      · obtain rfl : k = l.length := by omega
        have heq := ha.eq HE.out
        have HQ := hide (decide_eq_true heq)
        clear heq
        go_wp2
        go_ret
        exact ⟨ret_bool HQ.out.symm, hb⟩
  · have h1 : ((l.length : Int) != (m.length : Int)) = true := by rw [bne_iff_ne]; omega
    have h2 : (l.length != m.length) = true := by rw [bne_iff_ne]; exact he
    have hne : l ≠ m := fun e => he (by rw [e])
    have HQ := hide (decide_eq_false hne)
    clear he hne
    go_enter Tryd.func31, Tryd.ntmps31
    go_wp2
    go_ret
    exact ⟨ret_bool HQ.out.symm, Below.refl _ _⟩
end Go.Proofs.YtioekjkfhbopkaaDoor

/- The walk of the law SampleEnds. Condition: the variables read as laid; the argument is of modest bulk. -/
namespace Go.Proofs.YtioekjkfhbopkaaDoor
open Go.RowKit Go.Deep Go.Proofs.YtioekjkfhbopkaaDoorW.PrintWords

theorem tapesOf_ok (A : Option Addr) (r : List (List Int)) (c s : Nat) (w : World) (hA : Lists w A r) (hc : r.length ≤ c) (h0 : rErr r = 0) (hs : s ≤ 6) :
    Calls Tryd.prog 28 #[.slice A r.length c, .int .i64 (s : Int)] w fun e w' => e = .returned (.int .i64 (if r.length ^ s ≤ 20000 then ((r.length ^ s : Nat) : Int) else 0)) ∧ Below w.heap.size w w' := by
  obtain ⟨k, hk⟩ := (tapesOf_f (good_rules h0).pos (rules_few h0) s hs).rounds
  refine (PSampleEnds.demonref4_TapesOf.calls k A c r (s : Int) _ w hA.toC hc hk).mono ?_
  rintro e w' ⟨rfl, h⟩
  exact ⟨rfl, drawn_below h⟩
theorem endsOf_ok (A : Option Addr) (r : List (List Int)) (c s : Nat) (w : World) (hA : Lists w A r) (hc : r.length ≤ c) (h0 : rErr r = 0) (hs : s ≤ 6) (hT : r.length ^ s ≤ 20000) :
    Calls Tryd.prog 29 #[.slice A r.length c, .int .i64 (s : Int)] w fun e w' => ∃ B d, e = .returned (.tuple #[.slice B (endsR r (r.getD 0 []).length s).1.length d, .int .i64 (endsR r (r.getD 0 []).length s).2]) ∧ Ints w' B (endsR r (r.getD 0 []).length s).1 ∧ Below w.heap.size w w' := by
  obtain ⟨k, hk⟩ := (endsOf_f h0 s hs hT (rules_few h0)).rounds
  refine (PSampleEnds.demonref4_EndsOf.calls k A c r (s : Int) (endsR r (r.getD 0 []).length s).1 (endsR r (r.getD 0 []).length s).2 w hA.toC hc hk).mono ?_
  rintro e w' ⟨v, rfl, hR, hb⟩
  obtain ⟨B, d, rfl, hI, _⟩ := Ints.ofR hR
  exact ⟨B, d, rfl, hI, hb⟩
set_option maxRecDepth 100000 in
set_option maxHeartbeats 4000000 in
theorem law_ends_rules (A : Option Addr) (r : List (List Int)) (steps : Int) (c : Nat) (w : World) (a : Nat → Addr) (hS : Sent codes w a) (hH : Handle w) (hA : Lists w A r) (hc : r.length ≤ c) (hm : r.length ≤ 2000000) (hfl : r.flatten.length ≤ 2000000) (h1 : fewS r = true) (h0 : rErr r ≠ 0) :
    Calls Tryd.prog 8 #[.slice A r.length c, .int .i64 steps] w fun e w' => e = .returned (.bool true) ∧ Below w.heap.size w w' := by
  have hED := fun w' (hb : Below w.heap.size w w') => ((hS.toEnv.sub (fun c h => codesD_sub h)).below hb : Env codesD w' a)
  have HTH := hide (third_any w a (hS.toEnv))
  have hfw := fun w' (hb : Below w.heap.size w w') => fewS_ok A r c w' (hA.below hb) hc hm hfl
  rw [h1] at hfw
  have HFW := hide hfw
  have HLI := hide (fun w' (hb : Below w.heap.size w w') => listsS_ok A r c w' (hA.below hb) hc hm hfl)
  have hre := fun w' (hb : Below w.heap.size w w') => rulesError_ok A r c w' (hA.below hb) hc
  have HSM : Hid (∀ w', Calls Tryd.prog 31 #[.slice none 0 0, .slice none 0 0] w' fun e w'' => e = .returned (.bool true) ∧ Below w'.heap.size w' w'') := hide (fun w' => by
    have := same_any none none [] [] 0 0 w' (Ints.nil _ _) (Ints.nil _ _)
    simpa using this)
  have hp := fun (A' : Option Addr) (x : Nat) w' (hb : Below w.heap.size w w') (hL : Lists w' A' r) (hx : r.length ≤ x) => allEnds_rules A' r steps x w' a (hED w' hb) hL hx h0
  have he := errC_pos' a h0
  obtain ⟨cc, hcc, hc8⟩ := rErr_nat r
  have hcd := fun w' (hb : Below w.heap.size w w') => coded_any w' a (hS.below hb) (hH.below hb) cc hc8 cc
  rw [decide_eq_true rfl] at hcd
  rw [hcc] at hp hre h0 he
  rw [he] at hcd
  generalize a (cc : Int).toNat = ad at hp hcd
  have hcn : ((cc : Int) == 0) = false := beq_eq_false_iff_ne.2 h0
  have HP := hide hp
  have HRE := hide hre
  have HCD := hide hcd
  clear hp hre hcc h0 h1 hfw hED hcd he
  go_enter Tryd.func8, Tryd.ntmps8
  go_wp2_with (first
      | (go_at_call 9; refine Calls.mono HTH.out ?_; rintro e w1 ⟨rfl, hB1⟩)
      | (go_at_call 10; refine Calls.mono (HFW.out _ (by assumption)) ?_; rintro e w2 ⟨rfl, b2⟩; have hB2 : Below w.heap.size w w2 := below_trans (by assumption) b2)
      | (go_at_call 25; refine Calls.mono (HRE.out _ (by assumption)) ?_; rintro e w3 ⟨rfl, b3⟩; have hB3 : Below w.heap.size w w3 := below_trans (by assumption) b3)
      | (go_at_call 12; refine Calls.mono (HLI.out _ (by assumption)) ?_; rintro e w5 ⟨A5, c5, rfl, hI5, hc5, b5⟩; have hB5 : Below w.heap.size w w5 := below_trans (by assumption) b5)
      | (go_at_call 30; refine Calls.mono (HP.out A5 c5 _ (by assumption) hI5 hc5) ?_; rintro e w7 ⟨rfl, b7⟩; have hB7 : Below w.heap.size w w7 := below_trans (by assumption) b7)
      | (go_at_call 18; refine Calls.mono (HCD.out _ (by assumption)) ?_; rintro e w8 ⟨rfl, b8⟩; have hB8 : Below w.heap.size w w8 := below_trans (by assumption) b8)
      | (go_at_call 31; refine Calls.mono (HSM.out _) ?_; rintro e w9 ⟨rfl, b9⟩; have hB9 : Below w.heap.size w w9 := below_trans (by assumption) b9))
  go_ret
  exact ⟨by simp, hB9⟩
set_option maxRecDepth 100000 in
set_option maxHeartbeats 4000000 in
theorem law_ends_out (A : Option Addr) (r : List (List Int)) (steps : Int) (c : Nat) (w : World) (a : Nat → Addr) (hS : Sent codes w a) (hH : Handle w) (hA : Lists w A r) (hc : r.length ≤ c) (hm : r.length ≤ 2000000) (hfl : r.flatten.length ≤ 2000000) (h1 : fewS r = true) (h0 : rErr r = 0) (hbad : steps < 0 ∨ 6 < steps) :
    Calls Tryd.prog 8 #[.slice A r.length c, .int .i64 steps] w fun e w' => e = .returned (.bool true) ∧ Below w.heap.size w w' := by
  have hED := fun w' (hb : Below w.heap.size w w') => ((hS.toEnv.sub (fun c h => codesD_sub h)).below hb : Env codesD w' a)
  have HTH := hide (third_any w a (hS.toEnv))
  have hfw := fun w' (hb : Below w.heap.size w w') => fewS_ok A r c w' (hA.below hb) hc hm hfl
  rw [h1] at hfw
  have HFW := hide hfw
  have HLI := hide (fun w' (hb : Below w.heap.size w w') => listsS_ok A r c w' (hA.below hb) hc hm hfl)
  have hre := fun w' (hb : Below w.heap.size w w') => rulesError_ok A r c w' (hA.below hb) hc
  have HSM : Hid (∀ w', Calls Tryd.prog 31 #[.slice none 0 0, .slice none 0 0] w' fun e w'' => e = .returned (.bool true) ∧ Below w'.heap.size w' w'') := hide (fun w' => by
    have := same_any none none [] [] 0 0 w' (Ints.nil _ _) (Ints.nil _ _)
    simpa using this)
  have hp := fun (A' : Option Addr) (x : Nat) w' (hb : Below w.heap.size w w') (hL : Lists w' A' r) (hx : r.length ≤ x) => allEnds_bound A' r steps x w' a (hED w' hb) hL hx h0 (by omega)
  have hcd := fun w' (hb : Below w.heap.size w w') => coded_any w' a (hS.below hb) (hH.below hb) 2 (by decide) 2
  rw [decide_eq_true (by rfl)] at hcd
  rw [h0] at hre
  have HP := hide hp
  have HRE := hide hre
  have HCD : Hid (∀ w' (hb : Below w.heap.size w w'), Calls Tryd.prog 18 #[.iface 160 (.pointer (some (a 2))), .int .i64 2] w' fun e w'' => e = .returned (.bool true) ∧ Below w'.heap.size w' w'') := hide hcd
  clear hp hre h0 h1 hfw hED hcd
  have hb2 : steps < 0 ∨ (0 ≤ steps ∧ 6 < steps) := by omega
  clear hbad
  rcases hb2 with s1 | ⟨s1, s2⟩
  all_goals
    go_enter Tryd.func8, Tryd.ntmps8
    go_wp2_with (first
        | (go_at_call 9; refine Calls.mono HTH.out ?_; rintro e w1 ⟨rfl, hB1⟩)
        | (go_at_call 10; refine Calls.mono (HFW.out _ (by assumption)) ?_; rintro e w2 ⟨rfl, b2⟩; have hB2 : Below w.heap.size w w2 := below_trans (by assumption) b2)
        | (go_at_call 25; refine Calls.mono (HRE.out _ (by assumption)) ?_; rintro e w3 ⟨rfl, b3⟩; have hB3 : Below w.heap.size w w3 := below_trans (by assumption) b3)
        | (go_at_call 12; refine Calls.mono (HLI.out _ (by assumption)) ?_; rintro e w5 ⟨A5, c5, rfl, hI5, hc5, b5⟩; have hB5 : Below w.heap.size w w5 := below_trans (by assumption) b5)
        | (go_at_call 30; refine Calls.mono (HP.out A5 c5 _ (by assumption) hI5 hc5) ?_; rintro e w7 ⟨rfl, b7⟩; have hB7 : Below w.heap.size w w7 := below_trans (by assumption) b7)
        | (go_at_call 18; refine Calls.mono (HCD.out _ (by assumption)) ?_; rintro e w8 ⟨rfl, b8⟩; have hB8 : Below w.heap.size w w8 := below_trans (by assumption) b8)
        | (go_at_call 31; refine Calls.mono (HSM.out _) ?_; rintro e w9 ⟨rfl, b9⟩; have hB9 : Below w.heap.size w w9 := below_trans (by assumption) b9))
    go_ret
    exact ⟨by simp, hB9⟩
set_option maxRecDepth 100000 in
set_option maxHeartbeats 4000000 in
theorem law_ends_many (A : Option Addr) (r : List (List Int)) (steps : Nat) (c : Nat) (w : World) (a : Nat → Addr) (hS : Sent codes w a) (hH : Handle w) (hA : Lists w A r) (hc : r.length ≤ c) (hm : r.length ≤ 2000000) (hfl : r.flatten.length ≤ 2000000) (h1 : fewS r = true) (h0 : rErr r = 0) (hs : steps ≤ 6) (hT : 20000 < r.length ^ steps) :
    Calls Tryd.prog 8 #[.slice A r.length c, .int .i64 (steps : Int)] w fun e w' => e = .returned (.bool true) ∧ Below w.heap.size w w' := by
  have hED := fun w' (hb : Below w.heap.size w w') => ((hS.toEnv.sub (fun c h => codesD_sub h)).below hb : Env codesD w' a)
  have HTH := hide (third_any w a (hS.toEnv))
  have hfw := fun w' (hb : Below w.heap.size w w') => fewS_ok A r c w' (hA.below hb) hc hm hfl
  rw [h1] at hfw
  have HFW := hide hfw
  have HLI := hide (fun w' (hb : Below w.heap.size w w') => listsS_ok A r c w' (hA.below hb) hc hm hfl)
  have hre := fun w' (hb : Below w.heap.size w w') => rulesError_ok A r c w' (hA.below hb) hc
  have HSM : Hid (∀ w', Calls Tryd.prog 31 #[.slice none 0 0, .slice none 0 0] w' fun e w'' => e = .returned (.bool true) ∧ Below w'.heap.size w' w'') := hide (fun w' => by
    have := same_any none none [] [] 0 0 w' (Ints.nil _ _) (Ints.nil _ _)
    simpa using this)
  have hp := fun (A' : Option Addr) (x : Nat) w' (hb : Below w.heap.size w w') (hL : Lists w' A' r) (hx : r.length ≤ x) => allEnds_bound A' r (steps : Int) x w' a (hED w' hb) hL hx h0 (.inr (.inr ⟨Int.natCast_nonneg _, by omega, by rw [Int.toNat_natCast]; exact hT⟩))
  have hta := fun w' (hb : Below w.heap.size w w') => tapesOf_ok A r c steps w' (hA.below hb) hc h0 hs
  rw [if_neg (by omega)] at hta
  have HTA := hide hta
  have hcd := fun w' (hb : Below w.heap.size w w') => coded_any w' a (hS.below hb) (hH.below hb) 2 (by decide) 2
  rw [decide_eq_true (by rfl)] at hcd
  rw [h0] at hre
  have HP := hide hp
  have HRE := hide hre
  have HCD : Hid (∀ w' (hb : Below w.heap.size w w'), Calls Tryd.prog 18 #[.iface 160 (.pointer (some (a 2))), .int .i64 2] w' fun e w'' => e = .returned (.bool true) ∧ Below w'.heap.size w' w'') := hide hcd
  clear hp hre h0 h1 hfw hED hcd
  have s0 : (0 : Int) ≤ (steps : Int) := Int.natCast_nonneg _
  have s6 : (steps : Int) ≤ 6 := by omega
  clear hta hT
  go_enter Tryd.func8, Tryd.ntmps8
  go_wp2_with (first
      | (go_at_call 9; refine Calls.mono HTH.out ?_; rintro e w1 ⟨rfl, hB1⟩)
      | (go_at_call 10; refine Calls.mono (HFW.out _ (by assumption)) ?_; rintro e w2 ⟨rfl, b2⟩; have hB2 : Below w.heap.size w w2 := below_trans (by assumption) b2)
      | (go_at_call 25; refine Calls.mono (HRE.out _ (by assumption)) ?_; rintro e w3 ⟨rfl, b3⟩; have hB3 : Below w.heap.size w w3 := below_trans (by assumption) b3)
      | (go_at_call 28; refine Calls.mono (HTA.out _ (by assumption)) ?_; rintro e w31 ⟨rfl, b31⟩; have hB31 : Below w.heap.size w w31 := below_trans (by assumption) b31)
      | (go_at_call 12; refine Calls.mono (HLI.out _ (by assumption)) ?_; rintro e w5 ⟨A5, c5, rfl, hI5, hc5, b5⟩; have hB5 : Below w.heap.size w w5 := below_trans (by assumption) b5)
      | (go_at_call 30; refine Calls.mono (HP.out A5 c5 _ (by assumption) hI5 hc5) ?_; rintro e w7 ⟨rfl, b7⟩; have hB7 : Below w.heap.size w w7 := below_trans (by assumption) b7)
      | (go_at_call 18; refine Calls.mono (HCD.out _ (by assumption)) ?_; rintro e w8 ⟨rfl, b8⟩; have hB8 : Below w.heap.size w w8 := below_trans (by assumption) b8)
      | (go_at_call 31; refine Calls.mono (HSM.out _) ?_; rintro e w9 ⟨rfl, b9⟩; have hB9 : Below w.heap.size w w9 := below_trans (by assumption) b9))
  go_ret
  exact ⟨by simp, hB9⟩
set_option maxRecDepth 100000 in
set_option maxHeartbeats 4000000 in
theorem law_ends_skip (A : Option Addr) (r : List (List Int)) (steps : Nat) (c : Nat) (w : World) (a : Nat → Addr) (hS : Sent codes w a) (hH : Handle w) (hA : Lists w A r) (hc : r.length ≤ c) (hm : r.length ≤ 2000000) (hfl : r.flatten.length ≤ 2000000) (h1 : fewS r = true) (h0 : rErr r = 0) (hs : steps ≤ 6) (hT : r.length ^ steps ≤ 20000) (hT6 : 600 < r.length ^ steps) :
    Calls Tryd.prog 8 #[.slice A r.length c, .int .i64 (steps : Int)] w fun e w' => e = .returned (.bool true) ∧ Below w.heap.size w w' := by
  have hED := fun w' (hb : Below w.heap.size w w') => ((hS.toEnv.sub (fun c h => codesD_sub h)).below hb : Env codesD w' a)
  have HTH := hide (third_any w a (hS.toEnv))
  have hfw := fun w' (hb : Below w.heap.size w w') => fewS_ok A r c w' (hA.below hb) hc hm hfl
  rw [h1] at hfw
  have HFW := hide hfw
  have HLI := hide (fun w' (hb : Below w.heap.size w w') => listsS_ok A r c w' (hA.below hb) hc hm hfl)
  have hre := fun w' (hb : Below w.heap.size w w') => rulesError_ok A r c w' (hA.below hb) hc
  have hta := fun w' (hb : Below w.heap.size w w') => tapesOf_ok A r c steps w' (hA.below hb) hc h0 hs
  rw [if_pos hT] at hta
  rw [h0] at hre
  generalize r.length ^ steps = T at hta hT hT6
  have HTA := hide hta
  have HRE := hide hre
  have s0 : (0 : Int) ≤ (steps : Int) := Int.natCast_nonneg _
  have s6 : (steps : Int) ≤ 6 := by omega
  have t0 : ((T : Int) == 0) = false := beq_eq_false_iff_ne.2 (by omega)
  have t6 : (600 : Int) < (T : Int) := by omega
  clear hre h0 h1 hfw hED hta hT hT6
  go_enter Tryd.func8, Tryd.ntmps8
  go_wp2_with (first
      | (go_at_call 9; refine Calls.mono HTH.out ?_; rintro e w1 ⟨rfl, hB1⟩)
      | (go_at_call 10; refine Calls.mono (HFW.out _ (by assumption)) ?_; rintro e w2 ⟨rfl, b2⟩; have hB2 : Below w.heap.size w w2 := below_trans (by assumption) b2)
      | (go_at_call 25; refine Calls.mono (HRE.out _ (by assumption)) ?_; rintro e w3 ⟨rfl, b3⟩; have hB3 : Below w.heap.size w w3 := below_trans (by assumption) b3)
      | (go_at_call 28; refine Calls.mono (HTA.out _ (by assumption)) ?_; rintro e w31 ⟨rfl, b31⟩; have hB31 : Below w.heap.size w w31 := below_trans (by assumption) b31))
  go_ret
  exact ⟨by simp, by assumption⟩
set_option maxRecDepth 100000 in
set_option maxHeartbeats 4000000 in
theorem law_ends_good (A : Option Addr) (r : List (List Int)) (steps : Nat) (c : Nat) (w : World) (a : Nat → Addr) (hS : Sent codes w a) (hH : Handle w) (hA : Lists w A r) (hc : r.length ≤ c) (hm : r.length ≤ 2000000) (hfl : r.flatten.length ≤ 2000000) (h1 : fewS r = true) (h0 : rErr r = 0) (hs : steps ≤ 6) (hT6 : r.length ^ steps ≤ 600) :
    Calls Tryd.prog 8 #[.slice A r.length c, .int .i64 (steps : Int)] w fun e w' => e = .returned (.bool true) ∧ Below w.heap.size w w' := by
  have hED := fun w' (hb : Below w.heap.size w w') => ((hS.toEnv.sub (fun c h => codesD_sub h)).below hb : Env codesD w' a)
  have HTH := hide (third_any w a (hS.toEnv))
  have hfw := fun w' (hb : Below w.heap.size w w') => fewS_ok A r c w' (hA.below hb) hc hm hfl
  rw [h1] at hfw
  have HFW := hide hfw
  have HLI := hide (fun w' (hb : Below w.heap.size w w') => listsS_ok A r c w' (hA.below hb) hc hm hfl)
  have hre := fun w' (hb : Below w.heap.size w w') => rulesError_ok A r c w' (hA.below hb) hc
  have hta := fun w' (hb : Below w.heap.size w w') => tapesOf_ok A r c steps w' (hA.below hb) hc h0 hs
  rw [if_pos (by omega)] at hta
  have heo := fun w' (hb : Below w.heap.size w w') => endsOf_ok A r c steps w' (hA.below hb) hc h0 hs (by omega)
  have hp := fun (A' : Option Addr) (x : Nat) w' (hb : Below w.heap.size w w') (hL : Lists w' A' r) (hx : r.length ≤ x) => allEnds_good A' r steps x w' a (hED w' hb) hL hx h0 hs (by omega)
  have hcd := fun w' (hb : Below w.heap.size w w') => coded_any w' a (hS.below hb) (hH.below hb) 0 (by decide) 0
  rw [decide_eq_true (by rfl)] at hcd
  have hlen : (endsR r (r.getD 0 []).length steps).1.length = (r.getD 0 []).length := (Bd.fold _ (Bd.zero _)).len
  have hpos : 0 < r.length ^ steps := Nat.pow_pos (good_rules h0).pos
  rw [h0] at hre
  generalize r.length ^ steps = T at hta hT6 hpos
  generalize (r.getD 0 []).length = n at hp heo hlen
  generalize endsR r n steps = res at hp heo hlen
  obtain ⟨out, op⟩ := res
  dsimp only at hp heo hlen
  subst hlen
  have hsm := fun (A' B' : Option Addr) (x y : Nat) w' (g1 : Ints w' A' out) (g2 : Ints w' B' out) => same_any A' B' out out x y w' g1 g2
  rw [decide_eq_true rfl] at hsm
  have HTA := hide hta
  have HEO := hide heo
  have HP := hide hp
  have HRE := hide hre
  have HSM := hide hsm
  have HCD : Hid (∀ w' (hb : Below w.heap.size w w'), Calls Tryd.prog 18 #[.nilIface, .int .i64 0] w' fun e w'' => e = .returned (.bool true) ∧ Below w'.heap.size w' w'') := hide hcd
  have s0 : (0 : Int) ≤ (steps : Int) := Int.natCast_nonneg _
  have s6 : (steps : Int) ≤ 6 := by omega
  have t0 : ((T : Int) == 0) = false := beq_eq_false_iff_ne.2 (by omega)
  have t6 : (T : Int) ≤ 600 := by omega
  clear hre h0 h1 hfw hED hta heo hp hsm hcd hT6 hpos
  go_enter Tryd.func8, Tryd.ntmps8
  go_wp2_with (first
      | (go_at_call 9; refine Calls.mono HTH.out ?_; rintro e w1 ⟨rfl, hB1⟩)
      | (go_at_call 10; refine Calls.mono (HFW.out _ (by assumption)) ?_; rintro e w2 ⟨rfl, b2⟩; have hB2 : Below w.heap.size w w2 := below_trans (by assumption) b2)
      | (go_at_call 25; refine Calls.mono (HRE.out _ (by assumption)) ?_; rintro e w3 ⟨rfl, b3⟩; have hB3 : Below w.heap.size w w3 := below_trans (by assumption) b3)
      | (go_at_call 28; refine Calls.mono (HTA.out _ (by assumption)) ?_; rintro e w31 ⟨rfl, b31⟩; have hB31 : Below w.heap.size w w31 := below_trans (by assumption) b31)
      | (go_at_call 29; refine Calls.mono (HEO.out _ (by assumption)) ?_; rintro e w4 ⟨B4, d4, rfl, hI4, b4⟩; have hB4 : Below w.heap.size w w4 := below_trans (by assumption) b4)
      | (go_at_call 12; refine Calls.mono (HLI.out _ (by assumption)) ?_; rintro e w5 ⟨A5, c5, rfl, hI5, hc5, b5⟩; have hB5 : Below w.heap.size w w5 := below_trans (by assumption) b5)
      | (go_at_call 30; refine Calls.mono (HP.out A5 c5 _ (by assumption) hI5 hc5) ?_; rintro e w7 ⟨B7, d7, rfl, hI7, hd7, b7⟩; have hB7 : Below w.heap.size w w7 := below_trans (by assumption) b7)
      | (go_at_call 18; refine Calls.mono (HCD.out _ (by assumption)) ?_; rintro e w8 ⟨rfl, b8⟩; have hB8 : Below w.heap.size w w8 := below_trans (by assumption) b8)
      | (go_at_call 31; refine Calls.mono (HSM.out B7 B4 d7 d4 w8 (hI7.below b8) (((hI4.below b5).below b7).below b8)) ?_; rintro e w9 ⟨rfl, b9⟩; have hB9 : Below w.heap.size w w9 := below_trans (by assumption) b9))
  go_ret
  exact ⟨by simp, hB9⟩
set_option maxRecDepth 100000 in
set_option maxHeartbeats 4000000 in
theorem law_ends (A : Option Addr) (r : List (List Int)) (steps : Int) (c : Nat) (w : World) (a : Nat → Addr) (hS : Sent codes w a) (hH : Handle w) (hA : Lists w A r) (hc : r.length ≤ c) (hm : r.length ≤ 2000000) (hfl : r.flatten.length ≤ 2000000) :
    Calls Tryd.prog 8 #[.slice A r.length c, .int .i64 steps] w fun e w' => e = .returned (.bool true) ∧ Below w.heap.size w w' := by
  have hED := fun w' (hb : Below w.heap.size w w') => ((hS.toEnv.sub (fun c h => codesD_sub h)).below hb : Env codesD w' a)
  have HTH := hide (third_any w a (hS.toEnv))
  have hfw := fun w' (hb : Below w.heap.size w w') => fewS_ok A r c w' (hA.below hb) hc hm hfl
  cases h1 : fewS r with
  | false =>
    rw [h1] at hfw
    have HFW := hide hfw
    clear hfw h1 hED
    go_enter Tryd.func8, Tryd.ntmps8
    go_wp2_with (first
        | (go_at_call 9; refine Calls.mono HTH.out ?_; rintro e w1 ⟨rfl, hB1⟩)
        | (go_at_call 10; refine Calls.mono (HFW.out _ (by assumption)) ?_; rintro e w2 ⟨rfl, b2⟩; have hB2 : Below w.heap.size w w2 := below_trans (by assumption) b2))
    go_ret
    exact ⟨rfl, hB2⟩
  | true =>
    clear HTH hfw hED
    by_cases h0 : rErr r = 0
    · by_cases hb : steps < 0 ∨ 6 < steps
      · exact law_ends_out A r steps c w a hS hH hA hc hm hfl h1 h0 hb
      · obtain ⟨s, rfl⟩ : ∃ s : Nat, steps = (s : Int) := ⟨steps.toNat, by omega⟩
        have hs : s ≤ 6 := by omega
        by_cases hT : r.length ^ s ≤ 20000
        · by_cases hT6 : r.length ^ s ≤ 600
          · exact law_ends_good A r s c w a hS hH hA hc hm hfl h1 h0 hs hT6
          · exact law_ends_skip A r s c w a hS hH hA hc hm hfl h1 h0 hs hT (by omega)
        · exact law_ends_many A r s c w a hS hH hA hc hm hfl h1 h0 hs (by omega)
    · exact law_ends_rules A r steps c w a hS hH hA hc hm hfl h1 h0
end Go.Proofs.YtioekjkfhbopkaaDoor

/- What a row's list of laid variables gives a walk: the sentinels' cells, their blocks, none twice, and the handle of the type error; the closing of a law's row. No condition. -/
namespace Go.Proofs.YtioekjkfhbopkaaDoor
open Go.ChangeShapes Go.WideShapes Go.RowKit

theorem tr_own : ownKnob Tryd.prog.godebug = none := by kernel_rfl
theorem tr_laidOut : laidOutB Tryd.prog = true := by kernel_rfl
theorem tr_star : "*" ++ "errors.errorString" = "*errors.errorString" := by decide
theorem tr_row (u : TypeId) (h : Tryd.prog.typeName? 3 u = some "*errors.errorString") : u = 160 :=
  typeName_ptr_named (nm := "errors.errorString") (by rw [tr_star]; kernel_rfl) (by kernel_rfl) (by decide) u (by rw [tr_star]; exact h)
theorem tr_cells1 : Tryd.prog.cellsOf 183 = 1 := by kernel_rfl
theorem tr_cells2 : Tryd.prog.cellsOf 9 = 1 := by kernel_rfl

/-- a sentinel's datum -/
def sdat (x : String × List UInt8) : String × DataW Unit := (x.1, .iface "*errors.errorString" (.ptr (.agg [.lit (.string x.2)])))

theorem sents_gen {P : Program} {nm : String} {ti tp te ts : TypeId} {ms : Array (String × TypeId)} {f : Field} (hi : P.underlying ti = some (.interface ms)) (hrow : ∀ u, P.typeName? 3 u = some nm → u = tp)
    (hp : P.underlying tp = some (.pointer te)) (he : P.underlying te = some (.struct #[f])) (hft : f.type = ts) (hfo : f.offset = 0) (hs : P.underlying ts = some .string) (hc : P.cellsOf te = 1) (hcs : P.cellsOf ts = 1) {W : World} :
    ∀ (L : List (String × List UInt8)) (ps : List MemPlace), DataW.LaidVars P W (L.map fun x => (x.1, .iface nm (.ptr (.agg [.lit (.string x.2)])))) ps → ps.Nodup →
    (∀ b off, MemPlace.cell b off ∈ ps → (∃ c t, W.heap[b]? = some (.cells c t (0, 0))) ∧ ∀ u v, W.cell? ⟨b, off, none⟩ = some (.iface u v) → Value.okWide P W .any 0 u v) →
    (∀ x, x ∈ L → ∃ g, P.globalNamed x.1 = some g ∧ (P.globals[g]?).map (·.type) = some ti) →
    ∃ bs : List Addr, bs.length = L.length ∧ bs.Nodup ∧ (∀ b, b ∈ bs → MemPlace.cell b.block b.off ∈ ps) ∧ ∀ i (hi : i < L.length) (hj : i < bs.length), W.var? P (L[i]).1 = some #[.iface tp (.pointer (some bs[i]))] ∧ ∃ c t, W.heap[(bs[i]).block]? = some (.cells c t (0, 0))
  | [], _, _, _, _, _ => ⟨[], rfl, List.nodup_nil, fun b h => absurd h (by simp), fun i hi _ => absurd hi (by simp)⟩
  | x :: L, ps, hv, hnd, hrows, hg => by
    obtain ⟨g0, t0, cs0, f0, p0, q0, hg0, ht0, hv0, hd0, hrest, e0⟩ := hv
    subst e0
    obtain ⟨g, hg1, ht1⟩ := hg x (List.mem_cons_self ..)
    obtain rfl := Option.some.inj (hg1.symm.trans hg0)
    obtain rfl := Option.some.inj (ht1.symm.trans ht0)
    have hqnd : q0.Nodup := List.Nodup.sublist (List.sublist_append_right _ _) hnd
    obtain ⟨bs, hlen, hbnd, hmem, hall⟩ := sents_gen hi hrow hp he hft hfo hs hc hcs L q0 hrest hqnd (fun b off hm => hrows b off (List.mem_append_right _ hm)) (fun y hy => hg y (List.mem_cons_of_mem _ hy))
    obtain ⟨l0⟩ := cs0
    have ok0 : ∀ u v, l0 = [.iface u v] → Value.okWide P W .any 0 u v := fun u v e => by
      subst e
      exact (hrows g 0 (by simp [MemPlace.row])).2 u v (by simpa using World.var?_cell hg0 hv0 0)
    obtain ⟨a0, s0, rfl, hc0, hs0, hz0, rfl⟩ := errorString_of_trod hi hrow hp he hft hfo hs hc hcs hd0 ok0
    have ha0 : MemPlace.cell a0.block a0.off ∈ MemPlace.row a0 1 := by simp [MemPlace.row]
    refine ⟨a0 :: bs, by simp [hlen], ?_, ?_, ?_⟩
    · refine List.nodup_cons.2 ⟨fun hin => ?_, hbnd⟩
      have h1 := hmem a0 hin
      exact (List.nodup_append.1 hnd).2.2 _ (List.mem_append_right _ ha0) _ h1 rfl
    · intro b hb
      rcases List.mem_cons.1 hb with rfl | hb
      · exact List.mem_append_left _ (List.mem_append_right _ ha0)
      · exact List.mem_append_right _ (hmem b hb)
    · intro i hi hj
      cases i with
      | zero => exact ⟨hv0, (hrows a0.block a0.off (List.mem_append_left _ (List.mem_append_right _ ha0))).1⟩
      | succ i => exact hall i (by simpa using hi) (by simpa using hj)

theorem sents_of_vars {W : World} (L : List (String × List UInt8)) (ps : List MemPlace) (h : DataW.LaidVars Tryd.prog W (L.map sdat) ps) (hnd : ps.Nodup)
    (hrows : ∀ b off, MemPlace.cell b off ∈ ps → (∃ c t, W.heap[b]? = some (.cells c t (0, 0))) ∧ ∀ u v, W.cell? ⟨b, off, none⟩ = some (.iface u v) → Value.okWide Tryd.prog W .any 0 u v)
    (hg : ∀ x, x ∈ L → ∃ g, Tryd.prog.globalNamed x.1 = some g ∧ (Tryd.prog.globals[g]?).map (·.type) = some 27) :
    ∃ bs : List Addr, bs.length = L.length ∧ bs.Nodup ∧ (∀ b, b ∈ bs → MemPlace.cell b.block b.off ∈ ps) ∧ ∀ i (hi : i < L.length) (hj : i < bs.length), W.var? Tryd.prog (L[i]).1 = some #[.iface 160 (.pointer (some bs[i]))] ∧ ∃ c t, W.heap[(bs[i]).block]? = some (.cells c t (0, 0)) :=
  sents_gen Tryd.underlying27 tr_row Tryd.underlying160 Tryd.underlying183 rfl rfl Tryd.underlying9 tr_cells1 tr_cells2 L ps h hnd hrows hg

def names8 : List (String × List UInt8) := [("demon/api.ErrText", [100, 101, 109, 111, 110, 58, 32, 116, 101, 120, 116]), ("demon/api.ErrBound", [100, 101, 109, 111, 110, 58, 32, 98, 111, 117, 110, 100]),
  ("demon/api.ErrShape", [100, 101, 109, 111, 110, 58, 32, 115, 104, 97, 112, 101]), ("demon/api.ErrZero", [100, 101, 109, 111, 110, 58, 32, 122, 101, 114, 111]), ("demon/api.ErrName", [100, 101, 109, 111, 110, 58, 32, 110, 97, 109, 101]),
  ("demon/api.ErrNone", [100, 101, 109, 111, 110, 58, 32, 110, 111, 110, 101]), ("demon/api.ErrOrder", [100, 101, 109, 111, 110, 58, 32, 111, 114, 100, 101, 114]), ("demon/api.ErrKind", [100, 101, 109, 111, 110, 58, 32, 107, 105, 110, 100])]
theorem glob1 : Tryd.prog.globalNamed "demon/api.ErrText" = some 2 := by kernel_rfl
theorem glob2 : Tryd.prog.globalNamed "demon/api.ErrBound" = some 0 := by kernel_rfl
theorem glob3 : Tryd.prog.globalNamed "demon/api.ErrShape" = some 1 := by kernel_rfl
theorem glob4 : Tryd.prog.globalNamed "demon/api.ErrZero" = some 5 := by kernel_rfl
theorem glob5 : Tryd.prog.globalNamed "demon/api.ErrName" = some 6 := by kernel_rfl
theorem glob6 : Tryd.prog.globalNamed "demon/api.ErrNone" = some 3 := by kernel_rfl
theorem glob7 : Tryd.prog.globalNamed "demon/api.ErrOrder" = some 4 := by kernel_rfl
theorem glob8 : Tryd.prog.globalNamed "demon/api.ErrKind" = some 7 := by kernel_rfl
theorem globT (g : Nat) (h : g ∈ [2, 0, 1, 5, 6, 3, 4, 7]) : (Tryd.prog.globals[g]?).map (·.type) = some 27 := by
  have e : ([2, 0, 1, 5, 6, 3, 4, 7].map fun g => (Tryd.prog.globals[g]?).map (·.type)) = List.replicate 8 (some 27) := by kernel_rfl
  have h1 : (Tryd.prog.globals[g]?).map (·.type) ∈ List.replicate 8 (some 27) := by rw [← e]; exact List.mem_map.2 ⟨g, h, rfl⟩
  exact (List.mem_replicate.1 h1).2

theorem names8_glob : ∀ x, x ∈ names8 → ∃ g, Tryd.prog.globalNamed x.1 = some g ∧ (Tryd.prog.globals[g]?).map (·.type) = some 27 := by
  intro x hx
  simp only [names8, List.mem_cons, List.not_mem_nil, or_false] at hx
  rcases hx with rfl | rfl | rfl | rfl | rfl | rfl | rfl | rfl
  · exact ⟨_, glob1, globT _ (by decide)⟩
  · exact ⟨_, glob2, globT _ (by decide)⟩
  · exact ⟨_, glob3, globT _ (by decide)⟩
  · exact ⟨_, glob4, globT _ (by decide)⟩
  · exact ⟨_, glob5, globT _ (by decide)⟩
  · exact ⟨_, glob6, globT _ (by decide)⟩
  · exact ⟨_, glob7, globT _ (by decide)⟩
  · exact ⟨_, glob8, globT _ (by decide)⟩

theorem list8 {α : Type} {l : List α} (h : l.length = 8) : ∃ a b c d e f g i, l = [a, b, c, d, e, f, g, i] := by
  match l, h with
  | [a, b, c, d, e, f, g, i], _ => exact ⟨a, b, c, d, e, f, g, i, rfl⟩
theorem list2 {α : Type} {l : List α} (h : l.length = 2) : ∃ a b, l = [a, b] := by
  match l, h with
  | [a, b], _ => exact ⟨a, b, rfl⟩

/-- the codes' places, out of eight -/
def at8 (a1 a2 a3 a4 a5 a6 a7 a8 : Addr) : Nat → Addr
  | 1 => a1 | 2 => a2 | 3 => a3 | 4 => a4 | 5 => a5 | 6 => a6 | 7 => a7 | _ => a8

theorem sent8 {W : World} (h : laidMet Tryd.prog (names8.map sdat) W) : ∃ a, Sent [1, 2, 3, 4, 5, 6, 7, 8] W a := by
  obtain ⟨ps, hv, hnd, hrows⟩ := h
  obtain ⟨bs, hlen, hbnd, _, hall⟩ := sents_of_vars names8 ps hv hnd hrows names8_glob
  obtain ⟨a1, a2, a3, a4, a5, a6, a7, a8, rfl⟩ := list8 hlen
  have x1 := hall 0 (by decide) (by simp)
  have x2 := hall 1 (by decide) (by simp)
  have x3 := hall 2 (by decide) (by simp)
  have x4 := hall 3 (by decide) (by simp)
  have x5 := hall 4 (by decide) (by simp)
  have x6 := hall 5 (by decide) (by simp)
  have x7 := hall 6 (by decide) (by simp)
  have x8 := hall 7 (by decide) (by simp)
  refine ⟨at8 a1 a2 a3 a4 a5 a6 a7 a8, ⟨⟨?_⟩, ?_, ?_⟩⟩
  · intro c hc
    simp only [List.mem_cons, List.not_mem_nil, or_false] at hc
    rcases hc with rfl | rfl | rfl | rfl | rfl | rfl | rfl | rfl
    · show W.cell? ⟨2, 0, none⟩ = some (.iface 160 (.pointer (some a1)))
      simpa using World.var?_cell glob1 x1.1 0
    · show W.cell? ⟨0, 0, none⟩ = some (.iface 160 (.pointer (some a2)))
      simpa using World.var?_cell glob2 x2.1 0
    · show W.cell? ⟨1, 0, none⟩ = some (.iface 160 (.pointer (some a3)))
      simpa using World.var?_cell glob3 x3.1 0
    · show W.cell? ⟨5, 0, none⟩ = some (.iface 160 (.pointer (some a4)))
      simpa using World.var?_cell glob4 x4.1 0
    · show W.cell? ⟨6, 0, none⟩ = some (.iface 160 (.pointer (some a5)))
      simpa using World.var?_cell glob5 x5.1 0
    · show W.cell? ⟨3, 0, none⟩ = some (.iface 160 (.pointer (some a6)))
      simpa using World.var?_cell glob6 x6.1 0
    · show W.cell? ⟨4, 0, none⟩ = some (.iface 160 (.pointer (some a7)))
      simpa using World.var?_cell glob7 x7.1 0
    · show W.cell? ⟨7, 0, none⟩ = some (.iface 160 (.pointer (some a8)))
      simpa using World.var?_cell glob8 x8.1 0
  · intro c hc
    simp only [List.mem_cons, List.not_mem_nil, or_false] at hc
    rcases hc with rfl | rfl | rfl | rfl | rfl | rfl | rfl | rfl
    · exact x1.2
    · exact x2.2
    · exact x3.2
    · exact x4.2
    · exact x5.2
    · exact x6.2
    · exact x7.2
    · exact x8.2
  · intro c hc d hd e
    clear hall x1 x2 x3 x4 x5 x6 x7 x8
    simp only [List.nodup_cons, List.mem_cons, List.not_mem_nil, or_false, not_or] at hbnd
    simp only [List.mem_cons, List.not_mem_nil, or_false] at hc hd
    rcases hc with rfl | rfl | rfl | rfl | rfl | rfl | rfl | rfl <;> rcases hd with rfl | rfl | rfl | rfl | rfl | rfl | rfl | rfl <;> first
      | rfl
      | (exfalso; simp only [at8] at e; simp_all)

theorem tr_et : Tryd.prog.globalNamed "errors.errorType" = some 8 := by kernel_rfl
theorem tr_rt : (Tryd.prog.cutTypes.find? (·.1 == "internal/reflectlite.rtype")).map (·.2) = some 138 := by kernel_rfl
theorem tr_size : Tryd.prog.types.size = 199 := by kernel_rfl
theorem tr_oneRow : ((List.range 199).filter fun t => Tryd.prog.rowNamed t [101, 114, 114, 111, 114]) = [27] := by kernel_rfl
theorem tr_handle : typeHandle Tryd.prog 27 = .pointer (some ⟨12, 27, none⟩) := by kernel_rfl

theorem handle_of_laid {W : World} (h : handlesMet Tryd.prog [("errors.errorType", Rows.laid_errors_errorType)] W) : Handle W := by
  obtain ⟨name, u, ty, e1, e2, e3, e4, e5⟩ := h _ (List.mem_singleton.2 rfl)
  have en : name = [101, 114, 114, 111, 114] := (Option.some.inj e1).symm
  subst en
  obtain rfl := Option.some.inj (tr_rt.symm.trans e2)
  have hm : ty ∈ (List.range 199).filter fun t => Tryd.prog.rowNamed t [101, 114, 114, 111, 114] := List.mem_filter.2 ⟨List.mem_range.2 (by rw [← tr_size]; exact e3), e4⟩
  rw [tr_oneRow] at hm
  obtain rfl := List.mem_singleton.1 hm
  rw [tr_handle] at e5
  have := World.var?_cell tr_et e5 0
  simpa [Handle] using this

/-- ALL NINE: what the list of a law with coded gives -/
theorem full_of_laid {W : World} (h : laidMetH Tryd.prog [("errors.errorType", Rows.laid_errors_errorType), ("demon/api.ErrText", Rows.laid_demon_api_ErrText), ("demon/api.ErrBound", Rows.laid_demon_api_ErrBound), ("demon/api.ErrShape", Rows.laid_demon_api_ErrShape), ("demon/api.ErrZero", Rows.laid_demon_api_ErrZero), ("demon/api.ErrName", Rows.laid_demon_api_ErrName), ("demon/api.ErrNone", Rows.laid_demon_api_ErrNone), ("demon/api.ErrOrder", Rows.laid_demon_api_ErrOrder), ("demon/api.ErrKind", Rows.laid_demon_api_ErrKind)] W) :
    ∃ a, Sent [1, 2, 3, 4, 5, 6, 7, 8] W a ∧ Handle W := by
  have h' : laidMet Tryd.prog (names8.map sdat) W ∧ handlesMet Tryd.prog [("errors.errorType", Rows.laid_errors_errorType)] W := h
  obtain ⟨a, ha⟩ := sent8 h'.1
  exact ⟨a, ha, handle_of_laid h'.2⟩

/-! ### the closing of a law's row -/
theorem trodAll_below {H : Type} {enc : TypeId × Value → H} {W W' : World} (hb : Below W.heap.size W W') :
    ∀ (ts : List TypeId) (vs : List Value) (ds : List (DataW H)) (ps : List MemPlace), (∀ t, t ∈ ts → Tryd.prog.readableRec t = true ∧ t < Tryd.prog.types.size) →
      DataW.TrodAll enc Tryd.prog W 0 (fun _ => true) true ts vs ds ps → (∀ x ∈ ps, x.block < W.heap.size) → DataW.TrodAll enc Tryd.prog W' 0 (fun b => decide (b < W.heap.size)) true ts vs ds ps
  | [], [], [], _, _, h, _ => h
  | t :: ts, v :: vs, d :: ds, ps, hr, h, hlt => by
    obtain ⟨p, q, h1, h2, rfl⟩ := h
    exact ⟨p, q, Below.trod tr_laidOut (hr t (List.mem_cons_self ..)).1 (hr t (List.mem_cons_self ..)).2 h1 hb (fun x hx => hlt x (List.mem_append_left _ hx)),
      trodAll_below hb ts vs ds q (fun u hu => hr u (List.mem_cons_of_mem _ hu)) h2 (fun x hx => hlt x (List.mem_append_right _ hx)), rfl⟩
  | [], [], _ :: _, _, _, h, _ => h.elim
  | [], _ :: _, [], _, _, h, _ => h.elim
  | [], _ :: _, _ :: _, _, _, h, _ => h.elim
  | _ :: _, [], [], _, _, h, _ => h.elim
  | _ :: _, [], _ :: _, _, _, h, _ => h.elim
  | _ :: _, _ :: _, [], _, _, h, _ => h.elim

/-- a law's call that gives true and leaves what was there: what its row asks behind it -/
theorem post_true {H : Type} {enc : TypeId × Value → H} {f : Func} {s : ChangeSpec} {W W' : World} {args : Array Value} {ds gs : List (DataW H)} {before : List MemPlace}
    (hf : f.resultTypes = #[4]) (hvars : s.vars = []) (hfn : (s.fn H (ds ++ gs)) = { results := [.lit (.bool true)], args := ds }) (hr : ∀ t, t ∈ f.params.toList → Tryd.prog.readableRec t = true ∧ t < Tryd.prog.types.size)
    (hW : DataW.Whole enc Tryd.prog f.params.toList s.vars false W args.toList ds gs before) (hb : Below W.heap.size W W') : s.post enc Tryd.prog f false true false false W args (.bool true) W' := by
  have hlt := hW.lt
  have hW' := hW
  obtain ⟨p, q, hA, hV, rfl, _, _⟩ := hW
  refine ⟨ds, gs, p ++ q, [], p, [], hW', ?_, ?_, ?_, hb.frame _, fun h => by cases h⟩
  · rw [hfn, hf]; exact trodAll_mk1 (shut_bool Tryd.underlying4 true)
  · rw [hfn]; exact trodAll_below hb _ _ _ _ hr hA (fun x hx => hlt x (List.mem_append_left _ hx))
  · rw [hfn, hvars]; rfl
end Go.Proofs.YtioekjkfhbopkaaDoor

/- A law's arguments opened into our readings: whole numbers, slices of them, of pairs, of lists. No condition. -/
namespace Go.Proofs.YtioekjkfhbopkaaDoor
open Go.ChangeShapes Go.WideShapes Go.RowKit Go.Deep Go.Joins

section
variable {H : Type} {enc : TypeId × Value → H} {P : Program} {W : World} {base : Nat} {held : Bool}

theorem wf_range {n : Int} (h : (Lit.int .i64 n).wf = true) : -9223372036854775808 ≤ n ∧ n ≤ 9223372036854775807 := by
  have := bounds_i64 h
  omega

theorem spot_none {a : Addr} {v : Value} (h : W.cell? (a.add 0) = some v) : a = ⟨a.block, a.off, none⟩ := by
  obtain ⟨b, off, spot⟩ := a
  have hs : spot = none := World.cell?_spot h
  subst hs
  rfl

/-- a slice of whole numbers that came in -/
theorem open_ints_arg {fuel : Nat} {v : Value} {y : DataW H × List MemPlace} (h : DataW.trod enc Tryd.prog W base (fun _ => true) held fuel 23 [v] = some y) :
    ∃ A l cap, v = .slice A l.length cap ∧ Ints W A l ∧ l.length ≤ cap ∧ ∀ x, x ∈ l → -9223372036854775808 ≤ x ∧ x ≤ 9223372036854775807 := by
  have c3 : Tryd.prog.cellsOf 3 = 1 := by kernel_rfl
  rcases open_ints Tryd.underlying23 Tryd.underlying3 c3 h with ⟨hcs, _⟩ | ⟨a, len, cap, zs, hcs, hb, hl, hm, hz, _, hcell, hwz⟩
  · exact ⟨none, [], 0, by simpa using hcs, Ints.nil _ _, Nat.le_refl _, by simp⟩
  · simp only [if_true] at hz
    have hlen : (zs.take len).length = len := by rw [List.length_take]; omega
    refine ⟨some a, zs.take len, cap, by rw [hlen]; simpa using hcs, ⟨by rw [hlen]; simp only [maxLen] at hm; omega, fun i hi => ?_⟩, by rw [hlen]; exact hl, fun x hx => wf_range (hwz x (List.mem_of_mem_take hx))⟩
    rw [hlen] at hi
    have hc := hcell i (by rw [hz]; omega)
    have hs := spot_none (hcell 0 (by rw [hz]; omega))
    rw [hs, addr_add] at hc
    refine ⟨a.block, a.off, by rw [← hs], World.block_lt_of_cell? W ⟨a.block, a.off + i, none⟩ hc, ?_⟩
    rw [hc]
    have e : (zs.take len).getD i 0 = zs.getD i 0 := by
      simp [List.getD_eq_getElem?_getD, hi]
    rw [e]


/-- a slice of lists that came in -/
theorem open_lists_arg {fuel : Nat} {v : Value} {y : DataW H × List MemPlace} (h : DataW.trod enc Tryd.prog W base (fun _ => true) held fuel 22 [v] = some y) :
    ∃ A l cap, v = .slice A l.length cap ∧ Lists W A l ∧ l.length ≤ cap ∧ ∀ r, r ∈ l → ∀ x, x ∈ r → -9223372036854775808 ≤ x ∧ x ≤ 9223372036854775807 := by
  have c1 : Tryd.prog.cellsOf 23 = 1 := by kernel_rfl
  rcases open_slice1 Tryd.underlying22 c1 h with ⟨hcs, _⟩ | ⟨a, len, cap, m, n, V, D, Pl, hcs, hb, hl, hm, hmm, _, hx⟩
  · exact ⟨none, [], 0, by simpa using hcs, Lists.nil _ _, Nat.le_refl _, by simp⟩
  · simp only [if_true] at hmm
    subst hmm
    have each : ∀ i, i < len → ∃ q : Option Addr × List Int × Nat, W.cell? (a.add i) = some (.slice q.1 q.2.1.length q.2.2) ∧ q.2.1.length ≤ q.2.2 ∧ Ints W q.1 q.2.1 ∧ ∀ x, x ∈ q.2.1 → -9223372036854775808 ≤ x ∧ x ≤ 9223372036854775807 := by
      intro i hi
      obtain ⟨hc, ht⟩ := hx i (by omega)
      obtain ⟨A, l, c, e, h1, h2, h3⟩ := open_ints_arg ht
      exact ⟨(A, l, c), by rw [hc, e], h2, h1, h3⟩
    obtain ⟨f, hf⟩ := choose_lt each
    have hlen : ((List.range len).map fun i => (f i).2.1).length = len := by simp
    refine ⟨some a, (List.range len).map fun i => (f i).2.1, m, by rw [hlen]; simpa using hcs, ⟨by rw [hlen]; simp only [maxLen] at hm; omega, fun i hi => ?_⟩, by rw [hlen]; exact hl, fun r hr => ?_⟩
    · rw [hlen] at hi
      obtain ⟨g0, g1, g2, _⟩ := hf i hi
      have hs := spot_none (hf 0 (by omega)).1
      rw [hs, addr_add] at g0
      have e : ((List.range len).map fun i => (f i).2.1).getD i [] = (f i).2.1 := by simp [List.getD_eq_getElem?_getD, hi]
      rw [e]
      exact ⟨a.block, a.off, (f i).1, (f i).2.2, by rw [← hs], World.block_lt_of_cell? W ⟨a.block, a.off + i, none⟩ g0, g0, g1, g2⟩
    · obtain ⟨i, hi, rfl⟩ := List.mem_map.1 hr
      exact (hf i (List.mem_range.1 hi)).2.2.2
end
end Go.Proofs.YtioekjkfhbopkaaDoor

/- A law's arguments opened where they are of modest bulk: how long the lists can be. Condition: the bulk's bound. -/
namespace Go.Proofs.YtioekjkfhbopkaaDoor
open Go.ChangeShapes Go.WideShapes Go.RowKit Go.Deep Go.Joins

theorem bulk_pos {H : Type} (d : DataW H) : 1 ≤ Rows.uptoBulk d := by
  cases d with
  | lit l => cases l <;> simp [Rows.uptoBulk]
  | nil => simp [Rows.uptoBulk]
  | ptr d => simp [Rows.uptoBulk]
  | slice elems spare => simp [Rows.uptoBulk]
  | agg parts => simp [Rows.uptoBulk]
  | iface t d => simp [Rows.uptoBulk]
  | map entries => simp [Rows.uptoBulk]
  | held h => simp [Rows.uptoBulk]
theorem bulk_len {H : Type} (l : List (DataW H)) : l.length ≤ Rows.uptoBulkAll l := by
  induction l with
  | nil => simp [Rows.uptoBulkAll]
  | cons x r ih => have := bulk_pos x; simp only [Rows.uptoBulkAll, List.length_cons]; omega
theorem bulk_append {H : Type} (l r : List (DataW H)) : Rows.uptoBulkAll (l ++ r) = Rows.uptoBulkAll l + Rows.uptoBulkAll r := by
  induction l with
  | nil => simp [Rows.uptoBulkAll]
  | cons x l ih => simp only [List.cons_append, Rows.uptoBulkAll, ih]; omega
theorem bulk_bound {H : Type} {l : List (DataW H)} (hk : Rows.uptoSmall H l = true) : Rows.uptoBulkAll l ≤ 1048576 := of_decide_eq_true hk
section
variable {H : Type} {enc : TypeId × Value → H} {W : World} {base : Nat} {held : Bool}
theorem open_ints_bulk {fuel : Nat} {v : Value} {y : DataW H × List MemPlace} (h : DataW.trod enc Tryd.prog W base (fun _ => true) held fuel 23 [v] = some y) :
    ∃ A l cap, v = .slice A l.length cap ∧ Ints W A l ∧ l.length ≤ cap ∧ (∀ x, x ∈ l → -9223372036854775808 ≤ x ∧ x ≤ 9223372036854775807) ∧ l.length + 1 ≤ Rows.uptoBulk y.1 := by
  have c3 : Tryd.prog.cellsOf 3 = 1 := by kernel_rfl
  obtain ⟨A, l, cap, e, hI, hc, hr⟩ := open_ints_arg h
  refine ⟨A, l, cap, e, hI, hc, hr, ?_⟩
  rcases open_ints Tryd.underlying23 Tryd.underlying3 c3 h with ⟨hcs, hx⟩ | ⟨a, len, cap', zs, hcs, hb, hl, hm, hz, hx, hcell, hwz⟩
  · rw [e] at hcs
    injection hcs with hcs
    injection hcs with _ h1 _
    rw [h1, hx]
    simp [Rows.uptoBulk]
  · rw [e] at hcs
    injection hcs with hcs
    injection hcs with _ h1 _
    simp only [if_true] at hz
    rw [h1, hx]
    have h2 := bulk_len (H := H) (lits .i64 (zs.take len))
    have h3 : (lits (H := H) .i64 (zs.take len)).length = len := by simp [lits, List.length_take]; omega
    simp only [Rows.uptoBulk]
    omega
theorem bulk_rows (D : Nat → DataW H) (f : Nat → List Int) : ∀ n, (∀ i, i < n → (f i).length + 1 ≤ Rows.uptoBulk (D i)) → ((List.range n).map f).flatten.length + n ≤ Rows.uptoBulkAll ((List.range n).map D) := by
  intro n
  induction n with
  | zero => intro _; simp
  | succ n ih =>
    intro hn
    have h1 := ih fun i hi => hn i (by omega)
    have h2 := hn n (by omega)
    rw [List.range_succ, List.map_append, List.map_append, bulk_append, List.flatten_append, List.length_append]
    simp only [List.map_cons, List.map_nil, List.flatten_cons, List.flatten_nil, List.append_nil, Rows.uptoBulkAll]
    omega
theorem open_lists_bulk {fuel : Nat} {v : Value} {y : DataW H × List MemPlace} (h : DataW.trod enc Tryd.prog W base (fun _ => true) held fuel 22 [v] = some y) :
    ∃ A l cap, v = .slice A l.length cap ∧ Lists W A l ∧ l.length ≤ cap ∧ (∀ r, r ∈ l → ∀ x, x ∈ r → -9223372036854775808 ≤ x ∧ x ≤ 9223372036854775807) ∧ l.flatten.length + l.length + 1 ≤ Rows.uptoBulk y.1 := by
  have c1 : Tryd.prog.cellsOf 23 = 1 := by kernel_rfl
  rcases open_slice1 Tryd.underlying22 c1 h with ⟨hcs, hxx⟩ | ⟨a, len, cap, m, n, V, D, Pl, hcs, hb, hl, hm, hmm, hxx, hx⟩
  · exact ⟨none, [], 0, by simpa using hcs, Lists.nil _ _, Nat.le_refl _, by simp, by rw [hxx]; simp [Rows.uptoBulk]⟩
  · simp only [if_true] at hmm
    subst hmm
    have each : ∀ i, i < len → ∃ q : Option Addr × List Int × Nat, W.cell? (a.add i) = some (.slice q.1 q.2.1.length q.2.2) ∧ q.2.1.length ≤ q.2.2 ∧ Ints W q.1 q.2.1 ∧ (∀ x, x ∈ q.2.1 → -9223372036854775808 ≤ x ∧ x ≤ 9223372036854775807) ∧ q.2.1.length + 1 ≤ Rows.uptoBulk (D i) := by
      intro i hi
      obtain ⟨hc, ht⟩ := hx i (by omega)
      obtain ⟨A, l, c, e, h1, h2, h3, h4⟩ := open_ints_bulk ht
      exact ⟨(A, l, c), by rw [hc, e], h2, h1, h3, h4⟩
    obtain ⟨f, hf⟩ := choose_lt each
    have hlen : ((List.range len).map fun i => (f i).2.1).length = len := by simp
    refine ⟨some a, (List.range len).map fun i => (f i).2.1, m, by rw [hlen]; simpa using hcs, ⟨by rw [hlen]; simp only [maxLen] at hm; omega, fun i hi => ?_⟩, by rw [hlen]; exact hl, fun r hr => ?_, ?_⟩
    · rw [hlen] at hi
      obtain ⟨g0, g1, g2, _⟩ := hf i hi
      have hs := spot_none (hf 0 (by omega)).1
      rw [hs, addr_add] at g0
      have e : ((List.range len).map fun i => (f i).2.1).getD i [] = (f i).2.1 := by simp [List.getD_eq_getElem?_getD, hi]
      rw [e]
      exact ⟨a.block, a.off, (f i).1, (f i).2.2, by rw [← hs], World.block_lt_of_cell? W ⟨a.block, a.off + i, none⟩ g0, g0, g1, g2⟩
    · obtain ⟨i, hi, rfl⟩ := List.mem_map.1 hr
      exact (hf i (List.mem_range.1 hi)).2.2.2.1
    · rw [hxx, hlen]
      have hb := bulk_rows D (fun i => (f i).2.1) len fun i hi => (hf i hi).2.2.2.2
      simp only [Rows.uptoBulk]
      omega
end
end Go.Proofs.YtioekjkfhbopkaaDoor

/- What a shorter list of laid sentinels gives: each reads as an error of its own. Condition: the listed variables read as laid. -/
namespace Go.Proofs.YtioekjkfhbopkaaDoor
open Go.ChangeShapes Go.WideShapes Go.ChangeAt Go.RowKit

/-- the name and the text of a code's variable -/
def nm : Nat → String × List UInt8
  | 1 => ("demon/api.ErrText", [100, 101, 109, 111, 110, 58, 32, 116, 101, 120, 116]) | 2 => ("demon/api.ErrBound", [100, 101, 109, 111, 110, 58, 32, 98, 111, 117, 110, 100])
  | 3 => ("demon/api.ErrShape", [100, 101, 109, 111, 110, 58, 32, 115, 104, 97, 112, 101]) | 4 => ("demon/api.ErrZero", [100, 101, 109, 111, 110, 58, 32, 122, 101, 114, 111])
  | 5 => ("demon/api.ErrName", [100, 101, 109, 111, 110, 58, 32, 110, 97, 109, 101]) | 6 => ("demon/api.ErrNone", [100, 101, 109, 111, 110, 58, 32, 110, 111, 110, 101])
  | 7 => ("demon/api.ErrOrder", [100, 101, 109, 111, 110, 58, 32, 111, 114, 100, 101, 114]) | _ => ("demon/api.ErrKind", [100, 101, 109, 111, 110, 58, 32, 107, 105, 110, 100])
theorem nm_glob : ∀ c, Tryd.prog.globalNamed (nm c).1 = some (glob c)
  | 0 => glob8 | 1 => glob1 | 2 => glob2 | 3 => glob3 | 4 => glob4 | 5 => glob5 | 6 => glob6 | 7 => glob7 | 8 => glob8 | _ + 9 => glob8
theorem nm_type (c : Nat) : (Tryd.prog.globals[glob c]?).map (·.type) = some 27 := by
  refine globT _ ?_
  unfold glob
  split <;> decide
theorem sent_of (cs : List Nat) {W : World} (h : laidMet Tryd.prog ((cs.map nm).map sdat) W) : ∃ a, Sent cs W a := by
  obtain ⟨ps, hv, hpn, hrows⟩ := h
  obtain ⟨bs, hlen, hbnd, _, hall⟩ := sents_of_vars (cs.map nm) ps hv hpn hrows (fun x hx => by
    obtain ⟨c, _, rfl⟩ := List.mem_map.1 hx
    exact ⟨_, nm_glob c, nm_type c⟩)
  have hlen' : bs.length = cs.length := by simpa using hlen
  have key : ∀ c, c ∈ cs → ∃ i, ∃ (hi : i < cs.length) (hj : i < bs.length), cs[i] = c ∧ cs.idxOf c = i ∧ bs[cs.idxOf c]?.getD ⟨0, 0, none⟩ = bs[i] := fun c hc => by
    have h1 := List.idxOf_lt_length_of_mem hc
    refine ⟨cs.idxOf c, h1, by omega, List.getElem_idxOf h1, rfl, ?_⟩
    rw [List.getElem?_eq_getElem (by omega)]
    rfl
  refine ⟨fun c => bs[cs.idxOf c]?.getD ⟨0, 0, none⟩, ⟨⟨?_⟩, ?_, ?_⟩⟩
  · intro c hc
    obtain ⟨i, hi, hj, e1, _, e3⟩ := key c hc
    have := (hall i (by simpa using hi) hj).1
    rw [List.getElem_map, e1] at this
    show W.cell? ⟨glob c, 0, none⟩ = some (.iface 160 (.pointer (some (bs[cs.idxOf c]?.getD ⟨0, 0, none⟩))))
    rw [e3]
    simpa using World.var?_cell (nm_glob c) this 0
  · intro c hc
    obtain ⟨i, hi, hj, e1, _, e3⟩ := key c hc
    have := (hall i (by simpa using hi) hj).2
    show ∃ ca ta, W.heap[(bs[cs.idxOf c]?.getD ⟨0, 0, none⟩).block]? = some (.cells ca ta (0, 0))
    rw [e3]
    exact this
  · intro c hc d hd e
    obtain ⟨i, hi, hj, e1, e2, e3⟩ := key c hc
    obtain ⟨i', hi', hj', e1', e2', e3'⟩ := key d hd
    have e4 : bs[i] = bs[i'] := by rw [← e3, ← e3']; exact e
    have e5 : i = i' := by
      rcases Nat.lt_trichotomy i i' with h1 | h1 | h1
      · exact absurd e4 (List.pairwise_iff_getElem.1 hbnd i i' hj hj' h1)
      · exact h1
      · exact absurd e4.symm (List.pairwise_iff_getElem.1 hbnd i' i hj' hj h1)
    subst e5
    rw [← e1, ← e1']
end Go.Proofs.YtioekjkfhbopkaaDoor

/- The variables that a sample law's row lists, two tables of Go's utf8 among them: what they give; a world in which they are laid. Condition: the listed variables read as laid. -/
namespace Go.Proofs.YtioekjkfhbopkaaDoor
open Go.ChangeShapes Go.WideShapes Go.ChangeAt Go.RowKit

/-- the list of a sample law's row -/
def laidU : List (String × DataW Unit) := [("unicode/utf8.acceptRanges", Rows.laid_unicode_utf8_acceptRanges), ("errors.errorType", Rows.laid_errors_errorType), ("demon/api.ErrText", Rows.laid_demon_api_ErrText), ("demon/api.ErrBound", Rows.laid_demon_api_ErrBound), ("demon/api.ErrShape", Rows.laid_demon_api_ErrShape), ("demon/api.ErrZero", Rows.laid_demon_api_ErrZero), ("demon/api.ErrName", Rows.laid_demon_api_ErrName), ("demon/api.ErrNone", Rows.laid_demon_api_ErrNone), ("demon/api.ErrOrder", Rows.laid_demon_api_ErrOrder), ("demon/api.ErrKind", Rows.laid_demon_api_ErrKind), ("unicode/utf8.first", Rows.laid_unicode_utf8_first)]
def notU (x : String × DataW Unit) : Bool := match x.2 with | .iface _ _ => true | _ => false
theorem laidU_filter : laidU.filter notU = [("errors.errorType", Rows.laid_errors_errorType), ("demon/api.ErrText", Rows.laid_demon_api_ErrText), ("demon/api.ErrBound", Rows.laid_demon_api_ErrBound), ("demon/api.ErrShape", Rows.laid_demon_api_ErrShape), ("demon/api.ErrZero", Rows.laid_demon_api_ErrZero), ("demon/api.ErrName", Rows.laid_demon_api_ErrName), ("demon/api.ErrNone", Rows.laid_demon_api_ErrNone), ("demon/api.ErrOrder", Rows.laid_demon_api_ErrOrder), ("demon/api.ErrKind", Rows.laid_demon_api_ErrKind)] := by kernel_rfl
theorem full_of_laidU {W : World} (h : laidMetH Tryd.prog laidU W) : ∃ a, Sent [1, 2, 3, 4, 5, 6, 7, 8] W a ∧ Handle W := by
  have h2 := laidMetH.filter notU h
  rw [laidU_filter] at h2
  exact full_of_laid h2
/-- a world in which all of them are laid -/
noncomputable def doorU (os : Os) : World := (World.doorLaid Tryd.prog 400 os).layVars Tryd.prog [("unicode/utf8.first", Rows.laid_unicode_utf8_first)]
theorem doorU_os (os : Os) : (doorU os).os = os := (World.layVars_os _ _ _).trans rfl
theorem doorU_laid (os : Os) (args : Array Value) : laidMetH Tryd.prog laidU ((doorU os).forCall (fun _ _ => 0) ⟨#[], args, []⟩).memory :=
  laidMetH_of_parts3 (fuel := 8) (laidMet_of_run3 8 (by kernel_rfl) (by kernel_rfl) (by kernel_rfl)) (by kernel_rfl) (by kernel_rfl)
/-- the list of SampleStays' row -/
def laidUS : List (String × DataW Unit) := [("unicode/utf8.acceptRanges", Rows.laid_unicode_utf8_acceptRanges), ("demon/api.ErrText", Rows.laid_demon_api_ErrText), ("demon/api.ErrBound", Rows.laid_demon_api_ErrBound), ("demon/api.ErrShape", Rows.laid_demon_api_ErrShape), ("demon/api.ErrNone", Rows.laid_demon_api_ErrNone), ("demon/api.ErrOrder", Rows.laid_demon_api_ErrOrder), ("unicode/utf8.first", Rows.laid_unicode_utf8_first)]
theorem laidUS_filter : laidUS.filter notU = [("demon/api.ErrText", Rows.laid_demon_api_ErrText), ("demon/api.ErrBound", Rows.laid_demon_api_ErrBound), ("demon/api.ErrShape", Rows.laid_demon_api_ErrShape), ("demon/api.ErrNone", Rows.laid_demon_api_ErrNone), ("demon/api.ErrOrder", Rows.laid_demon_api_ErrOrder)] := by kernel_rfl
theorem full_of_laidUS {W : World} (h : laidMetH Tryd.prog laidUS W) : ∃ a, Sent [1, 2, 3, 6, 7] W a ∧ True := by
  have h2 := laidMetH.filter notU h
  rw [laidUS_filter] at h2
  obtain ⟨a, hS⟩ := sent_of [1, 2, 3, 6, 7] (show laidMet Tryd.prog (([1, 2, 3, 6, 7].map nm).map sdat) W from h2)
  exact ⟨a, hS, trivial⟩
theorem doorUS_laid (os : Os) (args : Array Value) : laidMetH Tryd.prog laidUS ((doorU os).forCall (fun _ _ => 0) ⟨#[], args, []⟩).memory :=
  laidMetH_of_parts3 (fuel := 8) (laidMet_of_run3 8 (by kernel_rfl) (by kernel_rfl) (by kernel_rfl)) (by kernel_rfl) (by kernel_rfl)
end Go.Proofs.YtioekjkfhbopkaaDoor
