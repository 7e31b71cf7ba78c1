/- A law's arguments opened where they are of modest bulk: how long the lists can be. Condition: the bulk's bound. -/
import Derived.Test.YtieeefgkdfijdaaDoorOpen
import Derived.Test.YtieeefgkdfijdaaDoorRows
namespace Go.Proofs.YtieeefgkdfijdaaDoor
open Go.ChangeShapes Go.WideShapes Go.RowKit Go.Deep Go.Joins

theorem bulk_pos {H : Type} (d : DataW H) : 1 ≤ Rows.uptoBulk d := by
  cases d with
  | lit l => cases l <;> simp [Rows.uptoBulk]
  | nil => simp [Rows.uptoBulk]
  | ptr d => simp [Rows.uptoBulk]
  | slice elems spare => simp [Rows.uptoBulk]
  | agg parts => simp [Rows.uptoBulk]
  | iface t d => simp [Rows.uptoBulk]
  | map entries => simp [Rows.uptoBulk]
  | held h => simp [Rows.uptoBulk]
theorem bulk_len {H : Type} (l : List (DataW H)) : l.length ≤ Rows.uptoBulkAll l := by
  induction l with
  | nil => simp [Rows.uptoBulkAll]
  | cons x r ih => have := bulk_pos x; simp only [Rows.uptoBulkAll, List.length_cons]; omega
theorem bulk_append {H : Type} (l r : List (DataW H)) : Rows.uptoBulkAll (l ++ r) = Rows.uptoBulkAll l + Rows.uptoBulkAll r := by
  induction l with
  | nil => simp [Rows.uptoBulkAll]
  | cons x l ih => simp only [List.cons_append, Rows.uptoBulkAll, ih]; omega
theorem bulk_bound {H : Type} {l : List (DataW H)} (hk : Rows.uptoSmall H l = true) : Rows.uptoBulkAll l ≤ 1048576 := of_decide_eq_true hk
section
variable {H : Type} {enc : TypeId × Value → H} {W : World} {base : Nat} {held : Bool}
theorem open_ints_bulk {fuel : Nat} {v : Value} {y : DataW H × List MemPlace} (h : DataW.trod enc Tryd.prog W base (fun _ => true) held fuel 33 [v] = some y) :
    ∃ A l cap, v = .slice A l.length cap ∧ Ints W A l ∧ l.length ≤ cap ∧ (∀ x, x ∈ l → -9223372036854775808 ≤ x ∧ x ≤ 9223372036854775807) ∧ l.length + 1 ≤ Rows.uptoBulk y.1 := by
  have c3 : Tryd.prog.cellsOf 3 = 1 := by kernel_rfl
  obtain ⟨A, l, cap, e, hI, hc, hr⟩ := open_ints_arg h
  refine ⟨A, l, cap, e, hI, hc, hr, ?_⟩
  rcases open_ints Tryd.underlying33 Tryd.underlying3 c3 h with ⟨hcs, hx⟩ | ⟨a, len, cap', zs, hcs, hb, hl, hm, hz, hx, hcell, hwz⟩
  · rw [e] at hcs
    injection hcs with hcs
    injection hcs with _ h1 _
    rw [h1, hx]
    simp [Rows.uptoBulk]
  · rw [e] at hcs
    injection hcs with hcs
    injection hcs with _ h1 _
    simp only [if_true] at hz
    rw [h1, hx]
    have h2 := bulk_len (H := H) (lits .i64 (zs.take len))
    have h3 : (lits (H := H) .i64 (zs.take len)).length = len := by simp [lits, List.length_take]; omega
    simp only [Rows.uptoBulk]
    omega
theorem bulk_rows (D : Nat → DataW H) (f : Nat → List Int) : ∀ n, (∀ i, i < n → (f i).length + 1 ≤ Rows.uptoBulk (D i)) → ((List.range n).map f).flatten.length + n ≤ Rows.uptoBulkAll ((List.range n).map D) := by
  intro n
  induction n with
  | zero => intro _; simp
  | succ n ih =>
    intro hn
    have h1 := ih fun i hi => hn i (by omega)
    have h2 := hn n (by omega)
    rw [List.range_succ, List.map_append, List.map_append, bulk_append, List.flatten_append, List.length_append]
    simp only [List.map_cons, List.map_nil, List.flatten_cons, List.flatten_nil, List.append_nil, Rows.uptoBulkAll]
    omega
theorem open_lists_bulk {fuel : Nat} {v : Value} {y : DataW H × List MemPlace} (h : DataW.trod enc Tryd.prog W base (fun _ => true) held fuel 37 [v] = some y) :
    ∃ A l cap, v = .slice A l.length cap ∧ Lists W A l ∧ l.length ≤ cap ∧ (∀ r, r ∈ l → ∀ x, x ∈ r → -9223372036854775808 ≤ x ∧ x ≤ 9223372036854775807) ∧ l.flatten.length + l.length + 1 ≤ Rows.uptoBulk y.1 := by
  have c1 : Tryd.prog.cellsOf 33 = 1 := by kernel_rfl
  rcases open_slice1 Tryd.underlying37 c1 h with ⟨hcs, hxx⟩ | ⟨a, len, cap, m, n, V, D, Pl, hcs, hb, hl, hm, hmm, hxx, hx⟩
  · exact ⟨none, [], 0, by simpa using hcs, Lists.nil _ _, Nat.le_refl _, by simp, by rw [hxx]; simp [Rows.uptoBulk]⟩
  · simp only [if_true] at hmm
    subst hmm
    have each : ∀ i, i < len → ∃ q : Option Addr × List Int × Nat, W.cell? (a.add i) = some (.slice q.1 q.2.1.length q.2.2) ∧ q.2.1.length ≤ q.2.2 ∧ Ints W q.1 q.2.1 ∧ (∀ x, x ∈ q.2.1 → -9223372036854775808 ≤ x ∧ x ≤ 9223372036854775807) ∧ q.2.1.length + 1 ≤ Rows.uptoBulk (D i) := by
      intro i hi
      obtain ⟨hc, ht⟩ := hx i (by omega)
      obtain ⟨A, l, c, e, h1, h2, h3, h4⟩ := open_ints_bulk ht
      exact ⟨(A, l, c), by rw [hc, e], h2, h1, h3, h4⟩
    obtain ⟨f, hf⟩ := choose_lt each
    have hlen : ((List.range len).map fun i => (f i).2.1).length = len := by simp
    refine ⟨some a, (List.range len).map fun i => (f i).2.1, m, by rw [hlen]; simpa using hcs, ⟨by rw [hlen]; simp only [maxLen] at hm; omega, fun i hi => ?_⟩, by rw [hlen]; exact hl, fun r hr => ?_, ?_⟩
    · rw [hlen] at hi
      obtain ⟨g0, g1, g2, _⟩ := hf i hi
      have hs := spot_none (hf 0 (by omega)).1
      rw [hs, addr_add] at g0
      have e : ((List.range len).map fun i => (f i).2.1).getD i [] = (f i).2.1 := by simp [List.getD_eq_getElem?_getD, hi]
      rw [e]
      exact ⟨a.block, a.off, (f i).1, (f i).2.2, by rw [← hs], World.block_lt_of_cell? W ⟨a.block, a.off + i, none⟩ g0, g0, g1, g2⟩
    · obtain ⟨i, hi, rfl⟩ := List.mem_map.1 hr
      exact (hf i (List.mem_range.1 hi)).2.2.2.1
    · rw [hxx, hlen]
      have hb := bulk_rows D (fun i => (f i).2.1) len fun i hi => (hf i hi).2.2.2.2
      simp only [Rows.uptoBulk]
      omega
end
end Go.Proofs.YtieeefgkdfijdaaDoor
