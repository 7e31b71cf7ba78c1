/- A strip's counts: a small strip's are its states'; turned over they are the same; the length of its bonds. No condition. -/
import Derived.Test.YtngogonepjicpaaDoorStK
namespace Go.Proofs.YtngogonepjicpaaDoor

theorem strip_len : ∀ h, h < 5 → ∀ L, L < 13 → 1 ≤ h → 1 ≤ L → ∀ ring, (stripOf h L ring).length = stripMany h L ring := by decide +kernel
theorem gen_strip (B h L : Nat) (ring : Bool) (h1 : h ≤ 4) (hL : 1 ≤ L) : gen B (stripCount h L ring) (stripMany h L ring + 1) = nStrip B h L ring := by
  unfold stripCount nStrip
  have hLe : L - 1 + 1 = L := by omega
  rw [gen_sum B (fun first k => sumTo (fun c => if (if ring then ham c first else 0) ≤ k then ways h first (L - 1) c (k - (if ring then ham c first else 0)) else 0) (2 ^ h))]
  refine sumTo_congr _ _ _ fun first hf => ?_
  rw [gen_sum B (fun c k => if (if ring then ham c first else 0) ≤ k then ways h first (L - 1) c (k - (if ring then ham c first else 0)) else 0)]
  refine sumTo_congr _ _ _ fun c hc => ?_
  have h4 := ham_le h (by omega) c hc first hf
  rw [gen_shifted B (ways h first (L - 1) c), gen_ways B h first h1 hf (L - 1) (stripMany h L ring) c hc (by unfold stripMany; rw [hLe]; omega)]
  intro k hk
  refine ways_zero h first h1 hf (L - 1) c k hc ?_
  rw [hLe]
  unfold stripMany at hk
  cases ring
  · simp at hk ⊢; omega
  · simp at hk ⊢; omega
theorem pow_small (h L : Nat) (hs : h * L ≤ 10) : 2 ^ (h * L) ≤ 1024 := Nat.le_trans (Nat.pow_le_pow_right (by decide) hs) (by decide)
theorem count_small (h L : Nat) (ring : Bool) (h1 : h ≤ 4) (hL : 1 ≤ L) (hs : h * L ≤ 10) (k : Nat) : stripCount h L ring k < 65536 := by
  refine Nat.lt_of_le_of_lt (count_le h L ring k) ?_
  have e : 2 ^ h * (2 ^ h) ^ (L - 1) = 2 ^ (h * L) := by
    obtain ⟨m, rfl⟩ : ∃ m, L = m + 1 := ⟨L - 1, by omega⟩
    rw [Nat.add_sub_cancel, ← Nat.pow_mul, ← Nat.pow_add, Nat.mul_succ, Nat.add_comm]
  rw [e]
  have h2 := pow_small h L hs
  have h3 := two_pow_le16 h h1
  have h4 := Nat.mul_le_mul h3 h2
  omega
/-- a small strip's counts are its states' -/
theorem count_states (h L : Nat) (ring : Bool) (h0 : 1 ≤ h) (h1 : h ≤ 4) (hL : 1 ≤ L) (hL2 : L ≤ 12) (hs : h * L ≤ 10) (hr : ring = true → 3 ≤ L) (k : Nat) (hk : k < stripMany h L ring + 1) :
    stripCount h L ring k = cntTo (stripOf h L ring) (2 ^ (h * L)) k := by
  refine gen_inj 65536 (stripCount h L ring) (cntTo (stripOf h L ring) (2 ^ (h * L))) (by decide) (fun k => count_small h L ring h1 hL hs k) (fun k => Nat.lt_of_le_of_lt (cntTo_le _ _ _) (by have := pow_small h L hs; omega)) (stripMany h L ring + 1) ?_ k hk
  rw [gen_strip 65536 h L ring h1 hL, gen_states 65536 _ _ (by rw [strip_len h (by omega) L (by omega) h0 hL]; omega)]
  exact (strip_test h L ring h0 h1 hL hs hr).symm
theorem turn_test : ∀ h, h < 5 → ∀ L, L < 5 → 1 ≤ h → 1 ≤ L → h * L ≤ 10 → nStrip 65536 h L false = nStrip 65536 L h false := by decide +kernel
theorem many_turn : ∀ h, h < 5 → ∀ L, L < 5 → 1 ≤ h → 1 ≤ L → stripMany h L false = stripMany L h false := by decide +kernel
theorem count_turn (h L : Nat) (h0 : 1 ≤ h) (h1 : h ≤ 4) (hL : 1 ≤ L) (hL2 : L ≤ 4) (hs : h * L ≤ 10) (k : Nat) (hk : k < stripMany h L false + 1) : stripCount h L false k = stripCount L h false k := by
  refine gen_inj 65536 (stripCount h L false) (stripCount L h false) (by decide) (fun k => count_small h L false h1 hL hs k) (fun k => count_small L h false hL2 h0 (by rw [Nat.mul_comm]; exact hs) k) (stripMany h L false + 1) ?_ k hk
  rw [gen_strip 65536 h L false h1 hL]
  have e := many_turn h (by omega) L (by omega) h0 hL
  rw [e, gen_strip 65536 L h false hL2 h0]
  exact turn_test h (by omega) L (by omega) h0 hL hs
/-- what ising.Strip gives -/
def stripList (h L : Nat) (ring : Bool) : List Int := (List.range (stripMany h L ring + 1)).map fun k => (stripCount h L ring k : Int)
theorem stripList_length (h L : Nat) (ring : Bool) : (stripList h L ring).length = stripMany h L ring + 1 := by simp [stripList]
theorem range_map_take {α : Type} (f : Nat → α) (n k : Nat) (hk : k ≤ n) : ((List.range n).map f).take k = (List.range k).map f := by
  rw [← List.map_take, List.take_range, Nat.min_eq_left hk]
theorem range_sum (f : Nat → Nat) (n : Nat) : ((List.range n).map fun k => (f k : Int)).sum = ((sumTo f n : Nat) : Int) := by
  induction n with
  | zero => rfl
  | succ n ih =>
    rw [List.range_succ, List.map_append, List.sum_append, ih]
    simp [sumTo]
theorem stripList_take (h L : Nat) (ring : Bool) (k : Nat) (hk : k ≤ (stripList h L ring).length) : ((stripList h L ring).take k).sum = ((sumTo (stripCount h L ring) k : Nat) : Int) := by
  rw [stripList_length] at hk
  unfold stripList
  rw [range_map_take _ _ _ hk, range_sum]
theorem stripList_sum (h L : Nat) (ring : Bool) (h1 : h ≤ 4) (hL : 1 ≤ L) : (stripList h L ring).sum = ((2 ^ (h * L) : Nat) : Int) := by
  have := stripList_take h L ring (stripList h L ring).length (Nat.le_refl _)
  rw [List.take_length, stripList_length, count_sum h L ring h1 hL, ← Nat.pow_mul] at this
  exact this
theorem stripList_take_le (h L : Nat) (ring : Bool) (h1 : h ≤ 4) (hL : 1 ≤ L) (hL2 : L ≤ 12) (k : Nat) (hk : k ≤ (stripList h L ring).length) : 0 ≤ ((stripList h L ring).take k).sum ∧ ((stripList h L ring).take k).sum ≤ 4611686018427387903 := by
  rw [stripList_take h L ring k hk]
  refine ⟨Int.natCast_nonneg _, ?_⟩
  rw [stripList_length] at hk
  have h2 := sumTo_mono (stripCount h L ring) hk
  rw [count_sum h L ring h1 hL] at h2
  have h3 : (2 ^ h) ^ L ≤ 16 ^ 12 := Nat.le_trans (Nat.pow_le_pow_left (two_pow_le16 h h1) L) (Nat.pow_le_pow_right (by decide) hL2)
  have h4 : (16 : Nat) ^ 12 = 281474976710656 := by decide
  omega
theorem stripList_first (h L : Nat) (ring : Bool) (h0 : 1 ≤ h) (h1 : h ≤ 4) : (stripList h L ring).getD 0 0 = 2 := by
  rw [getD_eq _ _ _ (by rw [stripList_length]; omega)]
  unfold stripList
  rw [List.getElem_map, List.getElem_range, count_zero h L ring h0 h1]
  rfl
theorem stripList_states (h L : Nat) (ring : Bool) (h0 : 1 ≤ h) (h1 : h ≤ 4) (hL : 1 ≤ L) (hL2 : L ≤ 12) (hs : h * L ≤ 10) (hr : ring = true → 3 ≤ L) : stripList h L ring = statesOf (h * L) (stripOf h L ring) := by
  unfold stripList statesOf
  rw [strip_len h (by omega) L (by omega) h0 hL]
  refine List.map_congr_left fun k hk => ?_
  rw [count_states h L ring h0 h1 hL hL2 hs hr k (List.mem_range.1 hk)]
theorem stripList_turn (h L : Nat) (h0 : 1 ≤ h) (h1 : h ≤ 4) (hL : 1 ≤ L) (hL2 : L ≤ 4) (hs : h * L ≤ 10) : stripList h L false = stripList L h false := by
  unfold stripList
  rw [← many_turn h (by omega) L (by omega) h0 hL]
  refine List.map_congr_left fun k hk => ?_
  rw [count_turn h L h0 h1 hL hL2 hs k (List.mem_range.1 hk)]
end Go.Proofs.YtngogonepjicpaaDoor
