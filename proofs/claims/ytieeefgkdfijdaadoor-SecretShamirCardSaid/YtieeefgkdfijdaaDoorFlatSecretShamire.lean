/- Words, plain laws and walks behind the law SecretShamir, part 5. No condition. -/
import Derived.Test.YtieeefgkdfijdaaDoorFlatSecretShamird
import Derived.Test.YtieeefgkdfijdaaDoorFlatSecretShamirc
import Derived.Lib.OwnBridge
import Derived.Lib.AppendIntMem
import Derived.Test.YtieeefgkdfijdaaDoorFlatSecretShamira
import Derived.Test.YtieeefgkdfijdaaDoorRows
import Derived.Test.YtieeefgkdfijdaaDoorCards
import Derived.Test.YtieeefgkdfijdaaDoorTie
import Derived.ProofKit
import Derived.LaidMore
import Derived.LaidLaws
import Derived.LaidHandle
import Derived.Stop.LaidErr
import Derived.Deep.DeepHandedRow
import Derived.Deep.DeepWitnessRowRef
import Derived.OpenShut
import Derived.Deep.Slices
import Derived.Deep.Matrix
import Derived.Lib.SmallJoins

/- The walk of the closed fact pad. No condition. -/
namespace Go.Proofs.YtieeefgkdfijdaaDoor
open Go.RowKit Go.Deep

theorem Ints.lit (w : World) (l : List Int) (t : TypeId) (hl : l.length ≤ 9223372036854775807) : Ints (w.alloc (.cells (intCells l).toArray t)) (some ⟨w.heap.size, 0, none⟩) l :=
  ⟨hl, fun i hi => ⟨w.heap.size, 0, rfl, by simp, by
    have := intCells_at l i hi
    simpa using this⟩⟩

theorem pad_code : ccode [1, 1] [[0, 1], [1, 0]] = 0 := by decide +kernel
theorem pad_perfect : isPerfect (signsOf [1, 1] [[0, 1], [1, 0]]) = true := by decide +kernel
set_option maxRecDepth 100000 in
set_option maxHeartbeats 4000000 in
theorem pad_any (w : World) (a : Nat → Addr) (hE : Env [2, 3] w a) :
    Calls Tryd.prog 17 #[] w fun e w' => e = .returned (.bool true) ∧ Below w.heap.size w w' := by
  have hK := Ints.lit w [1, 1] 3 (by decide)
  have h1 := Ints.lit (w.alloc (.cells #[.int .i64 1, .int .i64 1] 3)) [0, 1] 3 (by decide)
  have h2 := Ints.lit ((w.alloc (.cells #[.int .i64 1, .int .i64 1] 3)).alloc (.cells #[.int .i64 0, .int .i64 1] 3)) [1, 0] 3 (by decide)
  obtain ⟨W3, hW3⟩ : ∃ W3, W3 = ((w.alloc (.cells #[.int .i64 1, .int .i64 1] 3)).alloc (.cells #[.int .i64 0, .int .i64 1] 3)).alloc (.cells #[.int .i64 1, .int .i64 0] 3) := ⟨_, rfl⟩
  have hs3 : W3.heap.size = w.heap.size + 1 + 1 + 1 := by rw [hW3]; simp
  have hB3 : Below w.heap.size w W3 := by rw [hW3]; exact below_alloc' (below_alloc' (below_alloc' (Below.refl _ _) _) _) _
  have hK3 : Ints W3 (some ⟨w.heap.size, 0, none⟩) [1, 1] := by rw [hW3]; exact (hK.below (below_alloc' (Below.refl _ _) _)).below (below_alloc' (Below.refl _ _) _)
  have h13 : Ints W3 (some ⟨w.heap.size + 1, 0, none⟩) [0, 1] := by rw [hW3]; simpa [intCells] using h1.below (below_alloc' (Below.refl _ _) (.cells #[.int .i64 1, .int .i64 0] 3))
  have h23 : Ints W3 (some ⟨w.heap.size + 1 + 1, 0, none⟩) [1, 0] := by rw [hW3]; simpa [intCells] using h2
  have hL : Lists (W3.alloc (.cells #[.slice (some ⟨w.heap.size + 1, 0, none⟩) 2 2, .slice (some ⟨w.heap.size + 1 + 1, 0, none⟩) 2 2] 33)) (some ⟨w.heap.size + 1 + 1 + 1, 0, none⟩) [[0, 1], [1, 0]] := ⟨by decide, fun i hi => by
    have hi' : i = 0 ∨ i = 1 := by simp at hi; omega
    rcases hi' with rfl | rfl
    · exact ⟨w.heap.size + 1 + 1 + 1, 0, some ⟨w.heap.size + 1, 0, none⟩, 2, rfl, by simp [hs3], by rw [← hs3]; simp, by decide, h13.below (below_alloc' (Below.refl _ _) _)⟩
    · exact ⟨w.heap.size + 1 + 1 + 1, 0, some ⟨w.heap.size + 1 + 1, 0, none⟩, 2, rfl, by simp [hs3], by rw [← hs3]; simp, by decide, h23.below (below_alloc' (Below.refl _ _) _)⟩⟩
  have hp := perfect_ok (some ⟨w.heap.size, 0, none⟩) (some ⟨w.heap.size + 1 + 1 + 1, 0, none⟩) [1, 1] [[0, 1], [1, 0]] 2 2 _ a (hE.below (below_alloc' hB3 _)) (hK3.below (below_alloc' (Below.refl _ _) _)) hL (ccode_zero pad_code) pad_code
  rw [pad_perfect, hW3] at hp
  have HP := hide hp
  have hB4 := below_alloc' hB3 (.cells #[.slice (some ⟨w.heap.size + 1, 0, none⟩) 2 2, .slice (some ⟨w.heap.size + 1 + 1, 0, none⟩) 2 2] 33)
  rw [hW3] at hB4
  clear hp hL h13 h23 hK3 hB3 hs3 hW3 hK h1 h2
  go_enter Tryd.func17, Tryd.ntmps17
  go_wp2_with (go_at_call 22; refine Calls.mono HP.out ?_; rintro e w4 ⟨rfl, hb4⟩)
  go_ret
  exact ⟨rfl, below_trans hB4 hb4⟩
end Go.Proofs.YtieeefgkdfijdaaDoor

/- The walk of secret.Share at bad arguments, and the contracts of what the law SecretShare calls. No condition. -/
namespace Go.Proofs.YtieeefgkdfijdaaDoor
open Go.RowKit Go.Deep Go.Shelf Go.Proofs.YtieeefgkdfijdaaDoorW.PrintWords

attribute [local go_sem] Oper.semAt_some

theorem errC_eight (a : Nat → Addr) : errC a 8 = .iface 161 (.pointer (some (a 8))) := rfl
set_option maxRecDepth 100000 in
set_option maxHeartbeats 4000000 in
theorem share_err (A : Option Addr) (l : List Int) (c : Nat) (p n : Int) (w : World) (a : Nat → Addr) (hE : Env [2, 3, 8] w a) (hA : Ints w A l) (he : shErr p l n ≠ 0) :
    Calls Tryd.prog 35 #[.int .i64 p, .slice A l.length c, .int .i64 n] w fun e w' => e = .returned (.tuple #[.slice none 0 0, errC a (shErr p l n)]) ∧ Below w.heap.size w w' := by
  have hlen := hA.len
  have hw0 : Below w.heap.size w (w.alloc (.cells #[.int .i64 p] 3)) := below_alloc' (Below.refl _ _) _
  have HW0 := hide hw0
  have HPX := hide (fun w' (hb : Below (w.alloc (.cells #[.int .i64 p] 3)).heap.size (w.alloc (.cells #[.int .i64 p] 3)) w') => show w'.cell? ⟨w.heap.size, 0, none⟩ = some (.int .i64 p) by
    rw [hb.cell (p := ⟨w.heap.size, 0, none⟩) (by simp)]; simp)
  have HEN := hide (fun w' (hb : Below (w.alloc (.cells #[.int .i64 p] 3)).heap.size (w.alloc (.cells #[.int .i64 p] 3)) w') =>
    (⟨(hE.below (below_trans hw0 hb)).cell 2 (by decide), (hE.below (below_trans hw0 hb)).cell 3 (by decide), (hE.below (below_trans hw0 hb)).cell 8 (by decide)⟩ : w'.cell? ⟨glob 2, 0, none⟩ = _ ∧ w'.cell? ⟨glob 3, 0, none⟩ = _ ∧ w'.cell? ⟨glob 8, 0, none⟩ = _))
  have HF := hide (fun w' => fieldC_ok p w')
  have HEL := hide (fun w' (hb : Below (w.alloc (.cells #[.int .i64 p] 3)).heap.size (w.alloc (.cells #[.int .i64 p] 3)) w') => elements_any A l c p 0 w' (hA.below (below_trans hw0 hb)))
  have HFI := hide (fun W (hW : Below (w.alloc (.cells #[.int .i64 p] 3)).heap.size (w.alloc (.cells #[.int .i64 p] 3)) W) w' (hm : Marked w.heap.size W w') => show Below w.heap.size w w' from (below_trans HW0.out hW).trans hm.1)
  obtain ⟨r, hr⟩ : ∃ r, shErr p l n = r := ⟨_, rfl⟩
  rw [hr] at he ⊢
  simp only [glob] at HEN
  have hf0 : fieldOf p = true → 2 ≤ p ∧ p ≤ 997 := fieldOf_range
  unfold shErr at hr
  cases hf : fieldOf p
  · rw [if_pos hf] at hr
    rw [hf] at HF
    subst hr
    clear hf he hw0 hf0
    refine callsIn_wide (n := 3) |>.1 ?_
    refine callsIn_of_wp_marks Tryd.func35 rfl trivial ?_ rfl
    refine wpIn_wide.2 ?_
    simp only [Tryd.ntmps35, List.size_toArray, List.length_cons, List.length_nil, Nat.reduceAdd, Nat.reduceSub, Array.replicate_succ, Array.replicate_zero, List.push_toArray, List.append_toArray, List.nil_append, List.cons_append]
    go_wp2_with (first
      | (go_at_call 63; refine Calls.mono (HF.out _) ?_; rintro e w1 ⟨rfl, hb1⟩; have y1 := HPX.out w1 hb1; obtain ⟨g2, g3, g8⟩ := HEN.out w1 hb1)
      | (go_at_call 64; refine Calls.mono (HEL.out w1 hb1) ?_; rintro e w2 ⟨rfl, hb2⟩; have hB2 := below_trans hb1 hb2; have y2 := HPX.out w2 hB2; obtain ⟨k2, k3, k8⟩ := HEN.out w2 hB2))
    go_region
    all_goals go_wp2_with (fail)
    all_goals exact leaves_marks w [] _ List.nodup_nil (fun D h => absurd h List.not_mem_nil) (fun w' hm => ⟨_, results_tmp2 rfl _ _ _, rfl, HFI.out _ (below_drewN' hb1 1) w' hm⟩)
  · obtain ⟨p2, p997⟩ := hf0 hf
    rw [hf] at HF
    rw [if_neg (by rw [hf]; decide)] at hr
    clear hf0 hf
    by_cases c1 : n < 1
    · rw [if_pos ((.inl c1))] at hr
      subst hr
      clear he
      refine callsIn_wide (n := 3) |>.1 ?_
      refine callsIn_of_wp_marks Tryd.func35 rfl trivial ?_ rfl
      refine wpIn_wide.2 ?_
      simp only [Tryd.ntmps35, List.size_toArray, List.length_cons, List.length_nil, Nat.reduceAdd, Nat.reduceSub, Array.replicate_succ, Array.replicate_zero, List.push_toArray, List.append_toArray, List.nil_append, List.cons_append]
      go_wp2_with (first
        | (go_at_call 63; refine Calls.mono (HF.out _) ?_; rintro e w1 ⟨rfl, hb1⟩; have y1 := HPX.out w1 hb1; obtain ⟨g2, g3, g8⟩ := HEN.out w1 hb1)
        | (go_at_call 64; refine Calls.mono (HEL.out w1 hb1) ?_; rintro e w2 ⟨rfl, hb2⟩; have hB2 := below_trans hb1 hb2; have y2 := HPX.out w2 hB2; obtain ⟨k2, k3, k8⟩ := HEN.out w2 hB2))
      go_region
      all_goals go_wp2_with (fail)
      all_goals exact leaves_marks w [] _ List.nodup_nil (fun D h => absurd h List.not_mem_nil) (fun w' hm => ⟨_, results_tmp2 rfl _ _ _, rfl, HFI.out _ (below_drewN' hb1 1) w' hm⟩)
    by_cases c2 : n > p - 1
    · rw [if_pos ((.inr (.inl c2)))] at hr
      subst hr
      clear he
      refine callsIn_wide (n := 3) |>.1 ?_
      refine callsIn_of_wp_marks Tryd.func35 rfl trivial ?_ rfl
      refine wpIn_wide.2 ?_
      simp only [Tryd.ntmps35, List.size_toArray, List.length_cons, List.length_nil, Nat.reduceAdd, Nat.reduceSub, Array.replicate_succ, Array.replicate_zero, List.push_toArray, List.append_toArray, List.nil_append, List.cons_append]
      go_wp2_with (first
        | (go_at_call 63; refine Calls.mono (HF.out _) ?_; rintro e w1 ⟨rfl, hb1⟩; have y1 := HPX.out w1 hb1; obtain ⟨g2, g3, g8⟩ := HEN.out w1 hb1)
        | (go_at_call 64; refine Calls.mono (HEL.out w1 hb1) ?_; rintro e w2 ⟨rfl, hb2⟩; have hB2 := below_trans hb1 hb2; have y2 := HPX.out w2 hB2; obtain ⟨k2, k3, k8⟩ := HEN.out w2 hB2))
      go_region
      all_goals go_wp2_with (fail)
      all_goals exact leaves_marks w [] _ List.nodup_nil (fun D h => absurd h List.not_mem_nil) (fun w' hm => ⟨_, results_tmp2 rfl _ _ _, rfl, HFI.out _ (below_drewN' hb1 1) w' hm⟩)
    by_cases c3 : n > 24
    · rw [if_pos ((.inr (.inr (.inl c3))))] at hr
      subst hr
      clear he
      refine callsIn_wide (n := 3) |>.1 ?_
      refine callsIn_of_wp_marks Tryd.func35 rfl trivial ?_ rfl
      refine wpIn_wide.2 ?_
      simp only [Tryd.ntmps35, List.size_toArray, List.length_cons, List.length_nil, Nat.reduceAdd, Nat.reduceSub, Array.replicate_succ, Array.replicate_zero, List.push_toArray, List.append_toArray, List.nil_append, List.cons_append]
      go_wp2_with (first
        | (go_at_call 63; refine Calls.mono (HF.out _) ?_; rintro e w1 ⟨rfl, hb1⟩; have y1 := HPX.out w1 hb1; obtain ⟨g2, g3, g8⟩ := HEN.out w1 hb1)
        | (go_at_call 64; refine Calls.mono (HEL.out w1 hb1) ?_; rintro e w2 ⟨rfl, hb2⟩; have hB2 := below_trans hb1 hb2; have y2 := HPX.out w2 hB2; obtain ⟨k2, k3, k8⟩ := HEN.out w2 hB2))
      go_region
      all_goals go_wp2_with (fail)
      all_goals exact leaves_marks w [] _ List.nodup_nil (fun D h => absurd h List.not_mem_nil) (fun w' hm => ⟨_, results_tmp2 rfl _ _ _, rfl, HFI.out _ (below_drewN' hb1 1) w' hm⟩)
    by_cases c4 : (l.length : Int) < 1
    · rw [if_pos ((.inr (.inr (.inr (.inl (by omega))))))] at hr
      subst hr
      clear he
      refine callsIn_wide (n := 3) |>.1 ?_
      refine callsIn_of_wp_marks Tryd.func35 rfl trivial ?_ rfl
      refine wpIn_wide.2 ?_
      simp only [Tryd.ntmps35, List.size_toArray, List.length_cons, List.length_nil, Nat.reduceAdd, Nat.reduceSub, Array.replicate_succ, Array.replicate_zero, List.push_toArray, List.append_toArray, List.nil_append, List.cons_append]
      go_wp2_with (first
        | (go_at_call 63; refine Calls.mono (HF.out _) ?_; rintro e w1 ⟨rfl, hb1⟩; have y1 := HPX.out w1 hb1; obtain ⟨g2, g3, g8⟩ := HEN.out w1 hb1)
        | (go_at_call 64; refine Calls.mono (HEL.out w1 hb1) ?_; rintro e w2 ⟨rfl, hb2⟩; have hB2 := below_trans hb1 hb2; have y2 := HPX.out w2 hB2; obtain ⟨k2, k3, k8⟩ := HEN.out w2 hB2))
      go_region
      all_goals go_wp2_with (fail)
      all_goals exact leaves_marks w [] _ List.nodup_nil (fun D h => absurd h List.not_mem_nil) (fun w' hm => ⟨_, results_tmp2 rfl _ _ _, rfl, HFI.out _ (below_drewN' hb1 1) w' hm⟩)
    by_cases c5 : (l.length : Int) > 12
    · rw [if_pos ((.inr (.inr (.inr (.inr (by omega))))))] at hr
      subst hr
      clear he
      refine callsIn_wide (n := 3) |>.1 ?_
      refine callsIn_of_wp_marks Tryd.func35 rfl trivial ?_ rfl
      refine wpIn_wide.2 ?_
      simp only [Tryd.ntmps35, List.size_toArray, List.length_cons, List.length_nil, Nat.reduceAdd, Nat.reduceSub, Array.replicate_succ, Array.replicate_zero, List.push_toArray, List.append_toArray, List.nil_append, List.cons_append]
      go_wp2_with (first
        | (go_at_call 63; refine Calls.mono (HF.out _) ?_; rintro e w1 ⟨rfl, hb1⟩; have y1 := HPX.out w1 hb1; obtain ⟨g2, g3, g8⟩ := HEN.out w1 hb1)
        | (go_at_call 64; refine Calls.mono (HEL.out w1 hb1) ?_; rintro e w2 ⟨rfl, hb2⟩; have hB2 := below_trans hb1 hb2; have y2 := HPX.out w2 hB2; obtain ⟨k2, k3, k8⟩ := HEN.out w2 hB2))
      go_region
      all_goals go_wp2_with (fail)
      all_goals exact leaves_marks w [] _ List.nodup_nil (fun D h => absurd h List.not_mem_nil) (fun w' hm => ⟨_, results_tmp2 rfl _ _ _, rfl, HFI.out _ (below_drewN' hb1 1) w' hm⟩)
    have hn : ¬ (n < 1 ∨ n > p - 1 ∨ n > 24 ∨ l.length = 0 ∨ 12 < l.length) := by omega
    rw [if_neg hn] at hr
    cases hi : inside l p 0
    · rw [hi, if_neg (by decide)] at hr
      rw [hi] at HEL
      subst hr
      clear he hi hn
      refine callsIn_wide (n := 3) |>.1 ?_
      refine callsIn_of_wp_marks Tryd.func35 rfl trivial ?_ rfl
      refine wpIn_wide.2 ?_
      simp only [Tryd.ntmps35, List.size_toArray, List.length_cons, List.length_nil, Nat.reduceAdd, Nat.reduceSub, Array.replicate_succ, Array.replicate_zero, List.push_toArray, List.append_toArray, List.nil_append, List.cons_append]
      go_wp2_with (first
        | (go_at_call 63; refine Calls.mono (HF.out _) ?_; rintro e w1 ⟨rfl, hb1⟩; have y1 := HPX.out w1 hb1; obtain ⟨g2, g3, g8⟩ := HEN.out w1 hb1)
        | (go_at_call 64; refine Calls.mono (HEL.out w1 hb1) ?_; rintro e w2 ⟨rfl, hb2⟩; have hB2 := below_trans hb1 hb2; have y2 := HPX.out w2 hB2; obtain ⟨k2, k3, k8⟩ := HEN.out w2 hB2))
      go_region
      all_goals go_wp2_with (fail)
      all_goals exact leaves_marks w [] _ List.nodup_nil (fun D h => absurd h List.not_mem_nil) (fun w' hm => ⟨_, results_tmp2 rfl _ _ _, rfl, HFI.out _ (below_drewN' hB2 1) w' hm⟩)
    · rw [hi, if_pos rfl] at hr
      exact absurd hr.symm he
end Go.Proofs.YtieeefgkdfijdaaDoor

/- The walk of secret.Join. No condition. -/
namespace Go.Proofs.YtieeefgkdfijdaaDoor
open Go.RowKit Go.Deep Go.Sort Go.Proofs.YtieeefgkdfijdaaDoorW.PrintWords

/-- the numbers in order -/
def sorted (l : List Int) : List Int := l.mergeSort fun x y => decide (x ≤ y)
theorem sorted_length (l : List Int) : (sorted l).length = l.length := List.length_mergeSort l
theorem sorted_nodup (l : List Int) : (sorted l).Nodup ↔ l.Nodup := (List.mergeSort_perm l _).nodup_iff
theorem sorted_le (l : List Int) : (sorted l).Pairwise (fun a b => a ≤ b) := by
  have h := List.pairwise_mergeSort (le := fun (x y : Int) => decide (x ≤ y)) (fun a b c h1 h2 => by simp at *; omega) (fun a b => by simp; omega) l
  exact h.imp fun h => by simpa using h
theorem compact_less (l : List Int) : ((Lib.compact (sorted l)).length < l.length) ↔ ¬ l.Nodup := by
  have hs := sorted_le l
  have hl := sorted_length l
  rw [← sorted_nodup l, ← hl]
  generalize sorted l = s at hs
  have hg : ∀ j, j < s.length → s.toArray[j]! = s.getD j 0 := fun j hj => by
    rw [getD_eq s j 0 hj]
    simp [getElem!_pos, hj]
  have hk : ∀ j, 0 < j → j < s.length → (Lib.keeps s.toArray j = true ↔ s.getD j 0 ≠ s.getD (j - 1) 0) := fun j h0 hj => by
    unfold Lib.keeps
    rw [hg j hj, hg (j - 1) (by omega)]
    simp only [decide_eq_true_eq]
    constructor
    · rintro (h | h)
      · omega
      · exact h
    · exact fun h => .inr h
  constructor
  · intro hlt hn
    have := Lib.compact_all s (fun j hj => by
      rcases Nat.eq_zero_or_pos j with h0 | h0
      · subst h0; simp [Lib.keeps]
      · rw [hk j h0 hj, getD_eq s j 0 hj, getD_eq s (j - 1) 0 (by omega)]
        exact fun e => (List.pairwise_iff_getElem.1 hn) (j - 1) j (by omega) hj (by omega) e.symm)
    rw [this] at hlt
    omega
  · intro hn
    rcases Nat.lt_or_ge (Lib.compact s).length s.length with h | h
    · exact h
    · exfalso
      apply hn
      have hall : ∀ j, j ∈ List.range s.length → Lib.keeps s.toArray j = true := by
        rw [← List.length_filter_eq_length_iff]
        have h1 : (Lib.compact s).length = ((List.range s.length).filter (Lib.keeps s.toArray)).length := by
          unfold Lib.compact Lib.compactUpTo
          rw [List.length_map]
        have h2 := List.length_filter_le (Lib.keeps s.toArray) (List.range s.length)
        rw [List.length_range] at h2 ⊢
        omega
      rw [List.Nodup, List.pairwise_iff_getElem]
      intro i j hi hj hij e
      have h3 := (hk j (by omega) hj).1 (hall j (List.mem_range.2 hj))
      rw [getD_eq s j 0 hj, getD_eq s (j - 1) 0 (by omega)] at h3
      have h4 : s[j - 1] ≤ s[j] := (List.pairwise_iff_getElem.1 hs) (j - 1) j (by omega) hj (by omega)
      have h5 : s[i] ≤ s[j - 1] := by
        rcases Nat.lt_or_ge i (j - 1) with h6 | h6
        · exact (List.pairwise_iff_getElem.1 hs) i (j - 1) hi (by omega) h6
        · obtain rfl : i = j - 1 := by omega
          exact Int.le_refl _
      omega

/-- a copy that the call owns -/
theorem clone_ok (A : Option Addr) (l : List Int) (c : Nat) (w : World) (hA : Ints w A l) (h0 : 0 < l.length) (hl : l.length ≤ 2000000) :
    Calls Tryd.prog 50 #[.slice A l.length c] w fun e w' => ∃ g d, e = .returned (.slice (some ⟨g, 0, none⟩) l.length d) ∧ w.heap.size ≤ g ∧ l.length ≤ d ∧ w'.ownsRow w.heap.size 3 1 (.slice (some ⟨g, 0, none⟩) l.length d) l.length (l.map (Value.int .i64)) ∧ Below w.heap.size w w' := by
  obtain ⟨b, off, rfl, _, _⟩ := hA.at_ 0 h0
  have hc : ∀ j, j < l.length → w.cell? ⟨b, off + j, none⟩ = some (.int .i64 (l.getD j 0)) := fun j hj => by
    obtain ⟨b1, off1, e, _, h⟩ := hA.at_ j hj
    injection e with e
    injection e with e1 e2 _
    subst e1 e2
    exact h
  refine (Tryd.slices_Clone_int b off l.length c l w (Nat.le_refl _) (by omega) hc).mono ?_
  rintro e w' ⟨v, rfl, ho, hne, hb⟩
  rw [List.take_length] at ho
  obtain ⟨g, d, rfl, hg, _, hd, _⟩ := Lib.holds_of_ownsRow ho hne
  exact ⟨g, d, rfl, hg, hd, ho, hb⟩
/-- put in order in its place -/
theorem sort_ok (base g n d : Nat) (l : List Int) (w0 w : World) (hg : base ≤ g) (ho : w.ownsRow base 3 1 (.slice (some ⟨g, 0, none⟩) n d) n (l.map (Value.int .i64))) (hb : Below base w0 w) (hl : l.length ≤ 2000000) :
    Calls Tryd.prog 69 #[.slice (some ⟨g, 0, none⟩) n d] w fun e w' => e = .returned (.tuple #[]) ∧ w'.ownsRow base 3 1 (.slice (some ⟨g, 0, none⟩) n d) n ((sorted l).map (Value.int .i64)) ∧ Below base w0 w' := by
  obtain ⟨g', d', e0, _, hgl, _, _, hln, hH⟩ := Lib.holds_of_ownsRow ho (by simp)
  injection e0 with e1 e2 e3
  injection e1 with e1
  injection e1 with e1
  subst e1 e3
  subst hln
  refine (Tryd.slices_Sort_int g 0 d l w hH hgl (by omega)).mono ?_
  rintro e w' ⟨rfl, q, os, rfl⟩
  have h1 := Lib.ownsRow_putRow (q := q) (ys := sorted l) (k := l.length) ho (sorted_length l) (Nat.le_refl _)
  have h2 := Lib.below_putRow (enc := Value.int .i64) (q := q) (d := (sorted l).toArray) hb hg
  rw [List.take_of_length_le (by rw [sorted_length]; omega)] at h1
  exact ⟨rfl, Lib.ownsRow_grow h1 0 os, h2.trans (Lib.below_grow base _ (Nat.le_of_lt (Nat.lt_of_le_of_lt hg (h1.lt g rfl).2)) 0 os)⟩
/-- how many stay when equal neighbours are made one -/
theorem compact_ok (base g n d : Nat) (l : List Int) (w0 w : World) (hg : base ≤ g) (hd : n ≤ d) (ho : w.ownsRow base 3 1 (.slice (some ⟨g, 0, none⟩) n d) n (l.map (Value.int .i64))) (hb : Below base w0 w) (hl : l.length ≤ 2000000) :
    Calls Tryd.prog 70 #[.slice (some ⟨g, 0, none⟩) n d] w fun e w' => e = .returned (.slice (some ⟨g, 0, none⟩) (Lib.compact l).length d) ∧ Below base w0 w' := by
  obtain ⟨g', d', e0, _, hgl, _, _, hln, hH⟩ := Lib.holds_of_ownsRow ho (by simp)
  injection e0 with e1 e2 e3
  injection e1 with e1
  injection e1 with e1
  subst e1 e3
  subst hln
  refine (Tryd.slices_Compact_int g 0 d l w hH (by omega) hd).mono ?_
  rintro e w' ⟨rfl, q, rfl⟩
  exact ⟨rfl, Lib.below_putRow (enc := Value.int .i64) (q := q) hb hg⟩

theorem own_below {w w' : World} {base e size n : Nat} {v : Value} {xs : List Value} (h : w.ownsRow base e size v n xs) (hb : Below w.heap.size w w') : w'.ownsRow base e size v n xs := h.kept (grown_of_below hb) (by cases v.ownBlock <;> simp)
/-- what is below a later heap's size is below an earlier one -/
theorem below_of1 {w w1 a b : World} (h : Below w.heap.size w a) (h1 : Below w.heap.size w w1) (k : Below w1.heap.size a b) : Below w.heap.size w b := h.trans (k.mono h1.size)
theorem step_up {p u y : Int} (hp : 2 ≤ p ∧ p ≤ 997) (hu : 0 ≤ u ∧ u < p) (hy : 0 ≤ y ∧ y < p) {a : Int} (h : Eqm p u a) : (0 ≤ (wrap64 (u * y)).tmod p ∧ (wrap64 (u * y)).tmod p < p) ∧ Eqm p ((wrap64 (u * y)).tmod p) (a * y) := by
  rw [mul_mod_small hp ⟨hu.1, by omega⟩ ⟨hy.1, by omega⟩]
  exact ⟨mod_range hp.1 _, (Eqm.mod p _).trans (h.mul (Eqm.refl p y))⟩
theorem step_down {p v z : Int} (hp : 2 ≤ p ∧ p ≤ 997) (hv : 0 ≤ v ∧ v < p) {a : Int} (h : Eqm p v a) : (0 ≤ (wrap64 (v * (z % p))).tmod p ∧ (wrap64 (v * (z % p))).tmod p < p) ∧ Eqm p ((wrap64 (v * (z % p))).tmod p) (a * z) := by
  have hz := mod_range hp.1 z
  rw [mul_mod_small hp ⟨hv.1, by omega⟩ ⟨hz.1, by omega⟩]
  exact ⟨mod_range hp.1 _, (Eqm.mod p _).trans (h.mul (Eqm.mod p z))⟩
theorem step_sum {p s u r : Int} (hp : 2 ≤ p ∧ p ≤ 997) (hs : 0 ≤ s ∧ s < p) (hu : 0 ≤ u ∧ u < p) (hr : 0 ≤ r ∧ r < p) {a b c : Int} (h : Eqm p s a) (h2 : Eqm p u b) (h3 : Eqm p r c) : (0 ≤ (wrap64 (s + wrap64 (u * r))).tmod p ∧ (wrap64 (s + wrap64 (u * r))).tmod p < p) ∧ Eqm p ((wrap64 (s + wrap64 (u * r))).tmod p) (a + b * c) := by
  have m := mul_le_997 (x := u) (y := r) ⟨hu.1, by omega⟩ ⟨hr.1, by omega⟩
  have w1 : wrap64 (u * r) = u * r := by unfold wrap64; omega
  have w2 : wrap64 (s + u * r) = s + u * r := by unfold wrap64; omega
  rw [w1, w2, tmod_small _ _ (by omega)]
  exact ⟨mod_range hp.1 _, (Eqm.mod p _).trans (h.add (h2.mul h3))⟩
/-- what Join gives at good arguments -/
def RetJoin (p : Int) (at_ vs : List Int) (w : World) (e : Ending) (w' : World) : Prop := e = .returned (.tuple #[.int .i64 (joinV p at_ vs), .nilIface]) ∧ Below w.heap.size w w'
set_option maxRecDepth 100000 in
set_option maxHeartbeats 4000000 in
theorem join_ok (A B : Option Addr) (at_ vs : List Int) (c d : Nat) (p : Int) (w : World) (hA : Ints w A at_) (hB : Ints w B vs) (h0 : jErr p at_ vs = 0) :
    Calls Tryd.prog 45 #[.int .i64 p, .slice A at_.length c, .slice B vs.length d] w fun e w' => RetJoin p at_ vs w e w' := by
  unfold jErr at h0
  have hf : fieldOf p = true := by
    cases h : fieldOf p
    · rw [if_pos h] at h0; cases h0
    · rfl
  rw [if_neg (by rw [hf]; decide)] at h0
  have hr : ¬ (at_.length = 0 ∨ 12 < at_.length) := fun h => by rw [if_pos h] at h0; cases h0
  rw [if_neg hr] at h0
  have hg : inside at_ p 1 = true ∧ inside vs p 0 = true ∧ at_.length = vs.length ∧ at_.Nodup := by
    rcases Classical.em (inside at_ p 1 = true ∧ inside vs p 0 = true ∧ at_.length = vs.length ∧ at_.Nodup) with h | h
    · exact h
    · rw [if_neg h] at h0; cases h0
  clear h0
  obtain ⟨g1, g2, g3, g4⟩ := hg
  obtain ⟨p2, p997⟩ := fieldOf_range hf
  have HF := hide (fun w' => fieldC_ok p w')
  have HE1 := hide (fun w' (hb : Below w.heap.size w w') => elements_any A at_ c p 1 w' (hA.below hb))
  have HE2 := hide (fun w' (hb : Below w.heap.size w w') => elements_any B vs d p 0 w' (hB.below hb))
  rw [hf] at HF
  rw [g1] at HE1
  rw [g2] at HE2
  have HCL := hide (fun w' (hb : Below w.heap.size w w') => clone_ok A at_ c w' (hA.below hb) (by omega) (by omega))
  have hcl := compact_less at_
  have hcn : ¬ (Lib.compact (sorted at_)).length < at_.length := fun h => (hcl.1 h) g4
  have l1 : 1 ≤ (at_.length : Int) := by omega
  have l12 : (at_.length : Int) ≤ 12 := by omega
  have le : ((vs.length : Int) != (at_.length : Int)) = false := by rw [g3]; simp
  have lc : ¬ ((Lib.compact (sorted at_)).length : Int) < (at_.length : Int) := by omega
  have hcc : decide ((Lib.compact (sorted at_)).length < at_.length) = false := decide_eq_false (by omega)
  have HG := hide (And.intro hf (And.intro g1 (And.intro g2 (And.intro g3 g4))))
  have HL := hide hr
  clear hf g1 g2 g3 g4 hcl hcn hr
  go_enter Tryd.func45, Tryd.ntmps45
  go_wp2_with (first
    | (go_at_call 63; refine Calls.mono (HF.out _) ?_; rintro e w1 ⟨rfl, hB1⟩)
    | (go_at_call 50; refine Calls.mono (HCL.out w1 hB1) ?_; rintro e w2 ⟨g, dd, rfl, hg2, hd2, ho2, b2⟩; have hg0 := Nat.le_trans hB1.size hg2)
    | (go_at_call 69; refine Calls.mono (sort_ok w1.heap.size g at_.length dd at_ w1 w2 hg2 ho2 b2 (by omega)) ?_; rintro e w3 ⟨rfl, ho3, b3⟩; have hB3 := below_trans hB1 b3)
    | (go_at_call 64; refine Calls.mono (HE1.out w3 hB3) ?_; rintro e w30 ⟨rfl, b30⟩; have hB30 := below_trans hB3 b30; have hBq := b3.trans (b30.mono b3.size); clear HE1)
    | (go_at_call 64; refine Calls.mono (HE2.out w30 hB30) ?_; rintro e w31 ⟨rfl, b31⟩; have hB31 := below_trans hB30 b31; have ho31 := own_below (own_below ho3 b30) b31)
    | (go_at_call 70; refine Calls.mono (compact_ok w1.heap.size g at_.length dd (sorted at_) w31 w31 hg2 hd2 ho31 (Below.refl _ _) (by rw [sorted_length]; omega)) ?_; rintro e w4 ⟨rfl, b4⟩; have hB4 := below_of1 hB31 hB1 b4))
  have hp : 2 ≤ p ∧ p ≤ 997 := ⟨p2, p997⟩
  have HP := hide hp
  have pne : p ≠ 0 := by omega
  have HA4 := hide (fun w' (hb : Below w.heap.size w w') => hA.below hb)
  have HBB := hide (fun w' (hb : Below w.heap.size w w') => hB.below hb)
  have HX := hide (fun i hi => inside_get HG.out.2.1 i hi)
  have HV := hide (fun i hi => inside_get HG.out.2.2.1 i hi)
  have hLV : at_.length = vs.length := HG.out.2.2.2.1
  have HLV := hide hLV
  clear hp hLV
  go_loopw [9, 61] (fun sv iv wr => ∃ i : Nat, i ≤ at_.length ∧ iv = .int .i64 i ∧ (∃ s, sv = .int .i64 s ∧ (0 ≤ s ∧ s < p) ∧ Hid (Eqm p s (sumTo (fun i => vs.getD i 0 * prodTo (skip (fun j => at_.getD j 0) i (at_.getD i 0)) at_.length ^ (p.toNat - 2) * prodTo (skip (fun j => at_.getD j 0) i 0) at_.length) i))) ∧ Below w4.heap.size w4 wr) (fun _ iv _ => at_.length - (intOf iv).toNat)
  case atStart => exact ⟨0, Nat.zero_le _, rfl, ⟨0, rfl, ⟨by omega, by omega⟩, hide (Eqm.refl _ _)⟩, Below.refl _ _⟩
  case round =>
    obtain ⟨i, hi, rfl, ⟨s, rfl, hs, HS⟩, hBi⟩ := hrel
    obtain ⟨wi, rfl⟩ : ∃ wi : World, wi = wr := ⟨_, rfl⟩
    have hBw := below_trans hB4 hBi
    have i0 : (0 : Int) ≤ (i : Int) := Int.natCast_nonneg _
    by_cases hil : i < at_.length
    · have i1 : (i : Int) < (at_.length : Int) := by omega
      have i2 : (i : Int) < (vs.length : Int) := by have := HLV.out; omega
      obtain ⟨b, off, rfl, _, dx⟩ := (HA4.out wi hBw).at_ i hil
      obtain ⟨b', off', rfl, _, dv⟩ := (HBB.out wi hBw).at_ i (by omega)
      have hx := HX.out i hil
      have hv := HV.out i (by omega)
      obtain ⟨x, hxe⟩ : ∃ x, at_.getD i 0 = x := ⟨_, rfl⟩
      obtain ⟨v, hve⟩ : ∃ v, vs.getD i 0 = v := ⟨_, rfl⟩
      rw [hxe] at dx hx
      rw [hve] at dv hv
      have HXE := hide hxe
      have HVE := hide hve
      have HAW := hide (HA4.out wi hBw)
      clear hxe hve
      go_wp2_with (fail)
      go_loop [12, 13, 72] (fun uv dv kv => ∃ k : Nat, k ≤ at_.length ∧ kv = .int .i64 k ∧ (∃ u d, uv = .int .i64 u ∧ dv = .int .i64 d ∧ (0 ≤ u ∧ u < p) ∧ (0 ≤ d ∧ d < p) ∧ Hid (Eqm p u (v * prodTo (skip (fun j => at_.getD j 0) i 0) k)) ∧ Hid (Eqm p d (prodTo (skip (fun j => at_.getD j 0) i x) k)))) (fun _ _ kv => at_.length - (intOf kv).toNat)
      case atStart => exact ⟨0, Nat.zero_le _, rfl, v, 1, rfl, rfl, hv, ⟨by omega, by omega⟩, hide (Eqm.of_eq (by simp [prodTo])), hide (Eqm.refl _ _)⟩
      case round =>
        obtain ⟨k, hk, rfl, u, d, rfl, rfl, hu, hd, HU, HD⟩ := hrel
        have k0 : (0 : Int) ≤ (k : Int) := Int.natCast_nonneg _
        by_cases hkl : k < at_.length
        · have k1 : (k : Int) < (at_.length : Int) := by omega
          obtain ⟨b2, off2, e2, _, dy⟩ := HAW.out.at_ k hkl
          injection e2 with e2
          injection e2 with e3 e4 _
          subst e3 e4
          have hy := HX.out k hkl
          obtain ⟨y, hye⟩ : ∃ y, at_.getD k 0 = y := ⟨_, rfl⟩
          rw [hye] at dy hy
          have HYE := hide hye
          clear hye
          by_cases hki : k = i
          · subst hki
            have kk : ((k : Int) != (k : Int)) = false := by simp
            go_wp2_with (fail)
            go_round
            case rel => exact ⟨k + 1, by omega, by go_num, u, d, rfl, rfl, hu, hd, hide (by rw [prodTo, skip, if_pos rfl, Int.mul_one]; exact HU.out), hide (by rw [prodTo, skip, if_pos rfl, Int.mul_one]; exact HD.out)⟩
            case measure => simp [intOf]; omega
          · have kk : ((k : Int) != (i : Int)) = true := by rw [bne_iff_ne]; omega
            have su := step_up (y := y) HP.out hu ⟨by omega, by omega⟩ HU.out
            have sd := step_down (z := y - x) HP.out hd HD.out
            have SU := hide su
            have SD := hide sd
            clear su sd
            go_wp2_with (fail)
            go_round
            case rel => exact ⟨k + 1, by omega, by go_num, _, _, rfl, rfl, SU.out.1, SD.out.1, hide (SU.out.2.trans (Eqm.of_eq (by rw [prodTo, skip, if_neg hki, HYE.out]; grind))), hide (SD.out.2.trans (Eqm.of_eq (by rw [prodTo, skip, if_neg hki, HYE.out])))⟩
            case measure => simp [intOf]; omega
        · obtain rfl : k = at_.length := by omega
          go_wp2_with (go_at_call 71; refine Calls.mono (power_ok p HP.out d (p - 2) wi ⟨by omega, by omega⟩ hd) ?_; rintro e w5 ⟨r, rfl, hr, hre, b5⟩)
          have st := step_sum HP.out hs hu hr HS.out HU.out hre
          go_roundw
          case rel => exact ⟨i + 1, by omega, by go_num, ⟨_, rfl, st.1, hide (st.2.trans (Eqm.trans ((Eqm.refl p _).add ((Eqm.refl p _).mul (HD.out.pow _))) (Eqm.of_eq (by rw [sumTo, HXE.out, HVE.out, show (p - 2).toNat = p.toNat - 2 by omega]; grind))))⟩, hBi.trans (b5.mono hBi.size)⟩
          case measure => simp [intOf]; omega
    · obtain rfl : i = at_.length := by omega
      go_wp2_with (fail)
      have hfin : s = joinV p at_ vs := Eqm.eq (HS.out.trans (Eqm.mod p _).symm) hs (mod_range p2 _)
      subst hfin
      go_ret2
      exact ⟨rfl, hBw⟩
end Go.Proofs.YtieeefgkdfijdaaDoor

/- Shamir's theorem in plain words: shares join to the secret; of one share less each secret comes once. No condition. -/
namespace Go.Proofs.YtieeefgkdfijdaaDoor

theorem inside_of {l : List Int} {p least : Int} (h : ∀ x, x ∈ l → least ≤ x ∧ x < p) : inside l p least = true := by
  unfold inside
  rw [Bool.not_eq_true', List.any_eq_false]
  intro x hx
  have := h x hx
  simp
  omega
/-- the place of a share -/
def xsOf (f n : Int) (i : Nat) : Int := (f % n + (i : Int)) % n
def atOf (f n : Int) (m : Nat) : List Int := (List.range m).map fun i => xsOf f n i + 1
def valsOf (p : Int) (l : List Int) (f n : Int) (m : Nat) : List Int := (List.range m).map fun i => horner p (xsOf f n i + 1) l
theorem atOf_length (f n : Int) (m : Nat) : (atOf f n m).length = m := by simp [atOf]
theorem valsOf_length (p : Int) (l : List Int) (f n : Int) (m : Nat) : (valsOf p l f n m).length = m := by simp [valsOf]
theorem atOf_succ (f n : Int) (m : Nat) : atOf f n (m + 1) = atOf f n m ++ [xsOf f n m + 1] := by simp [atOf, List.range_succ]
theorem valsOf_succ (p : Int) (l : List Int) (f n : Int) (m : Nat) : valsOf p l f n (m + 1) = valsOf p l f n m ++ [horner p (xsOf f n m + 1) l] := by simp [valsOf, List.range_succ]
theorem xsOf_range (f : Int) {n : Int} (hn : 1 ≤ n) (i : Nat) : 0 ≤ xsOf f n i ∧ xsOf f n i < n := ⟨Int.emod_nonneg _ (by omega), Int.emod_lt_of_pos _ (by omega)⟩
theorem atOf_get (f n : Int) {m i : Nat} (h : i < m) : (atOf f n m).getD i 0 = xsOf f n i + 1 := by
  unfold atOf
  simp [List.getD_eq_getElem?_getD, List.getElem?_map, List.getElem?_range h]
theorem valsOf_get (p : Int) (l : List Int) (f n : Int) {m i : Nat} (h : i < m) : (valsOf p l f n m).getD i 0 = horner p (xsOf f n i + 1) l := by
  unfold valsOf
  simp [List.getD_eq_getElem?_getD, List.getElem?_map, List.getElem?_range h]
theorem atOf_inside {p n : Int} (f : Int) (hn : 1 ≤ n) (hp : n ≤ p - 1) (m : Nat) : inside (atOf f n m) p 1 = true := inside_of fun x hx => by
  obtain ⟨i, _, rfl⟩ := List.mem_map.1 hx
  have := xsOf_range f hn i
  omega
theorem valsOf_inside {p : Int} (hp : 0 < p) (l : List Int) (f n : Int) (m : Nat) : inside (valsOf p l f n m) p 0 = true := inside_of fun x hx => by
  obtain ⟨i, _, rfl⟩ := List.mem_map.1 hx
  exact horner_range p _ hp l
theorem atOf_nodup (f : Int) {n : Int} (hn : 1 ≤ n) (m : Nat) (hm : (m : Int) ≤ n) : (atOf f n m).Nodup := by
  unfold atOf
  rw [List.Nodup, List.pairwise_map, List.pairwise_iff_getElem]
  intro i j hi hj hij e
  rw [List.getElem_range, List.getElem_range] at e
  rw [List.length_range] at hj
  have e1 : xsOf f n i = xsOf f n j := by omega
  unfold xsOf at e1
  have e2 := (Int.emod_eq_emod_iff_emod_sub_eq_zero).1 e1.symm
  rw [show f % n + (j : Int) - (f % n + (i : Int)) = (j : Int) - i by omega, Int.emod_eq_of_lt (by omega) (by omega)] at e2
  omega
theorem shamir_jErr {p n f : Int} (hf : fieldOf p = true) (hn : 1 ≤ n) (hp : n ≤ p - 1) (m : Nat) (h1 : 1 ≤ m) (h12 : m ≤ 12) (hm : (m : Int) ≤ n) (vs : List Int) (hv : inside vs p 0 = true) (hl : vs.length = m) : jErr p (atOf f n m) vs = 0 := by
  unfold jErr
  rw [if_neg (by rw [hf]; decide), if_neg (by rw [atOf_length]; omega), if_pos ⟨atOf_inside f hn hp m, hv, by rw [atOf_length, hl], atOf_nodup f hn m hm⟩]
theorem shamir_secret {p n f : Int} (hf : fieldOf p = true) (hn : 1 ≤ n) (hp : n ≤ p - 1) (l : List Int) (h1 : 1 ≤ l.length) (hm : (l.length : Int) ≤ n) (hin : inside l p 0 = true) : joinV p (atOf f n l.length) (valsOf p l f n l.length) = l.getD 0 0 := by
  have hpp := fieldOf_range hf
  have hX : ∀ i, i < (atOf f n l.length).length → 1 ≤ (atOf f n l.length).getD i 0 ∧ (atOf f n l.length).getD i 0 < p := fun i hi => inside_get (atOf_inside f hn hp _) i hi
  have hap := points_apart hpp.1 _ hX (atOf_nodup f hn _ hm)
  rw [atOf_length] at hap
  have ha := agree hf hap (lagr_poly p (fun i => (atOf f n l.length).getD i 0) (fun i => (valsOf p l f n l.length).getD i 0) l.length) (⟨l, Nat.le_refl _, fun _ => rfl⟩ : IsPoly l.length (fun x => poly x l)) (fun i hi => by
    refine (lagr_at hf _ hap i hi).trans ?_
    show Eqm p ((valsOf p l f n l.length).getD i 0) (poly ((atOf f n l.length).getD i 0) l)
    rw [valsOf_get p l f n hi, atOf_get f n hi, horner_eq]
    exact Eqm.mod p _) 0
  obtain ⟨g0, g1⟩ := inside_get hin 0 (by omega)
  unfold joinV
  rw [atOf_length]
  refine Eqm.eq (((Eqm.mod p _).trans ha).trans (Eqm.of_eq ?_)) (mod_range hpp.1 _) ⟨g0, g1⟩
  cases l with
  | nil => simp at h1
  | cons c cs => show poly 0 (c :: cs) = c; rw [poly_cons, Int.zero_mul, Int.add_zero]
theorem sumTo_first (g : Nat → Int) : ∀ n, sumTo g (n + 1) = g 0 + sumTo (fun i => g (i + 1)) n
  | 0 => by simp [sumTo]
  | n + 1 => by
    rw [sumTo, sumTo_first g n, sumTo]
    omega
theorem sumTo_congr {g h : Nat → Int} : ∀ n, (∀ i, i < n → g i = h i) → sumTo g n = sumTo h n
  | 0, _ => rfl
  | n + 1, e => by rw [sumTo, sumTo, sumTo_congr n (fun i hi => e i (by omega)), e n (by omega)]
theorem pow_ne {p : Int} (hf : fieldOf p = true) {a : Int} (ha : ¬ Eqm p a 0) : ∀ k : Nat, ¬ Eqm p (a ^ k) 0
  | 0 => by rw [Int.pow_zero]; exact one_ne hf
  | k + 1 => fun h => by
    rw [Int.pow_succ] at h
    exact ha (cancel hf (pow_ne hf ha k) h)
/-- what the share 0 counts for, and the rest -/
theorem lagr_first (p : Int) (X V : Nat → Int) (n : Nat) : lagr p X V (n + 1) 0 = V 0 * (prodTo (skip X 0 (X 0)) (n + 1) ^ (p.toNat - 2) * prodTo (skip X 0 0) (n + 1)) + sumTo (fun i => V (i + 1) * prodTo (skip X (i + 1) (X (i + 1))) (n + 1) ^ (p.toNat - 2) * prodTo (skip X (i + 1) 0) (n + 1)) n := by
  unfold lagr
  rw [sumTo_first]
  grind
theorem shamir_guess {p : Int} (hf : fieldOf p = true) (at_ vs : List Int) (hX : ∀ i, i < at_.length → 1 ≤ at_.getD i 0 ∧ at_.getD i 0 < p) (hn : at_.Nodup) (h1 : 1 ≤ at_.length) (hl : vs.length = at_.length) (guess : Int) (hg : 0 ≤ guess ∧ guess < p) :
    ∃ v0 : Int, (0 ≤ v0 ∧ v0 < p) ∧ ∀ v, 0 ≤ v → v < p → (joinV p at_ (vs.set 0 v) = guess ↔ v = v0) := by
  have hpp := fieldOf_range hf
  have hap := points_apart hpp.1 at_ hX hn
  obtain ⟨m, hm⟩ : ∃ m, at_.length = m + 1 := ⟨at_.length - 1, by omega⟩
  rw [hm] at hap
  obtain ⟨K, hK⟩ : ∃ K, K = prodTo (skip (fun i => at_.getD i 0) 0 (at_.getD 0 0)) (m + 1) ^ (p.toNat - 2) * prodTo (skip (fun i => at_.getD i 0) 0 0) (m + 1) := ⟨_, rfl⟩
  obtain ⟨R, hR⟩ : ∃ R, R = sumTo (fun i => vs.getD (i + 1) 0 * prodTo (skip (fun i => at_.getD i 0) (i + 1) (at_.getD (i + 1) 0)) (m + 1) ^ (p.toNat - 2) * prodTo (skip (fun i => at_.getD i 0) (i + 1) 0) (m + 1)) m := ⟨_, rfl⟩
  have hjv : ∀ v, Eqm p (joinV p at_ (vs.set 0 v)) (v * K + R) := fun v => by
    unfold joinV
    rw [hm]
    refine (Eqm.mod p _).trans (Eqm.of_eq ?_)
    rw [lagr_first, hK, hR, set_getD vs 0 0 v (by omega), if_pos rfl]
    congr 1
    refine sumTo_congr m fun i hi => ?_
    rw [set_getD vs 0 (i + 1) v (by omega), if_neg (by omega)]
  have hKne : ¬ Eqm p K 0 := by
    rw [hK]
    intro h
    refine prodTo_ne hf (skip (fun i => at_.getD i 0) 0 0) (m + 1) (fun i hi => ?_) (cancel hf (pow_ne hf (prodTo_ne hf (skip (fun i => at_.getD i 0) 0 (at_.getD 0 0)) (m + 1) (fun i hi => ?_)) _) h)
    · unfold skip
      split
      · exact one_ne hf
      · intro h2
        obtain ⟨a0, a1⟩ := hX i (by omega)
        have h3 : Eqm p (at_.getD i 0) 0 := by rwa [Int.sub_zero] at h2
        have := h3.eq ⟨by omega, a1⟩ ⟨by omega, by omega⟩
        omega
    · unfold skip
      split
      · exact one_ne hf
      · rename_i hi0
        exact apart_sym hap i 0 hi (by omega) hi0
  refine ⟨(guess - R) * K ^ (p.toNat - 2) % p, mod_range hpp.1 _, fun v h0 hvp => ?_⟩
  have hsol : Eqm p ((guess - R) * K ^ (p.toNat - 2) % p * K + R) guess := by
    have e1 := ((Eqm.mod p ((guess - R) * K ^ (p.toNat - 2))).mul (Eqm.refl p K)).add (Eqm.refl p R)
    have e2 := ((Eqm.refl p (guess - R)).mul (fermat_inv hf hKne)).add (Eqm.refl p R)
    refine e1.trans ((Eqm.of_eq ?_).trans (e2.trans (Eqm.of_eq ?_)))
    · grind
    · grind
  constructor
  · intro h
    have e1 : Eqm p (v * K + R) guess := (hjv v).symm.trans (Eqm.of_eq h)
    have e2 := (e1.trans hsol.symm).sub (Eqm.refl p R)
    rw [Int.add_sub_cancel, Int.add_sub_cancel, Int.mul_comm, Int.mul_comm _ K] at e2
    exact (cancel_left hf hKne e2).eq ⟨h0, hvp⟩ (mod_range hpp.1 _)
  · rintro rfl
    exact ((hjv _).trans hsol).eq (mod_range hpp.1 _) hg
end Go.Proofs.YtieeefgkdfijdaaDoor

/- The walk of demonref1.SameInts. No condition. -/
namespace Go.Proofs.YtieeefgkdfijdaaDoor
open Go.RowKit Go.Deep

/-- two lists are alike ahead of place k -/
structure AlikeTo (l m : List Int) (k : Nat) : Prop where
  out : ∀ j, j < k → l.getD j 0 = m.getD j 0
theorem AlikeTo.zero (l m : List Int) : AlikeTo l m 0 := ⟨fun j h => absurd h (by omega)⟩
theorem AlikeTo.succ {l m : List Int} {k : Nat} (h : AlikeTo l m k) (hk : l.getD k 0 = m.getD k 0) : AlikeTo l m (k + 1) :=
  ⟨fun j hj => by
    by_cases e : j = k
    · rw [e]; exact hk
    · exact h.out j (by omega)⟩
theorem AlikeTo.eq {l m : List Int} (h : AlikeTo l m l.length) (hl : l.length = m.length) : l = m := by
  apply List.ext_getElem hl
  intro i h1 h2
  have := h.out i h1
  simpa [List.getD_eq_getElem?_getD, h1, h2] using this

set_option maxHeartbeats 1000000 in
theorem same_any (A B : Option Addr) (l m : List Int) (c d : Nat) (w : World) (hA : Ints w A l) (hB : Ints w B m) :
    Calls Tryd.prog 21 #[.slice A l.length c, .slice B m.length d] w fun e w' => e = .returned (.bool (decide (l = m))) ∧ Below w.heap.size w w' := by
  have hl := hA.len
  have hm := hB.len
  by_cases he : l.length = m.length
  · have HE := hide he
    have h1 : ((l.length : Int) != (m.length : Int)) = false := by rw [he]; simp
    have h2 : (l.length != m.length) = false := by rw [he]; simp
    clear he
    go_enter Tryd.func21, Tryd.ntmps21
    go_wp2
    go_loopw [5] (fun i wr => ∃ k : Nat, k ≤ l.length ∧ i = .int .i64 k ∧ AlikeTo l m k ∧ Below w.heap.size w wr) (fun i _ => l.length - (intOf i).toNat)
    case atStart => exact ⟨0, Nat.zero_le _, rfl, AlikeTo.zero _ _, Below.refl _ _⟩
    case round =>
      obtain ⟨k, hk, rfl, ha, hb⟩ := hrel
      by_cases hlt : k < l.length
      · have hlt2 : k < m.length := by rw [← HE.out]; exact hlt
        obtain ⟨b, o, rfl, hbl, c1⟩ := (hA.below hb).at_ k hlt
        obtain ⟨b', o', rfl, hbl', c2⟩ := (hB.below hb).at_ k hlt2
        by_cases hx : l.getD k 0 = m.getD k 0
        · have ha' := ha.succ hx
          have hx' : ((l.getD k 0) != (m.getD k 0)) = false := by rw [hx]; simp
          generalize l.getD k 0 = x at c1 hx'
          generalize m.getD k 0 = y at c2 hx'
          clear hx
          go_wp2
          go_quiet (fail)
          go_wp2
          go_roundw
          case rel => exact ⟨k + 1, by omega, by go_num, ha', below_drewN' hb _⟩
          case measure => simp [intOf]; omega
        · have hne : l ≠ m := fun e => hx (by rw [e])
          have hx' : ((l.getD k 0) != (m.getD k 0)) = true := by simpa using hx
          generalize l.getD k 0 = x at c1 hx'
          generalize m.getD k 0 = y at c2 hx'
          clear hx
          go_wp2
          go_quiet (fail)
          go_wp2
          go_ret
          exact ⟨ret_bool (decide_eq_false hne).symm, below_drewN' hb _⟩
      · obtain rfl : k = l.length := by omega
        have heq := ha.eq HE.out
        have HQ := hide (decide_eq_true heq)
        clear heq
        go_wp2
        go_ret
        exact ⟨ret_bool HQ.out.symm, hb⟩
  · have h1 : ((l.length : Int) != (m.length : Int)) = true := by rw [bne_iff_ne]; omega
    have h2 : (l.length != m.length) = true := by rw [bne_iff_ne]; exact he
    have hne : l ≠ m := fun e => he (by rw [e])
    have HQ := hide (decide_eq_false hne)
    clear he hne
    go_enter Tryd.func21, Tryd.ntmps21
    go_wp2
    go_ret
    exact ⟨ret_bool HQ.out.symm, Below.refl _ _⟩
end Go.Proofs.YtieeefgkdfijdaaDoor

/- The walk of the law SecretShare. Condition: the variables read as laid. -/
namespace Go.Proofs.YtieeefgkdfijdaaDoor
open Go.RowKit Go.Deep Go.Proofs.YtieeefgkdfijdaaDoorW.PrintWords

theorem intsS_ok (A : Option Addr) (l : List Int) (c : Nat) (w : World) (hA : Ints w A l) (hc : l.length ≤ c) (hl : l.length ≤ 2000000) :
    Calls Tryd.prog 31 #[.slice A l.length c] w fun e w' => RetInts l w e w' := by
  refine (PSecretShare.demonlaw3_ints.calls A c l l w hA.toC hc (by unfold PSecretShare.demonlaw3_ints.f; simp; omega)).mono ?_
  rintro e w' ⟨v, rfl, hR, hb⟩
  obtain ⟨B, d, rfl, hI, hd⟩ := Ints.ofR hR
  exact ⟨B, d, rfl, hI, hd, hb⟩
theorem shareError_ok (A : Option Addr) (l : List Int) (c : Nat) (p n : Int) (w : World) (hA : Ints w A l) (hc : l.length ≤ c) (hl : l.length ≤ 2000000) :
    Calls Tryd.prog 33 #[.int .i64 p, .slice A l.length c, .int .i64 n] w fun e w' => e = .returned (.int .i64 (shErr p l n)) ∧ Below w.heap.size w w' := by
  refine (PSecretShare.demonref3_ShareError.calls 41 p A c l n (shErr p l n) w hA.toC hc (shareError_f p l n hl)).mono ?_
  rintro e w' ⟨rfl, h⟩
  exact ⟨rfl, drawn_below h⟩
theorem valueAt_ok (A : Option Addr) (l : List Int) (c : Nat) (p x : Int) (w : World) (hA : Ints w A l) (hc : l.length ≤ c) (hp : 2 ≤ p ∧ p ≤ 997) (hx : 0 ≤ x ∧ x ≤ 1000) (hl : l.length ≤ 2000000) (hin : inside l p 0 = true) :
    Calls Tryd.prog 34 #[.int .i64 p, .slice A l.length c, .int .i64 x] w fun e w' => e = .returned (.int .i64 (horner p x l)) ∧ Below w.heap.size w w' := by
  refine (PSecretShare.demonref3_ValueAt.calls (l.length + 1) p A c l x (horner p x l) w hA.toC hc (valueAt_f p l x hp hx hl hin)).mono ?_
  rintro e w' ⟨rfl, h⟩
  exact ⟨rfl, drawn_below h⟩
theorem shErr_nat (p : Int) (l : List Int) (n : Int) : ∃ c : Nat, shErr p l n = (c : Int) ∧ c ≤ 8 := by
  unfold shErr
  split
  · exact ⟨8, rfl, by decide⟩
  · split
    · exact ⟨2, rfl, by decide⟩
    · split
      · exact ⟨0, rfl, by decide⟩
      · exact ⟨3, rfl, by decide⟩
theorem shErr_zero {p n : Int} {l : List Int} (he : shErr p l n = 0) : (2 ≤ p ∧ p ≤ 997) ∧ (1 ≤ n ∧ n ≤ p - 1 ∧ n ≤ 24) ∧ inside l p 0 = true := by
  have hf : fieldOf p = true := by
    cases h : fieldOf p
    · unfold shErr at he; rw [if_pos h] at he; cases he
    · rfl
  have hr : ¬ (n < 1 ∨ n > p - 1 ∨ n > 24 ∨ l.length = 0 ∨ 12 < l.length) := fun h => by
    unfold shErr at he; rw [if_neg (by rw [hf]; decide), if_pos h] at he; cases he
  have hin : inside l p 0 = true := by
    cases h : inside l p 0
    · unfold shErr at he; rw [if_neg (by rw [hf]; decide), if_neg hr, h] at he; cases he
    · rfl
  exact ⟨fieldOf_range hf, by omega, hin⟩
/-- the first k shares -/
def sharesTo (p : Int) (l : List Int) (k : Nat) : List Int := (List.range k).map fun x => horner p ((x + 1 : Nat) : Int) l
theorem sharesTo_length (p : Int) (l : List Int) (k : Nat) : (sharesTo p l k).length = k := by simp [sharesTo]
theorem sharesTo_succ (p : Int) (l : List Int) (k : Nat) : sharesTo p l (k + 1) = sharesTo p l k ++ [horner p ((k : Int) + 1) l] := by simp [sharesTo, List.range_succ]
theorem same_self (A B : Option Addr) (l : List Int) (n c d : Nat) (w : World) (hA : Ints w A l) (hB : Ints w B l) (hn : l.length = n) :
    Calls Tryd.prog 21 #[.slice A n c, .slice B n d] w fun e w' => e = .returned (.bool true) ∧ Below w.heap.size w w' := by
  subst hn
  have := same_any A B l l c d w hA hB
  rwa [decide_eq_true rfl] at this
theorem sub238 {c : Nat} (h : c ∈ [2, 3, 8]) : c ∈ codes := by
  simp at h
  rcases h with rfl | rfl | rfl <;> simp [codes]

set_option maxRecDepth 100000 in
set_option maxHeartbeats 8000000 in
theorem law_share (p : Int) (A : Option Addr) (l : List Int) (cap : Nat) (n : Int) (w : World) (a : Nat → Addr) (hS : Sent codes w a) (hH : Handle w) (hA : Ints w A l) (hc : l.length ≤ cap) :
    Calls Tryd.prog 7 #[.int .i64 p, .slice A l.length cap, .int .i64 n] w fun e w' => e = .returned (.bool true) ∧ Below w.heap.size w w' := by
  have hlen := hA.len
  have HE : Hid (∀ w', Below w.heap.size w w' → Env [2, 3, 8] w' a) := hide fun w' hb => (hS.toEnv.sub (fun c h => sub238 h)).below hb
  have HPAD := hide (fun w' (hb : Below w.heap.size w w') => pad_any w' a ((HE.out w' hb).sub (fun c h => by simp at h ⊢; omega)))
  by_cases hlong : (l.length : Int) > 100
  · go_enter Tryd.func7, Tryd.ntmps7
    go_wp2_with (go_at_call 17; refine Calls.mono (HPAD.out _ (Below.refl _ _)) ?_; rintro e w1 ⟨rfl, hB1⟩)
    go_ret
    exact ⟨rfl, hB1⟩
  · have hl2 : l.length ≤ 100 := by omega
    have HCI := hide (fun w' (hb : Below w.heap.size w w') => intsS_ok A l cap w' (hA.below hb) hc (by omega))
    have HSE := hide (fun w' (hb : Below w.heap.size w w') => shareError_ok A l cap p n w' (hA.below hb) hc (by omega))
    by_cases h0 : shErr p l n = 0
    · obtain ⟨hp, hn, hin⟩ := shErr_zero h0
      have HVA := hide (fun (x : Int) w' (hx : 0 ≤ x ∧ x ≤ 1000) (hb : Below w.heap.size w w') => valueAt_ok A l cap p x w' (hA.below hb) hc hp hx (by omega) hin)
      have HSH := hide (fun (B : Option Addr) (c : Nat) w' (hI : Ints w' B l) (hb : Below w.heap.size w w') => share_ok B l c p n w' a ((HE.out w' hb).sub (fun c h => by simp at h ⊢; omega)) hI h0)
      have HCD := hide (fun w' (hb : Below w.heap.size w w') => coded_any w' a (hS.below hb) (hH.below hb) 0 (by decide) 0)
      rw [h0] at HSE
      obtain ⟨n1, n2, n3⟩ := hn
      clear h0 hin hp
      go_enter Tryd.func7, Tryd.ntmps7
      go_wp2_with (first
        | (go_at_call 17; refine Calls.mono (HPAD.out _ (Below.refl _ _)) ?_; rintro e w1 ⟨rfl, hB1⟩)
        | (go_at_call 33; refine Calls.mono (HSE.out w1 hB1) ?_; rintro e w2 ⟨rfl, b2⟩; have hB2 := below_trans hB1 b2))
      go_loopw [9, 10] (fun v xv wr => ∃ k : Nat, (k : Int) ≤ n ∧ xv = .int .i64 ((k : Int) + 1) ∧ wr.ownsRow w2.heap.size 3 1 v k (intCells (sharesTo p l k)) ∧ Below w2.heap.size w2 wr) (fun _ xv _ => (n + 1 - intOf xv).toNat)
      case atStart => exact ⟨0, by omega, rfl, nil_own _ _ _ _, Below.refl _ _⟩
      case round =>
        obtain ⟨k, hk, rfl, hown, hBk⟩ := hrel
        obtain ⟨wi, rfl⟩ : ∃ wi : World, wi = wr := ⟨_, rfl⟩
        obtain ⟨A9, c9, rfl, hc9, _⟩ := own_shape hown
        have hBi := below_trans hB2 hBk
        have HO := hide hown
        clear hown
        by_cases hkn : (k : Int) + 1 ≤ n
        · have hs := sharesTo_succ p l k
          generalize hyy : horner p ((k : Int) + 1) l = yy at hs
          have HV := HVA.out ((k : Int) + 1) wi ⟨by omega, by omega⟩ hBi
          rw [hyy] at HV
          have HVV := hide HV
          have HS := hide hs
          have HC3 := hide (show ((sharesTo p l k).length + 1) * 8 ≤ 140737488355328 by rw [sharesTo_length]; omega)
          clear hyy hs HV
          go_wp2_with (first
            | (go_at_call 34; refine Calls.mono HVV.out ?_; rintro e w4 ⟨rfl, b4⟩; have HOA := hide (HO.out.kept (grown_of_below b4) (by cases (Value.slice A9 k c9).ownBlock <;> simp)); have HSZ := hide (Nat.le_succ_of_le (Nat.le_trans hBk.size b4.size)))
            | (at_builtin; refine wp_app_ints _ rfl _ _ rfl w2.heap.size (.slice A9 k c9) _ rfl (own_list (HOA.out.alloc _)) _ 1 1 [yy] rfl rfl (ints_one (b := w4.heap.size) (by simp) (by simp)) HC3.out (by rw [World.size_alloc]; exact HSZ.out) ?_; intro A' c' w5 hc5 ho5 hg5 hob5))
          have hb5 : Below w2.heap.size w2 w5 := ((hBk.trans (b4.mono hBk.size)).alloc (Nat.le_trans hBk.size b4.size) _).grown hg5 (by rw [World.size_alloc]; exact HSZ.out) (fun j hj => (HOA.out.lt j hj).1)
          rw [← HS.out, sharesTo_length] at ho5
          go_roundw
          case rel => exact ⟨k + 1, by omega, by go_num, by rw [sharesTo_length]; exact ho5, hb5⟩
          case measure => simp [intOf]; omega
        · obtain rfl : n = (k : Int) := by omega
          have hIw : Ints wi A9 (sharesTo p l k) := Ints.own (c := c9) (e := 3) (base := w2.heap.size) (by rw [sharesTo_length]; exact HO.out)
          have HIW := hide hIw
          clear hIw
          have hsh := fun B c w' hI hb => HSH.out B c w' hI hb
          simp only [RetShare, Int.toNat_natCast] at hsh
          have HS2 := hide hsh
          clear hsh
          go_wp2_with (first
            | (go_at_call 31; refine Calls.mono (HCI.out wi hBi) ?_; rintro e w3 ⟨B, d, rfl, hI, hd, b3⟩; have hB3 := below_trans hBi b3)
            | (go_at_call 35; refine Calls.mono (HS2.out B d w3 hI hB3) ?_; rintro e w4 ⟨B4, d4, rfl, hI4, hd4, b4⟩; have hB4 := below_trans hB3 b4)
            | (go_at_call 24; refine Calls.mono (HCD.out w4 hB4) ?_; rintro e w5 ⟨rfl, b5⟩; have hB5 := below_trans hB4 b5)
            | (go_at_call 21; refine Calls.mono (same_self B4 A9 (sharesTo p l k) k d4 c9 w5 (hI4.below b5) (HIW.out.below (below_trans b3 (below_trans b4 b5))) (sharesTo_length p l k)) ?_; rintro e w6 ⟨rfl, b6⟩; have hB6 := below_trans hB5 b6))
          go_ret
          exact ⟨rfl, hB6⟩
    · obtain ⟨c, hc', hc8⟩ := shErr_nat p l n
      have hc0 : 0 < c := by
        rcases Nat.eq_zero_or_pos c with h | h
        · subst h; exact absurd hc' h0
        · exact h
      have hsh := fun (B : Option Addr) (x : Nat) w' (hI : Ints w' B l) (hb : Below w.heap.size w w') => share_err B l x p n w' a (HE.out w' hb) hI h0
      have hcd := fun w' (hb : Below w.heap.size w w') => coded_any w' a (hS.below hb) (hH.below hb) c hc8 c
      rw [hc'] at hsh HSE
      rw [decide_eq_true rfl] at hcd
      have he : errC a (c : Int) = .iface 161 (.pointer (some (a c))) := errC_pos a c (by omega)
      rw [he] at hsh hcd
      have HSH := hide hsh
      have HCD := hide hcd
      have HSM := hide (fun w' => same_any none none [] [] 0 0 w' (Ints.nil _ _) (Ints.nil _ _))
      clear hsh hcd he hc' h0
      have hci : 0 < (c : Int) := by omega
      have hcn : ((c : Int) == 0) = false := by rw [beq_eq_false_iff_ne]; omega
      go_enter Tryd.func7, Tryd.ntmps7
      go_wp2_with (first
        | (go_at_call 17; refine Calls.mono (HPAD.out _ (Below.refl _ _)) ?_; rintro e w1 ⟨rfl, hB1⟩)
        | (go_at_call 33; refine Calls.mono (HSE.out w1 hB1) ?_; rintro e w2 ⟨rfl, b2⟩; have hB2 := below_trans hB1 b2)
        | (go_at_call 31; refine Calls.mono (HCI.out w2 hB2) ?_; rintro e w3 ⟨B, d, rfl, hI, hd, b3⟩; have hB3 := below_trans hB2 b3)
        | (go_at_call 35; refine Calls.mono (HSH.out B d w3 hI hB3) ?_; rintro e w4 ⟨rfl, b4⟩; have hB4 := below_trans hB3 b4)
        | (go_at_call 24; refine Calls.mono (HCD.out w4 hB4) ?_; rintro e w5 ⟨rfl, b5⟩; have hB5 := below_trans hB4 b5)
        | (go_at_call 21; refine Calls.mono (HSM.out w5) ?_; rintro e w6 ⟨rfl, b6⟩; have hB6 := below_trans hB5 b6))
      go_ret
      exact ⟨rfl, hB6⟩
end Go.Proofs.YtieeefgkdfijdaaDoor

/- The walk of secret.Join at bad arguments, and of the law SecretJoin. Condition: the variables read as laid. -/
namespace Go.Proofs.YtieeefgkdfijdaaDoor
open Go.RowKit Go.Deep Go.Proofs.YtieeefgkdfijdaaDoorW.PrintWords

set_option maxRecDepth 100000 in
set_option maxHeartbeats 4000000 in
theorem join_err (A B : Option Addr) (at_ vs : List Int) (c d : Nat) (p : Int) (w : World) (a : Nat → Addr) (hE : Env [2, 3, 8] w a) (hA : Ints w A at_) (hB : Ints w B vs) (he : jErr p at_ vs ≠ 0) (hl : at_.length ≤ 2000000) :
    Calls Tryd.prog 45 #[.int .i64 p, .slice A at_.length c, .slice B vs.length d] w fun e w' => e = .returned (.tuple #[.int .i64 0, errC a (jErr p at_ vs)]) ∧ Below w.heap.size w w' := by
  have HF := hide (fun w' => fieldC_ok p w')
  have HE1 := hide (fun w' (hb : Below w.heap.size w w') => elements_any A at_ c p 1 w' (hA.below hb))
  have HE2 := hide (fun w' (hb : Below w.heap.size w w') => elements_any B vs d p 0 w' (hB.below hb))
  have HEN := hide (fun w' (hb : Below w.heap.size w w') => (⟨(hE.below hb).cell 2 (by decide), (hE.below hb).cell 3 (by decide), (hE.below hb).cell 8 (by decide)⟩ : w'.cell? ⟨glob 2, 0, none⟩ = _ ∧ w'.cell? ⟨glob 3, 0, none⟩ = _ ∧ w'.cell? ⟨glob 8, 0, none⟩ = _))
  simp only [glob] at HEN
  have hlen := hA.len
  have hlenv := hB.len
  obtain ⟨r, hr⟩ : ∃ r, jErr p at_ vs = r := ⟨_, rfl⟩
  rw [hr] at he ⊢
  unfold jErr at hr
  cases hf : fieldOf p
  · rw [if_pos hf] at hr
    rw [hf] at HF
    subst hr
    clear hf he
    have HCL : True := trivial
    go_enter Tryd.func45, Tryd.ntmps45
    go_wp2_with (first
      | (go_at_call 63; refine Calls.mono (HF.out _) ?_; rintro e w1 ⟨rfl, hB1⟩; obtain ⟨k12, k13, k18⟩ := HEN.out w1 hB1)
      | (go_at_call 50; refine Calls.mono (HCL.out w1 hB1) ?_; rintro e w2 ⟨g, dd, rfl, hg2, hd2, ho2, b2⟩; have hg0 := Nat.le_trans hB1.size hg2)
      | (go_at_call 69; refine Calls.mono (sort_ok w1.heap.size g at_.length dd at_ w1 w2 hg2 ho2 b2 (by omega)) ?_; rintro e w3 ⟨rfl, ho3, b3⟩; have hB3 := below_trans hB1 b3; obtain ⟨k32, k33, k38⟩ := HEN.out w3 hB3)
      | (go_at_call 64; refine Calls.mono (HE1.out w3 hB3) ?_; rintro e w30 ⟨rfl, b30⟩; have hB30 := below_trans hB3 b30; obtain ⟨k42, k43, k48⟩ := HEN.out w30 hB30; clear HE1)
      | (go_at_call 64; refine Calls.mono (HE2.out w30 hB30) ?_; rintro e w31 ⟨rfl, b31⟩; have hB31 := below_trans hB30 b31; have ho31 := own_below (own_below ho3 b30) b31; obtain ⟨k52, k53, k58⟩ := HEN.out w31 hB31)
      | (go_at_call 70; refine Calls.mono (compact_ok w1.heap.size g at_.length dd (sorted at_) w31 w31 hg2 hd2 ho31 (Below.refl _ _) (by rw [sorted_length]; omega)) ?_; rintro e w4 ⟨rfl, b4⟩; have hB4 := below_of1 hB31 hB1 b4; obtain ⟨k62, k63, k68⟩ := HEN.out w4 hB4))
    go_region
    all_goals go_wp2_with (fail)
    all_goals go_ret2
    all_goals exact ⟨rfl, below_drewN' hB1 1⟩
  · rw [if_neg (by rw [hf]; decide)] at hr
    rw [hf] at HF
    by_cases c1 : (at_.length : Int) < 1
    · rw [if_pos (.inl (by omega))] at hr
      subst hr
      clear hf he
      go_enter Tryd.func45, Tryd.ntmps45
      go_wp2_with (first
        | (go_at_call 63; refine Calls.mono (HF.out _) ?_; rintro e w1 ⟨rfl, hB1⟩; obtain ⟨k12, k13, k18⟩ := HEN.out w1 hB1)
        | (go_at_call 50; refine Calls.mono (HCL.out w1 hB1) ?_; rintro e w2 ⟨g, dd, rfl, hg2, hd2, ho2, b2⟩; have hg0 := Nat.le_trans hB1.size hg2)
        | (go_at_call 69; refine Calls.mono (sort_ok w1.heap.size g at_.length dd at_ w1 w2 hg2 ho2 b2 (by omega)) ?_; rintro e w3 ⟨rfl, ho3, b3⟩; have hB3 := below_trans hB1 b3; obtain ⟨k32, k33, k38⟩ := HEN.out w3 hB3)
        | (go_at_call 64; refine Calls.mono (HE1.out w3 hB3) ?_; rintro e w30 ⟨rfl, b30⟩; have hB30 := below_trans hB3 b30; obtain ⟨k42, k43, k48⟩ := HEN.out w30 hB30; clear HE1)
        | (go_at_call 64; refine Calls.mono (HE2.out w30 hB30) ?_; rintro e w31 ⟨rfl, b31⟩; have hB31 := below_trans hB30 b31; have ho31 := own_below (own_below ho3 b30) b31; obtain ⟨k52, k53, k58⟩ := HEN.out w31 hB31)
        | (go_at_call 70; refine Calls.mono (compact_ok w1.heap.size g at_.length dd (sorted at_) w31 w31 hg2 hd2 ho31 (Below.refl _ _) (by rw [sorted_length]; omega)) ?_; rintro e w4 ⟨rfl, b4⟩; have hB4 := below_of1 hB31 hB1 b4; obtain ⟨k62, k63, k68⟩ := HEN.out w4 hB4))
      go_region
      all_goals go_wp2_with (fail)
      all_goals go_ret2
      all_goals exact ⟨rfl, below_drewN' hB1 1⟩
    by_cases c2 : 12 < (at_.length : Int)
    · rw [if_pos (.inr (by omega))] at hr
      subst hr
      clear hf he
      have c1' : 1 ≤ (at_.length : Int) := by omega
      go_enter Tryd.func45, Tryd.ntmps45
      go_wp2_with (first
        | (go_at_call 63; refine Calls.mono (HF.out _) ?_; rintro e w1 ⟨rfl, hB1⟩; obtain ⟨k12, k13, k18⟩ := HEN.out w1 hB1)
        | (go_at_call 50; refine Calls.mono (HCL.out w1 hB1) ?_; rintro e w2 ⟨g, dd, rfl, hg2, hd2, ho2, b2⟩; have hg0 := Nat.le_trans hB1.size hg2)
        | (go_at_call 69; refine Calls.mono (sort_ok w1.heap.size g at_.length dd at_ w1 w2 hg2 ho2 b2 (by omega)) ?_; rintro e w3 ⟨rfl, ho3, b3⟩; have hB3 := below_trans hB1 b3; obtain ⟨k32, k33, k38⟩ := HEN.out w3 hB3)
        | (go_at_call 64; refine Calls.mono (HE1.out w3 hB3) ?_; rintro e w30 ⟨rfl, b30⟩; have hB30 := below_trans hB3 b30; obtain ⟨k42, k43, k48⟩ := HEN.out w30 hB30; clear HE1)
        | (go_at_call 64; refine Calls.mono (HE2.out w30 hB30) ?_; rintro e w31 ⟨rfl, b31⟩; have hB31 := below_trans hB30 b31; have ho31 := own_below (own_below ho3 b30) b31; obtain ⟨k52, k53, k58⟩ := HEN.out w31 hB31)
        | (go_at_call 70; refine Calls.mono (compact_ok w1.heap.size g at_.length dd (sorted at_) w31 w31 hg2 hd2 ho31 (Below.refl _ _) (by rw [sorted_length]; omega)) ?_; rintro e w4 ⟨rfl, b4⟩; have hB4 := below_of1 hB31 hB1 b4; obtain ⟨k62, k63, k68⟩ := HEN.out w4 hB4))
      go_region
      all_goals go_wp2_with (fail)
      all_goals go_ret2
      all_goals exact ⟨rfl, below_drewN' hB1 1⟩
    rw [if_neg (by omega)] at hr
    have l1 : 1 ≤ (at_.length : Int) := by omega
    have l12 : (at_.length : Int) ≤ 12 := by omega
    have h3 : r = 3 ∧ ¬ (inside at_ p 1 = true ∧ inside vs p 0 = true ∧ at_.length = vs.length ∧ at_.Nodup) := by
      rcases Classical.em (inside at_ p 1 = true ∧ inside vs p 0 = true ∧ at_.length = vs.length ∧ at_.Nodup) with h | h
      · rw [if_pos h] at hr; exact absurd hr.symm he
      · rw [if_neg h] at hr; exact ⟨hr.symm, h⟩
    obtain ⟨rfl, hn⟩ := h3
    clear hr he hf c1 c2
    have HCL := hide (fun w' (hb : Below w.heap.size w w') => clone_ok A at_ c w' (hA.below hb) (by omega) (by omega))
    by_cases e1 : (vs.length : Int) = at_.length
    · have ne1 : ((vs.length : Int) != (at_.length : Int)) = false := by rw [e1]; simp
      cases q1 : inside at_ p 1
      · rw [q1] at HE1
        have HX := hide e1
        clear hn q1 e1
        go_enter Tryd.func45, Tryd.ntmps45
        go_wp2_with (first
          | (go_at_call 63; refine Calls.mono (HF.out _) ?_; rintro e w1 ⟨rfl, hB1⟩; obtain ⟨k12, k13, k18⟩ := HEN.out w1 hB1)
          | (go_at_call 50; refine Calls.mono (HCL.out w1 hB1) ?_; rintro e w2 ⟨g, dd, rfl, hg2, hd2, ho2, b2⟩; have hg0 := Nat.le_trans hB1.size hg2)
          | (go_at_call 69; refine Calls.mono (sort_ok w1.heap.size g at_.length dd at_ w1 w2 hg2 ho2 b2 (by omega)) ?_; rintro e w3 ⟨rfl, ho3, b3⟩; have hB3 := below_trans hB1 b3; obtain ⟨k32, k33, k38⟩ := HEN.out w3 hB3)
          | (go_at_call 64; refine Calls.mono (HE1.out w3 hB3) ?_; rintro e w30 ⟨rfl, b30⟩; have hB30 := below_trans hB3 b30; obtain ⟨k42, k43, k48⟩ := HEN.out w30 hB30; clear HE1)
          | (go_at_call 64; refine Calls.mono (HE2.out w30 hB30) ?_; rintro e w31 ⟨rfl, b31⟩; have hB31 := below_trans hB30 b31; have ho31 := own_below (own_below ho3 b30) b31; obtain ⟨k52, k53, k58⟩ := HEN.out w31 hB31)
          | (go_at_call 70; refine Calls.mono (compact_ok w1.heap.size g at_.length dd (sorted at_) w31 w31 hg2 hd2 ho31 (Below.refl _ _) (by rw [sorted_length]; omega)) ?_; rintro e w4 ⟨rfl, b4⟩; have hB4 := below_of1 hB31 hB1 b4; obtain ⟨k62, k63, k68⟩ := HEN.out w4 hB4))
        go_region
        all_goals go_wp2_with (fail)
        all_goals go_ret2
        all_goals exact ⟨rfl, below_drewN' hB30 1⟩
      · cases q2 : inside vs p 0
        · rw [q1] at HE1
          rw [q2] at HE2
          have HX := hide e1
          clear hn q1 q2 e1
          go_enter Tryd.func45, Tryd.ntmps45
          go_wp2_with (first
            | (go_at_call 63; refine Calls.mono (HF.out _) ?_; rintro e w1 ⟨rfl, hB1⟩; obtain ⟨k12, k13, k18⟩ := HEN.out w1 hB1)
            | (go_at_call 50; refine Calls.mono (HCL.out w1 hB1) ?_; rintro e w2 ⟨g, dd, rfl, hg2, hd2, ho2, b2⟩; have hg0 := Nat.le_trans hB1.size hg2)
            | (go_at_call 69; refine Calls.mono (sort_ok w1.heap.size g at_.length dd at_ w1 w2 hg2 ho2 b2 (by omega)) ?_; rintro e w3 ⟨rfl, ho3, b3⟩; have hB3 := below_trans hB1 b3; obtain ⟨k32, k33, k38⟩ := HEN.out w3 hB3)
            | (go_at_call 64; refine Calls.mono (HE1.out w3 hB3) ?_; rintro e w30 ⟨rfl, b30⟩; have hB30 := below_trans hB3 b30; obtain ⟨k42, k43, k48⟩ := HEN.out w30 hB30; clear HE1)
            | (go_at_call 64; refine Calls.mono (HE2.out w30 hB30) ?_; rintro e w31 ⟨rfl, b31⟩; have hB31 := below_trans hB30 b31; have ho31 := own_below (own_below ho3 b30) b31; obtain ⟨k52, k53, k58⟩ := HEN.out w31 hB31)
            | (go_at_call 70; refine Calls.mono (compact_ok w1.heap.size g at_.length dd (sorted at_) w31 w31 hg2 hd2 ho31 (Below.refl _ _) (by rw [sorted_length]; omega)) ?_; rintro e w4 ⟨rfl, b4⟩; have hB4 := below_of1 hB31 hB1 b4; obtain ⟨k62, k63, k68⟩ := HEN.out w4 hB4))
          go_region
          all_goals go_wp2_with (fail)
          all_goals go_ret2
          all_goals exact ⟨rfl, below_drewN' hB31 1⟩
        · rw [q1] at HE1
          rw [q2] at HE2
          have hnn : ¬ at_.Nodup := fun h => hn ⟨q1, q2, by omega, h⟩
          have hlt := (compact_less at_).2 hnn
          have hltd : decide ((Lib.compact (sorted at_)).length < at_.length) = true := decide_eq_true hlt
          have HX := hide e1
          clear hn q1 q2 e1 hnn
          go_enter Tryd.func45, Tryd.ntmps45
          go_wp2_with (first
            | (go_at_call 63; refine Calls.mono (HF.out _) ?_; rintro e w1 ⟨rfl, hB1⟩; obtain ⟨k12, k13, k18⟩ := HEN.out w1 hB1)
            | (go_at_call 50; refine Calls.mono (HCL.out w1 hB1) ?_; rintro e w2 ⟨g, dd, rfl, hg2, hd2, ho2, b2⟩; have hg0 := Nat.le_trans hB1.size hg2)
            | (go_at_call 69; refine Calls.mono (sort_ok w1.heap.size g at_.length dd at_ w1 w2 hg2 ho2 b2 (by omega)) ?_; rintro e w3 ⟨rfl, ho3, b3⟩; have hB3 := below_trans hB1 b3; obtain ⟨k32, k33, k38⟩ := HEN.out w3 hB3)
            | (go_at_call 64; refine Calls.mono (HE1.out w3 hB3) ?_; rintro e w30 ⟨rfl, b30⟩; have hB30 := below_trans hB3 b30; obtain ⟨k42, k43, k48⟩ := HEN.out w30 hB30; clear HE1)
            | (go_at_call 64; refine Calls.mono (HE2.out w30 hB30) ?_; rintro e w31 ⟨rfl, b31⟩; have hB31 := below_trans hB30 b31; have ho31 := own_below (own_below ho3 b30) b31; obtain ⟨k52, k53, k58⟩ := HEN.out w31 hB31)
            | (go_at_call 70; refine Calls.mono (compact_ok w1.heap.size g at_.length dd (sorted at_) w31 w31 hg2 hd2 ho31 (Below.refl _ _) (by rw [sorted_length]; omega)) ?_; rintro e w4 ⟨rfl, b4⟩; have hB4 := below_of1 hB31 hB1 b4; obtain ⟨k62, k63, k68⟩ := HEN.out w4 hB4))
          go_region
          all_goals go_wp2_with (fail)
          all_goals go_ret2
          all_goals exact ⟨rfl, below_drewN' hB4 1⟩
    · have ne1 : ((vs.length : Int) != (at_.length : Int)) = true := by rw [bne_iff_ne]; exact e1
      have HX := hide e1
      clear hn e1
      go_enter Tryd.func45, Tryd.ntmps45
      go_wp2_with (first
        | (go_at_call 63; refine Calls.mono (HF.out _) ?_; rintro e w1 ⟨rfl, hB1⟩; obtain ⟨k12, k13, k18⟩ := HEN.out w1 hB1)
        | (go_at_call 50; refine Calls.mono (HCL.out w1 hB1) ?_; rintro e w2 ⟨g, dd, rfl, hg2, hd2, ho2, b2⟩; have hg0 := Nat.le_trans hB1.size hg2)
        | (go_at_call 69; refine Calls.mono (sort_ok w1.heap.size g at_.length dd at_ w1 w2 hg2 ho2 b2 (by omega)) ?_; rintro e w3 ⟨rfl, ho3, b3⟩; have hB3 := below_trans hB1 b3; obtain ⟨k32, k33, k38⟩ := HEN.out w3 hB3)
        | (go_at_call 64; refine Calls.mono (HE1.out w3 hB3) ?_; rintro e w30 ⟨rfl, b30⟩; have hB30 := below_trans hB3 b30; obtain ⟨k42, k43, k48⟩ := HEN.out w30 hB30; clear HE1)
        | (go_at_call 64; refine Calls.mono (HE2.out w30 hB30) ?_; rintro e w31 ⟨rfl, b31⟩; have hB31 := below_trans hB30 b31; have ho31 := own_below (own_below ho3 b30) b31; obtain ⟨k52, k53, k58⟩ := HEN.out w31 hB31)
        | (go_at_call 70; refine Calls.mono (compact_ok w1.heap.size g at_.length dd (sorted at_) w31 w31 hg2 hd2 ho31 (Below.refl _ _) (by rw [sorted_length]; omega)) ?_; rintro e w4 ⟨rfl, b4⟩; have hB4 := below_of1 hB31 hB1 b4; obtain ⟨k62, k63, k68⟩ := HEN.out w4 hB4))
      go_region
      all_goals go_wp2_with (fail)
      all_goals go_ret2
      all_goals exact ⟨rfl, below_drewN' hB3 1⟩
theorem jErr_nat (p : Int) (l m : List Int) : ∃ c : Nat, jErr p l m = (c : Int) ∧ c ≤ 8 := by
  unfold jErr
  split
  · exact ⟨8, rfl, by decide⟩
  · split
    · exact ⟨2, rfl, by decide⟩
    · split
      · exact ⟨0, rfl, by decide⟩
      · exact ⟨3, rfl, by decide⟩
set_option maxRecDepth 100000 in
set_option maxHeartbeats 8000000 in
theorem law_join (p : Int) (A B : Option Addr) (at_ vs : List Int) (cap d : Nat) (w : World) (a : Nat → Addr) (hS : Sent codes w a) (hH : Handle w) (hA : Ints w A at_) (hB : Ints w B vs) (hc : at_.length ≤ cap) (hd : vs.length ≤ d) :
    Calls Tryd.prog 11 #[.int .i64 p, .slice A at_.length cap, .slice B vs.length d] w fun e w' => e = .returned (.bool true) ∧ Below w.heap.size w w' := by
  have hlen := hA.len
  have hlenv := hB.len
  have HE : Hid (∀ w', Below w.heap.size w w' → Env [2, 3, 8] w' a) := hide fun w' hb => (hS.toEnv.sub (fun c h => sub238 h)).below hb
  have HPAD := hide (fun w' (hb : Below w.heap.size w w') => pad_any w' a ((HE.out w' hb).sub (fun c h => by simp at h ⊢; omega)))
  by_cases hlong : 100 < (at_.length : Int)
  · go_enter Tryd.func11, Tryd.ntmps11
    go_wp2_with (go_at_call 17; refine Calls.mono (HPAD.out _ (Below.refl _ _)) ?_; rintro e w1 ⟨rfl, hB1⟩)
    go_ret
    exact ⟨rfl, hB1⟩
  by_cases hlong2 : 100 < (vs.length : Int)
  · go_enter Tryd.func11, Tryd.ntmps11
    go_wp2_with (go_at_call 17; refine Calls.mono (HPAD.out _ (Below.refl _ _)) ?_; rintro e w1 ⟨rfl, hB1⟩)
    go_ret
    exact ⟨rfl, hB1⟩
  have HC1 := hide (fun w' (hb : Below w.heap.size w w') => intsS_ok A at_ cap w' (hA.below hb) hc (by omega))
  have HC2 := hide (fun w' (hb : Below w.heap.size w w') => intsS_ok B vs d w' (hB.below hb) hd (by omega))
  have HJE := hide (fun w' (hb : Below w.heap.size w w') => joinError_ok A at_ cap p B vs d w' (hA.below hb) (hB.below hb) hc hd (by omega) (by omega))
  by_cases h0 : jErr p at_ vs = 0
  · have HJO := hide (fun w' (hb : Below w.heap.size w w') => joinOf_ok A B at_ vs cap d p w' (hA.below hb) (hB.below hb) hc hd h0)
    have HJN := hide (fun (A' B' : Option Addr) (c' d' : Nat) w' (h1 : Ints w' A' at_) (h2 : Ints w' B' vs) => join_ok A' B' at_ vs c' d' p w' h1 h2 h0)
    have HCD := hide (fun w' (hb : Below w.heap.size w w') => coded_any w' a (hS.below hb) (hH.below hb) 0 (by decide) 0)
    rw [h0] at HJE
    clear h0
    go_enter Tryd.func11, Tryd.ntmps11
    go_wp2_with (first
      | (go_at_call 17; refine Calls.mono (HPAD.out _ (Below.refl _ _)) ?_; rintro e w1 ⟨rfl, hB1⟩)
      | (go_at_call 46; refine Calls.mono (HJE.out w1 hB1) ?_; rintro e w2 ⟨rfl, b2⟩; have hB2 := below_trans hB1 b2)
      | (go_at_call 47; refine Calls.mono (HJO.out w2 hB2) ?_; rintro e w3 ⟨rfl, b3⟩; have hB3 := below_trans hB2 b3)
      | (go_at_call 31; refine Calls.mono (HC1.out w3 hB3) ?_; rintro e w4 ⟨A4, c4, rfl, hI4, hc4, b4⟩; have hB4 := below_trans hB3 b4; clear HC1)
      | (go_at_call 31; refine Calls.mono (HC2.out w4 hB4) ?_; rintro e w5 ⟨A5, c5, rfl, hI5, hc5, b5⟩; have hB5 := below_trans hB4 b5)
      | (go_at_call 45; refine Calls.mono (HJN.out A4 A5 c4 c5 w5 (hI4.below b5) hI5) ?_; rintro e w6 ⟨rfl, b6⟩; have hB6 := below_trans hB5 b6)
      | (go_at_call 24; refine Calls.mono (HCD.out w6 hB6) ?_; rintro e w7 ⟨rfl, b7⟩; have hB7 := below_trans hB6 b7))
    go_ret
    exact ⟨rfl, hB7⟩
  · obtain ⟨c, hc', hc8⟩ := jErr_nat p at_ vs
    have hc0 : 0 < c := by
      rcases Nat.eq_zero_or_pos c with h | h
      · subst h; exact absurd hc' h0
      · exact h
    have hjn := fun (A' B' : Option Addr) (c' d' : Nat) w' (h1 : Ints w' A' at_) (h2 : Ints w' B' vs) (hb : Below w.heap.size w w') => join_err A' B' at_ vs c' d' p w' a (HE.out w' hb) h1 h2 h0 (by omega)
    have hcd := fun w' (hb : Below w.heap.size w w') => coded_any w' a (hS.below hb) (hH.below hb) c hc8 c
    rw [hc'] at hjn HJE
    rw [decide_eq_true rfl] at hcd
    have he : errC a (c : Int) = .iface 161 (.pointer (some (a c))) := errC_pos a c (by omega)
    rw [he] at hjn hcd
    have HJN := hide hjn
    have HCD := hide hcd
    clear hjn hcd he hc' h0
    have hci : 0 < (c : Int) := by omega
    have hcn : ((c : Int) == 0) = false := by rw [beq_eq_false_iff_ne]; omega
    go_enter Tryd.func11, Tryd.ntmps11
    go_wp2_with (first
      | (go_at_call 17; refine Calls.mono (HPAD.out _ (Below.refl _ _)) ?_; rintro e w1 ⟨rfl, hB1⟩)
      | (go_at_call 46; refine Calls.mono (HJE.out w1 hB1) ?_; rintro e w3 ⟨rfl, b2⟩; have hB3 := below_trans hB1 b2)
      | (go_at_call 31; refine Calls.mono (HC1.out w3 hB3) ?_; rintro e w4 ⟨A4, c4, rfl, hI4, hc4, b4⟩; have hB4 := below_trans hB3 b4; clear HC1)
      | (go_at_call 31; refine Calls.mono (HC2.out w4 hB4) ?_; rintro e w5 ⟨A5, c5, rfl, hI5, hc5, b5⟩; have hB5 := below_trans hB4 b5)
      | (go_at_call 45; refine Calls.mono (HJN.out A4 A5 c4 c5 w5 (hI4.below b5) hI5 hB5) ?_; rintro e w6 ⟨rfl, b6⟩; have hB6 := below_trans hB5 b6)
      | (go_at_call 24; refine Calls.mono (HCD.out w6 hB6) ?_; rintro e w7 ⟨rfl, b7⟩; have hB7 := below_trans hB6 b7))
    go_ret
    exact ⟨rfl, hB7⟩
end Go.Proofs.YtieeefgkdfijdaaDoor

/- The walk of the law SecretShamir. Condition: the variables read as laid. -/
namespace Go.Proofs.YtieeefgkdfijdaaDoor
open Go.RowKit Go.Deep Go.Proofs.YtieeefgkdfijdaaDoorW.PrintWords

/-- two slices that own no block together -/
def Apart2 (v u : Value) : Prop := ∀ a b, v.ownBlock = some a → u.ownBlock = some b → a ≠ b
theorem apart2_next {v u v' u' : Value} {N N1 M M1 : Nat} (h : Apart2 v u) (hv : ∀ k, v.ownBlock = some k → k < N) (hu : ∀ k, u.ownBlock = some k → k < N) (hv' : v'.ownBlock = v.ownBlock ∨ v'.ownBlock = some N1) (hN : N ≤ N1) (hvl : ∀ k, v'.ownBlock = some k → k < M)
    (hu' : u'.ownBlock = u.ownBlock ∨ u'.ownBlock = some M1) (hM : M ≤ M1) : Apart2 v' u' := by
  intro a b ha hb
  have h1 := hvl a ha
  rcases hu' with e | e
  · rw [e] at hb
    rcases hv' with e2 | e2
    · rw [e2] at ha
      exact h a b ha hb
    · rw [e2] at ha
      have := hu b hb
      injection ha with ha
      omega
  · rw [e] at hb
    injection hb with hb
    omega
theorem own_len (A : Option Addr) (n m c : Nat) : (Value.slice A n c).ownBlock = (Value.slice A m c).ownBlock := by cases A <;> rfl
theorem inside_set {l : List Int} {p v : Int} (h : inside l p 0 = true) (hv : 0 ≤ v ∧ v < p) : inside (l.set 0 v) p 0 = true := inside_of fun x hx => by
  rcases List.mem_or_eq_of_mem_set hx with h1 | h1
  · obtain ⟨i, hi, rfl⟩ := List.getElem_of_mem h1
    have := inside_get h i hi
    rwa [getD_eq l i 0 hi] at this
  · rw [h1]; exact hv
theorem intCells_set (l : List Int) (v : Int) : (intCells l).set 0 (.int .i64 v) = intCells (l.set 0 v) := by
  unfold intCells
  rw [List.map_set]
/-- how often the guess has come -/
def hits (v0 : Int) (k : Nat) : Int := if v0 < (k : Int) then 1 else 0
theorem own_ints {w : World} {base n c e : Nat} {A : Option Addr} {l : List Int} (h : w.ownsRow base e 1 (.slice A n c) n (intCells l)) (hn : l.length = n) : Ints w A l := by
  subst hn
  exact Ints.own h
theorem join_set {base : Nat} {l : List Int} {f n : Int} (A B : Option Addr) (c e : Nat) (p v : Int) (w : World) (hf : fieldOf p = true) (n1 : 1 ≤ n) (n2 : n ≤ p - 1) (l1 : 1 ≤ l.length) (l12 : l.length ≤ 12) (ln : (l.length : Int) ≤ n) (hv : 0 ≤ v ∧ v < p)
    (h1 : w.ownsRow base 3 1 (.slice A l.length c) l.length (intCells (atOf f n l.length))) (h2 : w.ownsRow base 3 1 (.slice B l.length e) l.length (intCells ((valsOf p l f n l.length).set 0 v))) :
    Calls Tryd.prog 45 #[.int .i64 p, .slice A l.length c, .slice B l.length e] w fun e w' => e = .returned (.tuple #[.int .i64 (joinV p (atOf f n l.length) ((valsOf p l f n l.length).set 0 v)), .nilIface]) ∧ Below w.heap.size w w' := by
  have h := join_ok A B (atOf f n l.length) ((valsOf p l f n l.length).set 0 v) c e p w (own_ints h1 (atOf_length _ _ _)) (own_ints h2 (by rw [List.length_set, valsOf_length])) (shamir_jErr (f := f) hf n1 n2 l.length l1 l12 ln _ (inside_set (valsOf_inside (by omega) l f n _) hv) (by rw [List.length_set, valsOf_length]))
  simp only [RetJoin] at h
  rw [atOf_length, List.length_set, valsOf_length] at h
  exact h

set_option maxRecDepth 100000 in
set_option maxHeartbeats 16000000 in
theorem law_shamir (p : Int) (A : Option Addr) (l : List Int) (cap : Nat) (n first guess : Int) (w : World) (a : Nat → Addr) (hS : Env [2, 3, 8] w a) (hA : Ints w A l) (hc : l.length ≤ cap) (hfr : -9223372036854775808 ≤ first ∧ first ≤ 9223372036854775807) :
    Calls Tryd.prog 10 #[.int .i64 p, .slice A l.length cap, .int .i64 n, .int .i64 first, .int .i64 guess] w fun e w' => e = .returned (.bool true) ∧ Below w.heap.size w w' := by
  have hlen := hA.len
  have HE : Hid (∀ w', Below w.heap.size w w' → Env [2, 3, 8] w' a) := hide fun w' hb => hS.below hb
  have HPAD := hide (fun w' (hb : Below w.heap.size w w') => pad_any w' a ((HE.out w' hb).sub (fun c h => by simp at h ⊢; omega)))
  by_cases hlong : 12 < (l.length : Int)
  · go_enter Tryd.func10, Tryd.ntmps10
    go_wp2_with (go_at_call 17; refine Calls.mono (HPAD.out _ (Below.refl _ _)) ?_; rintro e w1 ⟨rfl, hB1⟩)
    go_ret
    exact ⟨rfl, hB1⟩
  have HC1 := hide (fun w' (hb : Below w.heap.size w w') => intsS_ok A l cap w' (hA.below hb) hc (by omega))
  by_cases h0 : shErr p l n = 0
  · obtain ⟨hp, hn, hin⟩ := shErr_zero h0
    have hf : fieldOf p = true := by
      cases h : fieldOf p
      · unfold shErr at h0; rw [if_pos h] at h0; cases h0
      · rfl
    have hl1 : 1 ≤ l.length := by
      rcases Nat.eq_zero_or_pos l.length with h | h
      · unfold shErr at h0; rw [if_neg (by rw [hf]; decide), if_pos (by omega)] at h0; cases h0
      · exact h
    have hsh := fun (B : Option Addr) (c : Nat) w' (hI : Ints w' B l) (hb : Below w.heap.size w w') => share_ok B l c p n w' a ((HE.out w' hb).sub (fun c h => by simp at h ⊢; omega)) hI h0
    simp only [RetShare] at hsh
    have HSH := hide hsh
    obtain ⟨n1, n2, n3⟩ := hn
    clear h0 hsh
    by_cases hnl : n < (l.length : Int)
    · clear hin hf
      go_enter Tryd.func10, Tryd.ntmps10
      go_wp2_with (first
        | (go_at_call 17; refine Calls.mono (HPAD.out _ (Below.refl _ _)) ?_; rintro e w1 ⟨rfl, hB1⟩)
        | (go_at_call 31; refine Calls.mono (HC1.out w1 hB1) ?_; rintro e w2 ⟨B, d, rfl, hI, hd, b2⟩; have hB2 := below_trans hB1 b2)
        | (go_at_call 35; refine Calls.mono (HSH.out B d w2 hI hB2) ?_; rintro e w4 ⟨B4, d4, rfl, hI4, hd4, b4⟩; have hB4 := below_trans hB2 b4))
      go_ret
      exact ⟨rfl, hB4⟩
    have hnl' : (l.length : Int) ≤ n := by omega
    have hnt : (n.toNat : Int) = n := Int.toNat_of_nonneg (by omega)
    have hnb : ((n.toNat : Int) != n) = false := by rw [hnt]; simp
    have hlb : ((l.length : Int) == 0) = false := by rw [beq_eq_false_iff_ne]; omega
    have hp2 := hp.1
    have hp997 := hp.2
    have HF := hide hf
    have HIN := hide hin
    have HNT := hide hnt
    have hl1' : 1 ≤ (l.length : Int) := by omega
    clear hf hin hp hnt hnl
    by_cases hneg : first < 0
    · go_enter Tryd.func10, Tryd.ntmps10
      go_wp2_with (first
        | (go_at_call 17; refine Calls.mono (HPAD.out _ (Below.refl _ _)) ?_; rintro e w1 ⟨rfl, hB1⟩)
        | (go_at_call 31; refine Calls.mono (HC1.out w1 hB1) ?_; rintro e w2 ⟨B, d, rfl, hI, hd, b2⟩; have hB2 := below_trans hB1 b2)
        | (go_at_call 35; refine Calls.mono (HSH.out B d w2 hI hB2) ?_; rintro e w4 ⟨B4, d4, rfl, hI4, hd4, b4⟩; have hB4 := below_trans hB2 b4))
      obtain ⟨f, hfe⟩ : ∃ f, -(first + 1) = f := ⟨_, rfl⟩
      simp only [hfe]
      have f0 : 0 ≤ f := by omega
      have f1 : f ≤ 9223372036854775807 := by omega
      clear hfe
      go_loopw [14, 15, 16] (fun av vv iv wr => ∃ i : Nat, i ≤ l.length ∧ iv = .int .i64 i ∧ wr.ownsRow w4.heap.size 3 1 av i (intCells (atOf f n i)) ∧ wr.ownsRow w4.heap.size 3 1 vv i (intCells (valsOf p l f n i)) ∧ Apart2 av vv ∧ Below w4.heap.size w4 wr) (fun _ _ iv _ => l.length - (intOf iv).toNat)
      case atStart => exact ⟨0, Nat.zero_le _, rfl, nil_own _ _ _ _, nil_own _ _ _ _, (fun a b h => by simp [Value.ownBlock] at h), Below.refl _ _⟩
      case round =>
        obtain ⟨i, hi, rfl, hoa, hov, hap, hBi⟩ := hrel
        obtain ⟨wi, rfl⟩ : ∃ wi : World, wi = wr := ⟨_, rfl⟩
        obtain ⟨A9, c9, rfl, hc9, _⟩ := own_shape hoa
        obtain ⟨V9, d9, rfl, hd9, _⟩ := own_shape hov
        have hBw := below_trans hB4 hBi
        by_cases hil : i < l.length
        · have hxr := xsOf_range f n1 i
          obtain ⟨X, hX⟩ := Int.eq_ofNat_of_zero_le hxr.1
          have hXn : X < n.toNat := by omega
          have hXi : (X : Int) < n := by omega
          have r1 : (f % n + (i : Int)) % n = (X : Int) := hX
          have r2 : (f + (i : Int)) % n = (X : Int) := by rw [← hX]; unfold xsOf; rw [Int.emod_add_emod]
          have rm := Int.emod_nonneg f (show n ≠ 0 by omega)
          have rl := Int.emod_lt_of_pos f (show 0 < n by omega)
          obtain ⟨bL, offL, rfl, hbL, dL⟩ := hI4.at_ X (by simpa using hXn)
          have dL' : wi.cell? ⟨bL, offL + X, none⟩ = some (.int .i64 (horner p ((X : Int) + 1) l)) := by
            rw [hBi.cell (p := ⟨bL, offL + X, none⟩) hbL, dL]
            simp [List.getD_eq_getElem?_getD, List.getElem?_map, List.getElem?_range hXn]
          have hy : horner p ((X : Int) + 1) l = horner p (xsOf f n i + 1) l := by rw [hX]
          obtain ⟨y, hye⟩ : ∃ y, horner p ((X : Int) + 1) l = y := ⟨_, rfl⟩
          rw [hye] at dL' hy
          have HOA := hide hoa
          have HOV := hide hov
          have HAP := hide hap
          have HXE := hide (And.intro hX hy)
          have HC1' := hide (show ((atOf f n i).length + 1) * 8 ≤ 140737488355328 by rw [atOf_length]; omega)
          have HC2' := hide (show ((valsOf p l f n i).length + 1) * 8 ≤ 140737488355328 by rw [valsOf_length]; omega)
          have HS1 := hide (show w4.heap.size ≤ (wi.alloc (.cells #[.int .i64 ((X : Int) + 1)] 3)).heap.size by rw [World.size_alloc]; have := hBi.size; omega)
          have DL := hide dL'
          clear hoa hov hap hX hy hye hxr dL dL'
          go_wp2_with (first
            | (at_builtin; refine wp_app_ints _ rfl (.tmp 73) (.tmp 76) rfl w4.heap.size (.slice A9 i c9) _ rfl (own_list (HOA.out.alloc _)) _ 1 1 [(X : Int) + 1] rfl rfl (ints_one (b := wi.heap.size) (by simp) (by simp)) HC1'.out HS1.out ?_; intro A' c' w5 hc5 ho5 hg5 hob5
               have hB5 : Below w4.heap.size w4 w5 := (hBi.alloc hBi.size _).grown hg5 HS1.out (fun j hj => (HOA.out.lt j hj).1)
               have dL5 : w5.cell? ⟨bL, offL + X, none⟩ = some (.int .i64 y) := (hB5.cell (p := ⟨bL, offL + X, none⟩) hbL).trans ((hBi.cell (p := ⟨bL, offL + X, none⟩) hbL).symm.trans DL.out)
               have HOV5 := hide ((HOV.out.alloc (.cells #[.int .i64 ((X : Int) + 1)] 3)).kept hg5 (by
                 cases hv : (Value.slice V9 i d9).ownBlock with
                 | none => exact .inl rfl
                 | some k => exact .inr (fun e => HAP.out k k e.symm hv rfl)))
               have HS2 := hide (show w4.heap.size ≤ (w5.alloc (.cells #[.int .i64 y] 3)).heap.size by rw [World.size_alloc]; have := hB5.size; omega)
               have HO5 := hide ho5
               have HOB5 := hide hob5
               have HG5 := hide hg5
               clear ho5 hob5 hg5)
            | (at_builtin; refine wp_app_ints _ rfl (.tmp 78) (.tmp 83) rfl w4.heap.size (.slice V9 i d9) _ rfl (own_list (HOV5.out.alloc _)) _ 1 1 [y] rfl rfl (ints_one (b := w5.heap.size) (by simp) (by simp)) HC2'.out HS2.out ?_; intro V' d' w6 hc6 ho6 hg6 hob6))
          have ho5 := HO5.out
          rw [← HXE.out.1, ← atOf_succ, atOf_length] at ho5
          rw [HXE.out.2, ← valsOf_succ, valsOf_length] at ho6
          have hob5 := HOB5.out
          rw [own_len A' (atOf f n i ++ [(X : Int) + 1]).length (i + 1) c'] at hob5
          rw [own_len V' (valsOf p l f n i ++ [y]).length (i + 1) d'] at hob6
          have hB6 : Below w4.heap.size w4 w6 := (hB5.alloc hB5.size _).grown hg6 HS2.out (fun j hj => (HOV5.out.lt j hj).1)
          have ho56 := (ho5.alloc (.cells #[.int .i64 y] 3)).kept hg6 (by
            rcases hob5 with e | e
            · cases hv : (Value.slice V9 i d9).ownBlock with
              | none =>
                cases hv2 : (Value.slice A' (i + 1) c').ownBlock with
                | none => exact .inl rfl
                | some k => exact .inr (by simp)
              | some k => exact .inr (fun e2 => HAP.out k k (by rw [← e]; exact e2) hv rfl)
            · exact .inr (fun e2 => by
                have h1 := (HOV.out.lt _ (e2.symm.trans e)).2
                have h2 := World.size_alloc wi (.cells #[.int .i64 ((X : Int) + 1)] 3)
                omega))
          have hap' : Apart2 (.slice A' (i + 1) c') (.slice V' (i + 1) d') := apart2_next (N := wi.heap.size) (N1 := (wi.alloc (.cells #[.int .i64 ((X : Int) + 1)] 3)).heap.size) (M := w5.heap.size) (M1 := (w5.alloc (.cells #[.int .i64 y] 3)).heap.size) HAP.out (fun k hk => (HOA.out.lt k hk).2) (fun k hk => (HOV.out.lt k hk).2) hob5 (by rw [World.size_alloc]; omega) (fun k hk => (ho5.lt k hk).2) hob6 (by rw [World.size_alloc]; omega)
          go_roundw
          case rel => exact ⟨i + 1, by omega, by go_num, by rw [atOf_length]; exact ho56, by rw [valsOf_length]; exact ho6, (by rw [atOf_length, valsOf_length]; exact hap'), hB6⟩
          case measure => simp [intOf]; omega
        · obtain rfl : i = l.length := by omega
          have hIa : Ints wi A9 (atOf f n l.length) := own_ints hoa (atOf_length _ _ _)
          have hIv : Ints wi V9 (valsOf p l f n l.length) := own_ints hov (valsOf_length _ _ _ _ _)
          have hj0 := shamir_jErr (f := f) HF.out n1 n2 l.length (by omega) (by omega) (by omega) (valsOf p l f n l.length) (valsOf_inside (by omega) l f n _) (valsOf_length _ _ _ _ _)
          have hjn := join_ok A9 V9 (atOf f n l.length) (valsOf p l f n l.length) c9 d9 p wi hIa hIv hj0
          simp only [RetJoin] at hjn
          rw [shamir_secret HF.out n1 n2 l (by omega) (by omega) HIN.out, atOf_length, valsOf_length] at hjn
          have HJN := hide hjn
          have HOA := hide hoa
          have HOV := hide hov
          have HAP := hide hap
          clear hIa hIv hj0 hjn hoa hov hap
          obtain ⟨b0, off0, e0, _, dA0⟩ := hA.at_ 0 (by omega)
          have dA1 : w.cell? ⟨b0, off0, none⟩ = some (.int .i64 (l.getD 0 0)) := dA0
          obtain ⟨s0, hs0⟩ : ∃ s0, l.getD 0 0 = s0 := ⟨_, rfl⟩
          rw [hs0] at dA1 HJN
          subst e0
          have HB0 := hide (World.block_lt_of_cell? w _ dA1)
          clear dA0 hs0
          by_cases hg : 0 ≤ guess ∧ guess < p
          · obtain ⟨v0, hv0, huq⟩ := shamir_guess HF.out (atOf f n l.length) (valsOf p l f n l.length) (fun i hi => inside_get (atOf_inside f n1 n2 _) i hi) (atOf_nodup f n1 _ (by omega)) (by rw [atOf_length]; omega) (by rw [atOf_length, valsOf_length]) guess hg
            have HUQ := hide huq
            have HJL := hide (fun (B' : Option Addr) (e : Nat) (v : Int) (w' : World) (hv : 0 ≤ v ∧ v < p) h1 h2 => join_set (base := w4.heap.size) (l := l) (f := f) (n := n) A9 B' c9 e p v w' HF.out n1 n2 (by omega) (by omega) (by omega) hv h1 h2)
            obtain ⟨gV, rfl⟩ : ∃ gV, V9 = some ⟨gV, 0, none⟩ := by
              rcases HOV.out.2 with ⟨h1, h2⟩ | ⟨g, cp, cur, h1, _⟩
              · omega
              · injection h1 with h1 _ _
                exact ⟨g, h1⟩
            have hgV := (HOV.out.lt gV rfl).1
            have gg1 := hg.1
            have gg2 := hg.2
            clear huq hg
            go_wp2_with (go_at_call 45; refine Calls.mono HJN.out ?_; rintro e w7 ⟨rfl, b7⟩; have hB7 := below_trans hBw b7; have dA7 := (hB7.cell (p := ⟨b0, off0, none⟩) HB0.out).trans dA1)
            have hB47 : Below w4.heap.size w4 w7 := hBi.trans (b7.mono hBi.size)
            have hoa7 := own_below HOA.out b7
            have hov7 := own_below HOV.out b7
            have hz : (valsOf p l f n l.length).set 0 ((valsOf p l f n l.length).getD 0 0) = valsOf p l f n l.length := by
              have hlt : 0 < (valsOf p l f n l.length).length := by rw [valsOf_length]; omega
              rw [getD_eq _ 0 0 hlt, List.set_getElem_self]
            rw [← hz] at hov7
            have HOA7 := hide hoa7
            have HOV7 := hide hov7
            clear hoa7 hov7 hz
            go_loopw [19, 20] (fun mv vv wr => ∃ k : Nat, (k : Int) ≤ p ∧ vv = .int .i64 k ∧ mv = .int .i64 (hits v0 k) ∧ wr.ownsRow w4.heap.size 3 1 (.slice A9 l.length c9) l.length (intCells (atOf f n l.length)) ∧ (∃ z, wr.ownsRow w4.heap.size 3 1 (.slice (some ⟨gV, 0, none⟩) l.length d9) l.length (intCells ((valsOf p l f n l.length).set 0 z))) ∧ Below w4.heap.size w4 wr) (fun _ vv _ => (p - intOf vv).toNat)
            case atStart => exact ⟨0, by omega, rfl, by unfold hits; rw [if_neg (by omega)], HOA7.out, ⟨_, HOV7.out⟩, hB47⟩
            case round =>
              obtain ⟨k, hk, rfl, rfl, hoa, ⟨z, hov⟩, hBk⟩ := hrel
              obtain ⟨wk, rfl⟩ : ∃ wk : World, wk = wr := ⟨_, rfl⟩
              have k0 : (0 : Int) ≤ (k : Int) := Int.natCast_nonneg _
              by_cases hkp : (k : Int) < p
              · have hcell : ∃ u, wk.cell? ⟨gV, 0, none⟩ = some u := by
                  rw [hov.cellAt 0 (by omega)]
                  rw [List.getElem?_eq_getElem (by rw [intCells_length, List.length_set, valsOf_length]; omega)]
                  exact ⟨_, rfl⟩
                obtain ⟨u, hu⟩ := hcell
                have hfz := hov.frozenAt 0
                have hst := hov.stored 0 (.int .i64 (k : Int))
                rw [intCells_set, List.set_set] at hst
                have hoas := hoa.kept hst.2 (.inr (fun e => HAP.out gV gV e rfl rfl))
                have hjl := HJL.out (some ⟨gV, 0, none⟩) d9 k (wk.setCell ⟨gV, 0, none⟩ (.int .i64 (k : Int))) ⟨k0, hkp⟩ hoas hst.1
                have hiff := HUQ.out k k0 hkp
                generalize joinV p (atOf f n l.length) ((valsOf p l f n l.length).set 0 (k : Int)) = s at hjl hiff
                have HJ := hide hjl
                have HOS := hide hst.1
                have HOAS := hide hoas
                have hBs := hBk.setCell (p := ⟨gV, 0, none⟩) hgV (.int .i64 (k : Int))
                have HBS := hide hBs
                clear hst hoas hjl hoa hov hBs
                by_cases hkv : (k : Int) = v0
                · have hsg : (s == guess) = true := by rw [hiff.2 hkv]; simp
                  have h0 : hits v0 k = 0 := by unfold hits; rw [if_neg (by omega)]
                  have h1 : hits v0 (k + 1) = 1 := by unfold hits; rw [if_pos (by omega)]
                  rw [h0]
                  have H1 := hide h1
                  clear hiff h0 h1 hkv
                  go_wp2_with (go_at_call 45; refine Calls.mono HJ.out ?_; rintro e w8 ⟨rfl, b8⟩)
                  go_roundw
                  case rel => exact ⟨k + 1, by omega, by go_num, by rw [H1.out], own_below HOAS.out b8, ⟨_, own_below HOS.out b8⟩, HBS.out.trans (b8.mono HBS.out.size)⟩
                  case measure => simp [intOf]; omega
                · have hsg : (s == guess) = false := by rw [beq_eq_false_iff_ne]; exact fun e => hkv (hiff.1 e)
                  have h1 : hits v0 (k + 1) = hits v0 k := by
                    unfold hits
                    by_cases e : v0 < (k : Int)
                    · rw [if_pos e, if_pos (by omega)]
                    · rw [if_neg e, if_neg (by omega)]
                  generalize hits v0 k = m at h1
                  have H1 := hide h1
                  clear hiff h1 hkv
                  go_wp2_with (go_at_call 45; refine Calls.mono HJ.out ?_; rintro e w8 ⟨rfl, b8⟩)
                  go_roundw
                  case rel => exact ⟨k + 1, by omega, by go_num, by rw [H1.out], own_below HOAS.out b8, ⟨_, own_below HOS.out b8⟩, HBS.out.trans (b8.mono HBS.out.size)⟩
                  case measure => simp [intOf]; omega
              · have h1 : hits v0 k = 1 := by unfold hits; rw [if_pos (by omega)]
                rw [h1]
                clear h1
                go_wp2_with (fail)
                go_ret
                exact ⟨rfl, below_trans hB4 hBk⟩
          · by_cases hg1 : guess < 0
            · clear hg
              go_wp2_with (go_at_call 45; refine Calls.mono HJN.out ?_; rintro e w7 ⟨rfl, b7⟩; have hB7 := below_trans hBw b7; have dA7 := (hB7.cell (p := ⟨b0, off0, none⟩) HB0.out).trans dA1)
              go_ret
              exact ⟨rfl, hB7⟩
            · have hg2 : p ≤ guess := by omega
              clear hg
              go_wp2_with (go_at_call 45; refine Calls.mono HJN.out ?_; rintro e w7 ⟨rfl, b7⟩; have hB7 := below_trans hBw b7; have dA7 := (hB7.cell (p := ⟨b0, off0, none⟩) HB0.out).trans dA1)
              go_ret
              exact ⟨rfl, hB7⟩
    · go_enter Tryd.func10, Tryd.ntmps10
      go_wp2_with (first
        | (go_at_call 17; refine Calls.mono (HPAD.out _ (Below.refl _ _)) ?_; rintro e w1 ⟨rfl, hB1⟩)
        | (go_at_call 31; refine Calls.mono (HC1.out w1 hB1) ?_; rintro e w2 ⟨B, d, rfl, hI, hd, b2⟩; have hB2 := below_trans hB1 b2)
        | (go_at_call 35; refine Calls.mono (HSH.out B d w2 hI hB2) ?_; rintro e w4 ⟨B4, d4, rfl, hI4, hd4, b4⟩; have hB4 := below_trans hB2 b4))
      have q0 : 0 ≤ first := by omega
      have q1 := hfr.2
      go_loopw [14, 15, 16] (fun av vv iv wr => ∃ i : Nat, i ≤ l.length ∧ iv = .int .i64 i ∧ wr.ownsRow w4.heap.size 3 1 av i (intCells (atOf first n i)) ∧ wr.ownsRow w4.heap.size 3 1 vv i (intCells (valsOf p l first n i)) ∧ Apart2 av vv ∧ Below w4.heap.size w4 wr) (fun _ _ iv _ => l.length - (intOf iv).toNat)
      case atStart => exact ⟨0, Nat.zero_le _, rfl, nil_own _ _ _ _, nil_own _ _ _ _, (fun a b h => by simp [Value.ownBlock] at h), Below.refl _ _⟩
      case round =>
        obtain ⟨i, hi, rfl, hoa, hov, hap, hBi⟩ := hrel
        obtain ⟨wi, rfl⟩ : ∃ wi : World, wi = wr := ⟨_, rfl⟩
        obtain ⟨A9, c9, rfl, hc9, _⟩ := own_shape hoa
        obtain ⟨V9, d9, rfl, hd9, _⟩ := own_shape hov
        have hBw := below_trans hB4 hBi
        by_cases hil : i < l.length
        · have hxr := xsOf_range first n1 i
          obtain ⟨X, hX⟩ := Int.eq_ofNat_of_zero_le hxr.1
          have hXn : X < n.toNat := by omega
          have hXi : (X : Int) < n := by omega
          have r1 : (first % n + (i : Int)) % n = (X : Int) := hX
          have r2 : (first + (i : Int)) % n = (X : Int) := by rw [← hX]; unfold xsOf; rw [Int.emod_add_emod]
          have rm := Int.emod_nonneg first (show n ≠ 0 by omega)
          have rl := Int.emod_lt_of_pos first (show 0 < n by omega)
          obtain ⟨bL, offL, rfl, hbL, dL⟩ := hI4.at_ X (by simpa using hXn)
          have dL' : wi.cell? ⟨bL, offL + X, none⟩ = some (.int .i64 (horner p ((X : Int) + 1) l)) := by
            rw [hBi.cell (p := ⟨bL, offL + X, none⟩) hbL, dL]
            simp [List.getD_eq_getElem?_getD, List.getElem?_map, List.getElem?_range hXn]
          have hy : horner p ((X : Int) + 1) l = horner p (xsOf first n i + 1) l := by rw [hX]
          obtain ⟨y, hye⟩ : ∃ y, horner p ((X : Int) + 1) l = y := ⟨_, rfl⟩
          rw [hye] at dL' hy
          have HOA := hide hoa
          have HOV := hide hov
          have HAP := hide hap
          have HXE := hide (And.intro hX hy)
          have HC1' := hide (show ((atOf first n i).length + 1) * 8 ≤ 140737488355328 by rw [atOf_length]; omega)
          have HC2' := hide (show ((valsOf p l first n i).length + 1) * 8 ≤ 140737488355328 by rw [valsOf_length]; omega)
          have HS1 := hide (show w4.heap.size ≤ (wi.alloc (.cells #[.int .i64 ((X : Int) + 1)] 3)).heap.size by rw [World.size_alloc]; have := hBi.size; omega)
          have DL := hide dL'
          clear hoa hov hap hX hy hye hxr dL dL'
          go_wp2_with (first
            | (at_builtin; refine wp_app_ints _ rfl (.tmp 73) (.tmp 76) rfl w4.heap.size (.slice A9 i c9) _ rfl (own_list (HOA.out.alloc _)) _ 1 1 [(X : Int) + 1] rfl rfl (ints_one (b := wi.heap.size) (by simp) (by simp)) HC1'.out HS1.out ?_; intro A' c' w5 hc5 ho5 hg5 hob5
               have hB5 : Below w4.heap.size w4 w5 := (hBi.alloc hBi.size _).grown hg5 HS1.out (fun j hj => (HOA.out.lt j hj).1)
               have dL5 : w5.cell? ⟨bL, offL + X, none⟩ = some (.int .i64 y) := (hB5.cell (p := ⟨bL, offL + X, none⟩) hbL).trans ((hBi.cell (p := ⟨bL, offL + X, none⟩) hbL).symm.trans DL.out)
               have HOV5 := hide ((HOV.out.alloc (.cells #[.int .i64 ((X : Int) + 1)] 3)).kept hg5 (by
                 cases hv : (Value.slice V9 i d9).ownBlock with
                 | none => exact .inl rfl
                 | some k => exact .inr (fun e => HAP.out k k e.symm hv rfl)))
               have HS2 := hide (show w4.heap.size ≤ (w5.alloc (.cells #[.int .i64 y] 3)).heap.size by rw [World.size_alloc]; have := hB5.size; omega)
               have HO5 := hide ho5
               have HOB5 := hide hob5
               have HG5 := hide hg5
               clear ho5 hob5 hg5)
            | (at_builtin; refine wp_app_ints _ rfl (.tmp 78) (.tmp 83) rfl w4.heap.size (.slice V9 i d9) _ rfl (own_list (HOV5.out.alloc _)) _ 1 1 [y] rfl rfl (ints_one (b := w5.heap.size) (by simp) (by simp)) HC2'.out HS2.out ?_; intro V' d' w6 hc6 ho6 hg6 hob6))
          have ho5 := HO5.out
          rw [← HXE.out.1, ← atOf_succ, atOf_length] at ho5
          rw [HXE.out.2, ← valsOf_succ, valsOf_length] at ho6
          have hob5 := HOB5.out
          rw [own_len A' (atOf first n i ++ [(X : Int) + 1]).length (i + 1) c'] at hob5
          rw [own_len V' (valsOf p l first n i ++ [y]).length (i + 1) d'] at hob6
          have hB6 : Below w4.heap.size w4 w6 := (hB5.alloc hB5.size _).grown hg6 HS2.out (fun j hj => (HOV5.out.lt j hj).1)
          have ho56 := (ho5.alloc (.cells #[.int .i64 y] 3)).kept hg6 (by
            rcases hob5 with e | e
            · cases hv : (Value.slice V9 i d9).ownBlock with
              | none =>
                cases hv2 : (Value.slice A' (i + 1) c').ownBlock with
                | none => exact .inl rfl
                | some k => exact .inr (by simp)
              | some k => exact .inr (fun e2 => HAP.out k k (by rw [← e]; exact e2) hv rfl)
            · exact .inr (fun e2 => by
                have h1 := (HOV.out.lt _ (e2.symm.trans e)).2
                have h2 := World.size_alloc wi (.cells #[.int .i64 ((X : Int) + 1)] 3)
                omega))
          have hap' : Apart2 (.slice A' (i + 1) c') (.slice V' (i + 1) d') := apart2_next (N := wi.heap.size) (N1 := (wi.alloc (.cells #[.int .i64 ((X : Int) + 1)] 3)).heap.size) (M := w5.heap.size) (M1 := (w5.alloc (.cells #[.int .i64 y] 3)).heap.size) HAP.out (fun k hk => (HOA.out.lt k hk).2) (fun k hk => (HOV.out.lt k hk).2) hob5 (by rw [World.size_alloc]; omega) (fun k hk => (ho5.lt k hk).2) hob6 (by rw [World.size_alloc]; omega)
          go_roundw
          case rel => exact ⟨i + 1, by omega, by go_num, by rw [atOf_length]; exact ho56, by rw [valsOf_length]; exact ho6, (by rw [atOf_length, valsOf_length]; exact hap'), hB6⟩
          case measure => simp [intOf]; omega
        · obtain rfl : i = l.length := by omega
          have hIa : Ints wi A9 (atOf first n l.length) := own_ints hoa (atOf_length _ _ _)
          have hIv : Ints wi V9 (valsOf p l first n l.length) := own_ints hov (valsOf_length _ _ _ _ _)
          have hj0 := shamir_jErr (f := first) HF.out n1 n2 l.length (by omega) (by omega) (by omega) (valsOf p l first n l.length) (valsOf_inside (by omega) l first n _) (valsOf_length _ _ _ _ _)
          have hjn := join_ok A9 V9 (atOf first n l.length) (valsOf p l first n l.length) c9 d9 p wi hIa hIv hj0
          simp only [RetJoin] at hjn
          rw [shamir_secret HF.out n1 n2 l (by omega) (by omega) HIN.out, atOf_length, valsOf_length] at hjn
          have HJN := hide hjn
          have HOA := hide hoa
          have HOV := hide hov
          have HAP := hide hap
          clear hIa hIv hj0 hjn hoa hov hap
          obtain ⟨b0, off0, e0, _, dA0⟩ := hA.at_ 0 (by omega)
          have dA1 : w.cell? ⟨b0, off0, none⟩ = some (.int .i64 (l.getD 0 0)) := dA0
          obtain ⟨s0, hs0⟩ : ∃ s0, l.getD 0 0 = s0 := ⟨_, rfl⟩
          rw [hs0] at dA1 HJN
          subst e0
          have HB0 := hide (World.block_lt_of_cell? w _ dA1)
          clear dA0 hs0
          by_cases hg : 0 ≤ guess ∧ guess < p
          · obtain ⟨v0, hv0, huq⟩ := shamir_guess HF.out (atOf first n l.length) (valsOf p l first n l.length) (fun i hi => inside_get (atOf_inside first n1 n2 _) i hi) (atOf_nodup first n1 _ (by omega)) (by rw [atOf_length]; omega) (by rw [atOf_length, valsOf_length]) guess hg
            have HUQ := hide huq
            have HJL := hide (fun (B' : Option Addr) (e : Nat) (v : Int) (w' : World) (hv : 0 ≤ v ∧ v < p) h1 h2 => join_set (base := w4.heap.size) (l := l) (f := first) (n := n) A9 B' c9 e p v w' HF.out n1 n2 (by omega) (by omega) (by omega) hv h1 h2)
            obtain ⟨gV, rfl⟩ : ∃ gV, V9 = some ⟨gV, 0, none⟩ := by
              rcases HOV.out.2 with ⟨h1, h2⟩ | ⟨g, cp, cur, h1, _⟩
              · omega
              · injection h1 with h1 _ _
                exact ⟨g, h1⟩
            have hgV := (HOV.out.lt gV rfl).1
            have gg1 := hg.1
            have gg2 := hg.2
            clear huq hg
            go_wp2_with (go_at_call 45; refine Calls.mono HJN.out ?_; rintro e w7 ⟨rfl, b7⟩; have hB7 := below_trans hBw b7; have dA7 := (hB7.cell (p := ⟨b0, off0, none⟩) HB0.out).trans dA1)
            have hB47 : Below w4.heap.size w4 w7 := hBi.trans (b7.mono hBi.size)
            have hoa7 := own_below HOA.out b7
            have hov7 := own_below HOV.out b7
            have hz : (valsOf p l first n l.length).set 0 ((valsOf p l first n l.length).getD 0 0) = valsOf p l first n l.length := by
              have hlt : 0 < (valsOf p l first n l.length).length := by rw [valsOf_length]; omega
              rw [getD_eq _ 0 0 hlt, List.set_getElem_self]
            rw [← hz] at hov7
            have HOA7 := hide hoa7
            have HOV7 := hide hov7
            clear hoa7 hov7 hz
            go_loopw [19, 20] (fun mv vv wr => ∃ k : Nat, (k : Int) ≤ p ∧ vv = .int .i64 k ∧ mv = .int .i64 (hits v0 k) ∧ wr.ownsRow w4.heap.size 3 1 (.slice A9 l.length c9) l.length (intCells (atOf first n l.length)) ∧ (∃ z, wr.ownsRow w4.heap.size 3 1 (.slice (some ⟨gV, 0, none⟩) l.length d9) l.length (intCells ((valsOf p l first n l.length).set 0 z))) ∧ Below w4.heap.size w4 wr) (fun _ vv _ => (p - intOf vv).toNat)
            case atStart => exact ⟨0, by omega, rfl, by unfold hits; rw [if_neg (by omega)], HOA7.out, ⟨_, HOV7.out⟩, hB47⟩
            case round =>
              obtain ⟨k, hk, rfl, rfl, hoa, ⟨z, hov⟩, hBk⟩ := hrel
              obtain ⟨wk, rfl⟩ : ∃ wk : World, wk = wr := ⟨_, rfl⟩
              have k0 : (0 : Int) ≤ (k : Int) := Int.natCast_nonneg _
              by_cases hkp : (k : Int) < p
              · have hcell : ∃ u, wk.cell? ⟨gV, 0, none⟩ = some u := by
                  rw [hov.cellAt 0 (by omega)]
                  rw [List.getElem?_eq_getElem (by rw [intCells_length, List.length_set, valsOf_length]; omega)]
                  exact ⟨_, rfl⟩
                obtain ⟨u, hu⟩ := hcell
                have hfz := hov.frozenAt 0
                have hst := hov.stored 0 (.int .i64 (k : Int))
                rw [intCells_set, List.set_set] at hst
                have hoas := hoa.kept hst.2 (.inr (fun e => HAP.out gV gV e rfl rfl))
                have hjl := HJL.out (some ⟨gV, 0, none⟩) d9 k (wk.setCell ⟨gV, 0, none⟩ (.int .i64 (k : Int))) ⟨k0, hkp⟩ hoas hst.1
                have hiff := HUQ.out k k0 hkp
                generalize joinV p (atOf first n l.length) ((valsOf p l first n l.length).set 0 (k : Int)) = s at hjl hiff
                have HJ := hide hjl
                have HOS := hide hst.1
                have HOAS := hide hoas
                have hBs := hBk.setCell (p := ⟨gV, 0, none⟩) hgV (.int .i64 (k : Int))
                have HBS := hide hBs
                clear hst hoas hjl hoa hov hBs
                by_cases hkv : (k : Int) = v0
                · have hsg : (s == guess) = true := by rw [hiff.2 hkv]; simp
                  have h0 : hits v0 k = 0 := by unfold hits; rw [if_neg (by omega)]
                  have h1 : hits v0 (k + 1) = 1 := by unfold hits; rw [if_pos (by omega)]
                  rw [h0]
                  have H1 := hide h1
                  clear hiff h0 h1 hkv
                  go_wp2_with (go_at_call 45; refine Calls.mono HJ.out ?_; rintro e w8 ⟨rfl, b8⟩)
                  go_roundw
                  case rel => exact ⟨k + 1, by omega, by go_num, by rw [H1.out], own_below HOAS.out b8, ⟨_, own_below HOS.out b8⟩, HBS.out.trans (b8.mono HBS.out.size)⟩
                  case measure => simp [intOf]; omega
                · have hsg : (s == guess) = false := by rw [beq_eq_false_iff_ne]; exact fun e => hkv (hiff.1 e)
                  have h1 : hits v0 (k + 1) = hits v0 k := by
                    unfold hits
                    by_cases e : v0 < (k : Int)
                    · rw [if_pos e, if_pos (by omega)]
                    · rw [if_neg e, if_neg (by omega)]
                  generalize hits v0 k = m at h1
                  have H1 := hide h1
                  clear hiff h1 hkv
                  go_wp2_with (go_at_call 45; refine Calls.mono HJ.out ?_; rintro e w8 ⟨rfl, b8⟩)
                  go_roundw
                  case rel => exact ⟨k + 1, by omega, by go_num, by rw [H1.out], own_below HOAS.out b8, ⟨_, own_below HOS.out b8⟩, HBS.out.trans (b8.mono HBS.out.size)⟩
                  case measure => simp [intOf]; omega
              · have h1 : hits v0 k = 1 := by unfold hits; rw [if_pos (by omega)]
                rw [h1]
                clear h1
                go_wp2_with (fail)
                go_ret
                exact ⟨rfl, below_trans hB4 hBk⟩
          · by_cases hg1 : guess < 0
            · clear hg
              go_wp2_with (go_at_call 45; refine Calls.mono HJN.out ?_; rintro e w7 ⟨rfl, b7⟩; have hB7 := below_trans hBw b7; have dA7 := (hB7.cell (p := ⟨b0, off0, none⟩) HB0.out).trans dA1)
              go_ret
              exact ⟨rfl, hB7⟩
            · have hg2 : p ≤ guess := by omega
              clear hg
              go_wp2_with (go_at_call 45; refine Calls.mono HJN.out ?_; rintro e w7 ⟨rfl, b7⟩; have hB7 := below_trans hBw b7; have dA7 := (hB7.cell (p := ⟨b0, off0, none⟩) HB0.out).trans dA1)
              go_ret
              exact ⟨rfl, hB7⟩
  · obtain ⟨c, hc', hc8⟩ := shErr_nat p l n
    have hc0 : 0 < c := by
      rcases Nat.eq_zero_or_pos c with h | h
      · subst h; exact absurd hc' h0
      · exact h
    have hsh := fun (B : Option Addr) (x : Nat) w' (hI : Ints w' B l) (hb : Below w.heap.size w w') => share_err B l x p n w' a (HE.out w' hb) hI h0
    have he : errC a (shErr p l n) = .iface 161 (.pointer (some (a c))) := by rw [hc']; exact errC_pos a c (by omega)
    rw [he] at hsh
    have HSH := hide hsh
    clear hsh he hc' h0
    go_enter Tryd.func10, Tryd.ntmps10
    go_wp2_with (first
      | (go_at_call 17; refine Calls.mono (HPAD.out _ (Below.refl _ _)) ?_; rintro e w1 ⟨rfl, hB1⟩)
      | (go_at_call 31; refine Calls.mono (HC1.out w1 hB1) ?_; rintro e w2 ⟨B, d, rfl, hI, hd, b2⟩; have hB2 := below_trans hB1 b2)
      | (go_at_call 35; refine Calls.mono (HSH.out B d w2 hI hB2) ?_; rintro e w4 ⟨rfl, b4⟩; have hB4 := below_trans hB2 b4))
    go_ret
    exact ⟨rfl, hB4⟩
end Go.Proofs.YtieeefgkdfijdaaDoor

/- What a row's list of laid variables gives a walk: the sentinels' cells, their blocks, none twice, and the handle of the type error; the closing of a law's row. No condition. -/
namespace Go.Proofs.YtieeefgkdfijdaaDoor
open Go.ChangeShapes Go.WideShapes Go.RowKit

theorem tr_own : ownKnob Tryd.prog.godebug = none := by kernel_rfl
theorem tr_laidOut : laidOutB Tryd.prog = true := by kernel_rfl
theorem tr_star : "*" ++ "errors.errorString" = "*errors.errorString" := by decide
theorem tr_row (u : TypeId) (h : Tryd.prog.typeName? 3 u = some "*errors.errorString") : u = 161 :=
  typeName_ptr_named (nm := "errors.errorString") (by rw [tr_star]; kernel_rfl) (by kernel_rfl) (by decide) u (by rw [tr_star]; exact h)
theorem tr_cells1 : Tryd.prog.cellsOf 184 = 1 := by kernel_rfl
theorem tr_cells2 : Tryd.prog.cellsOf 9 = 1 := by kernel_rfl

/-- a sentinel's datum -/
def sdat (x : String × List UInt8) : String × DataW Unit := (x.1, .iface "*errors.errorString" (.ptr (.agg [.lit (.string x.2)])))

theorem sents_gen {P : Program} {nm : String} {ti tp te ts : TypeId} {ms : Array (String × TypeId)} {f : Field} (hi : P.underlying ti = some (.interface ms)) (hrow : ∀ u, P.typeName? 3 u = some nm → u = tp)
    (hp : P.underlying tp = some (.pointer te)) (he : P.underlying te = some (.struct #[f])) (hft : f.type = ts) (hfo : f.offset = 0) (hs : P.underlying ts = some .string) (hc : P.cellsOf te = 1) (hcs : P.cellsOf ts = 1) {W : World} :
    ∀ (L : List (String × List UInt8)) (ps : List MemPlace), DataW.LaidVars P W (L.map fun x => (x.1, .iface nm (.ptr (.agg [.lit (.string x.2)])))) ps → ps.Nodup →
    (∀ b off, MemPlace.cell b off ∈ ps → (∃ c t, W.heap[b]? = some (.cells c t (0, 0))) ∧ ∀ u v, W.cell? ⟨b, off, none⟩ = some (.iface u v) → Value.okWide P W .any 0 u v) →
    (∀ x, x ∈ L → ∃ g, P.globalNamed x.1 = some g ∧ (P.globals[g]?).map (·.type) = some ti) →
    ∃ bs : List Addr, bs.length = L.length ∧ bs.Nodup ∧ (∀ b, b ∈ bs → MemPlace.cell b.block b.off ∈ ps) ∧ ∀ i (hi : i < L.length) (hj : i < bs.length), W.var? P (L[i]).1 = some #[.iface tp (.pointer (some bs[i]))] ∧ ∃ c t, W.heap[(bs[i]).block]? = some (.cells c t (0, 0))
  | [], _, _, _, _, _ => ⟨[], rfl, List.nodup_nil, fun b h => absurd h (by simp), fun i hi _ => absurd hi (by simp)⟩
  | x :: L, ps, hv, hnd, hrows, hg => by
    obtain ⟨g0, t0, cs0, f0, p0, q0, hg0, ht0, hv0, hd0, hrest, e0⟩ := hv
    subst e0
    obtain ⟨g, hg1, ht1⟩ := hg x (List.mem_cons_self ..)
    obtain rfl := Option.some.inj (hg1.symm.trans hg0)
    obtain rfl := Option.some.inj (ht1.symm.trans ht0)
    have hqnd : q0.Nodup := List.Nodup.sublist (List.sublist_append_right _ _) hnd
    obtain ⟨bs, hlen, hbnd, hmem, hall⟩ := sents_gen hi hrow hp he hft hfo hs hc hcs L q0 hrest hqnd (fun b off hm => hrows b off (List.mem_append_right _ hm)) (fun y hy => hg y (List.mem_cons_of_mem _ hy))
    obtain ⟨l0⟩ := cs0
    have ok0 : ∀ u v, l0 = [.iface u v] → Value.okWide P W .any 0 u v := fun u v e => by
      subst e
      exact (hrows g 0 (by simp [MemPlace.row])).2 u v (by simpa using World.var?_cell hg0 hv0 0)
    obtain ⟨a0, s0, rfl, hc0, hs0, hz0, rfl⟩ := errorString_of_trod hi hrow hp he hft hfo hs hc hcs hd0 ok0
    have ha0 : MemPlace.cell a0.block a0.off ∈ MemPlace.row a0 1 := by simp [MemPlace.row]
    refine ⟨a0 :: bs, by simp [hlen], ?_, ?_, ?_⟩
    · refine List.nodup_cons.2 ⟨fun hin => ?_, hbnd⟩
      have h1 := hmem a0 hin
      exact (List.nodup_append.1 hnd).2.2 _ (List.mem_append_right _ ha0) _ h1 rfl
    · intro b hb
      rcases List.mem_cons.1 hb with rfl | hb
      · exact List.mem_append_left _ (List.mem_append_right _ ha0)
      · exact List.mem_append_right _ (hmem b hb)
    · intro i hi hj
      cases i with
      | zero => exact ⟨hv0, (hrows a0.block a0.off (List.mem_append_left _ (List.mem_append_right _ ha0))).1⟩
      | succ i => exact hall i (by simpa using hi) (by simpa using hj)

theorem sents_of_vars {W : World} (L : List (String × List UInt8)) (ps : List MemPlace) (h : DataW.LaidVars Tryd.prog W (L.map sdat) ps) (hnd : ps.Nodup)
    (hrows : ∀ b off, MemPlace.cell b off ∈ ps → (∃ c t, W.heap[b]? = some (.cells c t (0, 0))) ∧ ∀ u v, W.cell? ⟨b, off, none⟩ = some (.iface u v) → Value.okWide Tryd.prog W .any 0 u v)
    (hg : ∀ x, x ∈ L → ∃ g, Tryd.prog.globalNamed x.1 = some g ∧ (Tryd.prog.globals[g]?).map (·.type) = some 29) :
    ∃ bs : List Addr, bs.length = L.length ∧ bs.Nodup ∧ (∀ b, b ∈ bs → MemPlace.cell b.block b.off ∈ ps) ∧ ∀ i (hi : i < L.length) (hj : i < bs.length), W.var? Tryd.prog (L[i]).1 = some #[.iface 161 (.pointer (some bs[i]))] ∧ ∃ c t, W.heap[(bs[i]).block]? = some (.cells c t (0, 0)) :=
  sents_gen Tryd.underlying29 tr_row Tryd.underlying161 Tryd.underlying184 rfl rfl Tryd.underlying9 tr_cells1 tr_cells2 L ps h hnd hrows hg

def names8 : List (String × List UInt8) := [("demon/api.ErrText", [100, 101, 109, 111, 110, 58, 32, 116, 101, 120, 116]), ("demon/api.ErrBound", [100, 101, 109, 111, 110, 58, 32, 98, 111, 117, 110, 100]),
  ("demon/api.ErrShape", [100, 101, 109, 111, 110, 58, 32, 115, 104, 97, 112, 101]), ("demon/api.ErrZero", [100, 101, 109, 111, 110, 58, 32, 122, 101, 114, 111]), ("demon/api.ErrName", [100, 101, 109, 111, 110, 58, 32, 110, 97, 109, 101]),
  ("demon/api.ErrNone", [100, 101, 109, 111, 110, 58, 32, 110, 111, 110, 101]), ("demon/api.ErrOrder", [100, 101, 109, 111, 110, 58, 32, 111, 114, 100, 101, 114]), ("demon/api.ErrKind", [100, 101, 109, 111, 110, 58, 32, 107, 105, 110, 100])]
theorem glob1 : Tryd.prog.globalNamed "demon/api.ErrText" = some 3 := by kernel_rfl
theorem glob2 : Tryd.prog.globalNamed "demon/api.ErrBound" = some 0 := by kernel_rfl
theorem glob3 : Tryd.prog.globalNamed "demon/api.ErrShape" = some 1 := by kernel_rfl
theorem glob4 : Tryd.prog.globalNamed "demon/api.ErrZero" = some 4 := by kernel_rfl
theorem glob5 : Tryd.prog.globalNamed "demon/api.ErrName" = some 5 := by kernel_rfl
theorem glob6 : Tryd.prog.globalNamed "demon/api.ErrNone" = some 6 := by kernel_rfl
theorem glob7 : Tryd.prog.globalNamed "demon/api.ErrOrder" = some 7 := by kernel_rfl
theorem glob8 : Tryd.prog.globalNamed "demon/api.ErrKind" = some 2 := by kernel_rfl
theorem globT (g : Nat) (h : g ∈ [3, 0, 1, 4, 5, 6, 7, 2]) : (Tryd.prog.globals[g]?).map (·.type) = some 29 := by
  have e : ([3, 0, 1, 4, 5, 6, 7, 2].map fun g => (Tryd.prog.globals[g]?).map (·.type)) = List.replicate 8 (some 29) := by kernel_rfl
  have h1 : (Tryd.prog.globals[g]?).map (·.type) ∈ List.replicate 8 (some 29) := by rw [← e]; exact List.mem_map.2 ⟨g, h, rfl⟩
  exact (List.mem_replicate.1 h1).2

theorem names8_glob : ∀ x, x ∈ names8 → ∃ g, Tryd.prog.globalNamed x.1 = some g ∧ (Tryd.prog.globals[g]?).map (·.type) = some 29 := by
  intro x hx
  simp only [names8, List.mem_cons, List.not_mem_nil, or_false] at hx
  rcases hx with rfl | rfl | rfl | rfl | rfl | rfl | rfl | rfl
  · exact ⟨_, glob1, globT _ (by decide)⟩
  · exact ⟨_, glob2, globT _ (by decide)⟩
  · exact ⟨_, glob3, globT _ (by decide)⟩
  · exact ⟨_, glob4, globT _ (by decide)⟩
  · exact ⟨_, glob5, globT _ (by decide)⟩
  · exact ⟨_, glob6, globT _ (by decide)⟩
  · exact ⟨_, glob7, globT _ (by decide)⟩
  · exact ⟨_, glob8, globT _ (by decide)⟩

theorem list8 {α : Type} {l : List α} (h : l.length = 8) : ∃ a b c d e f g i, l = [a, b, c, d, e, f, g, i] := by
  match l, h with
  | [a, b, c, d, e, f, g, i], _ => exact ⟨a, b, c, d, e, f, g, i, rfl⟩
theorem list2 {α : Type} {l : List α} (h : l.length = 2) : ∃ a b, l = [a, b] := by
  match l, h with
  | [a, b], _ => exact ⟨a, b, rfl⟩

/-- the codes' places, out of eight -/
def at8 (a1 a2 a3 a4 a5 a6 a7 a8 : Addr) : Nat → Addr
  | 1 => a1 | 2 => a2 | 3 => a3 | 4 => a4 | 5 => a5 | 6 => a6 | 7 => a7 | _ => a8

theorem sent8 {W : World} (h : laidMet Tryd.prog (names8.map sdat) W) : ∃ a, Sent [1, 2, 3, 4, 5, 6, 7, 8] W a := by
  obtain ⟨ps, hv, hnd, hrows⟩ := h
  obtain ⟨bs, hlen, hbnd, _, hall⟩ := sents_of_vars names8 ps hv hnd hrows names8_glob
  obtain ⟨a1, a2, a3, a4, a5, a6, a7, a8, rfl⟩ := list8 hlen
  have x1 := hall 0 (by decide) (by simp)
  have x2 := hall 1 (by decide) (by simp)
  have x3 := hall 2 (by decide) (by simp)
  have x4 := hall 3 (by decide) (by simp)
  have x5 := hall 4 (by decide) (by simp)
  have x6 := hall 5 (by decide) (by simp)
  have x7 := hall 6 (by decide) (by simp)
  have x8 := hall 7 (by decide) (by simp)
  refine ⟨at8 a1 a2 a3 a4 a5 a6 a7 a8, ⟨⟨?_⟩, ?_, ?_⟩⟩
  · intro c hc
    simp only [List.mem_cons, List.not_mem_nil, or_false] at hc
    rcases hc with rfl | rfl | rfl | rfl | rfl | rfl | rfl | rfl
    · show W.cell? ⟨3, 0, none⟩ = some (.iface 161 (.pointer (some a1)))
      simpa using World.var?_cell glob1 x1.1 0
    · show W.cell? ⟨0, 0, none⟩ = some (.iface 161 (.pointer (some a2)))
      simpa using World.var?_cell glob2 x2.1 0
    · show W.cell? ⟨1, 0, none⟩ = some (.iface 161 (.pointer (some a3)))
      simpa using World.var?_cell glob3 x3.1 0
    · show W.cell? ⟨4, 0, none⟩ = some (.iface 161 (.pointer (some a4)))
      simpa using World.var?_cell glob4 x4.1 0
    · show W.cell? ⟨5, 0, none⟩ = some (.iface 161 (.pointer (some a5)))
      simpa using World.var?_cell glob5 x5.1 0
    · show W.cell? ⟨6, 0, none⟩ = some (.iface 161 (.pointer (some a6)))
      simpa using World.var?_cell glob6 x6.1 0
    · show W.cell? ⟨7, 0, none⟩ = some (.iface 161 (.pointer (some a7)))
      simpa using World.var?_cell glob7 x7.1 0
    · show W.cell? ⟨2, 0, none⟩ = some (.iface 161 (.pointer (some a8)))
      simpa using World.var?_cell glob8 x8.1 0
  · intro c hc
    simp only [List.mem_cons, List.not_mem_nil, or_false] at hc
    rcases hc with rfl | rfl | rfl | rfl | rfl | rfl | rfl | rfl
    · exact x1.2
    · exact x2.2
    · exact x3.2
    · exact x4.2
    · exact x5.2
    · exact x6.2
    · exact x7.2
    · exact x8.2
  · intro c hc d hd e
    clear hall x1 x2 x3 x4 x5 x6 x7 x8
    simp only [List.nodup_cons, List.mem_cons, List.not_mem_nil, or_false, not_or] at hbnd
    simp only [List.mem_cons, List.not_mem_nil, or_false] at hc hd
    rcases hc with rfl | rfl | rfl | rfl | rfl | rfl | rfl | rfl <;> rcases hd with rfl | rfl | rfl | rfl | rfl | rfl | rfl | rfl <;> first
      | rfl
      | (exfalso; simp only [at8] at e; simp_all)

theorem tr_et : Tryd.prog.globalNamed "errors.errorType" = some 8 := by kernel_rfl
theorem tr_rt : (Tryd.prog.cutTypes.find? (·.1 == "internal/reflectlite.rtype")).map (·.2) = some 139 := by kernel_rfl
theorem tr_size : Tryd.prog.types.size = 200 := by kernel_rfl
theorem tr_oneRow : ((List.range 200).filter fun t => Tryd.prog.rowNamed t [101, 114, 114, 111, 114]) = [29] := by kernel_rfl
theorem tr_handle : typeHandle Tryd.prog 29 = .pointer (some ⟨9, 29, none⟩) := by kernel_rfl

theorem handle_of_laid {W : World} (h : handlesMet Tryd.prog [("errors.errorType", Rows.laid_errors_errorType)] W) : Handle W := by
  obtain ⟨name, u, ty, e1, e2, e3, e4, e5⟩ := h _ (List.mem_singleton.2 rfl)
  have en : name = [101, 114, 114, 111, 114] := (Option.some.inj e1).symm
  subst en
  obtain rfl := Option.some.inj (tr_rt.symm.trans e2)
  have hm : ty ∈ (List.range 200).filter fun t => Tryd.prog.rowNamed t [101, 114, 114, 111, 114] := List.mem_filter.2 ⟨List.mem_range.2 (by rw [← tr_size]; exact e3), e4⟩
  rw [tr_oneRow] at hm
  obtain rfl := List.mem_singleton.1 hm
  rw [tr_handle] at e5
  have := World.var?_cell tr_et e5 0
  simpa [Handle] using this

/-- ALL NINE: what the list of a law with coded gives -/
theorem full_of_laid {W : World} (h : laidMetH Tryd.prog [("errors.errorType", Rows.laid_errors_errorType), ("demon/api.ErrText", Rows.laid_demon_api_ErrText), ("demon/api.ErrBound", Rows.laid_demon_api_ErrBound), ("demon/api.ErrShape", Rows.laid_demon_api_ErrShape), ("demon/api.ErrZero", Rows.laid_demon_api_ErrZero), ("demon/api.ErrName", Rows.laid_demon_api_ErrName), ("demon/api.ErrNone", Rows.laid_demon_api_ErrNone), ("demon/api.ErrOrder", Rows.laid_demon_api_ErrOrder), ("demon/api.ErrKind", Rows.laid_demon_api_ErrKind)] W) :
    ∃ a, Sent [1, 2, 3, 4, 5, 6, 7, 8] W a ∧ Handle W := by
  have h' : laidMet Tryd.prog (names8.map sdat) W ∧ handlesMet Tryd.prog [("errors.errorType", Rows.laid_errors_errorType)] W := h
  obtain ⟨a, ha⟩ := sent8 h'.1
  exact ⟨a, ha, handle_of_laid h'.2⟩

/-! ### the closing of a law's row -/
theorem trodAll_below {H : Type} {enc : TypeId × Value → H} {W W' : World} (hb : Below W.heap.size W W') :
    ∀ (ts : List TypeId) (vs : List Value) (ds : List (DataW H)) (ps : List MemPlace), (∀ t, t ∈ ts → Tryd.prog.readableRec t = true ∧ t < Tryd.prog.types.size) →
      DataW.TrodAll enc Tryd.prog W 0 (fun _ => true) true ts vs ds ps → (∀ x ∈ ps, x.block < W.heap.size) → DataW.TrodAll enc Tryd.prog W' 0 (fun b => decide (b < W.heap.size)) true ts vs ds ps
  | [], [], [], _, _, h, _ => h
  | t :: ts, v :: vs, d :: ds, ps, hr, h, hlt => by
    obtain ⟨p, q, h1, h2, rfl⟩ := h
    exact ⟨p, q, Below.trod tr_laidOut (hr t (List.mem_cons_self ..)).1 (hr t (List.mem_cons_self ..)).2 h1 hb (fun x hx => hlt x (List.mem_append_left _ hx)),
      trodAll_below hb ts vs ds q (fun u hu => hr u (List.mem_cons_of_mem _ hu)) h2 (fun x hx => hlt x (List.mem_append_right _ hx)), rfl⟩
  | [], [], _ :: _, _, _, h, _ => h.elim
  | [], _ :: _, [], _, _, h, _ => h.elim
  | [], _ :: _, _ :: _, _, _, h, _ => h.elim
  | _ :: _, [], [], _, _, h, _ => h.elim
  | _ :: _, [], _ :: _, _, _, h, _ => h.elim
  | _ :: _, _ :: _, [], _, _, h, _ => h.elim

/-- a law's call that gives true and leaves what was there: what its row asks behind it -/
theorem post_true {H : Type} {enc : TypeId × Value → H} {f : Func} {s : ChangeSpec} {W W' : World} {args : Array Value} {ds gs : List (DataW H)} {before : List MemPlace}
    (hf : f.resultTypes = #[4]) (hvars : s.vars = []) (hfn : (s.fn H (ds ++ gs)) = { results := [.lit (.bool true)], args := ds }) (hr : ∀ t, t ∈ f.params.toList → Tryd.prog.readableRec t = true ∧ t < Tryd.prog.types.size)
    (hW : DataW.Whole enc Tryd.prog f.params.toList s.vars false W args.toList ds gs before) (hb : Below W.heap.size W W') : s.post enc Tryd.prog f false true false false W args (.bool true) W' := by
  have hlt := hW.lt
  have hW' := hW
  obtain ⟨p, q, hA, hV, rfl, _, _⟩ := hW
  refine ⟨ds, gs, p ++ q, [], p, [], hW', ?_, ?_, ?_, hb.frame _, fun h => by cases h⟩
  · rw [hfn, hf]; exact trodAll_mk1 (shut_bool Tryd.underlying4 true)
  · rw [hfn]; exact trodAll_below hb _ _ _ _ hr hA (fun x hx => hlt x (List.mem_append_left _ hx))
  · rw [hfn, hvars]; rfl
end Go.Proofs.YtieeefgkdfijdaaDoor

/- A law's arguments opened into our readings: whole numbers, slices of them, of pairs, of lists. No condition. -/
namespace Go.Proofs.YtieeefgkdfijdaaDoor
open Go.ChangeShapes Go.WideShapes Go.RowKit Go.Deep Go.Joins

section
variable {H : Type} {enc : TypeId × Value → H} {P : Program} {W : World} {base : Nat} {held : Bool}

theorem wf_range {n : Int} (h : (Lit.int .i64 n).wf = true) : -9223372036854775808 ≤ n ∧ n ≤ 9223372036854775807 := by
  have := bounds_i64 h
  omega

theorem spot_none {a : Addr} {v : Value} (h : W.cell? (a.add 0) = some v) : a = ⟨a.block, a.off, none⟩ := by
  obtain ⟨b, off, spot⟩ := a
  have hs : spot = none := World.cell?_spot h
  subst hs
  rfl

/-- a slice of whole numbers that came in -/
theorem open_ints_arg {fuel : Nat} {v : Value} {y : DataW H × List MemPlace} (h : DataW.trod enc Tryd.prog W base (fun _ => true) held fuel 33 [v] = some y) :
    ∃ A l cap, v = .slice A l.length cap ∧ Ints W A l ∧ l.length ≤ cap ∧ ∀ x, x ∈ l → -9223372036854775808 ≤ x ∧ x ≤ 9223372036854775807 := by
  have c3 : Tryd.prog.cellsOf 3 = 1 := by kernel_rfl
  rcases open_ints Tryd.underlying33 Tryd.underlying3 c3 h with ⟨hcs, _⟩ | ⟨a, len, cap, zs, hcs, hb, hl, hm, hz, _, hcell, hwz⟩
  · exact ⟨none, [], 0, by simpa using hcs, Ints.nil _ _, Nat.le_refl _, by simp⟩
  · simp only [if_true] at hz
    have hlen : (zs.take len).length = len := by rw [List.length_take]; omega
    refine ⟨some a, zs.take len, cap, by rw [hlen]; simpa using hcs, ⟨by rw [hlen]; simp only [maxLen] at hm; omega, fun i hi => ?_⟩, by rw [hlen]; exact hl, fun x hx => wf_range (hwz x (List.mem_of_mem_take hx))⟩
    rw [hlen] at hi
    have hc := hcell i (by rw [hz]; omega)
    have hs := spot_none (hcell 0 (by rw [hz]; omega))
    rw [hs, addr_add] at hc
    refine ⟨a.block, a.off, by rw [← hs], World.block_lt_of_cell? W ⟨a.block, a.off + i, none⟩ hc, ?_⟩
    rw [hc]
    have e : (zs.take len).getD i 0 = zs.getD i 0 := by
      simp [List.getD_eq_getElem?_getD, hi]
    rw [e]

/-- a slice of pairs that came in -/
theorem open_pairs_gen {t e q : TypeId} (ht : P.underlying t = some (.slice e)) (he : P.underlying e = some (.array 2 q)) (hq : P.underlying q = some (.int .i64)) (c2 : P.cellsOf e = 2) (c1 : P.cellsOf q = 1) {fuel : Nat} {v : Value} {y : DataW H × List MemPlace} (h : DataW.trod enc P W base (fun _ => true) held fuel t [v] = some y) :
    ∃ A l cap, v = .slice A l.length cap ∧ Pairs W A l ∧ l.length ≤ cap ∧ ∀ p, p ∈ l → (-9223372036854775808 ≤ p.1 ∧ p.1 ≤ 9223372036854775807) ∧ (-9223372036854775808 ≤ p.2 ∧ p.2 ≤ 9223372036854775807) := by
  rcases open_slice ht h with ⟨hcs, _⟩ | ⟨a, len, cap, m, n, D, Pl, hcs, hb, hl, hm, hmm, _, hx⟩
  · exact ⟨none, [], 0, by simpa using hcs, Pairs.nil _ _, Nat.le_refl _, by simp⟩
  · simp only [if_true] at hmm
    subst hmm
    have each : ∀ i, i < len → ∃ p : Int × Int, W.cell? (a.add (i * 2)) = some (.int .i64 p.1) ∧ W.cell? ((a.add (i * 2)).add 1) = some (.int .i64 p.2) ∧ (-9223372036854775808 ≤ p.1 ∧ p.1 ≤ 9223372036854775807) ∧ (-9223372036854775808 ≤ p.2 ∧ p.2 ≤ 9223372036854775807) := by
      intro i hi
      obtain ⟨cs', hc, htr⟩ := hx i (by omega)
      rw [c2] at hc
      obtain ⟨_, hcl, hat⟩ := World.cells?_some hc
      obtain ⟨xs, m', _, _, hlen', hxl, hel⟩ := DataW.trod_array he htr
      obtain ⟨u0, u1, rfl⟩ := list2 hcl
      have e0 := hel 0 (by decide)
      have e1 := hel 1 (by decide)
      rw [c1] at e0 e1
      have f0 : xs[0]? = some (xs[0]'(by omega)) := List.getElem?_eq_getElem (by omega)
      have f1 : xs[1]? = some (xs[1]'(by omega)) := List.getElem?_eq_getElem (by omega)
      rw [f0] at e0
      rw [f1] at e1
      obtain ⟨p0, g0, _, w0⟩ := DataW.trod_int hq e0
      obtain ⟨p1, g1, _, w1⟩ := DataW.trod_int hq e1
      have h0 := hat 0 (by decide)
      have h1 := hat 1 (by decide)
      have q0 : u0 = .int .i64 p0 := by
        change [u0] = _ at g0
        injection g0
      have q1 : u1 = .int .i64 p1 := by
        change [u1] = _ at g1
        injection g1
      subst q0 q1
      exact ⟨(p0, p1), h0, h1, wf_range w0, wf_range w1⟩
    obtain ⟨f, hf⟩ := choose_lt each
    have hlen : ((List.range len).map f).length = len := by simp
    refine ⟨some a, (List.range len).map f, m, by rw [hlen]; simpa using hcs, ⟨by rw [hlen]; simp only [maxLen] at hm; omega, fun i hi => ?_⟩, by rw [hlen]; exact hl, fun p hp => ?_⟩
    · rw [hlen] at hi
      obtain ⟨g0, g1, _, _⟩ := hf i hi
      have hs := spot_none (hf 0 (by omega)).1
      rw [hs, addr_add] at g0
      rw [hs, addr_add, addr_add] at g1
      have e : ((List.range len).map f).getD i (0, 0) = f i := by simp [List.getD_eq_getElem?_getD, hi]
      rw [e]
      exact ⟨a.block, a.off, by rw [← hs], World.block_lt_of_cell? W ⟨a.block, a.off + i * 2, none⟩ g0, g0, g1⟩
    · obtain ⟨i, hi, rfl⟩ := List.mem_map.1 hp
      obtain ⟨_, _, r0, r1⟩ := hf i (List.mem_range.1 hi)
      exact ⟨r0, r1⟩
theorem open_pairs_arg {fuel : Nat} {v : Value} {y : DataW H × List MemPlace} (h : DataW.trod enc Tryd.prog W base (fun _ => true) held fuel 22 [v] = some y) :
    ∃ A l cap, v = .slice A l.length cap ∧ Pairs W A l ∧ l.length ≤ cap ∧ ∀ p, p ∈ l → (-9223372036854775808 ≤ p.1 ∧ p.1 ≤ 9223372036854775807) ∧ (-9223372036854775808 ≤ p.2 ∧ p.2 ≤ 9223372036854775807) :=
  open_pairs_gen Tryd.underlying22 Tryd.underlying75 Tryd.underlying3 (by kernel_rfl) (by kernel_rfl) h

/-- a slice of lists that came in -/
theorem open_lists_arg {fuel : Nat} {v : Value} {y : DataW H × List MemPlace} (h : DataW.trod enc Tryd.prog W base (fun _ => true) held fuel 37 [v] = some y) :
    ∃ A l cap, v = .slice A l.length cap ∧ Lists W A l ∧ l.length ≤ cap ∧ ∀ r, r ∈ l → ∀ x, x ∈ r → -9223372036854775808 ≤ x ∧ x ≤ 9223372036854775807 := by
  have c1 : Tryd.prog.cellsOf 33 = 1 := by kernel_rfl
  rcases open_slice1 Tryd.underlying37 c1 h with ⟨hcs, _⟩ | ⟨a, len, cap, m, n, V, D, Pl, hcs, hb, hl, hm, hmm, _, hx⟩
  · exact ⟨none, [], 0, by simpa using hcs, Lists.nil _ _, Nat.le_refl _, by simp⟩
  · simp only [if_true] at hmm
    subst hmm
    have each : ∀ i, i < len → ∃ q : Option Addr × List Int × Nat, W.cell? (a.add i) = some (.slice q.1 q.2.1.length q.2.2) ∧ q.2.1.length ≤ q.2.2 ∧ Ints W q.1 q.2.1 ∧ ∀ x, x ∈ q.2.1 → -9223372036854775808 ≤ x ∧ x ≤ 9223372036854775807 := by
      intro i hi
      obtain ⟨hc, ht⟩ := hx i (by omega)
      obtain ⟨A, l, c, e, h1, h2, h3⟩ := open_ints_arg ht
      exact ⟨(A, l, c), by rw [hc, e], h2, h1, h3⟩
    obtain ⟨f, hf⟩ := choose_lt each
    have hlen : ((List.range len).map fun i => (f i).2.1).length = len := by simp
    refine ⟨some a, (List.range len).map fun i => (f i).2.1, m, by rw [hlen]; simpa using hcs, ⟨by rw [hlen]; simp only [maxLen] at hm; omega, fun i hi => ?_⟩, by rw [hlen]; exact hl, fun r hr => ?_⟩
    · rw [hlen] at hi
      obtain ⟨g0, g1, g2, _⟩ := hf i hi
      have hs := spot_none (hf 0 (by omega)).1
      rw [hs, addr_add] at g0
      have e : ((List.range len).map fun i => (f i).2.1).getD i [] = (f i).2.1 := by simp [List.getD_eq_getElem?_getD, hi]
      rw [e]
      exact ⟨a.block, a.off, (f i).1, (f i).2.2, by rw [← hs], World.block_lt_of_cell? W ⟨a.block, a.off + i, none⟩ g0, g0, g1, g2⟩
    · obtain ⟨i, hi, rfl⟩ := List.mem_map.1 hr
      exact (hf i (List.mem_range.1 hi)).2.2.2
end
end Go.Proofs.YtieeefgkdfijdaaDoor

/- What a shorter list of laid sentinels gives: each reads as an error of its own. Condition: the listed variables read as laid. -/
namespace Go.Proofs.YtieeefgkdfijdaaDoor
open Go.ChangeShapes Go.WideShapes Go.ChangeAt Go.RowKit

/-- the name and the text of a code's variable -/
def nm : Nat → String × List UInt8
  | 1 => ("demon/api.ErrText", [100, 101, 109, 111, 110, 58, 32, 116, 101, 120, 116]) | 2 => ("demon/api.ErrBound", [100, 101, 109, 111, 110, 58, 32, 98, 111, 117, 110, 100])
  | 3 => ("demon/api.ErrShape", [100, 101, 109, 111, 110, 58, 32, 115, 104, 97, 112, 101]) | 4 => ("demon/api.ErrZero", [100, 101, 109, 111, 110, 58, 32, 122, 101, 114, 111])
  | 5 => ("demon/api.ErrName", [100, 101, 109, 111, 110, 58, 32, 110, 97, 109, 101]) | 6 => ("demon/api.ErrNone", [100, 101, 109, 111, 110, 58, 32, 110, 111, 110, 101])
  | 7 => ("demon/api.ErrOrder", [100, 101, 109, 111, 110, 58, 32, 111, 114, 100, 101, 114]) | _ => ("demon/api.ErrKind", [100, 101, 109, 111, 110, 58, 32, 107, 105, 110, 100])
theorem nm_glob : ∀ c, Tryd.prog.globalNamed (nm c).1 = some (glob c)
  | 0 => glob8 | 1 => glob1 | 2 => glob2 | 3 => glob3 | 4 => glob4 | 5 => glob5 | 6 => glob6 | 7 => glob7 | 8 => glob8 | _ + 9 => glob8
theorem nm_type (c : Nat) : (Tryd.prog.globals[glob c]?).map (·.type) = some 29 := by
  refine globT _ ?_
  unfold glob
  split <;> decide
theorem sent_of (cs : List Nat) {W : World} (h : laidMet Tryd.prog ((cs.map nm).map sdat) W) : ∃ a, Sent cs W a := by
  obtain ⟨ps, hv, hpn, hrows⟩ := h
  obtain ⟨bs, hlen, hbnd, _, hall⟩ := sents_of_vars (cs.map nm) ps hv hpn hrows (fun x hx => by
    obtain ⟨c, _, rfl⟩ := List.mem_map.1 hx
    exact ⟨_, nm_glob c, nm_type c⟩)
  have hlen' : bs.length = cs.length := by simpa using hlen
  have key : ∀ c, c ∈ cs → ∃ i, ∃ (hi : i < cs.length) (hj : i < bs.length), cs[i] = c ∧ cs.idxOf c = i ∧ bs[cs.idxOf c]?.getD ⟨0, 0, none⟩ = bs[i] := fun c hc => by
    have h1 := List.idxOf_lt_length_of_mem hc
    refine ⟨cs.idxOf c, h1, by omega, List.getElem_idxOf h1, rfl, ?_⟩
    rw [List.getElem?_eq_getElem (by omega)]
    rfl
  refine ⟨fun c => bs[cs.idxOf c]?.getD ⟨0, 0, none⟩, ⟨⟨?_⟩, ?_, ?_⟩⟩
  · intro c hc
    obtain ⟨i, hi, hj, e1, _, e3⟩ := key c hc
    have := (hall i (by simpa using hi) hj).1
    rw [List.getElem_map, e1] at this
    show W.cell? ⟨glob c, 0, none⟩ = some (.iface 161 (.pointer (some (bs[cs.idxOf c]?.getD ⟨0, 0, none⟩))))
    rw [e3]
    simpa using World.var?_cell (nm_glob c) this 0
  · intro c hc
    obtain ⟨i, hi, hj, e1, _, e3⟩ := key c hc
    have := (hall i (by simpa using hi) hj).2
    show ∃ ca ta, W.heap[(bs[cs.idxOf c]?.getD ⟨0, 0, none⟩).block]? = some (.cells ca ta (0, 0))
    rw [e3]
    exact this
  · intro c hc d hd e
    obtain ⟨i, hi, hj, e1, e2, e3⟩ := key c hc
    obtain ⟨i', hi', hj', e1', e2', e3'⟩ := key d hd
    have e4 : bs[i] = bs[i'] := by rw [← e3, ← e3']; exact e
    have e5 : i = i' := by
      rcases Nat.lt_trichotomy i i' with h1 | h1 | h1
      · exact absurd e4 (List.pairwise_iff_getElem.1 hbnd i i' hj hj' h1)
      · exact h1
      · exact absurd e4.symm (List.pairwise_iff_getElem.1 hbnd i' i hj' hj h1)
    subst e5
    rw [← e1, ← e1']
end Go.Proofs.YtieeefgkdfijdaaDoor
