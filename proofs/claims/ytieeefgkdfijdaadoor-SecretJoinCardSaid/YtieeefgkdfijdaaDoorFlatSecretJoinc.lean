/- Words, plain laws and walks behind the law SecretJoin, part 3. No condition. -/
import Derived.Test.YtieeefgkdfijdaaDoorFlatSecretJoina
import Derived.Test.YtieeefgkdfijdaaDoorFlatSecretJoinb
import Derived.Shelf.Abstract
import Derived.Deep.RegionHeld3
import Derived.Shelf.Small.Bits
import Derived.Shelf.Small.Wraps
import Derived.Shelf.Strconv.Itoa0
import Derived.Shelf.Sort.Plain
import Derived.Shelf.Slices.Turned
import Derived.Shelf.Slices.Equal
import Derived.Ground.Names2Prog
import Derived.Shelf.Slices.Clone
import Derived.Shelf.Slices.CompactI
import Derived.Shelf.Slices.SearchI
import Derived.Shelf.Slices.Cells
import Derived.Shelf.Slices.In.SortNone
import Derived.Ground.SlgnProg
import Derived.Shelf.SlicesE.Clone
import Derived.Test.YtieeefgkdfijdaaDoorProg
import Derived.RangeFuncBox
import Derived.RangeFuncLeaves
import Derived.RangeFuncNested
import Derived.Shelf.RegionOpen
import Derived.WalkKit
import Derived.OwnWalkIn
import Derived.TacticsInMore
import Derived.LoopNIn
import Derived.LoopIn
import Derived.Deep.RegionLaw
import Derived.StillTailTactics

/- The walk of secret.elements: the closure, slices.IndexFunc, slices.ContainsFunc. No condition. -/
namespace Go.Proofs.YtieeefgkdfijdaaDoor
open Go.RowKit Go.Deep Go.Shelf Go.Proofs.YtieeefgkdfijdaaDoorW.PrintWords

/-- is it outside? -/
def outside (p least x : Int) : Bool := decide (x < least) || decide (x ≥ p)
theorem any_outside (l : List Int) (p least : Int) : (l.any (outside p least)) = !inside l p least := by
  unfold inside outside
  rw [Bool.not_not]

theorem anyQ_take (q : Int → Bool) (l : List Int) (i : Nat) (h : i < l.length) : (l.take (i + 1)).any q = ((l.take i).any q || q (l.getD i 0)) := any_take q l i h
/-- the test with its two captured variables in cells -/
theorem elem_pred (p least : Int) (B C : Nat) (w : World) (hB : B < w.heap.size) (hC : C < w.heap.size) (h1 : w.cell? ⟨B, 0, none⟩ = some (.int .i64 least)) (h2 : w.cell? ⟨C, 0, none⟩ = some (.int .i64 p)) (x : Int) :
    ∀ W, Below w.heap.size w W → Calls Tryd.prog 82 #[.int .i64 x, .pointer (some ⟨B, 0, none⟩), .pointer (some ⟨C, 0, none⟩)] W fun e w' => e = .returned (.bool (outside p least x)) ∧ Below w.heap.size w w' := fun W hb => by
  have c1 : W.cell? ⟨B, 0, none⟩ = some (.int .i64 least) := (hb.cell (p := ⟨B, 0, none⟩) hB).trans h1
  have c2 : W.cell? ⟨C, 0, none⟩ = some (.int .i64 p) := (hb.cell (p := ⟨C, 0, none⟩) hC).trans h2
  go_enter Tryd.func82, Tryd.ntmps82
  go_wp2_with (fail)
  · go_ret
    exact ⟨rfl, hb⟩
  · go_ret
    have h : x < least := by assumption
    exact ⟨by simp [outside, h], hb⟩

set_option maxHeartbeats 1000000 in
theorem indexElem_any (A : Option Addr) (l : List Int) (c : Nat) (p least : Int) (B C : Nat) (w : World) (hA : Ints w A l) (hB : B < w.heap.size) (hC : C < w.heap.size) (h1 : w.cell? ⟨B, 0, none⟩ = some (.int .i64 least)) (h2 : w.cell? ⟨C, 0, none⟩ = some (.int .i64 p)) :
    Calls Tryd.prog 94 #[.slice A l.length c, .func (.func 82) #[] #[.pointer (some ⟨B, 0, none⟩), .pointer (some ⟨C, 0, none⟩)]] w fun e w' => ∃ r : Int, e = .returned (.int .i64 r) ∧ decide (0 ≤ r) = l.any (outside p least) ∧ Below w.heap.size w w' := by
  have eg : ∀ args w, (callFunc 82 args).run Tryd.prog w = .ok (.enter 82 args) w := enters_of Tryd.func82 (by kernel_rfl) rfl
  have HP := hide (fun x W (hb : Below w.heap.size w W) => elem_pred p least B C w hB hC h1 h2 x W hb)
  have hlen := hA.len
  clear h1 h2
  go_enter Tryd.func94, Tryd.ntmps94
  go_wp2_with (fail)
  go_loopw [5, 8] (fun _ v wr => ∃ i : Nat, i ≤ l.length ∧ v = .int .i64 i ∧ Below w.heap.size w wr ∧ (l.take i).any (outside p least) = false) (fun _ v _ => l.length - (intOf v).toNat)
  case atStart => exact ⟨0, Nat.zero_le _, rfl, Below.refl _ _, by simp⟩
  case round =>
    obtain ⟨i, hi, rfl, hBi, hn⟩ := hrel
    obtain ⟨wi, rfl⟩ : ∃ wi : World, wi = wr := ⟨_, rfl⟩
    have i0 : (0 : Int) ≤ (i : Int) := Int.natCast_nonneg _
    by_cases hil : i < l.length
    · have i1 : (i : Int) < (l.length : Int) := by omega
      obtain ⟨b, off, rfl, _, d1⟩ := (hA.below hBi).at_ i hil
      have hnx := anyQ_take (outside p least) l i hil
      rw [hn, Bool.false_or] at hnx
      have hyes : outside p least (l.getD i 0) = true → l.any (outside p least) = true := fun h => by
        rw [List.any_eq_true]
        rw [getD_eq l i 0 hil] at h
        exact ⟨l[i], List.getElem_mem hil, h⟩
      have hcall := HP.out (l.getD i 0) wi hBi
      generalize l.getD i 0 = x at d1 hnx hyes hcall
      generalize hq : outside p least x = q at hnx hyes hcall
      have HC := hide hcall
      have HNX := hide hnx
      have HY := hide hyes
      clear hcall hnx hyes hn hq
      cases q
      · go_wp2_with (go_at_fn 82; refine Calls.mono HC.out ?_; rintro e w1 ⟨rfl, hb1⟩)
        go_roundw
        case rel => exact ⟨i + 1, by omega, by go_num, hb1, HNX.out⟩
        case measure => simp [intOf]; omega
      · go_wp2_with (go_at_fn 82; refine Calls.mono HC.out ?_; rintro e w1 ⟨rfl, hb1⟩)
        go_ret
        exact ⟨(i : Int), rfl, by rw [HY.out (by trivial)]; exact decide_eq_true i0, hb1⟩
    · obtain rfl : i = l.length := by omega
      rw [List.take_length] at hn
      have HN := hide hn
      clear hn
      go_wp2_with (fail)
      go_ret
      exact ⟨-1, rfl, by rw [HN.out]; rfl, hBi⟩
theorem containsElem_any (A : Option Addr) (l : List Int) (c : Nat) (p least : Int) (B C : Nat) (w : World) (hA : Ints w A l) (hB : B < w.heap.size) (hC : C < w.heap.size) (h1 : w.cell? ⟨B, 0, none⟩ = some (.int .i64 least)) (h2 : w.cell? ⟨C, 0, none⟩ = some (.int .i64 p)) :
    Calls Tryd.prog 81 #[.slice A l.length c, .func (.func 82) #[] #[.pointer (some ⟨B, 0, none⟩), .pointer (some ⟨C, 0, none⟩)]] w fun e w' => e = .returned (.bool (l.any (outside p least))) ∧ Below w.heap.size w w' := by
  have HC := hide (indexElem_any A l c p least B C w hA hB hC h1 h2)
  go_enter Tryd.func81, Tryd.ntmps81
  go_wp2_with (go_at_call 94; refine Calls.mono HC.out ?_; rintro e w1 ⟨r, rfl, hr, hb1⟩)
  go_ret
  exact ⟨by rw [← hr]; rfl, hb1⟩
theorem elements_any (A : Option Addr) (l : List Int) (c : Nat) (p least : Int) (w : World) (hA : Ints w A l) :
    Calls Tryd.prog 64 #[.slice A l.length c, .int .i64 p, .int .i64 least] w fun e w' => e = .returned (.bool (inside l p least)) ∧ Below w.heap.size w w' := by
  have hb2 : Below w.heap.size w ((w.alloc (.cells #[.int .i64 p] 3)).alloc (.cells #[.int .i64 least] 3)) := below_alloc' (below_alloc' (Below.refl _ _) _) _
  have hc := containsElem_any A l c p least (w.heap.size + 1) w.heap.size ((w.alloc (.cells #[.int .i64 p] 3)).alloc (.cells #[.int .i64 least] 3)) (hA.below hb2) (by simp) (by simp; omega) (by simp) (by simp)
  rw [any_outside] at hc
  have HC := hide hc
  have HB2 := hide hb2
  clear hc hb2
  generalize inside l p least = q at HC ⊢
  go_enter Tryd.func64, Tryd.ntmps64
  go_wp2_with (go_at_call 81; refine Calls.mono HC.out ?_; rintro e w1 ⟨rfl, hb1⟩)
  go_ret
  exact ⟨rfl, below_trans HB2.out hb1⟩
end Go.Proofs.YtieeefgkdfijdaaDoor

/- The walk of demonref3.JoinError; contracts of the other functions behind SecretJoin. No condition. -/
namespace Go.Proofs.YtieeefgkdfijdaaDoor
open Go.RowKit Go.Deep Go.Proofs.YtieeefgkdfijdaaDoorW.PrintWords

theorem isFieldJ_ok (p : Int) (w : World) : Calls Tryd.prog 61 #[.int .i64 p] w fun e w' => e = .returned (.bool (fieldOf p)) ∧ Drawn0 w w' := by
  obtain ⟨k, hk⟩ := (isFieldJ_ev p).rounds
  exact PSecretJoin.demonref3_IsField.calls k p (fieldOf p) w hk
theorem inFieldJ_ok (A : Option Addr) (l : List Int) (c : Nat) (p least : Int) (w : World) (hA : Ints w A l) (hc : l.length ≤ c) (hl : l.length ≤ 2000000) :
    Calls Tryd.prog 62 #[.slice A l.length c, .int .i64 p, .int .i64 least] w fun e w' => e = .returned (.bool (inside l p least)) ∧ Drawn0 w w' := by
  obtain ⟨k, hk⟩ := (inFieldJ_ev l p least hl).rounds
  exact PSecretJoin.demonref3_InField.calls k A c l p least (inside l p least) w hA.toC hc hk
theorem drawn0_trans {a b c : World} (h : Drawn0 a b) (k : Drawn0 b c) : Drawn0 a c := by
  obtain ⟨n, rfl⟩ := k
  exact h.step n
theorem containsJ_ok (A : Option Addr) (l : List Int) (n c : Nat) (x : Int) (w : World) (hA : Ints w A l) (hn : l.length = n) (hc : n ≤ c) (hl : n ≤ 2000000) :
    Calls Tryd.prog 52 #[.slice A n c, .int .i64 x] w fun e w' => e = .returned (.bool (decide (x ∈ l))) ∧ Drawn0 w w' := by
  subst hn
  obtain ⟨k, hk⟩ := (contains_ev l x hl l.length 0 (by omega) (by simp)).rounds
  exact PSecretJoin.demonref1_Contains.calls k A c l x (decide (x ∈ l)) w hA.toC hc hk
theorem power_ok (p : Int) (hp : 2 ≤ p ∧ p ≤ 997) (a n : Int) (w : World) (hn : 0 ≤ n ∧ n ≤ 1000) (ha : 0 ≤ a ∧ a < p) :
    Calls Tryd.prog 71 #[.int .i64 a, .int .i64 n, .int .i64 p] w fun e w' => ∃ s, e = .returned (.int .i64 s) ∧ (0 ≤ s ∧ s < p) ∧ Eqm p s (a ^ n.toNat) ∧ Below w.heap.size w w' := by
  obtain ⟨m, rfl⟩ := Int.eq_ofNat_of_zero_le hn.1
  obtain ⟨s, ⟨k, hk⟩, h1, h2⟩ := power_some p hp a m (by omega) ha
  refine (PSecretJoin.secret_power.calls k a m p s w hk).mono ?_
  rintro e w' ⟨rfl, h⟩
  exact ⟨s, rfl, h1, h2, drawn_below h⟩
theorem joinOf_ok (A B : Option Addr) (at_ vs : List Int) (c d : Nat) (p : Int) (w : World) (hA : Ints w A at_) (hB : Ints w B vs) (hc : at_.length ≤ c) (hd : vs.length ≤ d) (h0 : jErr p at_ vs = 0) :
    Calls Tryd.prog 47 #[.int .i64 p, .slice A at_.length c, .slice B vs.length d] w fun e w' => e = .returned (.int .i64 (joinV p at_ vs)) ∧ Below w.heap.size w w' := by
  unfold jErr at h0
  have hf : fieldOf p = true := by
    cases h : fieldOf p
    · rw [if_pos h] at h0; cases h0
    · rfl
  rw [if_neg (by rw [hf]; decide)] at h0
  have hr : ¬ (at_.length = 0 ∨ 12 < at_.length) := fun h => by rw [if_pos h] at h0; cases h0
  rw [if_neg hr] at h0
  have hg : inside at_ p 1 = true ∧ inside vs p 0 = true ∧ at_.length = vs.length ∧ at_.Nodup := by
    rcases Classical.em (inside at_ p 1 = true ∧ inside vs p 0 = true ∧ at_.length = vs.length ∧ at_.Nodup) with h | h
    · exact h
    · rw [if_neg h] at h0; cases h0
  obtain ⟨k, hk⟩ := joinOf_some hf at_ vs (by omega) (by omega) hg.2.2.1 hg.1 hg.2.1 hg.2.2.2
  exact PSecretJoin.demonref3_JoinOf.calls k p A c at_ B d vs (joinV p at_ vs) w hA.toC hc hB.toC hd hk

set_option maxHeartbeats 1000000 in
theorem joinError_loop (A : Option Addr) (at_ : List Int) (c : Nat) (p : Int) (B : Option Addr) (vs : List Int) (d : Nat) (w : World) (hA : Ints w A at_) (hB : Ints w B vs) (hc : at_.length ≤ c) (hd : vs.length ≤ d) (hl : at_.length ≤ 2000000) (hv : vs.length ≤ 2000000)
    (hf : fieldOf p = true) (h12 : at_.length ≤ 12) (hn : 0 < at_.length) (h1 : inside at_ p 1 = true) (h2 : inside vs p 0 = true) (h3 : at_.length = vs.length) (r : Int) (hr : (at_.Nodup ∧ r = 0) ∨ (¬ at_.Nodup ∧ r = 3)) :
    Calls Tryd.prog 46 #[.int .i64 p, .slice A at_.length c, .slice B vs.length d] w fun e w' => e = .returned (.int .i64 r) ∧ Drawn0 w w' := by
  have HR := hide hr
  clear hr
  have HF := hide (fun w' => isFieldJ_ok p w')
  have HI1 := hide (fun w' (hw : Drawn0 w w') => inFieldJ_ok A at_ c p 1 w' (hA.below (drawn_below hw)) hc hl)
  have HI2 := hide (fun w' (hw : Drawn0 w w') => inFieldJ_ok B vs d p 0 w' (hB.below (drawn_below hw)) hd hv)
  rw [hf] at HF
  rw [h1] at HI1
  rw [h2] at HI2
  rw [← h3] at HI2 ⊢
  have HH := hide (And.intro hf (And.intro h1 (And.intro h2 h3)))
  clear hf h1 h2 h3
  have l0 : 0 < (at_.length : Int) := by omega
  have l12 : ¬ 12 < (at_.length : Int) := by omega
  have b0 : ((at_.length : Int) == 0) = false := by rw [beq_eq_false_iff_ne]; omega
  have b12 : decide (12 < (at_.length : Int)) = false := decide_eq_false l12
  go_enter Tryd.func46, Tryd.ntmps46
  go_wp2_with (first
    | (go_at_call 61; refine Calls.mono (HF.out _) ?_; rintro e w1 ⟨rfl, hw1⟩)
    | (go_at_call 62; refine Calls.mono (HI1.out w1 hw1) ?_; rintro e w2 ⟨rfl, hw2'⟩; have hw2 := drawn0_trans hw1 hw2'; clear HI1)
    | (go_at_call 62; refine Calls.mono (HI2.out w2 hw2) ?_; rintro e w3 ⟨rfl, hw3'⟩; have hw3 := drawn0_trans hw2 hw3'))
  have hA3 : Ints w3 A at_ := hA.below (drawn_below hw3)
  have hlen := hA3.len
  go_loopw [10] (fun v wr => ∃ i : Nat, i ≤ at_.length ∧ v = .int .i64 i ∧ Hid (at_.take i).Nodup ∧ Drawn0 w3 wr) (fun v _ => at_.length - (intOf v).toNat)
  case atStart => exact ⟨0, Nat.zero_le _, rfl, hide (by simp), Drawn0.refl _⟩
  case round =>
    obtain ⟨i, hi, rfl, HN, hWi⟩ := hrel
    obtain ⟨wi, rfl⟩ : ∃ wi : World, wi = wr := ⟨_, rfl⟩
    have i0 : (0 : Int) ≤ (i : Int) := Int.natCast_nonneg _
    by_cases hil : i < at_.length
    · have hAi : Ints wi A at_ := hA3.below (drawn_below hWi)
      obtain ⟨b, off, rfl, hb, dx⟩ := hAi.at_ i hil
      have i1 : (i : Int) < (at_.length : Int) := by omega
      have i2 : (i : Int) ≤ (c : Int) := by omega
      have i3 : (i : Int) ≤ (at_.length : Int) := by omega
      have hcn := fun (w' : World) (h : Below wi.heap.size wi w') => containsJ_ok (some ⟨b, off, none⟩) (at_.take i) i c (at_.getD i 0) w' ((hAi.below h).take i) (by rw [List.length_take]; omega) (by omega) (by omega)
      have et : at_.take (i + 1) = at_.take i ++ [at_.getD i 0] := by rw [List.take_succ_eq_append_getElem hil, getD_eq at_ i 0 hil]
      have hnd : at_.getD i 0 ∉ at_.take i → (at_.take (i + 1)).Nodup := fun hm => by
        rw [et, List.nodup_append]
        refine ⟨HN.out, by simp, fun a ha b hb e => ?_⟩
        rw [List.mem_singleton] at hb
        subst e hb
        exact hm ha
      have hdup : at_.getD i 0 ∈ at_.take i → ¬ at_.Nodup := fun hm h => by
        have h2 : (at_.take (i + 1)).Nodup := h.sublist (List.take_sublist _ _)
        rw [et, List.nodup_append] at h2
        exact h2.2.2 _ hm _ (List.mem_singleton_self _) rfl
      have HND := hide (fun h => hnd (of_decide_eq_false h))
      have HDUP := hide (fun h => hdup (of_decide_eq_true h))
      clear hnd hdup et hA3 hAi
      generalize decide (at_.getD i 0 ∈ at_.take i) = q at hcn HND HDUP
      generalize at_.getD i 0 = x at dx hcn
      have HCN := hide hcn
      clear hcn
      go_wp2_with (fail)
      go_region_held3 (fun w' => w'.cell? ⟨b, off + i, none⟩ = some (.int .i64 x))
        (first | go_keep | assumption | trivial)
        ((first
          | (go_at_call 52
             refine Calls.mono (HCN.out _ (below_drewN' (Below.refl _ _) 1)) ?_
             rintro e w5 ⟨rfl, hd5⟩
             obtain ⟨⟨n5, rfl⟩⟩ := hd5)))
      cases q
      · go_wp2_with (fail)
        go_roundw
        case rel => exact ⟨i + 1, by omega, by go_num, hide (HND.out (by trivial)), hWi.step _⟩
        case measure => simp [intOf]; omega
      · go_wp2_with (fail)
        go_ret
        exact ⟨ret_int (by rcases HR.out with h | h; exact absurd h.1 (HDUP.out (by trivial)); exact h.2.symm), drawn0_trans hw3 (hWi.step _)⟩
    · obtain rfl : i = at_.length := by omega
      have hn := HN.out
      rw [List.take_length] at hn
      have HNN := hide hn
      clear hn HN
      go_wp2_with (fail)
      go_ret
      exact ⟨ret_int (by rcases HR.out with h | h; exact h.2.symm; exact absurd HNN.out h.1), drawn0_trans hw3 hWi⟩
set_option maxHeartbeats 2000000 in
theorem joinError_early (A : Option Addr) (at_ : List Int) (c : Nat) (p : Int) (B : Option Addr) (vs : List Int) (d : Nat) (w : World) (hA : Ints w A at_) (hB : Ints w B vs) (hc : at_.length ≤ c) (hd : vs.length ≤ d) (hl : at_.length ≤ 2000000) (hv : vs.length ≤ 2000000)
    (h : ¬ (fieldOf p = true ∧ at_.length ≤ 12 ∧ 0 < at_.length ∧ inside at_ p 1 = true ∧ inside vs p 0 = true ∧ at_.length = vs.length)) (r : Int) (hr : jErr p at_ vs = r) :
    Calls Tryd.prog 46 #[.int .i64 p, .slice A at_.length c, .slice B vs.length d] w fun e w' => e = .returned (.int .i64 r) ∧ Drawn0 w w' := by
  have HF := hide (fun w' => isFieldJ_ok p w')
  have HI1 := hide (fun w' (hw : Drawn0 w w') => inFieldJ_ok A at_ c p 1 w' (hA.below (drawn_below hw)) hc hl)
  have HI2 := hide (fun w' (hw : Drawn0 w w') => inFieldJ_ok B vs d p 0 w' (hB.below (drawn_below hw)) hd hv)
  unfold jErr at hr
  cases hf : fieldOf p
  · rw [if_pos hf] at hr
    subst hr
    rw [hf] at HF
    clear hf h
    go_enter Tryd.func46, Tryd.ntmps46
    go_wp2_with (go_at_call 61; refine Calls.mono (HF.out _) ?_; rintro e w1 ⟨rfl, hw1⟩)
    go_ret
    exact ⟨rfl, hw1⟩
  · rw [if_neg (by rw [hf]; decide)] at hr
    rw [hf] at HF h
    by_cases h0 : at_.length = 0
    · have b0 : ((at_.length : Int) == 0) = true := by rw [beq_iff_eq]; omega
      rw [if_pos (.inl h0)] at hr
      subst hr
      have HH := hide h0
      clear hf h h0
      go_enter Tryd.func46, Tryd.ntmps46
      go_wp2_with (go_at_call 61; refine Calls.mono (HF.out _) ?_; rintro e w1 ⟨rfl, hw1⟩)
      go_ret
      exact ⟨rfl, hw1⟩
    · have b0 : ((at_.length : Int) == 0) = false := by rw [beq_eq_false_iff_ne]; omega
      by_cases h12 : 12 < (at_.length : Int)
      · rw [if_pos (.inr (by omega))] at hr
        subst hr
        have b12 : decide (12 < (at_.length : Int)) = true := decide_eq_true h12
        clear hf h h0
        go_enter Tryd.func46, Tryd.ntmps46
        go_wp2_with (go_at_call 61; refine Calls.mono (HF.out _) ?_; rintro e w1 ⟨rfl, hw1⟩)
        go_ret
        exact ⟨rfl, hw1⟩
      · rw [if_neg (by omega)] at hr
        have b12 : decide (12 < (at_.length : Int)) = false := decide_eq_false h12
        have l0 : 0 < (at_.length : Int) := by omega
        rw [if_neg (fun g => h ⟨rfl, by omega, by omega, g.1, g.2.1, g.2.2.1⟩)] at hr
        subst hr
        have hlen := hA.len
        have hlenv := hB.len
        have h' : ¬ (inside at_ p 1 = true ∧ inside vs p 0 = true ∧ (at_.length : Int) = vs.length) := fun g => h ⟨rfl, by omega, by omega, g.1, g.2.1, by omega⟩
        clear hf h h0
        generalize inside at_ p 1 = q1 at HI1 h'
        generalize inside vs p 0 = q2 at HI2 h'
        have hne : q1 = true → q2 = true → ((at_.length : Int) != (vs.length : Int)) = true := fun a b => by
          rw [bne_iff_ne]; exact fun e => h' ⟨a, b, e⟩
        have HNE := hide hne
        clear h' hne
        cases q1
        · go_enter Tryd.func46, Tryd.ntmps46
          go_wp2_with (first
            | (go_at_call 61; refine Calls.mono (HF.out _) ?_; rintro e w1 ⟨rfl, hw1⟩)
            | (go_at_call 62; refine Calls.mono (HI1.out w1 hw1) ?_; rintro e w2 ⟨rfl, hw2'⟩; have hw2 := drawn0_trans hw1 hw2'; clear HI1)
            | (go_at_call 62; refine Calls.mono (HI2.out w2 hw2) ?_; rintro e w3 ⟨rfl, hw3'⟩; have hw3 := drawn0_trans hw2 hw3'))
          go_ret
          exact ⟨rfl, hw3⟩
        · cases q2
          · go_enter Tryd.func46, Tryd.ntmps46
            go_wp2_with (first
              | (go_at_call 61; refine Calls.mono (HF.out _) ?_; rintro e w1 ⟨rfl, hw1⟩)
              | (go_at_call 62; refine Calls.mono (HI1.out w1 hw1) ?_; rintro e w2 ⟨rfl, hw2'⟩; have hw2 := drawn0_trans hw1 hw2'; clear HI1)
              | (go_at_call 62; refine Calls.mono (HI2.out w2 hw2) ?_; rintro e w3 ⟨rfl, hw3'⟩; have hw3 := drawn0_trans hw2 hw3'))
            go_ret
            exact ⟨rfl, hw3⟩
          · have bne := HNE.out rfl rfl
            go_enter Tryd.func46, Tryd.ntmps46
            go_wp2_with (first
              | (go_at_call 61; refine Calls.mono (HF.out _) ?_; rintro e w1 ⟨rfl, hw1⟩)
              | (go_at_call 62; refine Calls.mono (HI1.out w1 hw1) ?_; rintro e w2 ⟨rfl, hw2'⟩; have hw2 := drawn0_trans hw1 hw2'; clear HI1)
              | (go_at_call 62; refine Calls.mono (HI2.out w2 hw2) ?_; rintro e w3 ⟨rfl, hw3'⟩; have hw3 := drawn0_trans hw2 hw3'))
            go_ret
            exact ⟨rfl, hw3⟩
theorem joinError_ok (A : Option Addr) (at_ : List Int) (c : Nat) (p : Int) (B : Option Addr) (vs : List Int) (d : Nat) (w : World) (hA : Ints w A at_) (hB : Ints w B vs) (hc : at_.length ≤ c) (hd : vs.length ≤ d) (hl : at_.length ≤ 2000000) (hv : vs.length ≤ 2000000) :
    Calls Tryd.prog 46 #[.int .i64 p, .slice A at_.length c, .slice B vs.length d] w fun e w' => e = .returned (.int .i64 (jErr p at_ vs)) ∧ Below w.heap.size w w' := by
  by_cases h : fieldOf p = true ∧ at_.length ≤ 12 ∧ 0 < at_.length ∧ inside at_ p 1 = true ∧ inside vs p 0 = true ∧ at_.length = vs.length
  · obtain ⟨h1, h2, h3, h4, h5, h6⟩ := h
    refine (joinError_loop A at_ c p B vs d w hA hB hc hd hl hv h1 h2 h3 h4 h5 h6 (jErr p at_ vs) ?_).mono fun e w' ⟨he, hw⟩ => ⟨he, drawn_below hw⟩
    unfold jErr
    rw [if_neg (by rw [h1]; decide), if_neg (by omega)]
    by_cases hn : at_.Nodup
    · exact .inl ⟨hn, if_pos ⟨h4, h5, h6, hn⟩⟩
    · exact .inr ⟨hn, if_neg (fun g => hn g.2.2.2)⟩
  · exact (joinError_early A at_ c p B vs d w hA hB hc hd hl hv h _ rfl).mono fun e w' ⟨he, hw⟩ => ⟨he, drawn_below hw⟩
end Go.Proofs.YtieeefgkdfijdaaDoor

/-
  DERIVED: THE SHELF's CONTRACTS AT THIS DUMP, IN PLAIN WORDS (tools/lay-plain.mjs out of 'TrydShelf.lean', which tools/lay-shelf.mjs wrote): THE SAME DECLARATIONS UNDER THE SAME NAMES: 'import', 'namespace', 'open', 'def', 'theorem' AND NOTHING ELSE: no command of the shelf's: FOR A HAND-IN. Each laying: the table of numbers ('.._ren') and one theorem, a field a fact of the dump's own or the kernel's comparison; each contract: ONE APPLICATION.
-/
namespace Go.Proofs
open Go.Shelf
def Tryd.lays128_ren : Go.Shelf.Ren := ⟨fun | 128 => 105 | n => n, fun | 51 => 102 | 3 => 3 | 4 => 4 | 46 => 79 | 5 => 5 | 9 => 9 | n => n, fun | n => n⟩
theorem Tryd.lays128 : Go.Proofs.Lays.n128 Tryd.prog Tryd.lays128_ren := {
  mixed := by kernel_rfl
  f128 := Tryd.func105.trans (congrArg some (by kernel_rfl))
  t3 := Tryd.underlying3
  a3 := Tryd.isAgg3
  z3 := Tryd.sizeOf3
  v3 := Tryd.zeroValue3
  t4 := Tryd.underlying4
  a4 := Tryd.isAgg4
  z4 := Tryd.sizeOf4
  v4 := Tryd.zeroValue4
  t5 := Tryd.underlying5
  a5 := Tryd.isAgg5
  z5 := Tryd.sizeOf5
  v5 := Tryd.zeroValue5
  t9 := Tryd.underlying9
  a9 := Tryd.isAgg9
  z9 := Tryd.sizeOf9
  v9 := Tryd.zeroValue9
  t46 := Tryd.underlying79
  a46 := Tryd.isAgg79
  z46 := Tryd.sizeOf79
  v46 := Tryd.zeroValue79
  t51 := Tryd.underlying102
  a51 := Tryd.isAgg102
  z51 := Tryd.sizeOf102
  v51 := Tryd.zeroValue102 }
/-- bits.Len32: "Len32 returns the minimum number of bits required to represent x; the result is 0 for x == 0.": IT RETURNS 'Lib.bitLen x'; the world is as it was. ('h0', 'h1': x is a uint32.) (LAID: no walk: one application.) -/
theorem Tryd.bits_Len32 (x : Int) (w : World) (h0 : 0 ≤ x) (h1 : x ≤ 4294967295) :
    Calls Tryd.prog 105 #[.int .u32 x] w fun e w' => e = .returned (.int .i64 (Lib.bitLen x.toNat)) ∧ w' = w := Any.bits_Len32 Tryd.lays128 x w h0 h1
def Tryd.lays125_ren : Go.Shelf.Ren := ⟨fun | 125 => 87 | 128 => 105 | 129 => 106 | n => n, fun | 46 => 79 | 3 => 3 | 51 => 102 | 53 => 104 | 4 => 4 | 5 => 5 | 9 => 9 | n => n, fun | n => n⟩
theorem Tryd.lays125 : Go.Proofs.Lays.n125 Tryd.prog Tryd.lays125_ren := {
  mixed := by kernel_rfl
  f125 := Tryd.func87.trans (congrArg some (by kernel_rfl))
  f128 := Tryd.func105.trans (congrArg some (by kernel_rfl))
  f129 := Tryd.func106.trans (congrArg some (by kernel_rfl))
  t3 := Tryd.underlying3
  a3 := Tryd.isAgg3
  z3 := Tryd.sizeOf3
  v3 := Tryd.zeroValue3
  t4 := Tryd.underlying4
  a4 := Tryd.isAgg4
  z4 := Tryd.sizeOf4
  v4 := Tryd.zeroValue4
  t5 := Tryd.underlying5
  a5 := Tryd.isAgg5
  z5 := Tryd.sizeOf5
  v5 := Tryd.zeroValue5
  t9 := Tryd.underlying9
  a9 := Tryd.isAgg9
  z9 := Tryd.sizeOf9
  v9 := Tryd.zeroValue9
  t46 := Tryd.underlying79
  a46 := Tryd.isAgg79
  z46 := Tryd.sizeOf79
  v46 := Tryd.zeroValue79
  t51 := Tryd.underlying102
  a51 := Tryd.isAgg102
  z51 := Tryd.sizeOf102
  v51 := Tryd.zeroValue102
  t53 := Tryd.underlying104
  a53 := Tryd.isAgg104
  z53 := Tryd.sizeOf104
  v53 := Tryd.zeroValue104 }
/-- bits.Len: "Len returns the minimum number of bits required to represent x; the result is 0 for x == 0.": IT RETURNS 'Lib.bitLen x'; the world is as it was. (A uint has 64 bits in the model.) ITS CALLEE bits.Len64 IS MET BY ITS OWN CONTRACT OFF THE SHELF (lay that first). (LAID: no walk: one application.) -/
theorem Tryd.bits_Len (x : Int) (w : World) (h0 : 0 ≤ x) (h1 : x ≤ 18446744073709551615) :
    Calls Tryd.prog 87 #[.int .u64 x] w fun e w' => e = .returned (.int .i64 (Lib.bitLen x.toNat)) ∧ w' = w := Any.bits_Len Tryd.lays125 x w h0 h1
def Tryd.lays215_ren : Go.Shelf.Ren := ⟨fun | 215 => 95 | n => n, fun | 3 => 3 | 4 => 4 | n => n, fun | n => n⟩
theorem Tryd.lays215 : Go.Proofs.Lays.n215 Tryd.prog Tryd.lays215_ren := {
  mixed := by kernel_rfl
  f215 := Tryd.func95.trans (congrArg some (by kernel_rfl))
  t3 := Tryd.underlying3
  a3 := Tryd.isAgg3
  z3 := Tryd.sizeOf3
  v3 := Tryd.zeroValue3
  t4 := Tryd.underlying4
  a4 := Tryd.isAgg4
  z4 := Tryd.sizeOf4
  v4 := Tryd.zeroValue4 }
open Go.RowKit in
/-- cmp.isNaN at int: 'x != x': false. (LAID: no walk: one application.) -/
theorem Tryd.cmp_isNaN_int (x : Int) (w : World) :
    Calls Tryd.prog 95 #[.int .i64 x] w fun e w' => e = .returned (.bool false) ∧ w' = w := Any.cmp_isNaN_int Tryd.lays215 x w
def Tryd.lays122_ren : Go.Shelf.Ren := ⟨fun | 122 => 84 | 215 => 95 | n => n, fun | 3 => 3 | 4 => 4 | n => n, fun | n => n⟩
theorem Tryd.lays122 : Go.Proofs.Lays.n122 Tryd.prog Tryd.lays122_ren := {
  mixed := by kernel_rfl
  f122 := Tryd.func84.trans (congrArg some (by kernel_rfl))
  f215 := Tryd.func95.trans (congrArg some (by kernel_rfl))
  t3 := Tryd.underlying3
  a3 := Tryd.isAgg3
  z3 := Tryd.sizeOf3
  v3 := Tryd.zeroValue3
  t4 := Tryd.underlying4
  a4 := Tryd.isAgg4
  z4 := Tryd.sizeOf4
  v4 := Tryd.zeroValue4 }
open Go.RowKit in
/-- cmp.Compare at int: "Compare returns -1 if x is less than y, 0 if x equals y, +1 if x is greater than y.": IT RETURNS 'Lib.compareInt x y'; the world is as it was. (LAID: no walk: one application.) -/
theorem Tryd.cmp_Compare_int (x y : Int) (w : World) :
    Calls Tryd.prog 84 #[.int .i64 x, .int .i64 y] w fun e w' => e = .returned (.int .i64 (Lib.compareInt x y)) ∧ w' = w := Any.cmp_Compare_int Tryd.lays122 x y w
def Tryd.lays129_ren : Go.Shelf.Ren := ⟨fun | 129 => 106 | n => n, fun | 53 => 104 | 3 => 3 | 4 => 4 | 46 => 79 | 5 => 5 | 9 => 9 | n => n, fun | n => n⟩
theorem Tryd.lays129 : Go.Proofs.Lays.n129 Tryd.prog Tryd.lays129_ren := {
  mixed := by kernel_rfl
  f129 := Tryd.func106.trans (congrArg some (by kernel_rfl))
  t3 := Tryd.underlying3
  a3 := Tryd.isAgg3
  z3 := Tryd.sizeOf3
  v3 := Tryd.zeroValue3
  t4 := Tryd.underlying4
  a4 := Tryd.isAgg4
  z4 := Tryd.sizeOf4
  v4 := Tryd.zeroValue4
  t5 := Tryd.underlying5
  a5 := Tryd.isAgg5
  z5 := Tryd.sizeOf5
  v5 := Tryd.zeroValue5
  t9 := Tryd.underlying9
  a9 := Tryd.isAgg9
  z9 := Tryd.sizeOf9
  v9 := Tryd.zeroValue9
  t46 := Tryd.underlying79
  a46 := Tryd.isAgg79
  z46 := Tryd.sizeOf79
  v46 := Tryd.zeroValue79
  t53 := Tryd.underlying104
  a53 := Tryd.isAgg104
  z53 := Tryd.sizeOf104
  v53 := Tryd.zeroValue104 }
/-- bits.Len64: "Len64 returns the minimum number of bits required to represent x; the result is 0 for x == 0.": IT RETURNS 'Lib.bitLen x'; the world is as it was. ('h0', 'h1': x is a uint64.) (LAID: no walk: one application.) -/
theorem Tryd.bits_Len64 (x : Int) (w : World) (h0 : 0 ≤ x) (h1 : x ≤ 18446744073709551615) :
    Calls Tryd.prog 106 #[.int .u64 x] w fun e w' => e = .returned (.int .i64 (Lib.bitLen x.toNat)) ∧ w' = w := Any.bits_Len64 Tryd.lays129 x w h0 h1
def Tryd.lays189_ren : Go.Shelf.Ren := ⟨fun | 189 => 69 | 125 => 87 | 257 => 86 | 128 => 105 | 129 => 106 | 294 => 96 | 295 => 97 | 296 => 98 | 297 => 99 | 298 => 100 | 299 => 101 | 216 => 102 | 300 => 103 | 301 => 104 | 328 => 109 | 329 => 110 | 330 => 111 | 331 => 112 | 332 => 113 | 215 => 95 | 343 => 114 | n => n, fun | 28 => 33 | 3 => 3 | 46 => 79 | 0 => 0 | 51 => 102 | 53 => 104 | 4 => 4 | 183 => 133 | 182 => 132 | 131 => 136 | 5 => 5 | 9 => 9 | 218 => 153 | 222 => 157 | 228 => 159 | 229 => 84 | n => n, fun | n => n⟩
theorem Tryd.lays189 : Go.Proofs.Lays.n189 Tryd.prog Tryd.lays189_ren := {
  mixed := by kernel_rfl
  f125 := Tryd.func87.trans (congrArg some (by kernel_rfl))
  f128 := Tryd.func105.trans (congrArg some (by kernel_rfl))
  f129 := Tryd.func106.trans (congrArg some (by kernel_rfl))
  f189 := Tryd.func69.trans (congrArg some (by kernel_rfl))
  f215 := Tryd.func95.trans (congrArg some (by kernel_rfl))
  f216 := Tryd.func102.trans (congrArg some (by kernel_rfl))
  f257 := Tryd.func86.trans (congrArg some (by kernel_rfl))
  f294 := Tryd.func96.trans (congrArg some (by kernel_rfl))
  f295 := Tryd.func97.trans (congrArg some (by kernel_rfl))
  f296 := Tryd.func98.trans (congrArg some (by kernel_rfl))
  f297 := Tryd.func99.trans (congrArg some (by kernel_rfl))
  f298 := Tryd.func100.trans (congrArg some (by kernel_rfl))
  f299 := Tryd.func101.trans (congrArg some (by kernel_rfl))
  f300 := Tryd.func103.trans (congrArg some (by kernel_rfl))
  f301 := Tryd.func104.trans (congrArg some (by kernel_rfl))
  f328 := Tryd.func109.trans (congrArg some (by kernel_rfl))
  f329 := Tryd.func110.trans (congrArg some (by kernel_rfl))
  f330 := Tryd.func111.trans (congrArg some (by kernel_rfl))
  f331 := Tryd.func112.trans (congrArg some (by kernel_rfl))
  f332 := Tryd.func113.trans (congrArg some (by kernel_rfl))
  f343 := Tryd.func114.trans (congrArg some (by kernel_rfl))
  t0 := Tryd.underlying0
  a0 := Tryd.isAgg0
  z0 := Tryd.sizeOf0
  v0 := Tryd.zeroValue0
  t3 := Tryd.underlying3
  a3 := Tryd.isAgg3
  z3 := Tryd.sizeOf3
  v3 := Tryd.zeroValue3
  t4 := Tryd.underlying4
  a4 := Tryd.isAgg4
  z4 := Tryd.sizeOf4
  v4 := Tryd.zeroValue4
  t5 := Tryd.underlying5
  a5 := Tryd.isAgg5
  z5 := Tryd.sizeOf5
  v5 := Tryd.zeroValue5
  t9 := Tryd.underlying9
  a9 := Tryd.isAgg9
  z9 := Tryd.sizeOf9
  v9 := Tryd.zeroValue9
  t28 := Tryd.underlying33
  a28 := Tryd.isAgg33
  z28 := Tryd.sizeOf33
  v28 := Tryd.zeroValue33
  t46 := Tryd.underlying79
  a46 := Tryd.isAgg79
  z46 := Tryd.sizeOf79
  v46 := Tryd.zeroValue79
  t51 := Tryd.underlying102
  a51 := Tryd.isAgg102
  z51 := Tryd.sizeOf102
  v51 := Tryd.zeroValue102
  t53 := Tryd.underlying104
  a53 := Tryd.isAgg104
  z53 := Tryd.sizeOf104
  v53 := Tryd.zeroValue104
  t131 := Tryd.underlying136
  a131 := Tryd.isAgg136
  z131 := Tryd.sizeOf136
  v131 := Tryd.zeroValue136
  t182 := Tryd.underlying132
  a182 := Tryd.isAgg132
  z182 := Tryd.sizeOf132
  v182 := Tryd.zeroValue132
  t183 := Tryd.underlying133
  a183 := Tryd.isAgg133
  z183 := Tryd.sizeOf133
  v183 := Tryd.zeroValue133
  t218 := Tryd.underlying153
  a218 := Tryd.isAgg153
  z218 := Tryd.sizeOf153
  v218 := Tryd.zeroValue153
  t222 := Tryd.underlying157
  a222 := Tryd.isAgg157
  z222 := Tryd.sizeOf157
  v222 := Tryd.zeroValue157
  t228 := Tryd.underlying159
  a228 := Tryd.isAgg159
  z228 := Tryd.sizeOf159
  v228 := Tryd.zeroValue159
  t229 := Tryd.underlying84
  a229 := Tryd.isAgg84
  z229 := Tryd.sizeOf84
  v229 := Tryd.zeroValue84 }
open Go.Sort Go.RowKit in
theorem Tryd.slices_Sort_int (blk off cap : Nat) (zs : List Int) (w : World) (hH : Holds (Value.int .i64) w blk off zs.toArray) (hblk : blk < w.heap.size) (hsz : zs.length < 4611686018427387904) :
    Calls Tryd.prog 69 #[.slice (some ⟨blk, off, none⟩) zs.length cap] w fun e w' =>
      e = .returned (.tuple #[]) ∧ ∃ n os, w' = grow (putRow (Value.int .i64) (Sort.ahead w n) blk off (zs.mergeSort fun x y => decide (x ≤ y)).toArray) os := Any.slices_Sort_int Tryd.lays189 blk off cap zs w hH hblk hsz
def Tryd.lays113_ren : Go.Shelf.Ren := ⟨fun | 113 => 75 | n => n, fun | 28 => 33 | 3 => 3 | 4 => 4 | 9 => 9 | 20 => 20 | 0 => 0 | n => n, fun | n => n⟩
theorem Tryd.lays113 : Go.Proofs.Lays.n113 Tryd.prog Tryd.lays113_ren := {
  mixed := by kernel_rfl
  f113 := Tryd.func75.trans (congrArg some (by kernel_rfl))
  t0 := Tryd.underlying0
  a0 := Tryd.isAgg0
  z0 := Tryd.sizeOf0
  v0 := Tryd.zeroValue0
  t3 := Tryd.underlying3
  a3 := Tryd.isAgg3
  z3 := Tryd.sizeOf3
  v3 := Tryd.zeroValue3
  t4 := Tryd.underlying4
  a4 := Tryd.isAgg4
  z4 := Tryd.sizeOf4
  v4 := Tryd.zeroValue4
  t9 := Tryd.underlying9
  a9 := Tryd.isAgg9
  z9 := Tryd.sizeOf9
  v9 := Tryd.zeroValue9
  t20 := Tryd.underlying20
  a20 := Tryd.isAgg20
  z20 := Tryd.sizeOf20
  v20 := Tryd.zeroValue20
  t28 := Tryd.underlying33
  a28 := Tryd.isAgg33
  z28 := Tryd.sizeOf33
  v28 := Tryd.zeroValue33 }
open Go.Lib in
/-- slices.Max at []int: "Max returns the maximal value in x. It panics if x is empty.": OF A SLICE THAT IS NOT EMPTY IT RETURNS 'Lib.maxOf (the elements)'; the world is as it was. (Of an empty one it panics: no contract here.) (LAID: no walk: one application.) -/
theorem Tryd.slices_Max_int (b off n c : Nat) (zs : List Int) (w : World) (hn : 0 < n) (hz : n ≤ zs.length) (hbig : n ≤ 9223372036854775807) (hc : ∀ j, j < zs.length → w.cell? ⟨b, off + j, none⟩ = some (.int .i64 (zs.getD j 0))) :
    Calls Tryd.prog 75 #[.slice (some ⟨b, off, none⟩) n c] w fun e w' => e = .returned (.int .i64 (Lib.maxOf (zs.take n))) ∧ w' = w := Any.slices_Max_int Tryd.lays113 b off n c zs w hn hz hbig hc
def Tryd.lays114_ren : Go.Shelf.Ren := ⟨fun | 114 => 85 | n => n, fun | 28 => 33 | 3 => 3 | 4 => 4 | 9 => 9 | 20 => 20 | 0 => 0 | n => n, fun | n => n⟩
theorem Tryd.lays114 : Go.Proofs.Lays.n114 Tryd.prog Tryd.lays114_ren := {
  mixed := by kernel_rfl
  f114 := Tryd.func85.trans (congrArg some (by kernel_rfl))
  t0 := Tryd.underlying0
  a0 := Tryd.isAgg0
  z0 := Tryd.sizeOf0
  v0 := Tryd.zeroValue0
  t3 := Tryd.underlying3
  a3 := Tryd.isAgg3
  z3 := Tryd.sizeOf3
  v3 := Tryd.zeroValue3
  t4 := Tryd.underlying4
  a4 := Tryd.isAgg4
  z4 := Tryd.sizeOf4
  v4 := Tryd.zeroValue4
  t9 := Tryd.underlying9
  a9 := Tryd.isAgg9
  z9 := Tryd.sizeOf9
  v9 := Tryd.zeroValue9
  t20 := Tryd.underlying20
  a20 := Tryd.isAgg20
  z20 := Tryd.sizeOf20
  v20 := Tryd.zeroValue20
  t28 := Tryd.underlying33
  a28 := Tryd.isAgg33
  z28 := Tryd.sizeOf33
  v28 := Tryd.zeroValue33 }
open Go.Lib in
/-- slices.Min at []int: "Min returns the minimal value in x. It panics if x is empty.": OF A SLICE THAT IS NOT EMPTY IT RETURNS 'Lib.minOf (the elements)'; the world is as it was. (Of an empty one it panics: no contract here.) (LAID: no walk: one application.) -/
theorem Tryd.slices_Min_int (b off n c : Nat) (zs : List Int) (w : World) (hn : 0 < n) (hz : n ≤ zs.length) (hbig : n ≤ 9223372036854775807) (hc : ∀ j, j < zs.length → w.cell? ⟨b, off + j, none⟩ = some (.int .i64 (zs.getD j 0))) :
    Calls Tryd.prog 85 #[.slice (some ⟨b, off, none⟩) n c] w fun e w' => e = .returned (.int .i64 (Lib.minOf (zs.take n))) ∧ w' = w := Any.slices_Min_int Tryd.lays114 b off n c zs w hn hz hbig hc
def Tryd.lays111_ren : Go.Shelf.Ren := ⟨fun | 111 => 54 | n => n, fun | 28 => 33 | 3 => 3 | 4 => 4 | 0 => 0 | n => n, fun | n => n⟩
theorem Tryd.lays111 : Go.Proofs.Lays.n111 Tryd.prog Tryd.lays111_ren := {
  mixed := by kernel_rfl
  f111 := Tryd.func54.trans (congrArg some (by kernel_rfl))
  t0 := Tryd.underlying0
  a0 := Tryd.isAgg0
  z0 := Tryd.sizeOf0
  v0 := Tryd.zeroValue0
  t3 := Tryd.underlying3
  a3 := Tryd.isAgg3
  z3 := Tryd.sizeOf3
  v3 := Tryd.zeroValue3
  t4 := Tryd.underlying4
  a4 := Tryd.isAgg4
  z4 := Tryd.sizeOf4
  v4 := Tryd.zeroValue4
  t28 := Tryd.underlying33
  a28 := Tryd.isAgg33
  z28 := Tryd.sizeOf33
  v28 := Tryd.zeroValue33 }
open Go.RowKit Go.Lib in
/-- slices.Equal at []int: "Equal reports whether two slices are equal: the same length and all elements equal. If the lengths are different, Equal returns false. Otherwise, the elements are compared in increasing index order, and the comparison stops at the first unequal pair. Empty and nil slices are considered equal.": IT RETURNS WHETHER THE TWO LISTS OF ELEMENTS ARE ONE; the world is as it was but for the count of draws (the test 's1[i] != s2[i]' has two reads, whose order the model draws, once a round). 'xs', 'ys': what the cells behind the two addresses hold (the spare capacity too, if you have it); 'xs.take n', 'ys.take m': the elements. THE TWO SLICES MAY OVERLAP. (LAID: no walk: one application.) -/
theorem Tryd.slices_Equal_int (b1 o1 n c b2 o2 m d : Nat) (xs ys : List Int) (w : World) (hx : n ≤ xs.length) (hy : m ≤ ys.length) (hbig : n ≤ 9223372036854775807) (hbig2 : m ≤ 9223372036854775807) (hc1 : ∀ j, j < xs.length → w.cell? ⟨b1, o1 + j, none⟩ = some (.int .i64 (xs.getD j 0))) (hc2 : ∀ j, j < ys.length → w.cell? ⟨b2, o2 + j, none⟩ = some (.int .i64 (ys.getD j 0))) :
    Calls Tryd.prog 54 #[.slice (some ⟨b1, o1, none⟩) n c, .slice (some ⟨b2, o2, none⟩) m d] w fun e w' => e = .returned (.bool (xs.take n == ys.take m)) ∧ ∃ q, w' = w.drewN q := Any.slices_Equal_int Tryd.lays111 b1 o1 n c b2 o2 m d xs ys w hx hy hbig hbig2 hc1 hc2
open Go.RowKit Go.Lib in
/-- The same where the first is of length 0 (a nil one too): no cell is asked for. (LAID: no walk: one application.) -/
theorem Tryd.slices_Equal_int_empty (a1 a2 : Option Addr) (c m d : Nat) (w : World) (hbig2 : m ≤ 9223372036854775807) :
    Calls Tryd.prog 54 #[.slice a1 0 c, .slice a2 m d] w fun e w' => e = .returned (.bool (decide (m = 0))) ∧ w' = w := Any.slices_Equal_int_empty Tryd.lays111 a1 a2 c m d w hbig2
def Tryd.laysNm215_ren : Go.Shelf.Ren := ⟨fun | 15 => 50 | n => n, fun | 22 => 33 | 3 => 3 | 4 => 4 | n => n, fun | n => n⟩
theorem Tryd.laysNm215 : Go.Proofs.Lays2.n15 Tryd.prog Tryd.laysNm215_ren := {
  mixed := by kernel_rfl
  f15 := Tryd.func50.trans (congrArg some (by kernel_rfl))
  t3 := Tryd.underlying3
  a3 := Tryd.isAgg3
  z3 := Tryd.sizeOf3
  v3 := Tryd.zeroValue3
  t4 := Tryd.underlying4
  a4 := Tryd.isAgg4
  z4 := Tryd.sizeOf4
  v4 := Tryd.zeroValue4
  t22 := Tryd.underlying33
  a22 := Tryd.isAgg33
  z22 := Tryd.sizeOf33
  v22 := Tryd.zeroValue33
  i3 := by kernel_rfl }
open Go.RowKit Go.Lib in
/-- slices.Clone at []int: "Clone returns a copy of the slice. The elements are copied using assignment, so this is a shallow clone. The result may have additional unused capacity. The result preserves the nilness of s.": OF A SLICE THAT IS NOT nil IT RETURNS A SLICE THAT IS NOT nil, OF THE SAME ELEMENTS, IN MEMORY OF THE CALL's OWN: in the how-to's words (6f): 'w'.ownsRow B e 1 v' n cells': v' begins at the head of a row among the blocks from B on (B: the heap's size at the call), not frozen, whose first cells are the elements · 'Below B w w'': below B all is as it was. The capacity is whatever the run-time gives. 'zs': what the cells behind the slice's address hold; 'zs.take n': its elements. (LAID: no walk: one application.) -/
theorem Tryd.slices_Clone_int (b off n c : Nat) (zs : List Int) (w : World) (hz : n ≤ zs.length) (hbig : n * 8 ≤ 140737488355328) (hc : ∀ j, j < zs.length → w.cell? ⟨b, off + j, none⟩ = some (.int .i64 (zs.getD j 0))) :
    Calls Tryd.prog 50 #[.slice (some ⟨b, off, none⟩) n c] w fun e w' => ∃ v', e = .returned v' ∧ w'.ownsRow w.heap.size 3 1 v' n ((zs.take n).map (Value.int .i64)) ∧ v' ≠ .slice none 0 0 ∧ Below w.heap.size w w' := Any.slices_Clone_int Tryd.laysNm215 b off n c zs w hz hbig hc
open Go.RowKit Go.Lib in
/-- The same at nil: nil comes back; the world is as it was. (LAID: no walk: one application.) -/
theorem Tryd.slices_Clone_int_nil (n c : Nat) (w : World) :
    Calls Tryd.prog 50 #[.slice none n c] w fun e w' => e = .returned (.slice none 0 0) ∧ w' = w := Any.slices_Clone_int_nil Tryd.laysNm215 n c w
open Go.RowKit Go.Lib in
/-- The same at a slice of length 0 that is not nil, WHATEVER ITS ADDRESS (no cell is asked for): a slice that is not nil and owns nothing comes back. (LAID: no walk: one application.) -/
theorem Tryd.slices_Clone_int_zero (a : Addr) (c : Nat) (w : World) :
    Calls Tryd.prog 50 #[.slice (some a) 0 c] w fun e w' => ∃ v', e = .returned v' ∧ w'.ownsRow w.heap.size 3 1 v' 0 [] ∧ v' ≠ .slice none 0 0 ∧ Below w.heap.size w w' := Any.slices_Clone_int_zero Tryd.laysNm215 a c w
def Tryd.laysNm220_ren : Go.Shelf.Ren := ⟨fun | 20 => 70 | n => n, fun | 22 => 33 | 3 => 3 | 4 => 4 | 0 => 0 | n => n, fun | n => n⟩
theorem Tryd.laysNm220 : Go.Proofs.Lays2.n20 Tryd.prog Tryd.laysNm220_ren := {
  mixed := by kernel_rfl
  f20 := Tryd.func70.trans (congrArg some (by kernel_rfl))
  t0 := Tryd.underlying0
  a0 := Tryd.isAgg0
  z0 := Tryd.sizeOf0
  v0 := Tryd.zeroValue0
  t3 := Tryd.underlying3
  a3 := Tryd.isAgg3
  z3 := Tryd.sizeOf3
  v3 := Tryd.zeroValue3
  t4 := Tryd.underlying4
  a4 := Tryd.isAgg4
  z4 := Tryd.sizeOf4
  v4 := Tryd.zeroValue4
  t22 := Tryd.underlying33
  a22 := Tryd.isAgg33
  z22 := Tryd.sizeOf33
  v22 := Tryd.zeroValue33
  i3 := by kernel_rfl }
open Go.RowKit Go.Lib Go.Sort in
/-- slices.Compact at []int, over an array: the library's two loops are walked. (LAID: no walk: one application.) -/
theorem Tryd.slices_Compact_int_arr (blk off cap : Nat) (d : Array Int) (w : World) (hH : Holds encI w blk off d) (hsz : d.size ≤ 9223372036854775807) (hcap : d.size ≤ cap) :
    Calls Tryd.prog 70 #[.slice (some ⟨blk, off, none⟩) d.size cap] w fun e w' => e = .returned (.slice (some ⟨blk, off, none⟩) (compactUpTo d d.size).length cap) ∧ ∃ q, w' = putRow encI (Sort.ahead w q) blk off (compactUpTo d d.size ++ List.replicate (d.size - (compactUpTo d d.size).length) 0).toArray := Any.slices_Compact_int_arr Tryd.laysNm220 blk off cap d w hH hsz hcap
open Go.RowKit Go.Lib Go.Sort in
/-- slices.Compact at []int: "Compact replaces consecutive runs of equal elements with a single copy. This is like the uniq command found on Unix. Compact modifies the contents of the slice s and returns the modified slice, which may have a smaller length. Compact zeroes the elements between the new length and the original length. The result preserves the nilness of s.": IT RETURNS THE SLICE CUT TO 'Lib.compact zs'; ITS CELLS HOLD 'Lib.compact zs', THEN ZERO VALUES up to the old length; all else is as it was, but for the count of draws. IN THE WORDS OF slices.Sort's CONTRACT ('Holds', 'putRow'): so the everyday 'slices.Sort(xs); xs = slices.Compact(xs)' goes from the one contract to the other. It asks 'zs.length ≤ cap' (every slice's: the reslicing 's[:k]' looks at it). Length 0, nil: '.._empty'. (LAID: no walk: one application.) -/
theorem Tryd.slices_Compact_int (blk off cap : Nat) (zs : List Int) (w : World) (hH : Holds (Value.int .i64) w blk off zs.toArray) (hsz : zs.length ≤ 9223372036854775807) (hcap : zs.length ≤ cap) :
    Calls Tryd.prog 70 #[.slice (some ⟨blk, off, none⟩) zs.length cap] w fun e w' => e = .returned (.slice (some ⟨blk, off, none⟩) (Lib.compact zs).length cap) ∧ ∃ q, w' = putRow (Value.int .i64) (Sort.ahead w q) blk off (Lib.compact zs ++ List.replicate (zs.length - (Lib.compact zs).length) 0).toArray := Any.slices_Compact_int Tryd.laysNm220 blk off cap zs w hH hsz hcap
open Go.RowKit Go.Lib Go.Sort in
/-- The same at a slice of length 0, a nil one too: it comes back as it is. (LAID: no walk: one application.) -/
theorem Tryd.slices_Compact_int_empty (a : Option Addr) (cap : Nat) (w : World) :
    Calls Tryd.prog 70 #[.slice a 0 cap] w fun e w' => e = .returned (.slice a 0 cap) ∧ w' = w := Any.slices_Compact_int_empty Tryd.laysNm220 a cap w
def Tryd.laysNm237_ren : Go.Shelf.Ren := ⟨fun | 37 => 95 | n => n, fun | 3 => 3 | 4 => 4 | n => n, fun | n => n⟩
theorem Tryd.laysNm237 : Go.Proofs.Lays2.n37 Tryd.prog Tryd.laysNm237_ren := {
  mixed := by kernel_rfl
  f37 := Tryd.func95.trans (congrArg some (by kernel_rfl))
  t3 := Tryd.underlying3
  a3 := Tryd.isAgg3
  z3 := Tryd.sizeOf3
  v3 := Tryd.zeroValue3
  t4 := Tryd.underlying4
  a4 := Tryd.isAgg4
  z4 := Tryd.sizeOf4
  v4 := Tryd.zeroValue4 }
open Go.RowKit Go.Lib in
/-- cmp.isNaN[int]: 'x != x': false. (LAID: no walk: one application.) -/
theorem Tryd.cmp_isNaN_int2 (x : Int) (w : World) :
    Calls Tryd.prog 95 #[.int .i64 x] w fun e w' => e = .returned (.bool false) ∧ w' = w := Any.cmp_isNaN_int2 Tryd.laysNm237 x w
def Tryd.laysNm231_ren : Go.Shelf.Ren := ⟨fun | 31 => 102 | 37 => 95 | n => n, fun | 3 => 3 | 4 => 4 | n => n, fun | n => n⟩
theorem Tryd.laysNm231 : Go.Proofs.Lays2.n31 Tryd.prog Tryd.laysNm231_ren := {
  mixed := by kernel_rfl
  f31 := Tryd.func102.trans (congrArg some (by kernel_rfl))
  f37 := Tryd.func95.trans (congrArg some (by kernel_rfl))
  t3 := Tryd.underlying3
  a3 := Tryd.isAgg3
  z3 := Tryd.sizeOf3
  v3 := Tryd.zeroValue3
  t4 := Tryd.underlying4
  a4 := Tryd.isAgg4
  z4 := Tryd.sizeOf4
  v4 := Tryd.zeroValue4 }
open Go.RowKit Go.Lib in
/-- cmp.Less[int]: "Less reports whether x is less than y.": 'x < y'; the world is as it was. (LAID: no walk: one application.) -/
theorem Tryd.cmp_Less_int2 (x y : Int) (w : World) :
    Calls Tryd.prog 102 #[.int .i64 x, .int .i64 y] w fun e w' => e = .returned (.bool (decide (x < y))) ∧ w' = w := Any.cmp_Less_int2 Tryd.laysNm231 x y w
open Go.RowKit Go.Lib Go.Sort in
/-- slices.Compact at []int, of an argument: the slice cut to 'Lib.compact (elements)'; the n cells hold that, then zeros. (LAID: no walk: one application.) -/
theorem Tryd.slices_Compact_int_cells (b off n c : Nat) (zs : List Int) (w : World) (hz : n ≤ zs.length) (hbig : n ≤ 9223372036854775807) (hcap : n ≤ c) (hc : ∀ j, j < zs.length → w.cell? ⟨b, off + j, none⟩ = some (.int .i64 (zs.getD j 0))) (hf : ∀ j, j < n → w.frozen? ⟨b, off + j, none⟩ = false) :
    Calls Tryd.prog 70 #[.slice (some ⟨b, off, none⟩) n c] w fun e w' => e = .returned (.slice (some ⟨b, off, none⟩) (Lib.compact (zs.take n)).length c) ∧ ∃ q, w' = (w.drewN q).setCells b off ((Lib.compact (zs.take n) ++ List.replicate (n - (Lib.compact (zs.take n)).length) 0).map (Value.int .i64)) := Any.slices_Compact_int_cells Tryd.laysNm220 b off n c zs w hz hbig hcap hc hf
open Go.RowKit Go.Sort in
/-- .. and plain. (LAID: no walk: one application.) -/
theorem Tryd.slices_Sort_int_none (p : Option Addr) (cap : Nat) (w : World) :
    Calls Tryd.prog 69 #[.slice p 0 cap] w fun e w' => e = .returned (.tuple #[]) ∧ w' = w := Any.slices_Sort_int_none Tryd.lays189 p cap w
def Tryd.laysSlE041_f50_ren : Go.Shelf.Ren := ⟨fun | 41 => 50 | n => n, fun | 22 => 33 | 23 => 3 | 4 => 4 | n => n, fun | n => n⟩
theorem Tryd.laysSlE041_f50 : Go.Proofs.SlLaysE0.n41 Tryd.prog Tryd.laysSlE041_f50_ren := {
  mixed := by kernel_rfl
  f41 := ⟨Tryd.f50.name, by decide, Tryd.func50.trans (congrArg some (by kernel_rfl))⟩
  t4 := Tryd.underlying4
  a4 := Tryd.isAgg4
  z4 := Tryd.sizeOf4
  v4 := Tryd.zeroValue4
  t22 := Tryd.underlying33
  a22 := Tryd.isAgg33
  z22 := Tryd.sizeOf33
  v22 := Tryd.zeroValue33 }
open Go.RowKit Go.Lib in
/-- slices.Clone: "Clone returns a copy of the slice. The elements are copied using assignment, so this is a shallow clone. The result may have additional unused capacity. The result preserves the nilness of s.": OF A SLICE THAT IS NOT nil IT RETURNS A SLICE THAT IS NOT nil, OF THE SAME CELLS, IN MEMORY OF THE CALL's OWN ('ownsRow': the how-to's 6f); below the heap's size at the call all is as it was. (LAID AT THE INSTANCE 'slices.Clone[[]int,int]': no walk: one application.) -/
theorem Tryd.slices_Clone (i0 : TypeInfo) (z : Value) (size bytes : Nat) (hi : Tryd.prog.info? 3 = some i0) (hz0 : i0.zero = some z) (hz1 : i0.size = size) (hz2 : i0.bytes = bytes) (hzs : z.cells.size = size) (hsz : 0 < size) (z23 : ∀ w, (Go.sizeOf 3).run Tryd.prog w = .ok size w) (b off n c : Nat) (news : List Value) (w : World) (hl : news.length = n * size) (hn : n ≤ maxLen) (hbig : n * bytes ≤ 140737488355328) (hc : ∀ j u, news[j]? = some u → w.cell? ⟨b, off + j, none⟩ = some u) (h1 : ∀ u ∈ news, u.oneCell' = true) :
    Calls Tryd.prog 50 #[.slice (some ⟨b, off, none⟩) n c] w fun e w' => ∃ v', e = .returned v' ∧ w'.ownsRow w.heap.size 3 size v' n news ∧ v' ≠ .slice none 0 0 ∧ Below w.heap.size w w' := AnyE.slices_Clone Tryd.laysSlE041_f50 i0 z size bytes hi hz0 hz1 hz2 hzs hsz z23 b off n c news w hl hn hbig hc h1
open Go.RowKit Go.Lib in
/-- The same at nil: nil comes back; the world is as it was; nothing is asked of the element's type. (LAID AT THE INSTANCE 'slices.Clone[[]int,int]': no walk: one application.) -/
theorem Tryd.slices_Clone_nil (n c : Nat) (w : World) :
    Calls Tryd.prog 50 #[.slice none n c] w fun e w' => e = .returned (.slice none 0 0) ∧ w' = w := AnyE.slices_Clone_nil Tryd.laysSlE041_f50 n c w
end Go.Proofs

/- slices.Backward of whole numbers: its contract as an iterator (the shape of the kit's own contract of slices.All). No condition. -/
namespace Go.Proofs.YtieeefgkdfijdaaDoor
open Go.RowKit Go.Shelf Go.Proofs

attribute [local go_sem] Oper.semAt_some

/-- what comes in the round k: the place and the number there -/
def backAt (l : List Int) (k : Nat) : Int × Int := (((l.length - 1 - k : Nat) : Int), l.getD (l.length - 1 - k) 0)
/-- what has come when k rounds are over -/
def backTo (l : List Int) (k : Nat) : List (Int × Int) := (List.range k).map (backAt l)
theorem backTo_succ (l : List Int) (k : Nat) : backTo l (k + 1) = backTo l k ++ [backAt l k] := by simp [backTo, List.range_succ]
theorem backTo_length (l : List Int) (k : Nat) : (backTo l k).length = k := by simp [backTo]

/-- what a round keeps: all below n₀, and the slice's own box -/
def KpB (n₀ Bs : Nat) (A B : World) : Prop := Below n₀ A B ∧ ∀ v, A.cell? ⟨Bs, 0, none⟩ = some v → B.cell? ⟨Bs, 0, none⟩ = some v
theorem KpB.refl (n₀ Bs : Nat) (A : World) : KpB n₀ Bs A A := ⟨Below.refl _ _, fun _ h => h⟩
theorem KpB.trans {n₀ Bs : Nat} {A B C : World} (h : KpB n₀ Bs A B) (k : KpB n₀ Bs B C) : KpB n₀ Bs A C := ⟨Below.trans h.1 k.1, fun v e => k.2 v (h.2 v e)⟩
set_option maxRecDepth 100000 in
set_option maxHeartbeats 2000000 in
theorem back1_in (F : Fence) (n : Nat) (h8 : F.fn 83) (hro : F.round = none) (hn : 1 ≤ n) (r Bs n₀ b cap : Nat) (off : Nat) (l : List Int) (hlen : l.length ≤ 9223372036854775807) (hb : b < n₀) (J Jx : List (Int × Int) → World → Prop)
    (hY : ∀ pre x W, J pre W → pre.length < l.length → YieldAt F (n - 1) Tryd.prog r #[.int .i64 x.1, .int .i64 x.2] W fun e W' =>
      (e = .returned (.bool true) ∧ J (pre ++ [x]) W' ∧ KpB n₀ Bs W W') ∨ (e = .returned (.bool false) ∧ Jx (pre ++ [x]) W'))
    (W : World) (hBs : W.cell? ⟨Bs, 0, none⟩ = some (.slice (some ⟨b, off, none⟩) l.length cap)) (hc : ∀ j, j < l.length → W.cell? ⟨b, off + j, none⟩ = some (.int .i64 (l.getD j 0))) (h0 : J [] W) :
    CallsIn F n Tryd.prog 83 #[.func (.yield r) #[] #[], .pointer (some ⟨Bs, 0, none⟩)] W fun e W' => (∃ v, e = .returned v) ∧
      (J (backTo l l.length) W' ∨ (∃ pre, (∃ k, k ≤ l.length ∧ pre = backTo l k) ∧ Jx pre W')) := by
  refine callsIn_of_wp Tryd.func83 rfl h8 ?_ hro
  simp only [Tryd.ntmps83, List.size_toArray, List.length_cons, List.length_nil, Nat.reduceAdd, Nat.reduceSub, Array.replicate_succ, Array.replicate_zero, List.push_toArray, List.append_toArray, List.nil_append, List.cons_append]
  gi_wp2
  gi_loopw [3] (fun v wr => ∃ (k : Nat) (i : Int), k ≤ l.length ∧ i = (l.length : Int) - 1 - k ∧ v = .int .i64 i ∧ J (backTo l k) wr ∧ KpB n₀ Bs W wr)
    (fun v _ => (intOf v + 1).toNat)
  case atStart => exact ⟨0, _, Nat.zero_le _, by omega, rfl, h0, KpB.refl _ _ _⟩
  case round =>
    obtain ⟨k, i, hk, hi, rfl, hJs, hnx⟩ := hrel
    have hs : wr.cell? ⟨Bs, 0, none⟩ = some (.slice (some ⟨b, off, none⟩) l.length cap) := hnx.2 _ hBs
    by_cases hlt : k < l.length
    · obtain ⟨j, rfl⟩ : ∃ j : Nat, i = (j : Int) := ⟨l.length - 1 - k, by omega⟩
      have hj : j = l.length - 1 - k := by omega
      have hjl : j < l.length := by omega
      have hcx := (hnx.1.cell (p := ⟨b, off + j, none⟩) hb).trans (hc j hjl)
      have hba : backAt l k = ((j : Int), l.getD j 0) := by unfold backAt; rw [← hj]
      have hbs := backTo_succ l k
      rw [hba] at hbs
      obtain ⟨fn, tmps, assign, body, hy, hR⟩ := hY _ ((j : Int), l.getD j 0) wr hJs (by rw [backTo_length]; exact hlt)
      rw [← hbs] at hR
      dsimp only at hy
      have j0 : (0 : Int) ≤ (j : Int) := Int.natCast_nonneg _
      have j1 : (j : Int) < (l.length : Int) := by omega
      generalize l.getD j 0 = x at hcx hy hR
      have HI := hide hi
      clear hj hi hbs hba
      gi_wp2
      refine hR.mono ?_
      rintro e W3 (⟨rfl, hJ3, hk3⟩ | ⟨rfl, hJx3⟩)
      · gi_wp2
        go_roundw
        case rel => exact ⟨k + 1, (j : Int) - 1, by omega, by have := HI.out; omega, by go_num, hJ3, hnx.trans hk3⟩
        case measure => simp [intOf]
      · gi_wp2
        refine bodyPost_ret (results_none rfl _ _ _) rfl ?_
        exact ⟨⟨_, rfl⟩, .inr ⟨_, ⟨k + 1, by omega, rfl⟩, hJx3⟩⟩
    · obtain rfl : k = l.length := by omega
      obtain rfl : i = -1 := by omega
      gi_wp2
      go_end0
      exact ⟨⟨_, rfl⟩, .inl hJs⟩

/-- **slices.Backward(s)**: the slice value is boxed; the function value captures the box. -/
theorem back_in (F : Fence) (n : Nat) (h5 : F.fn 65) (hro : F.round = none) (a : Option Addr) (len cap : Nat) (w : World) :
    CallsIn F n Tryd.prog 65 #[.slice a len cap] w fun e w' => e = .returned (.func (.func 83) #[] #[.pointer (some ⟨w.heap.size, 0, none⟩)]) ∧ w' = w.alloc (.cells #[.slice a len cap] 33) := by
  refine callsIn_of_wp Tryd.func65 rfl h5 ?_ hro
  simp only [Tryd.ntmps65, List.size_toArray, List.length_cons, List.length_nil, Nat.reduceAdd, Nat.reduceSub, Array.replicate_succ, Array.replicate_zero, List.push_toArray, List.append_toArray, List.nil_append, List.cons_append]
  gi_wp2
  go_ret
  exact ⟨rfl, rfl⟩

/-- slices.Backward(s) at a list that is not empty hands back a value that 'SeqStopsK', at 'Kp := KpB n₀ Bs'. -/
theorem back_stops (F : Fence) (n : Nat) (h8 : F.fn 83) (hro : F.round = none) (hn : 1 ≤ n) (Bs n₀ b cap off : Nat) (l : List Int) (hlen : l.length ≤ 9223372036854775807) (w : World) (hBs : Bs < w.heap.size) (hn₀ : n₀ ≤ w.heap.size)
    (hcell : w.cell? ⟨Bs, 0, none⟩ = some (.slice (some ⟨b, off, none⟩) l.length cap)) (hb : b < n₀) (hc : ∀ j, j < l.length → w.cell? ⟨b, off + j, none⟩ = some (.int .i64 (l.getD j 0))) :
    SeqStopsK F n Tryd.prog 83 #[.pointer (some ⟨Bs, 0, none⟩)] (fun x : Int × Int => #[.int .i64 x.1, .int .i64 x.2]) (KpB n₀ Bs) (fun ys => ys = backTo l l.length) (fun pre => ∃ k, k ≤ l.length ∧ pre = backTo l k) l.length w := fun r J Jx W hW _ _ hY h0 => by
  have hW' := hW.mono hn₀
  refine (back1_in F n h8 hro hn r Bs n₀ b cap off l hlen hb J Jx hY W ((hW.cell (p := ⟨Bs, 0, none⟩) hBs).trans hcell) (fun j hj => (hW'.cell (p := ⟨b, off + j, none⟩) hb).trans (hc j hj)) h0).mono ?_
  rintro e W' ⟨he, hj | ⟨pre, hk, hj⟩⟩
  · exact ⟨he, .inl ⟨_, rfl, hj⟩⟩
  · exact ⟨he, .inr ⟨_, hk, hj⟩⟩
/-- the mark that a range over a function leaves among the deferred calls -/
def markOf (D : Nat) : Deferred := { target := .collected D, args := #[] }
/-- behind the marks: below n₀ all lies as it lay, and every cell is what it was -/
def Marked (n₀ : Nat) (w w' : World) : Prop := Below n₀ w w' ∧ ∀ a v, w.cell? a = some v → w'.cell? a = some v
/-- a frame that leaves with marks alone: each is taken up; then it returns -/
theorem leaves_marks {F : Fence} {n : Nat} {P : Program} {fn : Func} {tmps : Array Value} {R : Ending → World → Prop} (w0 : World) : ∀ (Ds : List Nat) (w : World), Ds.Nodup → (∀ D, D ∈ Ds → w0.heap.size ≤ D ∧ w.heap[D]? = some (.deferred (some []))) →
    (∀ w', Marked w0.heap.size w w' → ∃ v, (results fn tmps).run P w' = .ok v w' ∧ R (.returned v) w') → LeavesInM F n P fn tmps R (Ds.map markOf) .returning w := by
  intro Ds
  induction Ds with
  | nil =>
    intro w _ _ h
    exact h w ⟨Below.refl _ _, fun _ _ h => h⟩
  | cons D Ds ih =>
    intro w hnd hall h
    obtain ⟨hD, hK⟩ := hall D (List.mem_cons_self ..)
    rw [List.nodup_cons] at hnd
    refine ⟨by simp, .inl ⟨D, _, rfl, run_takeDeferred hK, ih _ hnd.2 (fun D' hD' => ?_) (fun w' hw' => h w' ⟨?_, fun a v hv => ?_⟩)⟩⟩
    · obtain ⟨h1, h2⟩ := hall D' (List.mem_cons_of_mem _ hD')
      have hne : D' ≠ D := fun e => hnd.1 (e ▸ hD')
      exact ⟨h1, (World.putObj_heap_other hne).trans h2⟩
    · exact Below.trans (belowK_b (w := w0) (Nat.le_refl _) w D _ _ hD hK rfl rfl) hw'.1
    · exact hw'.2 a v (cell_kept hv (grownBy_putObj' w D (.deferred none)) (fun r e => by cases e; exact ⟨_, hK, rfl⟩))
theorem Ints.marked {n₀ : Nat} {w w' : World} {A : Option Addr} {l : List Int} (h : Ints w A l) (m : Marked n₀ w w') : Ints w' A l :=
  ⟨h.len, fun i hi => by
    obtain ⟨b, off, e, _, hc⟩ := h.at_ i hi
    have hc' := m.2 _ _ hc
    exact ⟨b, off, e, World.block_lt_of_cell? w' _ hc', hc'⟩⟩
end Go.Proofs.YtieeefgkdfijdaaDoor

/- The walk of secret.Share. No condition. -/
namespace Go.Proofs.YtieeefgkdfijdaaDoor
open Go.RowKit Go.Deep Go.Shelf Go.Proofs.YtieeefgkdfijdaaDoorW.PrintWords

attribute [local go_sem] Oper.semAt_some

theorem fieldC_ok (p : Int) (w : World) : Calls Tryd.prog 63 #[.int .i64 p] w fun e w' => e = .returned (.bool (fieldOf p)) ∧ Below w.heap.size w w' := by
  refine (PSecretShare.secret_field.calls 41 p (fieldOf p) w (fieldP_f p)).mono ?_
  rintro e w' ⟨rfl, h⟩
  exact ⟨rfl, drawn_below h⟩

/-- y when these have come -/
def accW (p x : Int) (pre : List (Int × Int)) : Int := pre.foldl (fun y q => Int.tmod (wrap64 (wrap64 (y * x) + q.2)) p) 0
theorem accW_snoc (p x : Int) (pre : List (Int × Int)) (q : Int × Int) : accW p x (pre ++ [q]) = Int.tmod (wrap64 (wrap64 (accW p x pre * x) + q.2)) p := by
  unfold accW
  rw [List.foldl_append]
  rfl
theorem horner_range (p x : Int) (hp : 0 < p) (l : List Int) : 0 ≤ horner p x l ∧ horner p x l < p := by
  cases l with
  | nil => simp only [horner, List.foldr_nil]; omega
  | cons c cs =>
    have e : horner p x (c :: cs) = (horner p x cs * x + c) % p := rfl
    rw [e]
    exact ⟨Int.emod_nonneg _ (by omega), Int.emod_lt_of_pos _ hp⟩
theorem accW_horner (p x : Int) (hp : 2 ≤ p ∧ p ≤ 997) (hx : 0 ≤ x ∧ x ≤ 1000) (l : List Int) (hin : inside l p 0 = true) : ∀ k, k ≤ l.length → accW p x (backTo l k) = horner p x (l.drop (l.length - k)) := by
  intro k
  induction k with
  | zero => intro _; simp [accW, backTo, horner]
  | succ k ih =>
    intro hk
    have hil : l.length - (k + 1) < l.length := by omega
    obtain ⟨g0, g1⟩ := inside_get hin _ hil
    have ed : l.drop (l.length - (k + 1)) = l.getD (l.length - (k + 1)) 0 :: l.drop (l.length - k) := by
      rw [List.drop_eq_getElem_cons hil, getD_eq l _ 0 hil, show l.length - (k + 1) + 1 = l.length - k by omega]
    rw [backTo_succ, accW_snoc, ih (by omega), ed]
    have e2 : (backAt l k).2 = l.getD (l.length - (k + 1)) 0 := by
      unfold backAt
      rw [show l.length - 1 - k = l.length - (k + 1) by omega]
    have e : ∀ (c : Int) (cs : List Int), horner p x (c :: cs) = (horner p x cs * x + c) % p := fun _ _ => rfl
    obtain ⟨h0, h1⟩ := horner_range p x (by omega) (l.drop (l.length - k))
    rw [e2, e]
    generalize l.getD (l.length - (k + 1)) 0 = c at g0 g1 ⊢
    generalize horner p x (l.drop (l.length - k)) = y at h0 h1 ⊢
    have m1 := mul_le_997 (x := y) (y := x) ⟨h0, by omega⟩ hx
    have w1 : wrap64 (y * x) = y * x := by unfold wrap64; omega
    have w2 : wrap64 (y * x + c) = y * x + c := by unfold wrap64; omega
    rw [w1, w2, tmod_small _ _ (by omega)]
theorem accW_all (p x : Int) (hp : 2 ≤ p ∧ p ≤ 997) (hx : 0 ≤ x ∧ x ≤ 1000) (l : List Int) (hin : inside l p 0 = true) : accW p x (backTo l l.length) = horner p x l := by
  rw [accW_horner p x hp hx l hin l.length (Nat.le_refl _), Nat.sub_self, List.drop_zero]
theorem grown_of_below {w w' : World} (h : Below w.heap.size w w') : w.grownBy w' none := ⟨h.os, h.tape, h.output, h.size, fun k hk _ => h.block k hk⟩
theorem own_isCells {w : World} {base e size n : Nat} {v : Value} {xs : List Value} (h : w.ownsRow base e size v n xs) (j : Nat) (o : Obj) (hj : v.ownBlock = some j) (ho : w.heap[j]? = some o) : o.isCells = true := by
  rcases h.2 with ⟨rfl, _⟩ | ⟨g, cap, cur, rfl, _, hg, _⟩
  · simp [Value.ownBlock] at hj
  · simp [Value.ownBlock] at hj
    subst hj
    rw [hg] at ho
    cases ho
    rfl
theorem own_list {w : World} {base e : Nat} {v : Value} {n : Nat} {l : List Int} (h : w.ownsRow base e 1 v n (intCells l)) : w.ownsRow base e 1 v l.length (intCells l) := by
  have : n = l.length := by have := h.1; rw [intCells_length] at this; omega
  rw [← this]; exact h
theorem ints_one {w : World} {b : Nat} {y : Int} (hb : b < w.heap.size) (h : w.cell? ⟨b, 0, none⟩ = some (.int .i64 y)) : Ints w (some ⟨b, 0, none⟩) [y] :=
  ⟨by simp, fun i hi => by
    obtain rfl : i = 0 := by simp at hi; omega
    exact ⟨b, 0, rfl, hb, h⟩⟩
/-- what Share gives at good arguments -/
def RetShare (p n : Int) (l : List Int) (w : World) (e : Ending) (w' : World) : Prop := ∃ B d, e = .returned (.tuple #[.slice B n.toNat d, .nilIface]) ∧ Ints w' B ((List.range n.toNat).map fun x => horner p ((x + 1 : Nat) : Int) l) ∧ n.toNat ≤ d ∧ Below w.heap.size w w'
/-- what holds at the head of Share's outer loop -/
def ShRel (p n : Int) (l : List Int) (b0 off0 c B0 : Nat) (w2 : World) (act : Act) (W : World) : Prop := ∃ (u8 u9 u10 u11 u12 u13 u14 u15 u16 u17 u18 u19 u20 u21 u22 u23 u24 u25 u26 u27 u28 u29 u30 u31 u32 u33 u34 u35 u36 u37 u38 u39 u40 u41 u42 u43 u44 u45 u46 u47 u48 u49 u50 u51 u52 u53 u54 u55 u56 u57 u58 u59 u60 u61 u62 u63 u64 u65 u66 : Value) (dd : List Deferred) (Ds : List Nat) (x bx : Nat), act = { tmps := ((Value.int .i64 p) :: (Value.slice (some ⟨b0, off0, none⟩) l.length c) :: (Value.int .i64 n) :: (Value.pointer (some ⟨B0, 0, none⟩)) :: undef :: undef :: (Value.slice none 0 0) :: (Value.nilIface) :: u8 :: u9 :: u10 :: u11 :: u12 :: u13 :: u14 :: u15 :: u16 :: u17 :: u18 :: u19 :: u20 :: u21 :: u22 :: u23 :: u24 :: u25 :: u26 :: u27 :: u28 :: u29 :: u30 :: u31 :: u32 :: u33 :: u34 :: u35 :: u36 :: u37 :: u38 :: u39 :: u40 :: u41 :: u42 :: u43 :: u44 :: u45 :: u46 :: u47 :: u48 :: u49 :: u50 :: u51 :: u52 :: u53 :: u54 :: u55 :: u56 :: u57 :: u58 :: u59 :: u60 :: u61 :: u62 :: u63 :: u64 :: u65 :: u66 :: []).toArray, defers := dd } ∧ dd = Ds.map markOf ∧ 1 ≤ x ∧ (x : Int) ≤ n + 1 ∧ u9 = .pointer (some ⟨bx, 0, none⟩) ∧ W.cell? ⟨bx, 0, none⟩ = some (.int .i64 x) ∧ W.frozen? ⟨bx, 0, none⟩ = false ∧ w2.heap.size ≤ bx ∧ Below w2.heap.size w2 W ∧
      (Ds.Nodup ∧ ∀ D, D ∈ Ds → w2.heap.size ≤ D ∧ W.heap[D]? = some (.deferred (some []))) ∧ u8.ownBlock ≠ some bx ∧ W.ownsRow w2.heap.size 3 1 u8 (x - 1) (intCells ((List.range (x - 1)).map fun y => horner p ((y + 1 : Nat) : Int) l))
/-- the number in a box -/
def boxInt (W : World) (v : Value) : Int := match v with | .pointer (some ad) => (match W.cell? ad with | some (.int _ n) => n | _ => 0) | _ => 0
set_option maxRecDepth 100000 in
set_option maxHeartbeats 4000000 in
theorem share_ok (A : Option Addr) (l : List Int) (c : Nat) (p n : Int) (w : World) (a : Nat → Addr) (hE : Env [2, 3] w a) (hA : Ints w A l) (he : shErr p l n = 0) :
    Calls Tryd.prog 35 #[.int .i64 p, .slice A l.length c, .int .i64 n] w fun e w' => RetShare p n l w e w' := by
  have hlen := hA.len
  have hf : fieldOf p = true := by
    cases h : fieldOf p
    · unfold shErr at he; rw [if_pos h] at he; cases he
    · rfl
  have hr : ¬ (n < 1 ∨ n > p - 1 ∨ n > 24 ∨ l.length = 0 ∨ 12 < l.length) := fun h => by
    unfold shErr at he; rw [if_neg (by rw [hf]; decide), if_pos h] at he; cases he
  have hin : inside l p 0 = true := by
    cases h : inside l p 0
    · unfold shErr at he; rw [if_neg (by rw [hf]; decide), if_neg hr, h] at he; cases he
    · rfl
  obtain ⟨p2, p997⟩ := fieldOf_range hf
  have hw0 : Below w.heap.size w (w.alloc (.cells #[.int .i64 p] 3)) := below_alloc' (Below.refl _ _) _
  have HW0 := hide hw0
  have HPX := hide (fun w' (hb : Below (w.alloc (.cells #[.int .i64 p] 3)).heap.size (w.alloc (.cells #[.int .i64 p] 3)) w') => show w'.cell? ⟨w.heap.size, 0, none⟩ = some (.int .i64 p) by
    rw [hb.cell (p := ⟨w.heap.size, 0, none⟩) (by simp)]; simp)
  obtain ⟨b0, off0, rfl, hb0, _⟩ := hA.at_ 0 (by omega)
  have hcA : ∀ j, j < l.length → w.cell? ⟨b0, off0 + j, none⟩ = some (.int .i64 (l.getD j 0)) := fun j hj => by
    obtain ⟨b1, off1, e, _, h⟩ := hA.at_ j hj
    injection e with e
    injection e with e1 e2 _
    subst e1 e2
    exact h
  have HCA := hide hcA
  clear hcA
  have HF := hide (fun w' => fieldC_ok p w')
  rw [hf] at HF
  have HEL := hide (fun w' (hb : Below (w.alloc (.cells #[.int .i64 p] 3)).heap.size (w.alloc (.cells #[.int .i64 p] 3)) w') => elements_any (some ⟨b0, off0, none⟩) l c p 0 w' (hA.below (below_trans hw0 hb)))
  rw [hin] at HEL
  have n1 : 1 ≤ n := by omega
  have n24 : n ≤ 24 := by omega
  have np : n ≤ p - 1 := by omega
  have l0 : 0 < (l.length : Int) := by omega
  have l12 : (l.length : Int) ≤ 12 := by omega
  clear hf he hr hw0
  refine callsIn_wide (n := 3) |>.1 ?_
  refine callsIn_of_wp_marks Tryd.func35 rfl trivial ?_ rfl
  refine wpIn_wide.2 ?_
  simp only [Tryd.ntmps35, List.size_toArray, List.length_cons, List.length_nil, Nat.reduceAdd, Nat.reduceSub, Array.replicate_succ, Array.replicate_zero, List.push_toArray, List.append_toArray, List.nil_append, List.cons_append]
  go_wp2_with (first
    | (go_at_call 63; refine Calls.mono (HF.out _) ?_; rintro e w1 ⟨rfl, hb1⟩; have y1 := HPX.out w1 hb1)
    | (go_at_call 64; refine Calls.mono (HEL.out w1 hb1) ?_; rintro e w2 ⟨rfl, hb2⟩; have hB2 := below_trans hb1 hb2; have y2 := HPX.out w2 hB2))
  have HW2 := hide (below_trans HW0.out hB2)
  refine wp_loop (ShRel p n l b0 off0 c w.heap.size w2)
    (fun act W => (n + 1 - boxInt W (act.tmps.getD 9 undef)).toNat) ?_ ?_
  · unfold ShRel
    (repeat apply Exists.intro)
    refine ⟨rfl, (rfl : _ = List.map markOf []), (by omega : 1 ≤ 1), by omega, rfl, by simp, by simp, Nat.le_refl _, below_alloc' (Below.refl _ _) _, ⟨List.nodup_nil, fun D h => absurd h (List.not_mem_nil)⟩, by simp [Value.ownBlock], nil_own _ _ _ _⟩
  · rintro act W ⟨u8, u9, u10, u11, u12, u13, u14, u15, u16, u17, u18, u19, u20, u21, u22, u23, u24, u25, u26, u27, u28, u29, u30, u31, u32, u33, u34, u35, u36, u37, u38, u39, u40, u41, u42, u43, u44, u45, u46, u47, u48, u49, u50, u51, u52, u53, u54, u55, u56, u57, u58, u59, u60, u61, u62, u63, u64, u65, u66, dd, Ds, x, bx, rfl, rfl, x1, xn, rfl, hx, hfx, hbx, hBW, hDs, hne8, hown⟩
    have HDS := hide hDs
    obtain ⟨A8, c8, rfl, hc8, _⟩ := own_shape hown
    have HO8 := hide hown
    have HNE := hide (show some bx ≠ (Value.slice A8 (x - 1) c8).ownBlock from fun e => hne8 e.symm)
    have HC8 := hide hc8
    clear hDs hown hne8 hc8
    have yW := HPX.out W (below_trans hB2 hBW)
    by_cases hxn : (x : Int) ≤ n
    · have HACC := hide (accW_all p x ⟨p2, p997⟩ ⟨by omega, by omega⟩ l hin)
      go_wp2_with (go_at_call 65; refine Calls.mono (callsIn_wide (n := 3) |>.1 (back_in Fence.wide 3 trivial rfl (some ⟨b0, off0, none⟩) l.length c _)) ?_; rintro e w4 ⟨rfl, rfl⟩)
      have hWB : Below w.heap.size w W := below_trans HW2.out hBW
      have hbW : b0 < W.heap.size := Nat.lt_of_lt_of_le hb0 hWB.size
      have hcW := fun j hj => (hWB.cell (p := ⟨b0, off0 + j, none⟩) hb0).trans (HCA.out j hj)
      refine wpIn_wide (n := 3) |>.1 ?_
      refine wpIn_rangeFunc_ownF (F := Fence.wide) (n := 3) rfl (by decide) (gf := 83) (lb := #[.pointer (some ⟨W.heap.size + 1, 0, none⟩)]) (by rfl) trivial (enters_of Tryd.func83 (by kernel_rfl) rfl)
        (back_stops Fence.wide 2 trivial rfl (by decide) (W.heap.size + 1) W.heap.size b0 c off0 l hlen _ (by simp) (by simp; omega) (by simp) hbW (fun j hj => by rw [World.cell?_alloc_lt _ _ _ (by simp; omega), World.cell?_alloc_lt _ _ _ hbW]; exact hcW j hj))
        (fun h k => KpB.trans h k) ?hKb (Below.refl _ _) (fun _ => rfl)
        (fun pre V => (V.cell? ⟨W.heap.size, 0, none⟩ = some (.int .i64 (accW p x pre)) ∧ V.frozen? ⟨W.heap.size, 0, none⟩ = false) ∧ Below W.heap.size W V) (fun _ _ _ => False) ?hI ?hIx ?h0
        (fun q => { tmps := ((Value.int .i64 p) :: (Value.slice (some ⟨b0, off0, none⟩) l.length c) :: (Value.int .i64 n) :: (Value.pointer (some ⟨w.heap.size, 0, none⟩)) :: undef :: undef :: (Value.slice none 0 0) :: (Value.nilIface) :: (Value.slice A8 (x - 1) c8) :: (Value.pointer (some ⟨bx, 0, none⟩)) :: (Value.pointer (some ⟨W.heap.size, 0, none⟩)) :: u11 :: (Value.int .i64 q.2) :: u13 :: u14 :: u15 :: u16 :: u17 :: u18 :: u19 :: u20 :: u21 :: u22 :: u23 :: u24 :: u25 :: u26 :: u27 :: u28 :: u29 :: u30 :: u31 :: u32 :: u33 :: u34 :: u35 :: u36 :: u37 :: u38 :: u39 :: u40 :: u41 :: u42 :: u43 :: u44 :: (Value.int .i64 x) :: (Value.int .i64 n) :: (Value.bool true) :: u48 :: u49 :: (Value.slice (some ⟨b0, off0, none⟩) l.length c) :: (Value.func (.func 83) #[] #[.pointer (some ⟨W.heap.size + 1, 0, none⟩)]) :: (Value.int .i64 q.1) :: (Value.int .i64 q.2) :: u54 :: u55 :: u56 :: u57 :: u58 :: u59 :: u60 :: u61 :: u62 :: u63 :: u64 :: u65 :: u66 :: []).toArray, defers := [] }) ?assign ?body ?done ?stop
      case hKb =>
        intro V r o o' hr h1 h2 h3
        exact ⟨belowK_b (w := W) (Nat.le_refl _) V r o o' (by simp at hr; omega) h1 h2 h3, fun v hv => cell_kept hv (grownBy_putObj' V r o') (fun r' e => by cases e; exact ⟨_, h1, h2⟩)⟩
      case hI => exact OwnFrom.and (Own.from (fun s A B row hs hg hr => ⟨cell_kept hs.1 hg hr, (frozen_kept hs.1 hg hr).trans hs.2⟩) _) (ownFrom_below (Nat.le_refl _) (by simp; omega))
      case hIx => exact fun _ _ _ _ _ hs _ _ => hs.elim
      case h0 => exact ⟨⟨by simp [accW], by simp⟩, below_alloc' (below_alloc' (Below.refl _ _) _) _⟩
      case assign =>
        intro r q V K hK
        gi_wp2
        exact hK
      case stop =>
        rintro D c pre V _ _ h _
        exact h.elim
      case body =>
        rintro r pre q V ⟨⟨hy, hfy⟩, hWV⟩ _
        have yV := HPX.out V (below_trans (below_trans hB2 hBW) hWV)
        have hxl := World.block_lt_of_cell? W _ hx
        have hxV := (hWV.cell (p := ⟨bx, 0, none⟩) hxl).trans hx
        have pne : p ≠ 0 := by omega
        have hac := accW_snoc p x pre q
        have HAC := hide hac
        clear hac
        gi_wp2
        refine ⟨KeepsOthers.setCell _ _ _, ⟨(Below.refl W.heap.size V).setCell (p := ⟨W.heap.size, 0, none⟩) (Nat.le_refl _) _, fun v hv => (World.cell?_setCell_other _ _ _ _ (by simp)).trans hv⟩, ⟨?_, ?_⟩, hWV.setCell (p := ⟨W.heap.size, 0, none⟩) (Nat.le_refl _) _⟩
        · rw [HAC.out]; exact World.cell?_setCell_same' _ _ _ (by rw [hy]; rfl)
        · rw [World.frozen?_setCell]; exact hfy
      case done =>
        rintro D ys V hD rfl ⟨⟨hy, hfy⟩, hWV⟩ hK
        have hxl := World.block_lt_of_cell? W _ hx
        have hxV := (hWV.cell (p := ⟨bx, 0, none⟩) hxl).trans hx
        have hyl := World.block_lt_of_cell? V _ hy
        simp only [] at hyl
        have HOA := hide (HO8.out.kept (grown_of_below hWV) (by cases (Value.slice A8 (x - 1) c8).ownBlock <;> simp))
        rw [HACC.out] at hy
        generalize hyy : horner p x l = yy at hy
        have HY := hide hyy
        have HK := hide hK
        clear hyy hK
        have HXA := hide (show (V.alloc (.cells #[.int .i64 yy] 3)).cell? ⟨bx, 0, none⟩ = some (.int .i64 x) from (World.cell?_alloc_lt _ _ _ (World.block_lt_of_cell? V _ hxV)).trans hxV)
        have hszV : w2.heap.size ≤ V.heap.size + 1 := Nat.le_succ_of_le (Nat.le_trans hBW.size hWV.size)
        have HSZ := hide (show w2.heap.size ≤ (V.alloc (.cells #[.int .i64 yy] 3)).heap.size by simp; omega)
        have HC3 := hide (show (((List.range (x - 1)).map fun y => horner p ((y + 1 : Nat) : Int) l).length + 1) * 8 ≤ 140737488355328 by simp only [List.length_map, List.length_range]; omega)
        go_wp2_with (at_builtin; refine wp_app_ints _ rfl (.tmp 61) (.tmp 63) rfl w2.heap.size (.slice A8 (x - 1) c8) _ rfl (own_list (HOA.out.alloc _)) _ 1 1 [yy] rfl rfl (ints_one (b := V.heap.size) (by simp) (by simp)) HC3.out HSZ.out ?_; intro A' c' w5 hc5 ho5 hg5 hob5; have hx5 := hg5.cell HXA.out HNE.out)
        have e0 : ((List.range (x - 1)).map fun y => horner p ((y + 1 : Nat) : Int) l) ++ [yy] = (List.range x).map fun y => horner p ((y + 1 : Nat) : Int) l := by
          obtain ⟨m, rfl⟩ : ∃ m, x = m + 1 := ⟨x - 1, by omega⟩
          rw [← HY.out, List.range_succ, List.map_append, Nat.add_sub_cancel]
          rfl
        have hlx : ((List.range x).map fun y => horner p ((y + 1 : Nat) : Int) l).length = x := by simp
        rw [e0, hlx] at ho5
        have b1 : Below w2.heap.size w2 V := hBW.trans (hWV.mono hBW.size)
        have b2 := b1.alloc b1.size (.cells #[.int .i64 yy] 3)
        have b3 := b2.grown hg5 b2.size (fun k hk => (HOA.out.lt k hk).1)
        have kk : KeepsOthers V (w5.alloc (.cells #[.int .i64 ((x : Int) + 1)] 3)) := ((KeepsOthers.alloc _ _).trans (KeepsOthers.of_grownBy hg5 (own_isCells (HOA.out.alloc _)))).trans (KeepsOthers.alloc _ _)
        refine ⟨?_, ?_⟩
        · unfold ShRel
          (repeat apply Exists.intro)
          refine ⟨rfl, (rfl : _ = List.map markOf (D :: Ds)), (by omega : 1 ≤ x + 1), by push_cast; omega, rfl, by simp, by simp, b3.size, b3.alloc b3.size _, ⟨List.nodup_cons.2 ⟨fun hm => ?_, HDS.out.1⟩, fun D' hD' => ?_⟩, fun e => absurd (ho5.lt _ e).2 (Nat.lt_irrefl _), ?_⟩
          · have h1 := (Array.getElem?_eq_some_iff.1 (HDS.out.2 D hm).2).1
            simp at hD
            omega
          · rcases List.mem_cons.1 hD' with rfl | hm
            · exact ⟨by simp at hD; have := hBW.size; omega, kk.same _ _ HK.out rfl⟩
            · have h1 := (HDS.out.2 D' hm).2
              exact ⟨(HDS.out.2 D' hm).1, kk.same _ _ ((hWV.block D' (Array.getElem?_eq_some_iff.1 h1).1).trans h1) rfl⟩
          · have h1 := ho5.alloc (.cells #[.int .i64 ((x : Int) + 1)] 3)
            simpa [Nat.sub_add_cancel x1] using h1
        · have e1 : boxInt W (.pointer (some ⟨bx, 0, none⟩)) = x := by simp only [boxInt, hx]
          have e2 : boxInt (w5.alloc (.cells #[.int .i64 ((x : Int) + 1)] 3)) (.pointer (some ⟨w5.heap.size, 0, none⟩)) = (x : Int) + 1 := by
            have h1 : (w5.alloc (.cells #[.int .i64 ((x : Int) + 1)] 3)).cell? ⟨w5.heap.size, 0, none⟩ = some (.int .i64 ((x : Int) + 1)) := by simp
            simp only [boxInt, h1]
          rw [e1, e2]
          omega
    · have hx1 : x - 1 = n.toNat := by omega
      have ho := HO8.out
      rw [hx1] at ho
      have hc8 := HC8.out
      rw [hx1] at hc8
      have hI : Ints W A8 ((List.range n.toNat).map fun y => horner p ((y + 1 : Nat) : Int) l) := Ints.own (c := c8) (e := 3) (base := w2.heap.size) (by simpa using ho)
      have HI := hide hI
      have HC := hide hc8
      clear hI ho hc8 HO8
      go_wp2_with (fail)
      exact leaves_marks w2 Ds W HDS.out.1 HDS.out.2 (fun w' hm => ⟨_, results_tmp2 rfl _ _ _, A8, c8, rfl, HI.out.marked hm, HC.out, below_trans HW2.out (Below.trans hBW hm.1)⟩)
end Go.Proofs.YtieeefgkdfijdaaDoor

/- The walk of secret.Valid. No condition. -/
namespace Go.Proofs.YtieeefgkdfijdaaDoor
open Go.RowKit Go.Deep

theorem errC_pos (a : Nat → Addr) (c : Int) (h : c ≠ 0) : errC a c = .iface 161 (.pointer (some (a c.toNat))) := by unfold errC; rw [if_neg h]; rfl

theorem alloc_block (w : World) (o : Obj) : (w.alloc o).heap[w.heap.size]? = some o := by
  show (w.heap.push o)[w.heap.size]? = some o
  rw [Array.getElem?_push_size]
theorem seen_new (w : World) : (w.alloc (.cells #[.bool false, .bool false, .bool false, .bool false, .bool false, .bool false, .bool false, .bool false, .bool false, .bool false, .bool false, .bool false, .bool false, .bool false, .bool false, .bool false] 87)).rowIs w.heap.size 87 16 (fun _ => .bool false) := by
  refine ⟨_, alloc_block _ _, rfl, fun i hi => ?_⟩
  have h : ∀ i : Fin 16, (#[.bool false, .bool false, .bool false, .bool false, .bool false, .bool false, .bool false, .bool false, .bool false, .bool false, .bool false, .bool false, .bool false, .bool false, .bool false, .bool false] : Array Value)[i.1]? = some (.bool false) := by
    intro i
    match i with
    | ⟨0, _⟩ | ⟨1, _⟩ | ⟨2, _⟩ | ⟨3, _⟩ | ⟨4, _⟩ | ⟨5, _⟩ | ⟨6, _⟩ | ⟨7, _⟩ | ⟨8, _⟩ | ⟨9, _⟩ | ⟨10, _⟩ | ⟨11, _⟩ | ⟨12, _⟩ | ⟨13, _⟩ | ⟨14, _⟩ | ⟨15, _⟩ => rfl
    | ⟨n + 16, h⟩ => exact absurd h (by omega)
  exact h ⟨i, hi⟩
theorem seen_step (r : List Int) (j : Nat) (hj : j < r.length) (s : Int) : (r.take (j + 1)).contains s = ((r.take j).contains s || decide (s = r.getD j 0)) := by
  rw [take_at r j hj]
  simp [List.contains_eq_mem, List.mem_append]

set_option maxRecDepth 100000 in
set_option maxHeartbeats 4000000 in
theorem secValid_any (Ka La : Option Addr) (K : List Int) (L : List (List Int)) (kc lc : Nat) (w : World) (a : Nat → Addr) (hE : Env [2, 3] w a) (hK : Ints w Ka K) (hL : Lists w La L) :
    Calls Tryd.prog 25 #[.agg #[.slice Ka K.length kc, .slice La L.length lc]] w fun e w' => e = .returned (errC a (ccode K L)) ∧ Below w.heap.size w w' := by
  have hKl := hK.len
  have hLl := hL.len
  have x3 : w.cell? ⟨1, 0, none⟩ = some (.iface 161 (.pointer (some (a 3)))) := hE.cell 3 (by simp)
  have hg3 : 1 < w.heap.size := hE.lt (c := 3) (by simp)
  have HWE := hide (distValid_any Ka K kc (w.alloc (.cells #[.slice Ka K.length kc, .slice La L.length lc] 46)) a (hE.below (below_alloc' (Below.refl _ _) _)) (hK.below (below_alloc' (Below.refl _ _) _)))
  by_cases hk0 : wErr K = 0
  · rw [hk0, errC_zero] at HWE
    by_cases hll : L.length = K.length
    · have hll' : K.length = L.length := hll.symm
      rw [hll'] at HWE ⊢
      have HLL := hide hll
      clear hll hll'
      go_enter Tryd.func25, Tryd.ntmps25
      go_wp2_with (go_at_call 56; refine Calls.mono HWE.out ?_; rintro e w1 ⟨rfl, hb1⟩; obtain ⟨k1, k2⟩ := below_cells hb1; have hz1 : w.heap.size < w1.heap.size := by (have := hb1.size; simp at this; omega)
                   have y0 : w1.cell? ⟨w.heap.size, 0, none⟩ = some (.slice Ka L.length kc) := by rw [k1 _ _ (by simp)]; simp
                   have y1 : w1.cell? ⟨w.heap.size, 1, none⟩ = some (.slice La L.length lc) := by rw [k1 _ _ (by simp)]; simp
                   have y3 : w1.cell? ⟨1, 0, none⟩ = some (.iface 161 (.pointer (some (a 3)))) := by rw [k1 _ _ (by simp; omega)]; exact (World.cell?_alloc_lt _ _ ⟨1, 0, none⟩ hg3).trans x3
                   clear k1 k2)
      have hB1 : Below w.heap.size w w1 := below_trans (below_alloc' (Below.refl _ _) _) hb1
      go_loopw [26] (fun i wr => ∃ k : Nat, k ≤ L.length ∧ i = .int .i64 k ∧ Hid (RowsOk L k) ∧ Below w1.heap.size w1 wr) (fun i _ => L.length - (intOf i).toNat)
      case atStart => exact ⟨0, Nat.zero_le _, rfl, hide (RowsOk.zero L), Below.refl _ _⟩
      case round =>
        obtain ⟨i, hi, rfl, HR, hBi⟩ := hrel
        obtain ⟨wi, rfl⟩ : ∃ wi : World, wi = wr := ⟨_, rfl⟩
        have z1 : wi.cell? ⟨w.heap.size, 1, none⟩ = some (.slice La L.length lc) := (hBi.cell (p := ⟨w.heap.size, 1, none⟩) hz1).trans y1
        have z3 : wi.cell? ⟨1, 0, none⟩ = some (.iface 161 (.pointer (some (a 3)))) := (hBi.cell (p := ⟨1, 0, none⟩) (by show 1 < _; omega)).trans y3
        have hz2 : w.heap.size < wi.heap.size := Nat.lt_of_lt_of_le hz1 hBi.size
        have hz3 : 1 < wi.heap.size := by omega
        by_cases hil : i < L.length
        · have hLi := hL.below (below_trans hB1 hBi)
          obtain ⟨b, off, A', c', rfl, hb, d1, hle, hI⟩ := hLi.at_ i hil
          obtain ⟨b0, off0, A0, c0, e0, _, d0, _, _⟩ := hLi.at_ 0 (by omega)
          injection e0 with e0
          injection e0 with e1 e2 _
          subst e1 e2
          have d0' : wi.cell? ⟨b, off, none⟩ = some (.slice A0 (L.getD 0 []).length c0) := d0
          have hbad := fun h => ccode_bad hk0 HLL.out hil h
          have hnext := fun h => HR.out.succ (i := i) h
          clear d0 hLi
          generalize L.getD i [] = r at d1 hle hI hbad hnext
          generalize (L.getD 0 []).length = n at d0' hbad hnext
          have HBAD := hide hbad
          have HNEXT := hide hnext
          clear hbad hnext
          have i0 : (0 : Int) ≤ (i : Int) := Int.natCast_nonneg _
          have i1 : (i : Int) < (L.length : Int) := by omega
          have i2 : (0 : Int) < (L.length : Int) := by omega
          have hBw := below_trans hB1 hBi
          by_cases h0 : r.length = 0
          · have hb0 := badRow_of (n := n) (.inl h0)
            have q0 : ((r.length : Int) == 0) = true := by rw [h0]; rfl
            go_wp2_with (fail)
            go_ret
            exact ⟨by rw [HBAD.out hb0]; rfl, below_alloc' hBw _⟩
          · have q0 : ((r.length : Int) == 0) = false := by rw [beq_eq_false_iff_ne]; omega
            by_cases h1 : 16 < r.length
            · have q1 : decide (16 < (r.length : Int)) = true := decide_eq_true (by omega)
              have hb0 := badRow_of (n := n) (.inr (.inl h1))
              go_wp2_with (fail)
              go_ret
              exact ⟨by rw [HBAD.out hb0]; rfl, below_alloc' hBw _⟩
            · have q1 : decide (16 < (r.length : Int)) = false := decide_eq_false (by omega)
              by_cases h2 : r.length ≠ n
              · have hb0 := badRow_of (n := n) (.inr (.inr h2))
                have h2' : ((r.length : Int) == (n : Int)) = false := by simpa using fun h => h2 (by omega)
                have h2'' : ((r.length : Int) != (n : Int)) = true := by simpa using fun h => h2 (by omega)
                go_wp2_with (fail)
                go_ret
                exact ⟨by rw [HBAD.out hb0]; rfl, below_alloc' hBw _⟩
              · have h2' : n = r.length := by omega
                subst h2'
                have h2'' : ((r.length : Int) != (r.length : Int)) = false := by simp
                go_wp2_with (fail)
                have hlen16 : r.length ≤ 16 := by omega
                have hrow0 := seen_new wi
                have hBs : Below wi.heap.size wi (wi.alloc (.cells #[.bool false, .bool false, .bool false, .bool false, .bool false, .bool false, .bool false, .bool false, .bool false, .bool false, .bool false, .bool false, .bool false, .bool false, .bool false, .bool false] 87)) := below_alloc' (Below.refl _ _) _
                generalize wi.alloc (.cells #[.bool false, .bool false, .bool false, .bool false, .bool false, .bool false, .bool false, .bool false, .bool false, .bool false, .bool false, .bool false, .bool false, .bool false, .bool false, .bool false] 87) = ws at hrow0 hBs ⊢
                have HI := hide hI
                clear hI
                go_loopw [51] (fun v wr => ∃ j : Nat, j ≤ r.length ∧ v = .int .i64 j ∧ Hid (SignsOk r j) ∧ Below wi.heap.size wi wr ∧ wr.rowIs wi.heap.size 87 16 (fun s => .bool ((r.take j).contains (s : Int)))) (fun v _ => r.length - (intOf v).toNat)
                case atStart => exact ⟨0, Nat.zero_le _, rfl, hide (SignsOk.zero r), hBs, hrow0.congr fun s _ => by simp⟩
                case round =>
                  obtain ⟨j, hj, rfl, HSG, hBj, hrow⟩ := hrel
                  obtain ⟨wj, rfl⟩ : ∃ wj : World, wj = wr := ⟨_, rfl⟩
                  have g3 : wj.cell? ⟨1, 0, none⟩ = some (.iface 161 (.pointer (some (a 3)))) := (hBj.cell (p := ⟨1, 0, none⟩) hz3).trans z3
                  have hlt := hrow.lt
                  have j0 : (0 : Int) ≤ (j : Int) := Int.natCast_nonneg _
                  by_cases hjl : j < r.length
                  · obtain ⟨b', off', rfl, _, dj⟩ := (HI.out.below hBj).at_ j hjl
                    have j1 : (j : Int) < (r.length : Int) := by omega
                    have hsg : ∀ x, x = badSign r j → x = ((r.take j).contains (r.getD j 0) || decide (r.getD j 0 < 0) || decide (15 < r.getD j 0)) := fun x h => h
                    have hbs := fun h => badRow_sign (n := r.length) hjl h
                    have hns := fun h => HSG.out.succ (k := j) h
                    have hst := seen_step r j hjl
                    generalize r.getD j 0 = x at dj hsg hst
                    have HSB := hide hsg
                    have HBS := hide hbs
                    have HNS := hide hns
                    have HST := hide hst
                    clear hsg hbs hns hst
                    by_cases x0 : x < 0
                    · go_wp2_with (fail)
                      go_ret
                      exact ⟨by rw [HBAD.out (HBS.out (by rw [HSB.out _ rfl, decide_eq_true x0]; simp))]; rfl, hBw.trans (hBj.mono (by omega))⟩
                    · by_cases x15 : 15 < x
                      · have x16 : 16 ≤ x := by omega
                        go_wp2_with (fail)
                        go_ret
                        exact ⟨by rw [HBAD.out (HBS.out (by rw [HSB.out _ rfl, decide_eq_true x15]; simp))]; rfl, hBw.trans (hBj.mono (by omega))⟩
                      · obtain ⟨x, rfl⟩ := Int.eq_ofNat_of_zero_le (show 0 ≤ x by omega)
                        have x16 : x < 16 := by omega
                        have s1 : wj.cell? ⟨wi.heap.size, x, none⟩ = some (.bool ((r.take j).contains (x : Int))) := hrow.cell x16
                        have s2 : wj.frozen? ⟨wi.heap.size, x, none⟩ = false := hrow.frozen x
                        have s3 : (x : Int) < 16 := by omega
                        have s4 : ¬ (16 ≤ (x : Int)) := by omega
                        have hset := hrow.set x (.bool true)
                        have HSET := hide hset
                        clear hset
                        by_cases hc : (r.take j).contains (x : Int) = true
                        · rw [hc] at s1
                          go_wp2_with (fail)
                          go_ret
                          exact ⟨by rw [HBAD.out (HBS.out (by rw [HSB.out _ rfl, hc]; simp))]; rfl, hBw.trans (hBj.mono (by omega))⟩
                        · have hc' : (r.take j).contains (x : Int) = false := by simpa using hc
                          rw [hc'] at s1
                          have HC := hide hc'
                          clear hc hc'
                          go_wp2_with (fail)
                          go_roundw
                          case rel => exact ⟨j + 1, by omega, by go_num, hide (HNS.out (by rw [HSB.out _ rfl, HC.out, decide_eq_false x0, decide_eq_false x15]; rfl)), hBj.setCell (p := ⟨wi.heap.size, x, none⟩) (Nat.le_refl _) _, HSET.out.congr fun s _ => by
                            rw [HST.out]
                            by_cases e : s = x
                            · subst e; simp
                            · rw [if_neg e, decide_eq_false (by omega), Bool.or_false]⟩
                          case measure => simp [intOf]; omega
                  · obtain rfl : j = r.length := by omega
                    have hgood := badRow_good (n := r.length) h0 hlen16 rfl HSG.out
                    have HG := hide hgood
                    clear hgood
                    go_wp2_with (fail)
                    go_roundw
                    case rel => exact ⟨i + 1, by omega, by go_num, hide (HNEXT.out HG.out), hBi.trans (hBj.mono hBi.size)⟩
                    case measure => simp [intOf]; omega
        · obtain rfl : i = L.length := by omega
          go_wp2_with (fail)
          go_ret
          exact ⟨by rw [ccode_good hk0 HLL.out HR.out]; rfl, below_trans hB1 hBi⟩
    · rw [ccode_len hk0 hll]
      go_enter Tryd.func25, Tryd.ntmps25
      go_wp2_with (go_at_call 56; refine Calls.mono HWE.out ?_; rintro e w1 ⟨rfl, hb1⟩; obtain ⟨k1, k2⟩ := below_cells hb1; have hz1 : w.heap.size < w1.heap.size := by (have := hb1.size; simp at this; omega)
                   have y0 : w1.cell? ⟨w.heap.size, 0, none⟩ = some (.slice Ka K.length kc) := by rw [k1 _ _ (by simp)]; simp
                   have y1 : w1.cell? ⟨w.heap.size, 1, none⟩ = some (.slice La L.length lc) := by rw [k1 _ _ (by simp)]; simp
                   have y3 : w1.cell? ⟨1, 0, none⟩ = some (.iface 161 (.pointer (some (a 3)))) := by rw [k1 _ _ (by simp; omega)]; exact (World.cell?_alloc_lt _ _ ⟨1, 0, none⟩ hg3).trans x3
                   clear k1 k2)
      go_ret
      exact ⟨rfl, below_trans (below_alloc' (Below.refl _ _) _) hb1⟩
  · rw [ccode_keys hk0]
    rw [errC_pos a _ hk0] at HWE ⊢
    generalize a (wErr K).toNat = a0 at HWE ⊢
    clear hk0
    go_enter Tryd.func25, Tryd.ntmps25
    go_wp2_with (go_at_call 56; refine Calls.mono HWE.out ?_; rintro e w1 ⟨rfl, hb1⟩)
    go_ret
    exact ⟨rfl, below_trans (below_alloc' (Below.refl _ _) _) hb1⟩
end Go.Proofs.YtieeefgkdfijdaaDoor

/- Tables of whole numbers in memory: a row of rows, made block after block; make([][]int, n). No condition. -/
namespace Go.Proofs.YtieeefgkdfijdaaDoor
open Go.RowKit Go.Deep

theorem list_info : (Tryd.prog.info? 33).map (fun i => (i.zero, i.size, i.bytes)) = some (some (.slice none 0 0), 1, 24) := by kernel_rfl
/-- make([][]int, n) -/
theorem wp_make_lists (w : World) {ops : Array Oper} {rest : List Oper} {o : Oper} {a : Act} {Q : Exit → Act → World → Prop}
    (hg : o.guard = none) (l c : Operand) (hop : o.op = Op.makeSlice 37 l c) (kl kc : IntKind) (n : Nat) (hl : a.eval l = .int kl (n : Int)) (hc : a.eval c = .int kc (n : Int)) (hn : n ≤ 1000000)
    (hK : ∀ w', w'.rowIs w.heap.size 33 n (fun _ => .slice none 0 0) → Below w.heap.size w w' → Hid (w'.heap.size = w.heap.size + 1) → wpList Tryd.prog ops Q rest (a.put o.dst (.slice (some ⟨w.heap.size, 0, none⟩) n n)) w') :
    wpList Tryd.prog ops Q (o :: rest) a w := by
  obtain ⟨i0, hi0, hz0, hz1, hz2⟩ := info_parts list_info
  refine wpList_make_row w hg l c _ hop 33 i0 _ Tryd.underlying37 hi0 hz0 hz1 rfl kl kc n hl hc (by rw [hz2]; omega) (by omega) ?_
  exact hK _ (World.rowIs_made w _ n _) ((Below.refl _ _).alloc (Nat.le_refl _) _) (hide (by simp))
/-- make([]int, n), with the heap's size behind it -/
theorem wp_make_ints' (w : World) {ops : Array Oper} {rest : List Oper} {o : Oper} {a : Act} {Q : Exit → Act → World → Prop}
    (hg : o.guard = none) (l c : Operand) (hop : o.op = Op.makeSlice 33 l c) (kl kc : IntKind) (n : Nat) (hl : a.eval l = .int kl (n : Int)) (hc : a.eval c = .int kc (n : Int)) (hn : n ≤ 1000000)
    (hK : ∀ w', w'.rowIs w.heap.size 3 n (fun _ => .int .i64 0) → Below w.heap.size w w' → Hid (w'.heap.size = w.heap.size + 1) → wpList Tryd.prog ops Q rest (a.put o.dst (.slice (some ⟨w.heap.size, 0, none⟩) n n)) w') :
    wpList Tryd.prog ops Q (o :: rest) a w := by
  obtain ⟨i0, hi0, hz0, hz1, hz2⟩ := info_parts int_info
  refine wpList_make_row w hg l c _ hop 3 i0 _ Tryd.underlying33 hi0 hz0 hz1 rfl kl kc n hl hc (by rw [hz2]; omega) (by omega) ?_
  exact hK _ (World.rowIs_made w _ n _) ((Below.refl _ _).alloc (Nat.le_refl _) _) (hide (by simp))

/-- a slice over a whole block of c whole numbers -/
def sl (b c : Nat) : Value := .slice (some ⟨b, 0, none⟩) c c
/-- the first k rows of a table of M rows of c whole numbers: the outer block is B, row j lies in block B + 1 + j -/
structure TabTo (w : World) (B M c k : Nat) (f : Nat → Nat → Int) : Prop where
  outer : w.rowIs B 33 M (fun j => if j < k then .slice (some ⟨B + 1 + j, 0, none⟩) c c else .slice none 0 0)
  inner : ∀ j, j < k → w.rowIs (B + 1 + j) 3 c (fun i => .int .i64 (f j i))
  size : w.heap.size = B + 1 + k
/-- a whole table -/
structure Tab (w : World) (B M c : Nat) (f : Nat → Nat → Int) : Prop where
  outer : w.rowIs B 33 M (fun j => .slice (some ⟨B + 1 + j, 0, none⟩) c c)
  inner : ∀ j, j < M → w.rowIs (B + 1 + j) 3 c (fun i => .int .i64 (f j i))
theorem TabTo.zero {w : World} {B M c : Nat} {f : Nat → Nat → Int} (h : w.rowIs B 33 M (fun _ => .slice none 0 0)) (hs : w.heap.size = B + 1) : TabTo w B M c 0 f :=
  ⟨h.congr (fun j _ => by simp), fun j hj => absurd hj (by omega), hs⟩
/-- one row more: it lies in a new block, its slice is stored -/
theorem TabTo.succ {w w1 : World} {B M c k : Nat} {f : Nat → Nat → Int} (h : TabTo w B M c k f) (hk : k < M) (hb : Below w.heap.size w w1) (hr : w1.rowIs (B + 1 + k) 3 c (fun i => .int .i64 (f k i))) (hs : w1.heap.size = w.heap.size + 1) :
    TabTo (w1.setCell ⟨B, k, none⟩ (.slice (some ⟨B + 1 + k, 0, none⟩) c c)) B M c (k + 1) f := by
  have hB : B < w.heap.size := by rw [h.size]; omega
  refine ⟨((h.outer.of_block (hb.block B hB)).set k _).congr fun j hj => ?_, fun j hj => ?_, by simp [World.setCell]; rw [hs, h.size]; omega⟩
  · by_cases e : j = k
    · subst e; simp
    · rw [if_neg e]
      by_cases h1 : j < k
      · rw [if_pos h1, if_pos (by omega)]
      · rw [if_neg h1, if_neg (by omega)]
  · by_cases e : j = k
    · subst e; exact hr.setOther (by show B + 1 + j ≠ B; omega) _
    · exact ((h.inner j (by omega)).of_block (hb.block _ (by rw [h.size]; omega))).setOther (by show B + 1 + j ≠ B; omega) _
theorem TabTo.whole {w : World} {B M c : Nat} {f : Nat → Nat → Int} (h : TabTo w B M c M f) : Tab w B M c f :=
  ⟨h.outer.congr fun j hj => by rw [if_pos hj], h.inner⟩
theorem Tab.below {w w1 : World} {B M c : Nat} {f : Nat → Nat → Int} {C : Nat} (h : Tab w B M c f) (hb : Below C w w1) (hC : B + M < C) : Tab w1 B M c f :=
  ⟨h.outer.of_block (hb.block B (by omega)), fun j hj => (h.inner j hj).of_block (hb.block _ (by omega))⟩
theorem Tab.lt {w : World} {B M c : Nat} {f : Nat → Nat → Int} (h : Tab w B M c f) : B + M < w.heap.size := by
  rcases Nat.eq_zero_or_pos M with e | e
  · subst e; have := h.outer.lt; omega
  · have := (h.inner (M - 1) (by omega)).lt; omega
theorem Tab.congr {w : World} {B M c : Nat} {f g : Nat → Nat → Int} (h : Tab w B M c f) (e : ∀ j, j < M → ∀ i, i < c → f j i = g j i) : Tab w B M c g :=
  ⟨h.outer, fun j hj => (h.inner j hj).congr fun i hi => by rw [e j hj i hi]⟩
/-- a number of the table is written -/
theorem Tab.set {w : World} {B M c : Nat} {f : Nat → Nat → Int} (h : Tab w B M c f) (j i : Nat) (hj : j < M) (v : Int) :
    Tab (w.setCell ⟨B + 1 + j, i, none⟩ (.int .i64 v)) B M c (fun x y => if x = j ∧ y = i then v else f x y) := by
  refine ⟨h.outer.setOther (by show B ≠ B + 1 + j; omega) _, fun x hx => ?_⟩
  by_cases e : x = j
  · subst e
    refine ((h.inner x hx).set i _).congr fun y hy => ?_
    by_cases e2 : y = i
    · subst e2; simp
    · simp [e2]
  · refine ((h.inner x hx).setOther (by show B + 1 + x ≠ B + 1 + j; omega) _).congr fun y hy => ?_
    simp [e]
/-- a number in one of the rows so far is written -/
theorem TabTo.set {w : World} {B M c k : Nat} {f : Nat → Nat → Int} (h : TabTo w B M c k f) (j i : Nat) (hj : j < k) (v : Int) :
    TabTo (w.setCell ⟨B + 1 + j, i, none⟩ (.int .i64 v)) B M c k (fun x y => if x = j ∧ y = i then v else f x y) := by
  refine ⟨h.outer.setOther (by show B ≠ B + 1 + j; omega) _, fun x hx => ?_, by simp [World.setCell]; exact h.size⟩
  by_cases e : x = j
  · subst e
    refine ((h.inner x hx).set i _).congr fun y hy => ?_
    by_cases e2 : y = i
    · subst e2; simp
    · simp [e2]
  · refine ((h.inner x hx).setOther (by show B + 1 + x ≠ B + 1 + j; omega) _).congr fun y hy => ?_
    simp [e]
theorem TabTo.congr {w : World} {B M c k : Nat} {f g : Nat → Nat → Int} (h : TabTo w B M c k f) (e : ∀ j, j < k → ∀ i, i < c → f j i = g j i) : TabTo w B M c k g :=
  ⟨h.outer, fun j hj => (h.inner j hj).congr fun i hi => by rw [e j hj i hi], h.size⟩
/-- a table reads as the list of its rows -/
theorem Lists.ofTab {w : World} {B M c : Nat} {f : Nat → Nat → Int} (h : Tab w B M c f) (hM : M ≤ 9223372036854775807) (hc : c ≤ 9223372036854775807) : Lists w (some ⟨B, 0, none⟩) ((List.range M).map fun j => (List.range c).map fun i => f j i) :=
  ⟨by simpa using hM, fun j hj => by
    have hj' : j < M := by simpa using hj
    have e : ((List.range M).map fun j => (List.range c).map fun i => f j i).getD j [] = (List.range c).map fun i => f j i := by
      simp [List.getD_eq_getElem?_getD, List.getElem?_map, List.getElem?_range hj']
    rw [e]
    have h1 := h.outer.cell hj'
    exact ⟨B, 0, some ⟨B + 1 + j, 0, none⟩, c, rfl, h.outer.lt, by rw [Nat.zero_add, h1]; simp, by simp, Ints.ofRow (h.inner j hj') hc⟩⟩
end Go.Proofs.YtieeefgkdfijdaaDoor

/- The walk of secret.signs at right ciphers. No condition. -/
namespace Go.Proofs.YtieeefgkdfijdaaDoor
open Go.RowKit Go.Deep Go.Proofs.YtieeefgkdfijdaaDoorW.PrintMore
attribute [local go_sem] max2_int min2_int max_two min_two

/-- a table of the call's own that reads as signs -/
def RetTab (M c : Nat) (f : Nat → Nat → Int) (w : World) (e : Ending) (w' : World) : Prop :=
  ∃ B, e = .returned (.slice (some ⟨B, 0, none⟩) M M) ∧ w.heap.size ≤ B ∧ Tab w' B M c f ∧ Below w.heap.size w w'
theorem sgn_step (K : List Int) (L : List (List Int)) (m : Nat) (s : Int) (n : Nat) : sgn K L m s (n + 1) = sgn K L m s n + if (L.getD n []).getD m 0 = s then K.getD n 0 else 0 := rfl
theorem topOf_flat_step (L : List (List Int)) (i : Nat) (hi : i < L.length) (hr : 0 < (L.getD i []).length) : topOf (L.take (i + 1)).flatten 0 = if topOf (L.take i).flatten 0 < greatest (L.getD i []) then greatest (L.getD i []) else topOf (L.take i).flatten 0 := by
  rw [flat_take L i hi, topOf_append, greatest_top _ hr]
theorem topOf_mono (l : List Int) : ∀ t, t ≤ topOf l t := by
  induction l with
  | nil => intro t; exact Int.le_refl _
  | cons x r ih =>
    intro t
    have h := ih (if x > t then x else t)
    show t ≤ topOf r (if x > t then x else t)
    have h2 : t ≤ if x > t then x else t := by split <;> omega
    omega
theorem topOf_mem (l : List Int) (x : Int) (h : x ∈ l) : ∀ t, x ≤ topOf l t := by
  induction l with
  | nil => cases h
  | cons y r ih =>
    intro t
    show x ≤ topOf r (if y > t then y else t)
    rcases List.mem_cons.1 h with e | e
    · subst e
      have h := topOf_mono r (if x > t then x else t)
      have h2 : x ≤ if x > t then x else t := by split <;> omega
      omega
    · exact ih e _
theorem sign_le_top (L : List (List Int)) (i m : Nat) (hi : i < L.length) (hm : m < (L.getD i []).length) : (L.getD i []).getD m 0 ≤ topOf L.flatten 0 := by
  refine topOf_mem _ _ ?_ _
  rw [getD_eq L i [] hi] at hm ⊢
  rw [getD_eq _ m 0 hm]
  exact List.mem_flatten.2 ⟨L[i], List.getElem_mem hi, List.getElem_mem hm⟩

set_option maxRecDepth 100000 in
set_option maxHeartbeats 4000000 in
theorem signs_ok (Ka La : Option Addr) (K : List Int) (L : List (List Int)) (kc lc : Nat) (w : World) (hK : Ints w Ka K) (hL : Lists w La L) (hg : GoodCipher K L) (N : Nat) (hN : (N : Int) = topOf L.flatten 0) :
    Calls Tryd.prog 53 #[.agg #[.slice Ka K.length kc, .slice La L.length lc]] w (RetTab (L.getD 0 []).length (N + 1) (fun m s => sgn K L m (s : Nat) L.length) w) := by
  obtain ⟨hK16, hKn, hKs, hK0⟩ := keys_good hg.keys
  have hlen := hg.len
  have hN15 : N ≤ 15 := by have := hg.top; omega
  have hrow := fun i (hi : i < L.length) => hg.row i hi
  have HROW := hide hrow
  have HG := hide hg
  have hKL : K.length = L.length := hlen.symm
  rw [hKL] at hK16 hK0 ⊢
  have HLEN := hide hlen
  clear hrow hg hlen hKL
  go_enter Tryd.func53, Tryd.ntmps53
  go_wp2_with (fail)
  go_loopw [3, 13] (fun t i wr => ∃ k : Nat, k ≤ L.length ∧ i = .int .i64 k ∧ t = .int .i64 (topOf (L.take k).flatten 0) ∧ Below (w.heap.size + 1) (w.alloc (.cells #[.slice Ka L.length kc, .slice La L.length lc] 46)) wr) (fun _ i _ => L.length - (intOf i).toNat)
  case atStart => exact ⟨0, Nat.zero_le _, rfl, rfl, Below.refl _ _⟩
  case round =>
    obtain ⟨i, hi, rfl, rfl, hBi⟩ := hrel
    obtain ⟨wi, rfl⟩ : ∃ wi : World, wi = wr := ⟨_, rfl⟩
    have hz : w.heap.size < wi.heap.size := by have := hBi.size; simp at this; omega
    have hBw : Below w.heap.size w wi := (below_alloc' (Below.refl _ _) _).trans (hBi.mono (by omega))
    by_cases hil : i < L.length
    · obtain ⟨b, off, A', c', rfl, hb, d1, hle, hI⟩ := (hL.below hBw).at_ i hil
      have hgr := HROW.out i hil
      have hst := topOf_flat_step L i hil hgr.pos
      have i0 : (0 : Int) ≤ (i : Int) := Int.natCast_nonneg _
      have i1 : (i : Int) < (L.length : Int) := by omega
      have hmx := max_ok A' (L.getD i []) c' wi hI hgr.pos
      have HST := hide hst
      have HMX := hide hmx
      clear hst hmx hgr hI
      change Hid (_ = if topOf (L.take i).flatten 0 < greatest (L.getD i []) then greatest (L.getD i []) else topOf (L.take i).flatten 0) at HST
      generalize greatest (L.getD i []) = g at HST HMX
      generalize topOf (L.take i).flatten 0 = t at HST ⊢
      generalize L.getD i [] = r at d1 hle HMX
      by_cases hgt : t < g
      · go_wp2_with (go_at_call 75; refine Calls.mono HMX.out ?_; rintro e w2 ⟨rfl, hb2⟩)
        go_roundw
        case rel => exact ⟨i + 1, by omega, by go_num, by rw [HST.out, if_pos hgt], hBi.trans (hb2.mono (by omega))⟩
        case measure => simp [intOf]; omega
      · go_wp2_with (go_at_call 75; refine Calls.mono HMX.out ?_; rintro e w2 ⟨rfl, hb2⟩)
        go_roundw
        case rel => exact ⟨i + 1, by omega, by go_num, by rw [HST.out, if_neg (by omega)], hBi.trans (hb2.mono (by omega))⟩
        case measure => simp [intOf]; omega
    · obtain rfl : i = L.length := by omega
      rw [List.take_length, ← hN]
      have HN := hide hN
      clear hN
      have y0 : wi.cell? ⟨w.heap.size, 0, none⟩ = some (.slice Ka L.length kc) := by rw [hBi.cell (p := ⟨w.heap.size, 0, none⟩) (by show w.heap.size < w.heap.size + 1; omega)]; simp
      have y1 : wi.cell? ⟨w.heap.size, 1, none⟩ = some (.slice La L.length lc) := by rw [hBi.cell (p := ⟨w.heap.size, 1, none⟩) (by show w.heap.size < w.heap.size + 1; omega)]; simp
      have hL0 : 0 < L.length := hK0
      obtain ⟨b, off, A0, c0, rfl, hb, d0, hle, hI0⟩ := (hL.below hBw).at_ 0 hL0
      have d0' : wi.cell? ⟨b, off, none⟩ = some (.slice A0 (L.getD 0 []).length c0) := d0
      have hM := (HROW.out 0 hL0).most
      have hM0 := (HROW.out 0 hL0).pos
      clear d0 hI0
      generalize hMM : (L.getD 0 []).length = M at d0' hM hM0 hle ⊢
      have HMM := hide hMM
      clear hMM
      have i2 : (0 : Int) < (L.length : Int) := by omega
      go_wp2_with (at_make; refine wp_make_lists _ rfl (.tmp 26) (.tmp 26) rfl .i64 .i64 M rfl rfl (by omega) ?_; intro w3 hrow3 hb3 hs3; obtain ⟨k3, k4⟩ := below_cells hb3)
      clear k3 k4
      have hB0 : w.heap.size < wi.heap.size := hz
      have hBo : Below w.heap.size w w3 := hBw.trans (hb3.mono (by omega))
      have v0 : w3.cell? ⟨w.heap.size, 0, none⟩ = some (.slice Ka L.length kc) := (hb3.cell (p := ⟨w.heap.size, 0, none⟩) hz).trans y0
      have v1 : w3.cell? ⟨w.heap.size, 1, none⟩ = some (.slice (some ⟨b, off, none⟩) L.length lc) := (hb3.cell (p := ⟨w.heap.size, 1, none⟩) hz).trans y1
      generalize hBB : wi.heap.size = B at *
      clear hBB
      go_loopw [30] (fun i wr => ∃ m : Nat, m ≤ M ∧ i = .int .i64 m ∧ Below B w3 wr ∧ TabTo wr B M (N + 1) m (fun m s => sgn K L m (s : Nat) L.length)) (fun i _ => M - (intOf i).toNat)
      case atStart => exact ⟨0, Nat.zero_le _, rfl, Below.refl _ _, TabTo.zero hrow3 hs3.out⟩
      case round =>
        obtain ⟨m, hm, rfl, hBm, hTm⟩ := hrel
        obtain ⟨wm, rfl⟩ : ∃ wm : World, wm = wr := ⟨_, rfl⟩
        by_cases hmM : m < M
        · have c1 := hTm.outer.frozen m
          have c2 : wm.cell? ⟨B, m, none⟩ = some (.slice none 0 0) := by
            have := hTm.outer.cell (i := m) hmM
            rw [if_neg (by omega)] at this
            exact this
          have hBl := hTm.outer.lt
          have u0 : wm.cell? ⟨w.heap.size, 0, none⟩ = some (.slice Ka L.length kc) := (hBm.cell (p := ⟨w.heap.size, 0, none⟩) hB0).trans v0
          have u1 : wm.cell? ⟨w.heap.size, 1, none⟩ = some (.slice (some ⟨b, off, none⟩) L.length lc) := (hBm.cell (p := ⟨w.heap.size, 1, none⟩) hB0).trans v1
          have hwm : B ≤ wm.heap.size := by omega
          have hne1 : B ≠ w.heap.size := by omega
          have hne2 : w.heap.size ≠ B := by omega
          go_wp2_with (at_make; refine wp_make_ints' _ rfl (.tmp 36) (.tmp 36) rfl .i64 .i64 (N + 1) rfl rfl (by omega) ?_; intro w4 hrow4 hb4 hs4; obtain ⟨k5, k6⟩ := below_cells hb4
                       have u4 : w4.cell? ⟨w.heap.size, 1, none⟩ = some (.slice (some ⟨b, off, none⟩) L.length lc) := (hb4.cell (p := ⟨w.heap.size, 1, none⟩) (by show w.heap.size < wm.heap.size; omega)).trans u1)
          have hszm := hTm.size
          have hT4 := TabTo.succ (f := fun x s => if x = m then sgn K L m (s : Nat) 0 else sgn K L x (s : Nat) L.length) (w1 := w4) ⟨hTm.outer, fun x hx => (hTm.inner x hx).congr fun i _ => by rw [if_neg (by omega)], hTm.size⟩ hmM hb4 (by rw [hszm] at hrow4; exact hrow4.congr fun i _ => by rw [if_pos rfl]; rfl) hs4.out
          have hB4 : Below B w3 (w4.setCell ⟨B, m, none⟩ (.slice (some ⟨B + 1 + m, 0, none⟩) (N + 1) (N + 1))) := (hBm.trans (hb4.mono (by omega))).setCell (by show B ≤ B; omega) _
          have e1 : (w4.setCell ⟨B, m, none⟩ (.slice (some ⟨B + 1 + m, 0, none⟩) (N + 1) (N + 1))).cell? ⟨w.heap.size, 1, none⟩ = some (.slice (some ⟨b, off, none⟩) L.length lc) := (hB4.cell (p := ⟨w.heap.size, 1, none⟩) hB0).trans v1
          clear k5 k6 hrow4 hs4 hb4 hTm hBm c1 c2 hBl u0 u1 u4
          try rw [hszm]
          generalize w4.setCell ⟨B, m, none⟩ (.slice (some ⟨B + 1 + m, 0, none⟩) (N + 1) (N + 1)) = w5 at hT4 hB4 e1 ⊢
          go_wp2_with (fail)
          go_loopw [42] (fun v wr => ∃ k : Nat, k ≤ L.length ∧ v = .int .i64 k ∧ Below B w3 wr ∧ TabTo wr B M (N + 1) (m + 1) (fun x s => if x = m then sgn K L m (s : Nat) k else sgn K L x (s : Nat) L.length)) (fun v _ => L.length - (intOf v).toNat)
          case atStart => exact ⟨0, Nat.zero_le _, rfl, hB4, hT4⟩
          case round =>
            obtain ⟨k, hk, rfl, hBk, hTk⟩ := hrel
            obtain ⟨wk, rfl⟩ : ∃ wk : World, wk = wr := ⟨_, rfl⟩
            by_cases hkL : k < L.length
            · have hLk := hL.below (hBo.trans (hBk.mono (by omega)))
              obtain ⟨b1, off1, A', c', e, hb1, d1, hle1, hI1⟩ := hLk.at_ k hkL
              injection e with e
              injection e with e1' e2' _
              subst e1' e2'
              have hgr := HROW.out k hkL
              have hmr : m < (L.getD k []).length := by rw [hgr.len, HMM.out]; exact hmM
              obtain ⟨b2, off2, rfl, _, d2⟩ := hI1.at_ m hmr
              obtain ⟨b3, off3, rfl, _, d3⟩ := (hK.below (hBo.trans (hBk.mono (by omega)))).at_ k (by rw [← HLEN.out]; exact hkL)
              have hsg := hgr.sign m hmr
              have hst := fun s => sgn_step K L m s k
              have htop := sign_le_top L k m hkL hmr
              rw [← HN.out] at htop
              have hbk := sgn_le HG.out m ((L.getD k []).getD m 0) k (by rw [← HLEN.out]; omega)
              have hbk1 := sgn_le HG.out m ((L.getD k []).getD m 0) (k + 1) (by rw [← HLEN.out]; omega)
              rw [hst, if_pos rfl] at hbk1
              generalize (L.getD k []).getD m 0 = x at d2 hsg hst htop hbk hbk1
              obtain ⟨x, rfl⟩ := Int.eq_ofNat_of_zero_le hsg.1
              have hxN : x < N + 1 := by omega
              have t1 : wk.cell? ⟨B, m, none⟩ = some (.slice (some ⟨B + 1 + m, 0, none⟩) (N + 1) (N + 1)) := by
                have := hTk.outer.cell (i := m) hmM
                rw [if_pos (by omega)] at this
                exact this
              have t2 : wk.cell? ⟨B + 1 + m, x, none⟩ = some (.int .i64 (sgn K L m (x : Nat) k)) := by
                have := (hTk.inner m (by omega)).cell (i := x) hxN
                rw [if_pos rfl] at this
                exact this
              have t3 : wk.frozen? ⟨B + 1 + m, x, none⟩ = false := (hTk.inner m (by omega)).frozen _
              have t0 : wk.cell? ⟨w.heap.size, 0, none⟩ = some (.slice (some ⟨b3, off3, none⟩) L.length kc) := (hBk.cell (p := ⟨w.heap.size, 0, none⟩) hB0).trans v0
              have hset := hTk.set m x (by omega) (sgn K L m (x : Nat) k + K.getD k 0)
              have hT' := hset.congr (g := fun y s => if y = m then sgn K L m (s : Nat) (k + 1) else sgn K L y (s : Nat) L.length) (fun y _ s _ => by
                by_cases e : y = m
                · rw [if_pos e, if_pos e, hst]
                  by_cases e2 : s = x
                  · rw [if_pos ⟨e, e2⟩, e2, if_pos rfl]
                  · rw [if_neg (fun h => e2 h.2), if_neg (by omega), Int.add_zero]
                · rw [if_neg (fun h => e h.1), if_neg e, if_neg e])
              clear hset hst hLk hI1 hgr
              generalize sgn K L m (x : Nat) k = s0 at *
              generalize K.getD k 0 = kk at *
              have HT := hide hT'
              clear hT' hTk
              have k0 : (0 : Int) ≤ (k : Int) := Int.natCast_nonneg _
              have k1 : (k : Int) < (L.length : Int) := by omega
              have m0 : (0 : Int) ≤ (m : Int) := Int.natCast_nonneg _
              have m1 : (m : Int) < (M : Int) := by omega
              have m2 : (m : Int) < ((L.getD k []).length : Int) := by omega
              have x0 : (0 : Int) ≤ (x : Int) := Int.natCast_nonneg _
              have x1 : (x : Int) < (N : Int) + 1 := by omega
              have hw : IntKind.i64.wrap (s0 + kk) = s0 + kk := by rw [IntKind.wrap_i64]; omega
              generalize (L.getD k []).length = rl at d1 hle1 hmr m2
              go_wp2_with (fail)
              go_still_tail 17, (by kernel_rfl)
              go_wp2_with (fail)
              go_roundw
              case rel =>
                refine ⟨k + 1, by omega, by go_num, ?_, ⟨HT.out.outer, HT.out.inner, HT.out.size⟩⟩
                have hbb := hBk.setCell (p := ⟨B + 1 + m, x, none⟩) (by show B ≤ B + 1 + m; omega) (.int .i64 (s0 + kk))
                exact ⟨hbb.os, hbb.tape, hbb.output, hbb.size, hbb.block⟩
              case measure => simp [intOf]; omega
            · obtain rfl : k = L.length := by omega
              go_wp2_with (fail)
              go_roundw
              case rel => exact ⟨m + 1, by omega, by go_num, hBk, hTk.congr fun x _ s _ => by
                by_cases e : x = m
                · rw [if_pos e, e]
                · rw [if_neg e]⟩
              case measure => simp [intOf]; omega
        · obtain rfl : m = M := by omega
          go_wp2_with (fail)
          go_ret
          unfold RetTab
          rw [HMM.out]
          exact ⟨B, rfl, by omega, hTm.whole, hBo.trans (hBm.mono (by omega))⟩
end Go.Proofs.YtieeefgkdfijdaaDoor
