/- A row of pairs that the call owns, one pair more; the walk of demonref4.StripBonds. No condition. -/
import Derived.Test.YtngogonepjicpaaDoorApp
import Derived.Test.YtngogonepjicpaaDoorGrP
namespace Go.Proofs.YtngogonepjicpaaDoor
open Go.RowKit Go.Deep

/-- since the world W0 the call has laid new memory alone; v is a slice of its own that reads as l -/
structure OwnP (W0 w : World) (v : Value) (l : List (Int × Int)) : Prop where
  row : w.ownsRow W0.heap.size 64 2 v l.length (pairCells l)
  below : Below W0.heap.size W0 w
theorem OwnP.nil {W0 w : World} (h : Below W0.heap.size W0 w) : OwnP W0 w (.slice none 0 0) [] := ⟨nil_own _ _ _ _, h⟩
theorem OwnP.alloc {W0 w : World} {v : Value} {l : List (Int × Int)} (h : OwnP W0 w v l) (o : Obj) : OwnP W0 (w.alloc o) v l :=
  ⟨by
    refine h.row.kept (row := some w.heap.size) (World.grownBy_alloc w o (some w.heap.size)) ?_
    cases e : v.ownBlock with
    | none => exact .inl rfl
    | some k => refine .inr ?_; have := h.row.lt k e; intro e2; injection e2 with e2; omega, h.below.alloc h.below.size o⟩
theorem OwnP.drewN {W0 w : World} {v : Value} {l : List (Int × Int)} (h : OwnP W0 w v l) (n : Nat) : OwnP W0 (w.drewN n) v l := ⟨h.row, below_drewN' h.below n⟩
theorem OwnP.shape {W0 w : World} {v : Value} {l : List (Int × Int)} (h : OwnP W0 w v l) : ∃ A c, v = .slice A l.length c ∧ l.length ≤ c ∧ Pairs w A l := by
  obtain ⟨A, c, rfl, hc, _⟩ := own_shape h.row
  exact ⟨A, c, rfl, hc, Pairs.own h.row⟩
theorem pair_one {w : World} {b : Nat} {p q : Int} (hb : b < w.heap.size) (c1 : w.cell? ⟨b, 0, none⟩ = some (.int .i64 p)) (c2 : w.cell? ⟨b, 1, none⟩ = some (.int .i64 q)) : Pairs w (some ⟨b, 0, none⟩) [(p, q)] :=
  ⟨by simp, fun i hi => by
    obtain rfl : i = 0 := by simp at hi; omega
    exact ⟨b, 0, rfl, hb, c1, c2⟩⟩
theorem cell_new0 (w : World) (u v : Value) (t : TypeId) : (w.alloc (.cells #[u, v] t)).cell? ⟨w.heap.size, 0, none⟩ = some u := by simp
theorem cell_new1 (w : World) (u v : Value) (t : TypeId) : (w.alloc (.cells #[u, v] t)).cell? ⟨w.heap.size, 1, none⟩ = some v := by simp
/-- append(v, [2]int{p, q}) -/
theorem wp_app_pair (W0 w : World) {ops : Array Oper} {rest : List Oper} {o : Oper} {a : Act} {Q : Exit → Act → World → Prop} (hgd : o.guard = none) (s x : Operand)
    (ho : o.op = .call { callee := .builtin .append, args := #[s, x], argTypes := #[22, 22] }) (v : Value) (l0 : List (Int × Int)) (hs : a.eval s = v) (hown : OwnP W0 w v l0)
    (b : Nat) (p q : Int) (hx : a.eval x = .slice (some ⟨b, 0, none⟩) 1 1) (hb : b < w.heap.size) (c1 : w.cell? ⟨b, 0, none⟩ = some (.int .i64 p)) (c2 : w.cell? ⟨b, 1, none⟩ = some (.int .i64 q)) (hl : l0.length ≤ 1000000)
    (h : ∀ A' n' c' w', OwnP W0 w' (.slice A' n' c') (l0 ++ [(p, q)]) → w.grownBy w' v.ownBlock → wpList Tryd.prog ops Q rest (a.put o.dst (.slice A' n' c')) w') : wpList Tryd.prog ops Q (o :: rest) a w := by
  refine wp_app_pairs w hgd s x ho W0.heap.size v l0 hs hown.row (some ⟨b, 0, none⟩) 1 1 [(p, q)] hx rfl (pair_one hb c1 c2) (by omega) hown.below.size ?_
  intro A' c' w' hc hr hg _
  exact h _ _ _ w' ⟨hr, hown.below.grown hg hown.below.size (fun k hk => (hown.row.lt k hk).1)⟩ hg

/-- what a maker of pairs hands back -/
def RetPairs (l : List (Int × Int)) (w : World) (e : Ending) (w' : World) : Prop :=
  ∃ A c, e = .returned (.slice A l.length c) ∧ Pairs w' A l ∧ l.length ≤ c ∧ Below w.heap.size w w' ∧ ∀ k, (Value.slice A l.length c).ownBlock = some k → w.heap.size ≤ k

set_option maxRecDepth 100000 in
set_option maxHeartbeats 2000000 in
theorem strip_true (h L : Nat) (w : World) (hh : h ≤ 100) (hL : L ≤ 100) :
    Calls Tryd.prog 33 #[.int .i64 h, .int .i64 L, .bool true] w (RetPairs (stripOf h L true) w) := by
  go_enter Tryd.func33, Tryd.ntmps33
  go_wp2_with (fail)
  go_loopw [7, 8] (fun v i wr => ∃ c : Nat, c ≤ L ∧ i = .int .i64 c ∧ OwnP w wr v (upto (stripAt h L true) h c 0)) (fun _ i _ => L - (intOf i).toNat)
  case atStart => exact ⟨0, Nat.zero_le _, rfl, OwnP.nil (Below.refl _ _)⟩
  case round =>
    obtain ⟨c, hc, rfl, hO⟩ := hrel
    by_cases hcl : c < L
    · go_wp2_with (fail)
      go_loopw [7, 9] (fun v i wr => ∃ r : Nat, r ≤ h ∧ i = .int .i64 r ∧ OwnP w wr v (upto (stripAt h L true) h c r)) (fun _ i _ => h - (intOf i).toNat)
      case atStart => exact ⟨0, Nat.zero_le _, rfl, hO⟩
      case round =>
        obtain ⟨r, hr, rfl, hO⟩ := hrel
        by_cases hrh : r < h
        · obtain ⟨q, hq, hq1⟩ : ∃ q : Nat, (c : Int) * h = q ∧ q ≤ 10000 := ⟨c * h, by push_cast; rfl, Nat.mul_le_mul (by omega : c ≤ 100) hh⟩
          obtain ⟨e, he, he1, he2⟩ : ∃ e : Nat, ((c : Int) + 1).tmod L = e ∧ e ≤ 100 ∧ Hid (e = (c + 1) % L) := ⟨(c + 1) % L, by rw [Int.tmod_eq_emod_of_nonneg (by omega)]; push_cast; rfl, by have := Nat.mod_lt (c + 1) (show 0 < L by omega); omega, hide rfl⟩
          obtain ⟨q2, hq2, hq3⟩ : ∃ q2 : Nat, (e : Int) * h = q2 ∧ q2 ≤ 10000 := ⟨e * h, by push_cast; rfl, Nat.mul_le_mul he1 hh⟩
          have hlen : (upto (stripAt h L true) h c r).length ≤ 999998 := by
            have h1 := upto_len (stripAt h L true) (stripAt_len h L _) h c r
            have h2 : c * (h * 2) ≤ 100 * (100 * 2) := Nat.mul_le_mul (by omega) (by omega)
            omega
          have hstep := upto_row (stripAt h L true) h c r
          have hat : stripAt h L true c r = (if r + 1 < h then [((q : Int) + r, (q : Int) + r + 1)] else []) ++ (if c + 1 < L ∨ true = true then [((q : Int) + r, (q2 : Int) + r)] else []) := by
            unfold stripAt
            rw [← he2.out, hq, hq2]
          rw [hat] at hstep
          clear hat he2
          have HST := hide hstep
          clear hstep
          generalize upto (stripAt h L true) h c r = l0 at hO hlen HST
          obtain ⟨A0, c0, rfl, _, _⟩ := hO.shape
          by_cases h1 : r + 1 < h
          · by_cases h2 : c + 1 < L
            all_goals
              go_wp2_with (first
                | (at_builtin
                   refine wp_app_pair w _ rfl (.tmp 24) (.tmp 37) rfl _ l0 rfl (hO.alloc _) wr.heap.size (q + r) (q + r + 1) rfl (by simp) (by simp) (by simp) (by omega) ?_
                   intro A1 n1 c1 w1 hO1 hg1)
                | (at_builtin
                   refine wp_app_pair w _ rfl (.tmp 46) (.tmp 61) rfl _ (l0 ++ [((q : Int) + r, (q : Int) + r + 1)]) rfl (hO1.alloc _) w1.heap.size (q + r) (q2 + r) rfl (by simp) (by simp) (by simp) (by simp; omega) ?_
                   intro A2 n2 c2 w2 hO2 hg2))
              go_roundw
              case rel =>
                refine ⟨r + 1, by omega, by go_num, ?_⟩
                rw [HST.out]
                first
                  | simpa [h1, h2] using hO2
                  | simpa [h1, h2] using hO1
              case measure => simp [intOf]; omega
          · by_cases h2 : c + 1 < L
            all_goals
              go_wp2_with
                (at_builtin
                 refine wp_app_pair w _ rfl (.tmp 46) (.tmp 61) rfl _ l0 rfl (hO.alloc _) wr.heap.size (q + r) (q2 + r) rfl (by simp) (by simp) (by simp) (by omega) ?_
                 intro A1 n1 c1 w1 hO1 hg1)
              go_roundw
              case rel =>
                refine ⟨r + 1, by omega, by go_num, ?_⟩
                rw [HST.out]
                first
                  | simpa [h1, h2] using hO1
                  | simpa [h1, h2] using hO
              case measure => simp [intOf]; omega
        · obtain rfl : r = h := by omega
          go_wp2_with (fail)
          go_roundw
          case rel => exact ⟨c + 1, by omega, by go_num, by rw [← upto_col]; exact hO⟩
          case measure => simp [intOf]; omega
    · obtain rfl : c = L := by omega
      obtain ⟨A0, c0, rfl, hc0, hP0⟩ := hO.shape
      go_wp2_with (fail)
      go_ret
      exact ⟨A0, c0, rfl, hP0, hc0, hO.below, fun k hk => (hO.row.lt k hk).1⟩

set_option maxRecDepth 100000 in
set_option maxHeartbeats 2000000 in
theorem strip_false (h L : Nat) (w : World) (hh : h ≤ 100) (hL : L ≤ 100) :
    Calls Tryd.prog 33 #[.int .i64 h, .int .i64 L, .bool false] w (RetPairs (stripOf h L false) w) := by
  go_enter Tryd.func33, Tryd.ntmps33
  go_wp2_with (fail)
  go_loopw [7, 8] (fun v i wr => ∃ c : Nat, c ≤ L ∧ i = .int .i64 c ∧ OwnP w wr v (upto (stripAt h L false) h c 0)) (fun _ i _ => L - (intOf i).toNat)
  case atStart => exact ⟨0, Nat.zero_le _, rfl, OwnP.nil (Below.refl _ _)⟩
  case round =>
    obtain ⟨c, hc, rfl, hO⟩ := hrel
    by_cases hcl : c < L
    · go_wp2_with (fail)
      go_loopw [7, 9] (fun v i wr => ∃ r : Nat, r ≤ h ∧ i = .int .i64 r ∧ OwnP w wr v (upto (stripAt h L false) h c r)) (fun _ i _ => h - (intOf i).toNat)
      case atStart => exact ⟨0, Nat.zero_le _, rfl, hO⟩
      case round =>
        obtain ⟨r, hr, rfl, hO⟩ := hrel
        by_cases hrh : r < h
        · obtain ⟨q, hq, hq1⟩ : ∃ q : Nat, (c : Int) * h = q ∧ q ≤ 10000 := ⟨c * h, by push_cast; rfl, Nat.mul_le_mul (by omega : c ≤ 100) hh⟩
          obtain ⟨e, he, he1, he2⟩ : ∃ e : Nat, ((c : Int) + 1).tmod L = e ∧ e ≤ 100 ∧ Hid (e = (c + 1) % L) := ⟨(c + 1) % L, by rw [Int.tmod_eq_emod_of_nonneg (by omega)]; push_cast; rfl, by have := Nat.mod_lt (c + 1) (show 0 < L by omega); omega, hide rfl⟩
          obtain ⟨q2, hq2, hq3⟩ : ∃ q2 : Nat, (e : Int) * h = q2 ∧ q2 ≤ 10000 := ⟨e * h, by push_cast; rfl, Nat.mul_le_mul he1 hh⟩
          have hlen : (upto (stripAt h L false) h c r).length ≤ 999998 := by
            have h1 := upto_len (stripAt h L false) (stripAt_len h L _) h c r
            have h2 : c * (h * 2) ≤ 100 * (100 * 2) := Nat.mul_le_mul (by omega) (by omega)
            omega
          have hstep := upto_row (stripAt h L false) h c r
          have hat : stripAt h L false c r = (if r + 1 < h then [((q : Int) + r, (q : Int) + r + 1)] else []) ++ (if c + 1 < L ∨ false = true then [((q : Int) + r, (q2 : Int) + r)] else []) := by
            unfold stripAt
            rw [← he2.out, hq, hq2]
          rw [hat] at hstep
          clear hat he2
          have HST := hide hstep
          clear hstep
          generalize upto (stripAt h L false) h c r = l0 at hO hlen HST
          obtain ⟨A0, c0, rfl, _, _⟩ := hO.shape
          by_cases h1 : r + 1 < h
          · by_cases h2 : c + 1 < L
            all_goals
              go_wp2_with (first
                | (at_builtin
                   refine wp_app_pair w _ rfl (.tmp 24) (.tmp 37) rfl _ l0 rfl (hO.alloc _) wr.heap.size (q + r) (q + r + 1) rfl (by simp) (by simp) (by simp) (by omega) ?_
                   intro A1 n1 c1 w1 hO1 hg1)
                | (at_builtin
                   refine wp_app_pair w _ rfl (.tmp 46) (.tmp 61) rfl _ (l0 ++ [((q : Int) + r, (q : Int) + r + 1)]) rfl (hO1.alloc _) w1.heap.size (q + r) (q2 + r) rfl (by simp) (by simp) (by simp) (by simp; omega) ?_
                   intro A2 n2 c2 w2 hO2 hg2))
              go_roundw
              case rel =>
                refine ⟨r + 1, by omega, by go_num, ?_⟩
                rw [HST.out]
                first
                  | simpa [h1, h2] using hO2
                  | simpa [h1, h2] using hO1
              case measure => simp [intOf]; omega
          · by_cases h2 : c + 1 < L
            all_goals
              go_wp2_with
                (at_builtin
                 refine wp_app_pair w _ rfl (.tmp 46) (.tmp 61) rfl _ l0 rfl (hO.alloc _) wr.heap.size (q + r) (q2 + r) rfl (by simp) (by simp) (by simp) (by omega) ?_
                 intro A1 n1 c1 w1 hO1 hg1)
              go_roundw
              case rel =>
                refine ⟨r + 1, by omega, by go_num, ?_⟩
                rw [HST.out]
                first
                  | simpa [h1, h2] using hO1
                  | simpa [h1, h2] using hO
              case measure => simp [intOf]; omega
        · obtain rfl : r = h := by omega
          go_wp2_with (fail)
          go_roundw
          case rel => exact ⟨c + 1, by omega, by go_num, by rw [← upto_col]; exact hO⟩
          case measure => simp [intOf]; omega
    · obtain rfl : c = L := by omega
      obtain ⟨A0, c0, rfl, hc0, hP0⟩ := hO.shape
      go_wp2_with (fail)
      go_ret
      exact ⟨A0, c0, rfl, hP0, hc0, hO.below, fun k hk => (hO.row.lt k hk).1⟩

theorem strip_ok (h L : Nat) (ring : Bool) (w : World) (hh : h ≤ 100) (hL : L ≤ 100) :
    Calls Tryd.prog 33 #[.int .i64 h, .int .i64 L, .bool ring] w (RetPairs (stripOf h L ring) w) := by
  cases ring
  · exact strip_false h L w hh hL
  · exact strip_true h L w hh hL
end Go.Proofs.YtngogonepjicpaaDoor
