/- The walks of sides, stripError, sidesError, SameBonds, Grid, Faces. No condition. -/
import Derived.Test.YtngogonepjicpaaDoorGr4
import Derived.Test.YtngogonepjicpaaDoorIs2
import Derived.Laws.StructEq
namespace Go.Proofs.YtngogonepjicpaaDoor
open Go.RowKit Go.Deep

def badSides (h L : Int) : Prop := h < 2 ∨ 4 < h ∨ L < 2 ∨ 12 < L
def stripCode (h L : Int) : Int := if h < 1 ∨ 4 < h ∨ L < 1 ∨ 12 < L then 2 else 0

theorem sides_bad (h L : Int) (w : World) (a : Nat → Addr) (hE : Env [2, 3] w a) (hb : badSides h L) :
    Calls Tryd.prog 47 #[.int .i64 h, .int .i64 L] w fun e w' => e = .returned (errAt (a 2)) ∧ w = w' := by
  have x2 : w.cell? ⟨0, 0, none⟩ = some (.iface 127 (.pointer (some (a 2)))) := hE.cell 2 (by simp)
  unfold badSides at hb
  by_cases g0 : h < 2
  · clear hb
    go_enter Tryd.func47, Tryd.ntmps47
    go_wp2_with (fail)
    go_ret
    exact ⟨rfl, rfl⟩
  by_cases g1 : 4 < h
  · clear hb
    go_enter Tryd.func47, Tryd.ntmps47
    go_wp2_with (fail)
    go_ret
    exact ⟨rfl, rfl⟩
  by_cases g2 : L < 2
  · clear hb
    go_enter Tryd.func47, Tryd.ntmps47
    go_wp2_with (fail)
    go_ret
    exact ⟨rfl, rfl⟩
  have g3 : 12 < L := by omega
  clear hb
  go_enter Tryd.func47, Tryd.ntmps47
  go_wp2_with (fail)
  go_ret
  exact ⟨rfl, rfl⟩
theorem sides_good (h L : Int) (w : World) (hb : ¬ badSides h L) :
    Calls Tryd.prog 47 #[.int .i64 h, .int .i64 L] w fun e w' => e = .returned .nilIface ∧ w = w' := by
  unfold badSides at hb
  have g0 : 2 ≤ h := by omega
  have g1 : h ≤ 4 := by omega
  have g2 : 2 ≤ L := by omega
  have g3 : L ≤ 12 := by omega
  clear hb
  go_enter Tryd.func47, Tryd.ntmps47
  go_wp2_with (fail)
  go_ret
  exact ⟨rfl, rfl⟩
theorem stripErr_any (h L : Int) (w : World) :
    Calls Tryd.prog 36 #[.int .i64 h, .int .i64 L] w fun e w' => e = .returned (.int .i64 (stripCode h L)) ∧ w = w' := by
  unfold stripCode
  by_cases g0 : h < 1
  · rw [if_pos (by omega)]
    go_enter Tryd.func36, Tryd.ntmps36
    go_wp2_with (fail)
    go_ret
    exact ⟨rfl, rfl⟩
  by_cases g1 : 4 < h
  · rw [if_pos (by omega)]
    go_enter Tryd.func36, Tryd.ntmps36
    go_wp2_with (fail)
    go_ret
    exact ⟨rfl, rfl⟩
  by_cases g2 : L < 1
  · rw [if_pos (by omega)]
    go_enter Tryd.func36, Tryd.ntmps36
    go_wp2_with (fail)
    go_ret
    exact ⟨rfl, rfl⟩
  by_cases g3 : 12 < L
  · rw [if_pos (by omega)]
    go_enter Tryd.func36, Tryd.ntmps36
    go_wp2_with (fail)
    go_ret
    exact ⟨rfl, rfl⟩
  rw [if_neg (by omega)]
  go_enter Tryd.func36, Tryd.ntmps36
  go_wp2_with (fail)
  go_ret
  exact ⟨rfl, rfl⟩
theorem sidesErr_bad (h L : Int) (w : World) (hb : badSides h L) :
    Calls Tryd.prog 32 #[.int .i64 h, .int .i64 L] w fun e w' => e = .returned (.int .i64 2) ∧ w = w' := by
  have hs := stripErr_any h L w
  by_cases g : h < 1 ∨ 4 < h ∨ L < 1 ∨ 12 < L
  · unfold stripCode at hs
    rw [if_pos g] at hs
    have HS := hide hs
    clear hs g hb
    go_enter Tryd.func32, Tryd.ntmps32
    go_wp2_with (go_at_call 36; refine HS.out.mono ?_; rintro e w1 ⟨rfl, rfl⟩)
    go_ret
    exact ⟨rfl, rfl⟩
  · unfold stripCode at hs
    rw [if_neg g] at hs
    have HS := hide hs
    clear hs
    unfold badSides at hb
    by_cases g1 : h = 1
    · clear hb g
      subst g1
      go_enter Tryd.func32, Tryd.ntmps32
      go_wp2_with (go_at_call 36; refine HS.out.mono ?_; rintro e w1 ⟨rfl, rfl⟩)
      go_ret
      exact ⟨rfl, rfl⟩
    · have g2 : L = 1 := by omega
      clear hb g
      subst g2
      go_enter Tryd.func32, Tryd.ntmps32
      go_wp2_with (go_at_call 36; refine HS.out.mono ?_; rintro e w1 ⟨rfl, rfl⟩)
      go_ret
      exact ⟨rfl, rfl⟩
theorem sidesErr_good (h L : Int) (w : World) (hb : ¬ badSides h L) :
    Calls Tryd.prog 32 #[.int .i64 h, .int .i64 L] w fun e w' => e = .returned (.int .i64 0) ∧ w = w' := by
  have hs := stripErr_any h L w
  unfold badSides at hb
  unfold stripCode at hs
  rw [if_neg (by omega)] at hs
  have HS := hide hs
  have g0 : 2 ≤ h := by omega
  have g2 : 2 ≤ L := by omega
  have e0 : (h == 1) = false := by rw [beq_eq_false_iff_ne]; omega
  have e2 : (L == 1) = false := by rw [beq_eq_false_iff_ne]; omega
  clear hs hb
  go_enter Tryd.func32, Tryd.ntmps32
  go_wp2_with (go_at_call 36; refine HS.out.mono ?_; rintro e w1 ⟨rfl, rfl⟩)
  go_ret
  exact ⟨rfl, rfl⟩

@[go_sem] theorem eq_pair (a b c d : Int) (w : World) : (Op.equalIn 10000 64 (.agg #[.int .i64 a, .int .i64 b]) (.agg #[.int .i64 c, .int .i64 d])).run Tryd.prog w = .ok (a == c && b == d) w := by
  have u3 := Tryd.underlying3
  have a3 := Tryd.isAgg3
  have z3 := Tryd.sizeOf3
  rw [show (10000 : Nat) = 9999 + 1 from rfl, Op.equalIn]
  simp only [Sem.run_bind, run_underlying Tryd.underlying64, Result.andThen_ok]
  simp only [Std.Legacy.Range.forIn_eq_forIn_range', Std.Legacy.Range.size, Nat.sub_zero, Nat.add_sub_cancel, Nat.div_one, List.range'_succ, List.range'_zero, List.forIn_cons, List.forIn_nil]
  go_simp
  by_cases h1 : a = c <;> by_cases h2 : b = d <;> simp [h1, h2]

set_option maxHeartbeats 1000000 in
/-- the same pairs are the same bonds -/
theorem sameBonds_ok (A B : Option Addr) (l : List (Int × Int)) (c d : Nat) (w : World) (hA : Pairs w A l) (hB : Pairs w B l) :
    Calls Tryd.prog 34 #[.slice A l.length c, .slice B l.length d] w fun e w' => e = .returned (.bool true) ∧ Below w.heap.size w w' := by
  have hl := hA.len
  go_enter Tryd.func34, Tryd.ntmps34
  go_wp2_with (fail)
  go_loopw [5] (fun i wr => ∃ k : Nat, k ≤ l.length ∧ i = .int .i64 k ∧ Below w.heap.size w wr) (fun i _ => l.length - (intOf i).toNat)
  case atStart => exact ⟨0, Nat.zero_le _, rfl, Below.refl _ _⟩
  case round =>
    obtain ⟨k, hk, rfl, hb⟩ := hrel
    by_cases hlt : k < l.length
    · obtain ⟨b1, o1, rfl, _, d1, d2⟩ := (hA.below hb).at_ k hlt
      obtain ⟨b2, o2, rfl, _, e1, e2⟩ := (hB.below hb).at_ k hlt
      generalize l.getD k (0, 0) = p at d1 d2 e1 e2
      obtain ⟨p1, p2⟩ := p
      simp only at d1 d2 e1 e2
      go_wp2_with (fail)
      go_quiet (fail)
      go_wp2_with (fail)
      go_roundw
      case rel => exact ⟨k + 1, by omega, by go_num, below_drewN' hb _⟩
      case measure => simp [intOf]; omega
    · obtain rfl : k = l.length := by omega
      go_wp2_with (fail)
      go_ret
      exact ⟨rfl, hb⟩
end Go.Proofs.YtngogonepjicpaaDoor
