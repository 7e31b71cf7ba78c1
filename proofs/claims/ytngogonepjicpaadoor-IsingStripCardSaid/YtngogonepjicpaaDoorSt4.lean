/- The walk of the law IsingStrip. Condition: the variables read as laid. -/
import Derived.Test.YtngogonepjicpaaDoorSt1
import Derived.Test.YtngogonepjicpaaDoorSt3
import Derived.Test.YtngogonepjicpaaDoorGr1
import Derived.Test.YtngogonepjicpaaDoorGr5
import Derived.Test.YtngogonepjicpaaDoorIs8
namespace Go.Proofs.YtngogonepjicpaaDoor
open Go.RowKit Go.Deep

def badStrip (h L : Int) : Prop := h < 1 ∨ 4 < h ∨ L < 1 ∨ 12 < L
set_option maxRecDepth 100000 in
set_option maxHeartbeats 1000000 in
theorem stripGo_bad (h L : Int) (ring : Bool) (w : World) (a : Nat → Addr) (hE : Env [2, 3] w a) (hb : badStrip h L) :
    Calls Tryd.prog 37 #[.int .i64 h, .int .i64 L, .bool ring] w fun e w' => e = .returned (.tuple #[.slice none 0 0, errAt (a 2)]) ∧ Below w.heap.size w w' := by
  have x2 : w.cell? ⟨0, 0, none⟩ = some (.iface 127 (.pointer (some (a 2)))) := hE.cell 2 (by simp)
  have hz := hE.lt (c := 2) (by simp)
  have hz' : 0 < w.heap.size := hz
  clear hz
  unfold badStrip at hb
  by_cases g0 : h < 1
  · clear hb
    go_enter Tryd.func37, Tryd.ntmps37
    go_wp2_with (fail)
    go_region
    all_goals go_wp2_with (fail)
    all_goals go_ret2
    all_goals exact ⟨rfl, below_drewN' (below_alloc' (Below.refl _ _) _) 1⟩
  by_cases g1 : 4 < h
  · clear hb
    go_enter Tryd.func37, Tryd.ntmps37
    go_wp2_with (fail)
    go_region
    all_goals go_wp2_with (fail)
    all_goals go_ret2
    all_goals exact ⟨rfl, below_drewN' (below_alloc' (Below.refl _ _) _) 1⟩
  by_cases g2 : L < 1
  · clear hb
    go_enter Tryd.func37, Tryd.ntmps37
    go_wp2_with (fail)
    go_region
    all_goals go_wp2_with (fail)
    all_goals go_ret2
    all_goals exact ⟨rfl, below_drewN' (below_alloc' (Below.refl _ _) _) 1⟩
  have g3 : 12 < L := by omega
  clear hb
  go_enter Tryd.func37, Tryd.ntmps37
  go_wp2_with (fail)
  go_region
  all_goals go_wp2_with (fail)
  all_goals go_ret2
  all_goals exact ⟨rfl, below_drewN' (below_alloc' (Below.refl _ _) _) 1⟩
set_option maxRecDepth 100000 in
set_option maxHeartbeats 1000000 in
theorem stripGo_short (h L : Int) (w : World) (a : Nat → Addr) (hE : Env [2, 3] w a) (h0 : 1 ≤ h) (h1 : h ≤ 4) (L0 : 1 ≤ L) (L1 : L < 3) :
    Calls Tryd.prog 37 #[.int .i64 h, .int .i64 L, .bool true] w fun e w' => e = .returned (.tuple #[.slice none 0 0, errAt (a 3)]) ∧ Below w.heap.size w w' := by
  have x2 : w.cell? ⟨1, 0, none⟩ = some (.iface 127 (.pointer (some (a 3)))) := hE.cell 3 (by simp)
  have hz := hE.lt (c := 3) (by simp)
  have hz' : 1 < w.heap.size := hz
  clear hz
  have L2 : L ≤ 12 := by omega
  go_enter Tryd.func37, Tryd.ntmps37
  go_wp2_with (fail)
  go_region
  all_goals go_wp2_with (fail)
  all_goals go_ret2
  all_goals exact ⟨rfl, below_drewN' (below_alloc' (Below.refl _ _) _) 1⟩
theorem coded_err (w : World) (a : Nat → Addr) (hS : Sent codes w a) (hH : Handle w) (c : Nat) (h0 : 1 ≤ c) (h8 : c ≤ 8) :
    Calls Tryd.prog 27 #[.iface 127 (.pointer (some (a c))), .int .i64 c] w fun e w' => e = .returned (.bool true) ∧ Below w.heap.size w w' := by
  have h := coded_any w a hS hH c h8 c
  rw [errC_some a c (by omega), decide_eq_true rfl] at h
  exact h
theorem pow_sum (q : Nat) (h : q ≤ 48) : ∃ S : Nat, wrap64 ((2 : Int) ^ q) = (S : Int) ∧ IntKind.i64.wrap ((2 : Int) ^ q) = (S : Int) ∧ S ≤ 281474976710656 ∧ Hid (S = 2 ^ q) := by
  have h1 : 2 ^ q ≤ 2 ^ 48 := Nat.pow_le_pow_right (by omega) h
  have e : ((2 : Int) ^ q) = ((2 ^ q : Nat) : Int) := by simp
  refine ⟨2 ^ q, ?_, ?_, by omega, hide rfl⟩
  · rw [e]
    generalize 2 ^ q = M at *
    unfold wrap64
    omega
  · rw [e, IntKind.wrap_i64]
    generalize 2 ^ q = M at *
    omega
theorem strip_valid_open : ∀ h, h < 5 → ∀ L, L < 11 → 1 ≤ h → 1 ≤ L → h * L ≤ 10 → vcode ((h * L : Nat) : Int) (stripOf h L false) = 0 := by decide +kernel
theorem strip_valid_ring : ∀ h, h < 5 → ∀ L, L < 11 → 1 ≤ h → 3 ≤ L → h * L ≤ 10 → vcode ((h * L : Nat) : Int) (stripOf h L true) = 0 := by decide +kernel
theorem strip_go (h L : Nat) (ring : Bool) (w : World) (h0 : 1 ≤ h) (h1 : h ≤ 4) (hL : 1 ≤ L) (hL2 : L ≤ 12) (hr : ring = true → 3 ≤ L) :
    Calls Tryd.prog 37 #[.int .i64 h, .int .i64 L, .bool ring] w (RetIntsErr (stripList h L ring) w) := by
  cases ring
  · exact strip_open h L w h0 h1 hL hL2
  · exact strip_ring h L w h0 h1 hL hL2 (hr rfl)

set_option maxRecDepth 100000 in
set_option maxHeartbeats 4000000 in
theorem law_strip_bad_false (h L : Int) (w : World) (a : Nat → Addr) (hS : Sent codes w a) (hH : Handle w) (hb : badStrip h L) :
    Calls Tryd.prog 10 #[.int .i64 h, .int .i64 L, .bool false] w fun e w' => e = .returned (.bool true) ∧ Below w.heap.size w w' := by
  have HBO := hide (bond_any w a (hS.toEnv.sub (fun c h => sub23 h)))
  have HEB : Hid (∀ w', Below w.heap.size w w' → Env [2, 3] w' a) := hide fun w' hb => (hS.toEnv.sub (fun c h => sub23 h)).below hb
  have hse := fun w => stripErr_any h L w
  unfold stripCode at hse
  unfold badStrip at hb
  rw [if_pos hb] at hse
  have HSE := hide hse
  have HB : Hid (badStrip h L) := hide hb
  clear hse hb
  go_enter Tryd.func10, Tryd.ntmps10
  go_wp2_with (first
    | (go_at_call 11; refine HBO.out.mono ?_; rintro e w1 ⟨rfl, hb1⟩)
    | (go_at_call 36; refine (HSE.out w1).mono ?_; rintro e w2 ⟨rfl, rfl⟩)
    | (go_at_call 37
       refine (stripGo_bad h L _ w1 a (HEB.out w1 hb1) HB.out).mono ?_
       rintro e w3 ⟨rfl, hb3⟩
       have hB3 := below_trans hb1 hb3
       unfold errAt)
    | (go_at_call 27
       refine Calls.mono (coded_err w3 a (hS.below hB3) (hH.below hB3) 2 (by omega) (by omega)) ?_
       rintro e w4 ⟨rfl, hb4⟩))
  go_ret
  exact ⟨rfl, below_trans hB3 hb4⟩
set_option maxRecDepth 100000 in
set_option maxHeartbeats 4000000 in
theorem law_strip_bad_true (h L : Int) (w : World) (a : Nat → Addr) (hS : Sent codes w a) (hH : Handle w) (hb : badStrip h L) :
    Calls Tryd.prog 10 #[.int .i64 h, .int .i64 L, .bool true] w fun e w' => e = .returned (.bool true) ∧ Below w.heap.size w w' := by
  have HBO := hide (bond_any w a (hS.toEnv.sub (fun c h => sub23 h)))
  have HEB : Hid (∀ w', Below w.heap.size w w' → Env [2, 3] w' a) := hide fun w' hb => (hS.toEnv.sub (fun c h => sub23 h)).below hb
  have hse := fun w => stripErr_any h L w
  unfold stripCode at hse
  unfold badStrip at hb
  rw [if_pos hb] at hse
  have HSE := hide hse
  have HB : Hid (badStrip h L) := hide hb
  clear hse hb
  go_enter Tryd.func10, Tryd.ntmps10
  go_wp2_with (first
    | (go_at_call 11; refine HBO.out.mono ?_; rintro e w1 ⟨rfl, hb1⟩)
    | (go_at_call 36; refine (HSE.out w1).mono ?_; rintro e w2 ⟨rfl, rfl⟩)
    | (go_at_call 37
       refine (stripGo_bad h L _ w1 a (HEB.out w1 hb1) HB.out).mono ?_
       rintro e w3 ⟨rfl, hb3⟩
       have hB3 := below_trans hb1 hb3
       unfold errAt)
    | (go_at_call 27
       refine Calls.mono (coded_err w3 a (hS.below hB3) (hH.below hB3) 2 (by omega) (by omega)) ?_
       rintro e w4 ⟨rfl, hb4⟩))
  go_ret
  exact ⟨rfl, below_trans hB3 hb4⟩
set_option maxRecDepth 100000 in
set_option maxHeartbeats 4000000 in
theorem law_strip_short (h L : Int) (w : World) (a : Nat → Addr) (hS : Sent codes w a) (hH : Handle w) (h0 : 1 ≤ h) (h1 : h ≤ 4) (L0 : 1 ≤ L) (L1 : L < 3) :
    Calls Tryd.prog 10 #[.int .i64 h, .int .i64 L, .bool true] w fun e w' => e = .returned (.bool true) ∧ Below w.heap.size w w' := by
  have HBO := hide (bond_any w a (hS.toEnv.sub (fun c h => sub23 h)))
  have HEB : Hid (∀ w', Below w.heap.size w w' → Env [2, 3] w' a) := hide fun w' hb => (hS.toEnv.sub (fun c h => sub23 h)).below hb
  have hse := fun w => stripErr_any h L w
  unfold stripCode at hse
  rw [if_neg (by omega)] at hse
  have HSE := hide hse
  clear hse
  go_enter Tryd.func10, Tryd.ntmps10
  go_wp2_with (first
    | (go_at_call 11; refine HBO.out.mono ?_; rintro e w1 ⟨rfl, hb1⟩)
    | (go_at_call 36; refine (HSE.out w1).mono ?_; rintro e w2 ⟨rfl, rfl⟩)
    | (go_at_call 37
       refine (stripGo_short h L w1 a (HEB.out w1 hb1) h0 h1 L0 L1).mono ?_
       rintro e w3 ⟨rfl, hb3⟩
       have hB3 := below_trans hb1 hb3
       unfold errAt)
    | (go_at_call 27
       refine Calls.mono (coded_err w3 a (hS.below hB3) (hH.below hB3) 3 (by omega) (by omega)) ?_
       rintro e w4 ⟨rfl, hb4⟩))
  go_ret
  exact ⟨rfl, below_trans hB3 hb4⟩
set_option maxRecDepth 100000 in
set_option maxHeartbeats 4000000 in
theorem law_strip_big_false (h L : Nat) (w : World) (a : Nat → Addr) (hS : Sent codes w a) (_hH : Handle w) (h0 : 1 ≤ h) (h1 : h ≤ 4) (hL : 1 ≤ L) (hL2 : L ≤ 12) (hs : 10 < h * L) :
    Calls Tryd.prog 10 #[.int .i64 h, .int .i64 L, .bool false] w fun e w' => e = .returned (.bool true) ∧ Below w.heap.size w w' := by
  have HBO := hide (bond_any w a (hS.toEnv.sub (fun c h => sub23 h)))
  have HEB : Hid (∀ w', Below w.heap.size w w' → Env [2, 3] w' a) := hide fun w' hb => (hS.toEnv.sub (fun c h => sub23 h)).below hb
  have hse := fun w => stripErr_any h L w
  unfold stripCode at hse
  rw [if_neg (by omega)] at hse
  have HSE := hide hse
  clear hse
  have hst := fun w => strip_go h L false w h0 h1 hL hL2 (fun hx => by cases hx)
  have hsum := stripList_sum h L false h1 hL
  have htk := stripList_take_le h L false h1 hL hL2
  have hfst := stripList_first h L false h0 h1
  have hpos : 0 < (stripList h L false).length := by rw [stripList_length]; omega
  obtain ⟨q, hq⟩ : ∃ q : Nat, q = h * L := ⟨_, rfl⟩
  have hq48 : q ≤ 48 := by rw [hq]; exact Nat.mul_le_mul h1 hL2
  have hqi : (h : Int) * (L : Int) = (q : Int) := by rw [hq]; push_cast; rfl
  obtain ⟨S, hSq, hSq', hS2, HSS⟩ := pow_sum q hq48
  have hq0 : (0 : Int) ≤ (q : Int) := Int.natCast_nonneg _
  have hwq : IntKind.i64.wrap (q : Int) = (q : Int) := by rw [IntKind.wrap_i64]; omega
  rw [← hq, ← HSS.out] at hsum
  rw [← hq] at hs
  clear hq
  generalize stripList h L false = l at *
  have HST := hide hst
  have HSUM := hide hsum
  have HTK := hide htk
  have HFST := hide hfst
  clear hst hsum htk hfst
  go_enter Tryd.func10, Tryd.ntmps10
  go_wp2_with (first
    | (go_at_call 11; refine HBO.out.mono ?_; rintro e w1 ⟨rfl, hb1⟩)
    | (go_at_call 36; refine (HSE.out w1).mono ?_; rintro e w2 ⟨rfl, rfl⟩)
    | (go_at_call 37
       refine (HST.out w1).mono ?_
       rintro e w3 ⟨A3, c3, rfl, hI3, hc3, hb3⟩
       have hB3 := below_trans hb1 hb3
       obtain ⟨b3, o3, rfl, hl3, hc30⟩ := hI3.at_ 0 (by omega)
       rw [HFST.out] at hc30)
    | fail)
  go_region_held3 (fun _ => True)
    (first | go_keep | trivial)
    ((first
      | (go_at_call 38
         refine Calls.mono (sum_ok _ l c3 _ (hI3.below (below_drewN' (Below.refl _ _) 1)) HTK.out) ?_
         rw [HSUM.out]
         rintro e w4 ⟨rfl, hb4⟩
         have hb4' : Below w3.heap.size w3 w4 := (below_drewN' (Below.refl _ _) 1).trans hb4
         have hB4 := below_trans hB3 hb4'
         have hI4 := hI3.below hb4'
         have hl4 := Nat.lt_of_lt_of_le hl3 hb4'.size
         have hc40 : w4.cell? ⟨b3, o3, none⟩ = some (.int .i64 2) := (hb4'.cell (p := ⟨b3, o3, none⟩) hl3).trans hc30)))
  go_wp2_with (fail)
  go_ret
  exact ⟨rfl, hB4⟩
set_option maxRecDepth 100000 in
set_option maxHeartbeats 4000000 in
theorem law_strip_wide (h L : Nat) (w : World) (a : Nat → Addr) (hS : Sent codes w a) (_hH : Handle w) (h0 : 1 ≤ h) (h1 : h ≤ 4) (hL : 1 ≤ L) (hL2 : L ≤ 12) (hs : h * L ≤ 10) (hw : 4 < L) :
    Calls Tryd.prog 10 #[.int .i64 h, .int .i64 L, .bool false] w fun e w' => e = .returned (.bool true) ∧ Below w.heap.size w w' := by
  have HBO := hide (bond_any w a (hS.toEnv.sub (fun c h => sub23 h)))
  have HEB : Hid (∀ w', Below w.heap.size w w' → Env [2, 3] w' a) := hide fun w' hb => (hS.toEnv.sub (fun c h => sub23 h)).below hb
  have hse := fun w => stripErr_any h L w
  unfold stripCode at hse
  rw [if_neg (by omega)] at hse
  have HSE := hide hse
  clear hse
  have hst := fun w => strip_go h L false w h0 h1 hL hL2 (fun hx => by cases hx)
  have hsum := stripList_sum h L false h1 hL
  have htk := stripList_take_le h L false h1 hL hL2
  have hfst := stripList_first h L false h0 h1
  have hpos : 0 < (stripList h L false).length := by rw [stripList_length]; omega
  obtain ⟨q, hq⟩ : ∃ q : Nat, q = h * L := ⟨_, rfl⟩
  have hq48 : q ≤ 48 := by rw [hq]; exact Nat.mul_le_mul h1 hL2
  have hqi : (h : Int) * (L : Int) = (q : Int) := by rw [hq]; push_cast; rfl
  obtain ⟨S, hSq, hSq', hS2, HSS⟩ := pow_sum q hq48
  have hq0 : (0 : Int) ≤ (q : Int) := Int.natCast_nonneg _
  have hwq : IntKind.i64.wrap (q : Int) = (q : Int) := by rw [IntKind.wrap_i64]; omega
  rw [← hq, ← HSS.out] at hsum
  have hsm := stripList_states h L false h0 h1 hL hL2 hs (fun hx => by cases hx)
  have hval := strip_valid_open h (by omega) L (by have := Nat.mul_le_mul_right L h0; omega) h0 hL hs
  rw [← hq] at hsm hval hs
  obtain ⟨_, _, hlb, hgb⟩ := vcode_zero hval
  have HSB := hide (fun w => strip_ok h L false w (by omega) (by omega))
  generalize stripOf h L false = lb at hsm hlb hgb HSB
  clear hq hval
  generalize stripList h L false = l at *
  have HST := hide hst
  have HSUM := hide hsum
  have HTK := hide htk
  have HFST := hide hfst
  clear hst hsum htk hfst
  have HSM := hide hsm
  clear hsm
  go_enter Tryd.func10, Tryd.ntmps10
  go_wp2_with (first
    | (go_at_call 11; refine HBO.out.mono ?_; rintro e w1 ⟨rfl, hb1⟩)
    | (go_at_call 36; refine (HSE.out w1).mono ?_; rintro e w2 ⟨rfl, rfl⟩)
    | (go_at_call 37
       refine (HST.out w1).mono ?_
       rintro e w3 ⟨A3, c3, rfl, hI3, hc3, hb3⟩
       have hB3 := below_trans hb1 hb3
       obtain ⟨b3, o3, rfl, hl3, hc30⟩ := hI3.at_ 0 (by omega)
       rw [HFST.out] at hc30)
    | fail)
  go_region_held3 (fun _ => True)
    (first | go_keep | trivial)
    ((first
      | (go_at_call 38
         refine Calls.mono (sum_ok _ l c3 _ (hI3.below (below_drewN' (Below.refl _ _) 1)) HTK.out) ?_
         rw [HSUM.out]
         rintro e w4 ⟨rfl, hb4⟩
         have hb4' : Below w3.heap.size w3 w4 := (below_drewN' (Below.refl _ _) 1).trans hb4
         have hB4 := below_trans hB3 hb4'
         have hI4 := hI3.below hb4'
         have hl4 := Nat.lt_of_lt_of_le hl3 hb4'.size
         have hc40 : w4.cell? ⟨b3, o3, none⟩ = some (.int .i64 2) := (hb4'.cell (p := ⟨b3, o3, none⟩) hl3).trans hc30)))
  go_wp2_with (first
    | (go_at_call 33
       refine (HSB.out w4).mono ?_
       rintro e w5 ⟨A5, c5, rfl, hP5, hc5, hb5, _⟩
       have hB5 := below_trans hB4 hb5
       have hI5 := hI4.below hb5)
    | (go_at_call 29
       refine (unlikeOf_ok q A5 lb c5 w5 hP5 (by omega) hlb hgb).mono ?_
       rintro e w6 ⟨A6, c6, rfl, hI6, hc6, hb6⟩
       have hB6 := below_trans hB5 hb6
       have hI36 := hI5.below hb6
       rw [← HSM.out])
    | (go_at_call 30
       refine (same_any _ A6 l l c3 c6 w6 hI36 (by rw [HSM.out]; exact hI6)).mono ?_
       rw [decide_eq_true rfl]
       rintro e w7 ⟨rfl, hb7⟩
       have hB7 := below_trans hB6 hb7
       have hI37 := hI36.below hb7)
    | fail)
  go_ret
  exact ⟨rfl, hB7⟩
set_option maxRecDepth 100000 in
set_option maxHeartbeats 4000000 in
theorem law_strip_turn (h L : Nat) (w : World) (a : Nat → Addr) (hS : Sent codes w a) (_hH : Handle w) (h0 : 1 ≤ h) (h1 : h ≤ 4) (hL : 1 ≤ L) (hL2 : L ≤ 12) (hs : h * L ≤ 10) (hw : L ≤ 4) :
    Calls Tryd.prog 10 #[.int .i64 h, .int .i64 L, .bool false] w fun e w' => e = .returned (.bool true) ∧ Below w.heap.size w w' := by
  have HBO := hide (bond_any w a (hS.toEnv.sub (fun c h => sub23 h)))
  have HEB : Hid (∀ w', Below w.heap.size w w' → Env [2, 3] w' a) := hide fun w' hb => (hS.toEnv.sub (fun c h => sub23 h)).below hb
  have hse := fun w => stripErr_any h L w
  unfold stripCode at hse
  rw [if_neg (by omega)] at hse
  have HSE := hide hse
  clear hse
  have hst := fun w => strip_go h L false w h0 h1 hL hL2 (fun hx => by cases hx)
  have hsum := stripList_sum h L false h1 hL
  have htk := stripList_take_le h L false h1 hL hL2
  have hfst := stripList_first h L false h0 h1
  have hpos : 0 < (stripList h L false).length := by rw [stripList_length]; omega
  obtain ⟨q, hq⟩ : ∃ q : Nat, q = h * L := ⟨_, rfl⟩
  have hq48 : q ≤ 48 := by rw [hq]; exact Nat.mul_le_mul h1 hL2
  have hqi : (h : Int) * (L : Int) = (q : Int) := by rw [hq]; push_cast; rfl
  obtain ⟨S, hSq, hSq', hS2, HSS⟩ := pow_sum q hq48
  have hq0 : (0 : Int) ≤ (q : Int) := Int.natCast_nonneg _
  have hwq : IntKind.i64.wrap (q : Int) = (q : Int) := by rw [IntKind.wrap_i64]; omega
  rw [← hq, ← HSS.out] at hsum
  have HST2 := hide (fun w => strip_go L h false w hL hw h0 (by omega) (fun hx => by cases hx))
  rw [← stripList_turn h L h0 h1 hL hw hs] at HST2
  have hsm := stripList_states h L false h0 h1 hL hL2 hs (fun hx => by cases hx)
  have hval := strip_valid_open h (by omega) L (by have := Nat.mul_le_mul_right L h0; omega) h0 hL hs
  rw [← hq] at hsm hval hs
  obtain ⟨_, _, hlb, hgb⟩ := vcode_zero hval
  have HSB := hide (fun w => strip_ok h L false w (by omega) (by omega))
  generalize stripOf h L false = lb at hsm hlb hgb HSB
  clear hq hval
  generalize stripList h L false = l at *
  have HST := hide hst
  have HSUM := hide hsum
  have HTK := hide htk
  have HFST := hide hfst
  clear hst hsum htk hfst
  have HSM := hide hsm
  clear hsm
  go_enter Tryd.func10, Tryd.ntmps10
  go_wp2_with (first
    | (go_at_call 11; refine HBO.out.mono ?_; rintro e w1 ⟨rfl, hb1⟩)
    | (go_at_call 36; refine (HSE.out w1).mono ?_; rintro e w2 ⟨rfl, rfl⟩)
    | (go_at_call 37
       refine (HST.out w1).mono ?_
       rintro e w3 ⟨A3, c3, rfl, hI3, hc3, hb3⟩
       have hB3 := below_trans hb1 hb3
       obtain ⟨b3, o3, rfl, hl3, hc30⟩ := hI3.at_ 0 (by omega)
       rw [HFST.out] at hc30)
    | fail)
  go_region_held3 (fun _ => True)
    (first | go_keep | trivial)
    ((first
      | (go_at_call 38
         refine Calls.mono (sum_ok _ l c3 _ (hI3.below (below_drewN' (Below.refl _ _) 1)) HTK.out) ?_
         rw [HSUM.out]
         rintro e w4 ⟨rfl, hb4⟩
         have hb4' : Below w3.heap.size w3 w4 := (below_drewN' (Below.refl _ _) 1).trans hb4
         have hB4 := below_trans hB3 hb4'
         have hI4 := hI3.below hb4'
         have hl4 := Nat.lt_of_lt_of_le hl3 hb4'.size
         have hc40 : w4.cell? ⟨b3, o3, none⟩ = some (.int .i64 2) := (hb4'.cell (p := ⟨b3, o3, none⟩) hl3).trans hc30)))
  go_wp2_with (first
    | (go_at_call 37
       refine (HST2.out w7).mono ?_
       rintro e w8 ⟨A8, c8, rfl, hI8, hc8, hb8⟩
       have hB8 := below_trans hB7 hb8
       have hI38 := hI37.below hb8)
    | (go_at_call 30
       refine (same_any _ A8 l l c3 c8 w8 hI38 hI8).mono ?_
       rw [decide_eq_true rfl]
       rintro e w9 ⟨rfl, hb9⟩)
    | (go_at_call 33
       refine (HSB.out w4).mono ?_
       rintro e w5 ⟨A5, c5, rfl, hP5, hc5, hb5, _⟩
       have hB5 := below_trans hB4 hb5
       have hI5 := hI4.below hb5)
    | (go_at_call 29
       refine (unlikeOf_ok q A5 lb c5 w5 hP5 (by omega) hlb hgb).mono ?_
       rintro e w6 ⟨A6, c6, rfl, hI6, hc6, hb6⟩
       have hB6 := below_trans hB5 hb6
       have hI36 := hI5.below hb6
       rw [← HSM.out])
    | (go_at_call 30
       refine (same_any _ A6 l l c3 c6 w6 hI36 (by rw [HSM.out]; exact hI6)).mono ?_
       rw [decide_eq_true rfl]
       rintro e w7 ⟨rfl, hb7⟩
       have hB7 := below_trans hB6 hb7
       have hI37 := hI36.below hb7)
    | fail)
  go_ret
  exact ⟨rfl, below_trans hB8 hb9⟩
set_option maxRecDepth 100000 in
set_option maxHeartbeats 4000000 in
theorem law_strip_big_true (h L : Nat) (w : World) (a : Nat → Addr) (hS : Sent codes w a) (_hH : Handle w) (h0 : 1 ≤ h) (h1 : h ≤ 4) (hL : 1 ≤ L) (hL2 : L ≤ 12) (hr : 3 ≤ L) (hs : 10 < h * L) :
    Calls Tryd.prog 10 #[.int .i64 h, .int .i64 L, .bool true] w fun e w' => e = .returned (.bool true) ∧ Below w.heap.size w w' := by
  have HBO := hide (bond_any w a (hS.toEnv.sub (fun c h => sub23 h)))
  have HEB : Hid (∀ w', Below w.heap.size w w' → Env [2, 3] w' a) := hide fun w' hb => (hS.toEnv.sub (fun c h => sub23 h)).below hb
  have hse := fun w => stripErr_any h L w
  unfold stripCode at hse
  rw [if_neg (by omega)] at hse
  have HSE := hide hse
  clear hse
  have hst := fun w => strip_go h L true w h0 h1 hL hL2 (fun _ => hr)
  have hsum := stripList_sum h L true h1 hL
  have htk := stripList_take_le h L true h1 hL hL2
  have hfst := stripList_first h L true h0 h1
  have hpos : 0 < (stripList h L true).length := by rw [stripList_length]; omega
  obtain ⟨q, hq⟩ : ∃ q : Nat, q = h * L := ⟨_, rfl⟩
  have hq48 : q ≤ 48 := by rw [hq]; exact Nat.mul_le_mul h1 hL2
  have hqi : (h : Int) * (L : Int) = (q : Int) := by rw [hq]; push_cast; rfl
  obtain ⟨S, hSq, hSq', hS2, HSS⟩ := pow_sum q hq48
  have hq0 : (0 : Int) ≤ (q : Int) := Int.natCast_nonneg _
  have hwq : IntKind.i64.wrap (q : Int) = (q : Int) := by rw [IntKind.wrap_i64]; omega
  rw [← hq, ← HSS.out] at hsum
  rw [← hq] at hs
  clear hq
  generalize stripList h L true = l at *
  have HST := hide hst
  have HSUM := hide hsum
  have HTK := hide htk
  have HFST := hide hfst
  clear hst hsum htk hfst
  go_enter Tryd.func10, Tryd.ntmps10
  go_wp2_with (first
    | (go_at_call 11; refine HBO.out.mono ?_; rintro e w1 ⟨rfl, hb1⟩)
    | (go_at_call 36; refine (HSE.out w1).mono ?_; rintro e w2 ⟨rfl, rfl⟩)
    | (go_at_call 37
       refine (HST.out w1).mono ?_
       rintro e w3 ⟨A3, c3, rfl, hI3, hc3, hb3⟩
       have hB3 := below_trans hb1 hb3
       obtain ⟨b3, o3, rfl, hl3, hc30⟩ := hI3.at_ 0 (by omega)
       rw [HFST.out] at hc30)
    | fail)
  go_region_held3 (fun _ => True)
    (first | go_keep | trivial)
    ((first
      | (go_at_call 38
         refine Calls.mono (sum_ok _ l c3 _ (hI3.below (below_drewN' (Below.refl _ _) 1)) HTK.out) ?_
         rw [HSUM.out]
         rintro e w4 ⟨rfl, hb4⟩
         have hb4' : Below w3.heap.size w3 w4 := (below_drewN' (Below.refl _ _) 1).trans hb4
         have hB4 := below_trans hB3 hb4'
         have hI4 := hI3.below hb4'
         have hl4 := Nat.lt_of_lt_of_le hl3 hb4'.size
         have hc40 : w4.cell? ⟨b3, o3, none⟩ = some (.int .i64 2) := (hb4'.cell (p := ⟨b3, o3, none⟩) hl3).trans hc30)))
  go_wp2_with (fail)
  go_ret
  exact ⟨rfl, hB4⟩
set_option maxRecDepth 100000 in
set_option maxHeartbeats 4000000 in
theorem law_strip_ring (h L : Nat) (w : World) (a : Nat → Addr) (hS : Sent codes w a) (_hH : Handle w) (h0 : 1 ≤ h) (h1 : h ≤ 4) (hL : 1 ≤ L) (hL2 : L ≤ 12) (hr : 3 ≤ L) (hs : h * L ≤ 10) :
    Calls Tryd.prog 10 #[.int .i64 h, .int .i64 L, .bool true] w fun e w' => e = .returned (.bool true) ∧ Below w.heap.size w w' := by
  have HBO := hide (bond_any w a (hS.toEnv.sub (fun c h => sub23 h)))
  have HEB : Hid (∀ w', Below w.heap.size w w' → Env [2, 3] w' a) := hide fun w' hb => (hS.toEnv.sub (fun c h => sub23 h)).below hb
  have hse := fun w => stripErr_any h L w
  unfold stripCode at hse
  rw [if_neg (by omega)] at hse
  have HSE := hide hse
  clear hse
  have hst := fun w => strip_go h L true w h0 h1 hL hL2 (fun _ => hr)
  have hsum := stripList_sum h L true h1 hL
  have htk := stripList_take_le h L true h1 hL hL2
  have hfst := stripList_first h L true h0 h1
  have hpos : 0 < (stripList h L true).length := by rw [stripList_length]; omega
  obtain ⟨q, hq⟩ : ∃ q : Nat, q = h * L := ⟨_, rfl⟩
  have hq48 : q ≤ 48 := by rw [hq]; exact Nat.mul_le_mul h1 hL2
  have hqi : (h : Int) * (L : Int) = (q : Int) := by rw [hq]; push_cast; rfl
  obtain ⟨S, hSq, hSq', hS2, HSS⟩ := pow_sum q hq48
  have hq0 : (0 : Int) ≤ (q : Int) := Int.natCast_nonneg _
  have hwq : IntKind.i64.wrap (q : Int) = (q : Int) := by rw [IntKind.wrap_i64]; omega
  rw [← hq, ← HSS.out] at hsum
  have hsm := stripList_states h L true h0 h1 hL hL2 hs (fun _ => hr)
  have hval := strip_valid_ring h (by omega) L (by have := Nat.mul_le_mul_right L h0; omega) h0 hr hs
  rw [← hq] at hsm hval hs
  obtain ⟨_, _, hlb, hgb⟩ := vcode_zero hval
  have HSB := hide (fun w => strip_ok h L true w (by omega) (by omega))
  generalize stripOf h L true = lb at hsm hlb hgb HSB
  clear hq hval
  generalize stripList h L true = l at *
  have HST := hide hst
  have HSUM := hide hsum
  have HTK := hide htk
  have HFST := hide hfst
  clear hst hsum htk hfst
  have HSM := hide hsm
  clear hsm
  go_enter Tryd.func10, Tryd.ntmps10
  go_wp2_with (first
    | (go_at_call 11; refine HBO.out.mono ?_; rintro e w1 ⟨rfl, hb1⟩)
    | (go_at_call 36; refine (HSE.out w1).mono ?_; rintro e w2 ⟨rfl, rfl⟩)
    | (go_at_call 37
       refine (HST.out w1).mono ?_
       rintro e w3 ⟨A3, c3, rfl, hI3, hc3, hb3⟩
       have hB3 := below_trans hb1 hb3
       obtain ⟨b3, o3, rfl, hl3, hc30⟩ := hI3.at_ 0 (by omega)
       rw [HFST.out] at hc30)
    | fail)
  go_region_held3 (fun _ => True)
    (first | go_keep | trivial)
    ((first
      | (go_at_call 38
         refine Calls.mono (sum_ok _ l c3 _ (hI3.below (below_drewN' (Below.refl _ _) 1)) HTK.out) ?_
         rw [HSUM.out]
         rintro e w4 ⟨rfl, hb4⟩
         have hb4' : Below w3.heap.size w3 w4 := (below_drewN' (Below.refl _ _) 1).trans hb4
         have hB4 := below_trans hB3 hb4'
         have hI4 := hI3.below hb4'
         have hl4 := Nat.lt_of_lt_of_le hl3 hb4'.size
         have hc40 : w4.cell? ⟨b3, o3, none⟩ = some (.int .i64 2) := (hb4'.cell (p := ⟨b3, o3, none⟩) hl3).trans hc30)))
  go_wp2_with (first
    | (go_at_call 33
       refine (HSB.out w4).mono ?_
       rintro e w5 ⟨A5, c5, rfl, hP5, hc5, hb5, _⟩
       have hB5 := below_trans hB4 hb5
       have hI5 := hI4.below hb5)
    | (go_at_call 29
       refine (unlikeOf_ok q A5 lb c5 w5 hP5 (by omega) hlb hgb).mono ?_
       rintro e w6 ⟨A6, c6, rfl, hI6, hc6, hb6⟩
       have hB6 := below_trans hB5 hb6
       have hI36 := hI5.below hb6
       rw [← HSM.out])
    | (go_at_call 30
       refine (same_any _ A6 l l c3 c6 w6 hI36 (by rw [HSM.out]; exact hI6)).mono ?_
       rw [decide_eq_true rfl]
       rintro e w7 ⟨rfl, hb7⟩
       have hB7 := below_trans hB6 hb7
       have hI37 := hI36.below hb7)
    | fail)
  go_ret
  exact ⟨rfl, hB7⟩
theorem law_strip (h L : Int) (ring : Bool) (w : World) (a : Nat → Addr) (hS : Sent codes w a) (hH : Handle w) :
    Calls Tryd.prog 10 #[.int .i64 h, .int .i64 L, .bool ring] w fun e w' => e = .returned (.bool true) ∧ Below w.heap.size w w' := by
  by_cases hb : badStrip h L
  · cases ring
    · exact law_strip_bad_false h L w a hS hH hb
    · exact law_strip_bad_true h L w a hS hH hb
  · unfold badStrip at hb
    obtain ⟨h, rfl⟩ := Int.eq_ofNat_of_zero_le (show 0 ≤ h by omega)
    obtain ⟨L, rfl⟩ := Int.eq_ofNat_of_zero_le (show 0 ≤ L by omega)
    have g0 : 1 ≤ h := by omega
    have g1 : h ≤ 4 := by omega
    have g2 : 1 ≤ L := by omega
    have g3 : L ≤ 12 := by omega
    cases ring
    · by_cases hs : h * L ≤ 10
      · by_cases hw : L ≤ 4
        · exact law_strip_turn h L w a hS hH g0 g1 g2 g3 hs hw
        · exact law_strip_wide h L w a hS hH g0 g1 g2 g3 hs (by omega)
      · exact law_strip_big_false h L w a hS hH g0 g1 g2 g3 (Nat.lt_of_not_le hs)
    · by_cases hr : 3 ≤ L
      · by_cases hs : h * L ≤ 10
        · exact law_strip_ring h L w a hS hH g0 g1 g2 g3 hr hs
        · exact law_strip_big_true h L w a hS hH g0 g1 g2 g3 hr (Nat.lt_of_not_le hs)
      · exact law_strip_short h L w a hS hH (by omega) (by omega) (by omega) (by omega)
end Go.Proofs.YtngogonepjicpaaDoor
