/- Words, plain laws and walks behind the law SampleEnds, part 4. No condition. -/
import Derived.Test.YtioekjkfhbopkaaDoorFlatSampleEndsc
import Derived.Test.YtioekjkfhbopkaaDoorFlatSampleEndsa
import Derived.OrdersHeld
import Derived.OrdersIn
import Derived.Test.YtioekjkfhbopkaaDoorFlatSampleEndsb

/- The walks of third and of the law SampleDraw. Condition: the variables read as laid. -/
namespace Go.Proofs.YtioekjkfhbopkaaDoor
open Go.RowKit Go.Deep Go.Proofs.YtioekjkfhbopkaaDoorW.PrintWords

theorem third_fact : drawRes [1, 1, 1] ⟨#[49, 49, 49, 48]⟩ = (2, 4, 0) := by decide +kernel
theorem third_anyD (w : World) (a : Nat → Addr) (hE : Env codesD w a) :
    Calls Tryd.prog 9 #[] w fun e w' => e = .returned (.bool true) ∧ Below w.heap.size w w' := by
  have hI := Ints.lit w [1, 1, 1] 3 (by decide)
  have hB : Below w.heap.size w (w.alloc (.cells #[.int .i64 1, .int .i64 1, .int .i64 1] 3)) := below_alloc' (Below.refl _ _) _
  have hd := draw_anyD (some ⟨w.heap.size, 0, none⟩) [1, 1, 1] 3 ⟨#[49, 49, 49, 48]⟩ (w.alloc (.cells #[.int .i64 1, .int .i64 1, .int .i64 1] 3)) a (hE.below hB) (by simpa [intCells] using hI) (by decide) (by decide)
  rw [third_fact] at hd
  have hd2 : Calls Tryd.prog 17 #[.slice (some ⟨w.heap.size, 0, none⟩) 3 3, .string ⟨#[49, 49, 49, 48]⟩] (w.alloc (.cells #[.int .i64 1, .int .i64 1, .int .i64 1] 3)) fun e w' => e = .returned (.tuple #[.int .i64 2, .int .i64 4, .nilIface]) ∧ Below (w.alloc (.cells #[.int .i64 1, .int .i64 1, .int .i64 1] 3)).heap.size (w.alloc (.cells #[.int .i64 1, .int .i64 1, .int .i64 1] 3)) w' := hd
  have HD := hide hd2
  clear hd2
  have HB := hide hB
  clear hd hB hI
  go_enter Tryd.func9, Tryd.ntmps9
  go_wp2_with (go_at_call 17; refine Calls.mono HD.out ?_; rintro e w4 ⟨rfl, hb4⟩)
  go_ret
  exact ⟨rfl, below_trans HB.out hb4⟩
theorem third_any (w : World) (a : Nat → Addr) (hE : Env codes w a) :
    Calls Tryd.prog 9 #[] w fun e w' => e = .returned (.bool true) ∧ Below w.heap.size w w' := third_anyD w a (hE.sub (fun c h => codesD_sub h))
theorem weightsError_ok (A : Option Addr) (l : List Int) (c : Nat) (w : World) (hA : Ints w A l) (hc : l.length ≤ c) (hl : l.length ≤ 2000000) :
    Calls Tryd.prog 14 #[.slice A l.length c] w fun e w' => e = .returned (.int .i64 (wErr l)) ∧ Below w.heap.size w w' := by
  refine (PSampleDraw.demonref1_WeightsError.calls _ A c l (wErr l) w hA.toC hc (weightsError_f l hl)).mono ?_
  rintro e w' ⟨rfl, h⟩
  exact ⟨rfl, drawn_below h⟩
theorem bits_ok (s : ByteArray) (w : World) (hs : s.size ≤ 2000000) :
    Calls Tryd.prog 15 #[.string s] w fun e w' => e = .returned (.bool (isBits s)) ∧ Below w.heap.size w w' := by
  refine (PSampleDraw.demonref1_Bits.calls _ s (isBits s) w (bits_f s hs)).mono ?_
  rintro e w' ⟨rfl, h⟩
  exact ⟨rfl, drawn_below h⟩
theorem drawOf_ok (A : Option Addr) (W : List Int) (c : Nat) (s : ByteArray) (w : World) (hA : Ints w A W) (hc : W.length ≤ c) (hg : GoodW W) (hs : s.size ≤ 2000000) (hb : isBits s = true) :
    Calls Tryd.prog 16 #[.slice A W.length c, .string s] w fun e w' => e = .returned (.tuple #[.int .i64 (drawn (drawB (parts W) (dep W) (bitsOf s) 0 0 0)).1, .int .i64 (drawn (drawB (parts W) (dep W) (bitsOf s) 0 0 0)).2.1, .bool (drawn (drawB (parts W) (dep W) (bitsOf s) 0 0 0)).2.2]) ∧ Below w.heap.size w w' := by
  obtain ⟨k, hk⟩ := (drawOf_f hg s hs hb).rounds
  exact PSampleDraw.demonref4_DrawOf.calls k A c W s _ _ _ w hA.toC hc hk
theorem ints_ok (A : Option Addr) (l : List Int) (c : Nat) (w : World) (hA : Ints w A l) (hc : l.length ≤ c) (hl : l.length ≤ 2000000) :
    Calls Tryd.prog 13 #[.slice A l.length c] w fun e w' => RetInts l w e w' := by
  refine (PSampleDraw.demonlaw4_ints.calls A c l l w hA.toC hc (by unfold PSampleDraw.demonlaw4_ints.f; simp; omega)).mono ?_
  rintro e w' ⟨v, rfl, hR, hb⟩
  obtain ⟨B, d, rfl, hI, hd⟩ := Ints.ofR hR
  exact ⟨B, d, rfl, hI, hd, hb⟩

set_option maxRecDepth 100000 in
set_option maxHeartbeats 4000000 in
theorem law_draw_weights (A : Option Addr) (W : List Int) (c : Nat) (s : ByteArray) (w : World) (a : Nat → Addr) (hS : Sent codes w a) (hH : Handle w) (hA : Ints w A W) (hc : W.length ≤ c) (hs : s.size ≤ 9223372036854775807) (hl1 : ¬ 400 < (W.length : Int)) (hl2 : ¬ (300 < (s.size : Int) ∧ (s.size : Int) ≤ 4000)) (h0 : wErr W ≠ 0) :
    Calls Tryd.prog 4 #[.slice A W.length c, .string s] w fun e w' => e = .returned (.bool true) ∧ Below w.heap.size w w' := by
  have hlen := hA.len
  have HTH := hide (third_any w a (hS.toEnv))
  have hwe := fun w' (hb : Below w.heap.size w w') => weightsError_ok A W c w' (hA.below hb) hc (by omega)
  have HIN := hide (fun w' (hb : Below w.heap.size w w') => ints_ok A W c w' (hA.below hb) hc (by omega))
  have hdr := fun (A' : Option Addr) (x : Nat) w' (hb : Below w.heap.size w w') (h1 : Ints w' A' W) (hx : W.length ≤ x) => draw_any A' W x s w' a (hS.toEnv.below hb) h1 hx (by omega)
  have hres : drawRes W s = (0, 0, (wErr W).toNat) := by unfold drawRes; rw [if_pos h0]
  obtain ⟨cc, hc', hc8⟩ := wErr_nat W
  rw [hres, hc'] at hdr
  rw [hc'] at hwe h0
  have hci : ¬ (cc : Int) = 0 := h0
  have hcn : ((cc : Int) == 0) = false := by rw [beq_eq_false_iff_ne]; exact h0
  have hcd := fun w' (hb : Below w.heap.size w w') => coded_any w' a (hS.below hb) (hH.below hb) cc hc8 cc
  rw [decide_eq_true rfl] at hcd
  simp only [Int.toNat_natCast] at hdr
  unfold RetDraw at hdr
  rw [errC_pos' a h0] at hdr hcd
  have HCD := hide hcd
  have HDR := hide hdr
  have HWE := hide hwe
  clear hcd hdr hwe hres hc' h0 hci
  have hsz : decide (300 < (s.size : Int)) = false ∨ (300 < (s.size : Int) ∧ decide ((s.size : Int) ≤ 4000) = false) := by
    by_cases h : 300 < (s.size : Int)
    · exact .inr ⟨h, decide_eq_false (fun h' => hl2 ⟨h, h'⟩)⟩
    · exact .inl (decide_eq_false h)
  clear hl2
  rcases hsz with q1 | ⟨q1, q2⟩
  all_goals
    go_enter Tryd.func4, Tryd.ntmps4
    go_wp2_with (first
      | (go_at_call 9; refine Calls.mono HTH.out ?_; rintro e w1 ⟨rfl, hB1⟩)
      | (go_at_call 14; refine Calls.mono (HWE.out _ (by assumption)) ?_; rintro e w2 ⟨rfl, b2⟩; have hB2 : Below w.heap.size w w2 := below_trans (by assumption) b2)
      | (go_at_call 15; refine Calls.mono (HBI.out _) ?_; rintro e w3 ⟨rfl, b3⟩; have hB3 : Below w.heap.size w w3 := below_trans (by assumption) b3)
      | (go_at_call 16; refine Calls.mono (HDO.out _ (by assumption)) ?_; rintro e w31 ⟨rfl, b31⟩; have hB31 : Below w.heap.size w w31 := below_trans (by assumption) b31)
      | (go_at_call 13; refine Calls.mono (HIN.out _ (by assumption)) ?_; rintro e w4 ⟨A4, c4, rfl, hI4, hc4, b4⟩; have hB4 : Below w.heap.size w w4 := below_trans (by assumption) b4)
      | (go_at_call 17; refine Calls.mono (HDR.out A4 c4 _ (by assumption) hI4 hc4) ?_; rintro e w5 ⟨rfl, b5⟩; have hB5 : Below w.heap.size w w5 := below_trans (by assumption) b5)
      | (go_at_call 18; refine Calls.mono (HCD.out _ (by assumption)) ?_; rintro e w6 ⟨rfl, b6⟩; have hB6 : Below w.heap.size w w6 := below_trans (by assumption) b6))
    go_ret
    exact ⟨by simp, hB6⟩
set_option maxRecDepth 100000 in
set_option maxHeartbeats 4000000 in
theorem law_draw_long (A : Option Addr) (W : List Int) (c : Nat) (s : ByteArray) (w : World) (a : Nat → Addr) (hS : Sent codes w a) (hH : Handle w) (hA : Ints w A W) (hc : W.length ≤ c) (hs : s.size ≤ 9223372036854775807) (hl1 : ¬ 400 < (W.length : Int)) (h0 : wErr W = 0) (h4 : (4000 : Int) < s.size) :
    Calls Tryd.prog 4 #[.slice A W.length c, .string s] w fun e w' => e = .returned (.bool true) ∧ Below w.heap.size w w' := by
  have hlen := hA.len
  have HTH := hide (third_any w a (hS.toEnv))
  have hwe := fun w' (hb : Below w.heap.size w w') => weightsError_ok A W c w' (hA.below hb) hc (by omega)
  have HIN := hide (fun w' (hb : Below w.heap.size w w') => ints_ok A W c w' (hA.below hb) hc (by omega))
  have hdr := fun (A' : Option Addr) (x : Nat) w' (hb : Below w.heap.size w w') (h1 : Ints w' A' W) (hx : W.length ≤ x) => draw_any A' W x s w' a (hS.toEnv.below hb) h1 hx (by omega)
  have hres : drawRes W s = (0, 0, 2) := by unfold drawRes; rw [if_neg (by simp [h0]), if_pos (by omega)]
  rw [hres] at hdr
  rw [h0] at hwe
  have hcd := fun w' (hb : Below w.heap.size w w') => coded_any w' a (hS.below hb) (hH.below hb) 2 (by decide) 2
  rw [show decide (((2 : Nat) : Int) = 2) = true from rfl, show errC a ((2 : Nat) : Int) = .iface 160 (.pointer (some (a 2))) from rfl] at hcd
  unfold RetDraw at hdr
  have HCD := hide hcd
  have HDR := hide hdr
  have HWE := hide hwe
  have h3 : (300 : Int) < s.size := by omega
  have h5 : decide ((s.size : Int) ≤ 4000) = false := decide_eq_false (by omega)
  clear hcd hdr hwe hres h0
  go_enter Tryd.func4, Tryd.ntmps4
  go_wp2_with (first
    | (go_at_call 9; refine Calls.mono HTH.out ?_; rintro e w1 ⟨rfl, hB1⟩)
    | (go_at_call 14; refine Calls.mono (HWE.out _ (by assumption)) ?_; rintro e w2 ⟨rfl, b2⟩; have hB2 : Below w.heap.size w w2 := below_trans (by assumption) b2)
    | (go_at_call 15; refine Calls.mono (HBI.out _) ?_; rintro e w3 ⟨rfl, b3⟩; have hB3 : Below w.heap.size w w3 := below_trans (by assumption) b3)
    | (go_at_call 16; refine Calls.mono (HDO.out _ (by assumption)) ?_; rintro e w31 ⟨rfl, b31⟩; have hB31 : Below w.heap.size w w31 := below_trans (by assumption) b31)
    | (go_at_call 13; refine Calls.mono (HIN.out _ (by assumption)) ?_; rintro e w4 ⟨A4, c4, rfl, hI4, hc4, b4⟩; have hB4 : Below w.heap.size w w4 := below_trans (by assumption) b4)
    | (go_at_call 17; refine Calls.mono (HDR.out A4 c4 _ (by assumption) hI4 hc4) ?_; rintro e w5 ⟨rfl, b5⟩; have hB5 : Below w.heap.size w w5 := below_trans (by assumption) b5)
    | (go_at_call 18; refine Calls.mono (HCD.out _ (by assumption)) ?_; rintro e w6 ⟨rfl, b6⟩; have hB6 : Below w.heap.size w w6 := below_trans (by assumption) b6))
  go_ret
  exact ⟨by simp, hB6⟩
set_option maxRecDepth 100000 in
set_option maxHeartbeats 4000000 in
theorem law_draw_text (A : Option Addr) (W : List Int) (c : Nat) (s : ByteArray) (w : World) (a : Nat → Addr) (hS : Sent codes w a) (hH : Handle w) (hA : Ints w A W) (hc : W.length ≤ c) (hs : s.size ≤ 9223372036854775807) (hl1 : ¬ 400 < (W.length : Int)) (h0 : wErr W = 0) (h3 : ¬ (300 : Int) < s.size) (hb : isBits s = false) :
    Calls Tryd.prog 4 #[.slice A W.length c, .string s] w fun e w' => e = .returned (.bool true) ∧ Below w.heap.size w w' := by
  have hlen := hA.len
  have HTH := hide (third_any w a (hS.toEnv))
  have hwe := fun w' (hb : Below w.heap.size w w') => weightsError_ok A W c w' (hA.below hb) hc (by omega)
  have HIN := hide (fun w' (hb : Below w.heap.size w w') => ints_ok A W c w' (hA.below hb) hc (by omega))
  have hdr := fun (A' : Option Addr) (x : Nat) w' (hb : Below w.heap.size w w') (h1 : Ints w' A' W) (hx : W.length ≤ x) => draw_any A' W x s w' a (hS.toEnv.below hb) h1 hx (by omega)
  have hres : drawRes W s = (0, 0, 1) := by unfold drawRes; rw [if_neg (by simp [h0]), if_neg (by omega), if_pos hb]
  rw [hres] at hdr
  rw [h0] at hwe
  have hbi := fun w' => bits_ok s w' (by omega)
  rw [hb] at hbi
  have hcd := fun w' (hb : Below w.heap.size w w') => coded_any w' a (hS.below hb) (hH.below hb) 1 (by decide) 1
  rw [show decide (((1 : Nat) : Int) = 1) = true from rfl, show errC a ((1 : Nat) : Int) = .iface 160 (.pointer (some (a 1))) from rfl] at hcd
  unfold RetDraw at hdr
  have HCD := hide hcd
  have HDR := hide hdr
  have HWE := hide hwe
  have HBI := hide hbi
  have h4 : ¬ (4000 : Int) < s.size := by omega
  clear hcd hdr hwe hres h0 hb hbi
  go_enter Tryd.func4, Tryd.ntmps4
  go_wp2_with (first
    | (go_at_call 9; refine Calls.mono HTH.out ?_; rintro e w1 ⟨rfl, hB1⟩)
    | (go_at_call 14; refine Calls.mono (HWE.out _ (by assumption)) ?_; rintro e w2 ⟨rfl, b2⟩; have hB2 : Below w.heap.size w w2 := below_trans (by assumption) b2)
    | (go_at_call 15; refine Calls.mono (HBI.out _) ?_; rintro e w3 ⟨rfl, b3⟩; have hB3 : Below w.heap.size w w3 := below_trans (by assumption) b3)
    | (go_at_call 16; refine Calls.mono (HDO.out _ (by assumption)) ?_; rintro e w31 ⟨rfl, b31⟩; have hB31 : Below w.heap.size w w31 := below_trans (by assumption) b31)
    | (go_at_call 13; refine Calls.mono (HIN.out _ (by assumption)) ?_; rintro e w4 ⟨A4, c4, rfl, hI4, hc4, b4⟩; have hB4 : Below w.heap.size w w4 := below_trans (by assumption) b4)
    | (go_at_call 17; refine Calls.mono (HDR.out A4 c4 _ (by assumption) hI4 hc4) ?_; rintro e w5 ⟨rfl, b5⟩; have hB5 : Below w.heap.size w w5 := below_trans (by assumption) b5)
    | (go_at_call 18; refine Calls.mono (HCD.out _ (by assumption)) ?_; rintro e w6 ⟨rfl, b6⟩; have hB6 : Below w.heap.size w w6 := below_trans (by assumption) b6))
  go_ret
  exact ⟨by simp, hB6⟩
set_option maxRecDepth 100000 in
set_option maxHeartbeats 4000000 in
theorem law_draw_none (A : Option Addr) (W : List Int) (c : Nat) (s : ByteArray) (w : World) (a : Nat → Addr) (hS : Sent codes w a) (hH : Handle w) (hA : Ints w A W) (hc : W.length ≤ c) (hs : s.size ≤ 9223372036854775807) (hl1 : ¬ 400 < (W.length : Int)) (h0 : wErr W = 0) (h3 : ¬ (300 : Int) < s.size) (hb : isBits s = true) (hr : drawB (parts W) (dep W) (bitsOf s) 0 0 0 = none) :
    Calls Tryd.prog 4 #[.slice A W.length c, .string s] w fun e w' => e = .returned (.bool true) ∧ Below w.heap.size w w' := by
  have hlen := hA.len
  have HTH := hide (third_any w a (hS.toEnv))
  have hwe := fun w' (hb : Below w.heap.size w w') => weightsError_ok A W c w' (hA.below hb) hc (by omega)
  have HIN := hide (fun w' (hb : Below w.heap.size w w') => ints_ok A W c w' (hA.below hb) hc (by omega))
  have hdr := fun (A' : Option Addr) (x : Nat) w' (hb : Below w.heap.size w w') (h1 : Ints w' A' W) (hx : W.length ≤ x) => draw_any A' W x s w' a (hS.toEnv.below hb) h1 hx (by omega)
  have hres : drawRes W s = (0, 0, 6) := by unfold drawRes; rw [if_neg (by simp [h0]), if_neg (by omega), if_neg (by simp [hb]), hr]
  rw [hres] at hdr
  have hdo := fun w' (hb' : Below w.heap.size w w') => drawOf_ok A W c s w' (hA.below hb') hc (good_of h0) (by omega) hb
  rw [hr] at hdo
  rw [h0] at hwe
  have hbi := fun w' => bits_ok s w' (by omega)
  rw [hb] at hbi
  have hcd := fun w' (hb : Below w.heap.size w w') => coded_any w' a (hS.below hb) (hH.below hb) 6 (by decide) 6
  rw [show decide (((6 : Nat) : Int) = 6) = true from rfl, show errC a ((6 : Nat) : Int) = .iface 160 (.pointer (some (a 6))) from rfl] at hcd
  unfold RetDraw at hdr
  unfold drawn at hdo
  have HCD := hide hcd
  have HDR := hide hdr
  have HWE := hide hwe
  have HBI := hide hbi
  have HDO := hide hdo
  have h4 : ¬ (4000 : Int) < s.size := by omega
  clear hcd hdr hwe hres h0 hb hbi hr hdo
  go_enter Tryd.func4, Tryd.ntmps4
  go_wp2_with (first
    | (go_at_call 9; refine Calls.mono HTH.out ?_; rintro e w1 ⟨rfl, hB1⟩)
    | (go_at_call 14; refine Calls.mono (HWE.out _ (by assumption)) ?_; rintro e w2 ⟨rfl, b2⟩; have hB2 : Below w.heap.size w w2 := below_trans (by assumption) b2)
    | (go_at_call 15; refine Calls.mono (HBI.out _) ?_; rintro e w3 ⟨rfl, b3⟩; have hB3 : Below w.heap.size w w3 := below_trans (by assumption) b3)
    | (go_at_call 16; refine Calls.mono (HDO.out _ (by assumption)) ?_; rintro e w31 ⟨rfl, b31⟩; have hB31 : Below w.heap.size w w31 := below_trans (by assumption) b31)
    | (go_at_call 13; refine Calls.mono (HIN.out _ (by assumption)) ?_; rintro e w4 ⟨A4, c4, rfl, hI4, hc4, b4⟩; have hB4 : Below w.heap.size w w4 := below_trans (by assumption) b4)
    | (go_at_call 17; refine Calls.mono (HDR.out A4 c4 _ (by assumption) hI4 hc4) ?_; rintro e w5 ⟨rfl, b5⟩; have hB5 : Below w.heap.size w w5 := below_trans (by assumption) b5)
    | (go_at_call 18; refine Calls.mono (HCD.out _ (by assumption)) ?_; rintro e w6 ⟨rfl, b6⟩; have hB6 : Below w.heap.size w w6 := below_trans (by assumption) b6))
  go_ret
  exact ⟨by simp, hB6⟩
set_option maxRecDepth 100000 in
set_option maxHeartbeats 4000000 in
theorem law_draw_some (A : Option Addr) (W : List Int) (c : Nat) (s : ByteArray) (w : World) (a : Nat → Addr) (hS : Sent codes w a) (hH : Handle w) (hA : Ints w A W) (hc : W.length ≤ c) (hs : s.size ≤ 9223372036854775807) (hl1 : ¬ 400 < (W.length : Int)) (h0 : wErr W = 0) (h3 : ¬ (300 : Int) < s.size) (hb : isBits s = true) (kk n : Nat) (hr : drawB (parts W) (dep W) (bitsOf s) 0 0 0 = some (kk, n)) :
    Calls Tryd.prog 4 #[.slice A W.length c, .string s] w fun e w' => e = .returned (.bool true) ∧ Below w.heap.size w w' := by
  have hlen := hA.len
  have HTH := hide (third_any w a (hS.toEnv))
  have hwe := fun w' (hb : Below w.heap.size w w') => weightsError_ok A W c w' (hA.below hb) hc (by omega)
  have HIN := hide (fun w' (hb : Below w.heap.size w w') => ints_ok A W c w' (hA.below hb) hc (by omega))
  have hdr := fun (A' : Option Addr) (x : Nat) w' (hb : Below w.heap.size w w') (h1 : Ints w' A' W) (hx : W.length ≤ x) => draw_any A' W x s w' a (hS.toEnv.below hb) h1 hx (by omega)
  have hres : drawRes W s = ((kk : Int), (n : Int), 0) := by unfold drawRes; rw [if_neg (by simp [h0]), if_neg (by omega), if_neg (by simp [hb]), hr]
  rw [hres] at hdr
  have hdo := fun w' (hb' : Below w.heap.size w w') => drawOf_ok A W c s w' (hA.below hb') hc (good_of h0) (by omega) hb
  rw [hr] at hdo
  rw [h0] at hwe
  have hbi := fun w' => bits_ok s w' (by omega)
  rw [hb] at hbi
  have hcd := fun w' (hb : Below w.heap.size w w') => coded_any w' a (hS.below hb) (hH.below hb) 0 (by decide) 0
  rw [show decide (((0 : Nat) : Int) = 0) = true from rfl, show errC a ((0 : Nat) : Int) = .nilIface from rfl] at hcd
  unfold RetDraw at hdr
  unfold drawn at hdo
  have HCD := hide hcd
  have HDR := hide hdr
  have HWE := hide hwe
  have HBI := hide hbi
  have HDO := hide hdo
  have h4 : ¬ (4000 : Int) < s.size := by omega
  clear hcd hdr hwe hres h0 hb hbi hr hdo
  go_enter Tryd.func4, Tryd.ntmps4
  go_wp2_with (first
    | (go_at_call 9; refine Calls.mono HTH.out ?_; rintro e w1 ⟨rfl, hB1⟩)
    | (go_at_call 14; refine Calls.mono (HWE.out _ (by assumption)) ?_; rintro e w2 ⟨rfl, b2⟩; have hB2 : Below w.heap.size w w2 := below_trans (by assumption) b2)
    | (go_at_call 15; refine Calls.mono (HBI.out _) ?_; rintro e w3 ⟨rfl, b3⟩; have hB3 : Below w.heap.size w w3 := below_trans (by assumption) b3)
    | (go_at_call 16; refine Calls.mono (HDO.out _ (by assumption)) ?_; rintro e w31 ⟨rfl, b31⟩; have hB31 : Below w.heap.size w w31 := below_trans (by assumption) b31)
    | (go_at_call 13; refine Calls.mono (HIN.out _ (by assumption)) ?_; rintro e w4 ⟨A4, c4, rfl, hI4, hc4, b4⟩; have hB4 : Below w.heap.size w w4 := below_trans (by assumption) b4)
    | (go_at_call 17; refine Calls.mono (HDR.out A4 c4 _ (by assumption) hI4 hc4) ?_; rintro e w5 ⟨rfl, b5⟩; have hB5 : Below w.heap.size w w5 := below_trans (by assumption) b5)
    | (go_at_call 18; refine Calls.mono (HCD.out _ (by assumption)) ?_; rintro e w6 ⟨rfl, b6⟩; have hB6 : Below w.heap.size w w6 := below_trans (by assumption) b6))
  go_ret
  exact ⟨by simp, hB6⟩

set_option maxHeartbeats 2000000 in
theorem law_draw (A : Option Addr) (W : List Int) (c : Nat) (s : ByteArray) (w : World) (a : Nat → Addr) (hS : Sent codes w a) (hH : Handle w) (hA : Ints w A W) (hc : W.length ≤ c) (hs : s.size ≤ 9223372036854775807) :
    Calls Tryd.prog 4 #[.slice A W.length c, .string s] w fun e w' => e = .returned (.bool true) ∧ Below w.heap.size w w' := by
  have hlen := hA.len
  by_cases hl1 : 400 < (W.length : Int)
  · have HTH := hide (third_any w a (hS.toEnv))
    go_enter Tryd.func4, Tryd.ntmps4
    go_wp2_with (go_at_call 9; refine Calls.mono HTH.out ?_; rintro e w1 ⟨rfl, hB1⟩)
    go_ret
    exact ⟨rfl, hB1⟩
  by_cases hl2 : 300 < (s.size : Int) ∧ (s.size : Int) ≤ 4000
  · obtain ⟨hl2a, hl2b⟩ := hl2
    have HTH := hide (third_any w a (hS.toEnv))
    go_enter Tryd.func4, Tryd.ntmps4
    go_wp2_with (go_at_call 9; refine Calls.mono HTH.out ?_; rintro e w1 ⟨rfl, hB1⟩)
    go_ret
    exact ⟨rfl, hB1⟩
  by_cases h0 : wErr W = 0
  · by_cases h4 : (4000 : Int) < s.size
    · exact law_draw_long A W c s w a hS hH hA hc hs hl1 h0 h4
    · have h3 : ¬ (300 : Int) < s.size := fun h => hl2 ⟨h, by omega⟩
      cases hb : isBits s with
      | false => exact law_draw_text A W c s w a hS hH hA hc hs hl1 h0 h3 hb
      | true =>
        cases hr : drawB (parts W) (dep W) (bitsOf s) 0 0 0 with
        | none => exact law_draw_none A W c s w a hS hH hA hc hs hl1 h0 h3 hb hr
        | some p => exact law_draw_some A W c s w a hS hH hA hc hs hl1 h0 h3 hb p.1 p.2 hr
  · exact law_draw_weights A W c s w a hS hH hA hc hs hl1 hl2 h0
end Go.Proofs.YtioekjkfhbopkaaDoor

/- The walk of sample.Valid; what few, lists, RulesError answer in memory. Condition: the variables read as laid. -/
namespace Go.Proofs.YtioekjkfhbopkaaDoor
open Go.RowKit Go.Deep Go.Proofs.YtioekjkfhbopkaaDoorW.PrintWords

theorem fewS_ok (A : Option Addr) (m : List (List Int)) (c : Nat) (w : World) (hA : Lists w A m) (hc : m.length ≤ c) (hl : m.length ≤ 2000000) (hf : m.flatten.length ≤ 2000000) :
    Calls Tryd.prog 10 #[.slice A m.length c] w fun e w' => e = .returned (.bool (fewS m)) ∧ Below w.heap.size w w' :=
  PSamplePast.demonlaw4_few.calls (m.length + 1) A c m (fewS m) w hA.toC hc (few_f m hl hf _ (by omega))
theorem listsS_ok (A : Option Addr) (m : List (List Int)) (c : Nat) (w : World) (hA : Lists w A m) (hc : m.length ≤ c) (hl : m.length ≤ 2000000) (hf : m.flatten.length ≤ 2000000) :
    Calls Tryd.prog 12 #[.slice A m.length c] w fun e w' => ∃ B d, e = .returned (.slice B m.length d) ∧ Lists w' B m ∧ m.length ≤ d ∧ Below w.heap.size w w' := by
  refine (PSamplePast.demonlaw4_lists.calls (m.length + 1) A c m m w hA.toC hc (lists_f m hl hf _ (by omega))).mono ?_
  rintro e w' ⟨v, rfl, hS, hb⟩
  obtain ⟨B, d, rfl, hI, hd⟩ := Lists.ofR (Kd.S_R hS)
  exact ⟨B, d, rfl, hI, hd, hb⟩
theorem rulesError_ok (A : Option Addr) (m : List (List Int)) (c : Nat) (w : World) (hA : Lists w A m) (hc : m.length ≤ c) :
    Calls Tryd.prog 25 #[.slice A m.length c] w fun e w' => e = .returned (.int .i64 (rErr m)) ∧ Below w.heap.size w w' := by
  obtain ⟨k, hk⟩ := (rules_f m).rounds
  refine (PSamplePast.demonref4_RulesError.calls k A c m (rErr m) w hA.toC hc hk).mono ?_
  rintro e w' ⟨rfl, h⟩
  exact ⟨rfl, drawn_below h⟩
theorem isSorted_ok (A : Option Addr) (l : List Int) (c : Nat) (w : World) (hA : Ints w A l) (hc : l.length ≤ c) (hl : l.length ≤ 2000000) :
    Calls Tryd.prog 50 #[.slice A l.length c] w fun e w' => e = .returned (.bool (asc l l.length)) ∧ Below w.heap.size w w' := by
  obtain ⟨k, hk⟩ := (isSorted_f l hl).rounds
  refine (PSamplePast.slices_IsSorted_int_int.calls k A c l _ w hA.toC hc hk).mono ?_
  rintro e w' ⟨rfl, h⟩
  exact ⟨rfl, drawn_below h⟩
theorem max_spec (l : List Int) : ∀ k, 0 < k → k ≤ l.length → (∃ j, j < k ∧ Lib.maxOf (l.take k) = l.getD j 0) ∧ ∀ j, j < k → l.getD j 0 ≤ Lib.maxOf (l.take k) := by
  intro k
  induction k with
  | zero => intro h; omega
  | succ k ih =>
    intro _ hk
    rcases Nat.eq_zero_or_pos k with q | q
    · subst q
      rw [Lib.maxOf_one]
      exact ⟨⟨0, by omega, rfl⟩, fun j hj => by obtain rfl : j = 0 := by omega
                                                exact Int.le_refl _⟩
    · obtain ⟨⟨j, hj, e⟩, h2⟩ := ih q (by omega)
      rw [Lib.maxOf_step l k q (by omega)]
      refine ⟨?_, fun i hi => ?_⟩
      · by_cases g : Lib.maxOf (l.take k) ≤ l.getD k 0
        · exact ⟨k, by omega, Int.max_eq_right g⟩
        · exact ⟨j, by omega, by rw [Int.max_eq_left (by omega), e]⟩
      · by_cases e2 : i = k
        · subst e2; exact Int.le_max_right _ _
        · exact Int.le_trans (h2 i (by omega)) (Int.le_max_left _ _)
theorem min_spec (l : List Int) : ∀ k, 0 < k → k ≤ l.length → (∃ j, j < k ∧ Lib.minOf (l.take k) = l.getD j 0) ∧ ∀ j, j < k → Lib.minOf (l.take k) ≤ l.getD j 0 := by
  intro k
  induction k with
  | zero => intro h; omega
  | succ k ih =>
    intro _ hk
    rcases Nat.eq_zero_or_pos k with q | q
    · subst q
      rw [Lib.minOf_one]
      exact ⟨⟨0, by omega, rfl⟩, fun j hj => by obtain rfl : j = 0 := by omega
                                                exact Int.le_refl _⟩
    · obtain ⟨⟨j, hj, e⟩, h2⟩ := ih q (by omega)
      rw [Lib.minOf_step l k q (by omega)]
      refine ⟨?_, fun i hi => ?_⟩
      · by_cases g : l.getD k 0 ≤ Lib.minOf (l.take k)
        · exact ⟨k, by omega, Int.min_eq_right g⟩
        · exact ⟨j, by omega, by rw [Int.min_eq_left (by omega), e]⟩
      · by_cases e2 : i = k
        · subst e2; exact Int.min_le_right _ _
        · exact Int.le_trans (Int.min_le_left _ _) (h2 i (by omega))
theorem maxL_ok (A : Option Addr) (l : List Int) (c : Nat) (w : World) (hA : Ints w A l) (h0 : 0 < l.length) :
    Calls Tryd.prog 49 #[.slice A l.length c] w fun e w' => e = .returned (.int .i64 (Lib.maxOf l)) ∧ w' = w := by
  obtain ⟨b, off, rfl, _, _⟩ := hA.at_ 0 h0
  have := Tryd.slices_Max_int b off l.length c l w h0 (Nat.le_refl _) hA.len (fun j hj => by
    obtain ⟨b1, off1, e, _, h⟩ := hA.at_ j hj
    injection e with e
    injection e with e1 e2 _
    subst e1 e2
    exact h)
  rw [List.take_length] at this
  exact this
theorem minL_ok (A : Option Addr) (l : List Int) (c : Nat) (w : World) (hA : Ints w A l) (h0 : 0 < l.length) :
    Calls Tryd.prog 48 #[.slice A l.length c] w fun e w' => e = .returned (.int .i64 (Lib.minOf l)) ∧ w' = w := by
  obtain ⟨b, off, rfl, _, _⟩ := hA.at_ 0 h0
  have := Tryd.slices_Min_int b off l.length c l w h0 (Nat.le_refl _) hA.len (fun j hj => by
    obtain ⟨b1, off1, e, _, h⟩ := hA.at_ j hj
    injection e with e
    injection e with e1 e2 _
    subst e1 e2
    exact h)
  rw [List.take_length] at this
  exact this
theorem goodR_minmax {n : Nat} {f : List Int} (hl : f.length = n) (h0 : 0 < f.length) : goodR n f = (decide (0 ≤ Lib.minOf f) && decide (Lib.maxOf f < f.length)) := by
  have m1 := min_spec f f.length h0 (Nat.le_refl _)
  have m2 := max_spec f f.length h0 (Nat.le_refl _)
  rw [List.take_length] at m1 m2
  obtain ⟨⟨j1, hj1, e1⟩, l1⟩ := m1
  obtain ⟨⟨j2, hj2, e2⟩, l2⟩ := m2
  by_cases c1 : 0 ≤ Lib.minOf f
  · by_cases c2 : Lib.maxOf f < f.length
    · rw [decide_eq_true c1, decide_eq_true c2, goodR_range hl h0 (fun j hj => ⟨Int.le_trans c1 (l1 j hj), Int.lt_of_le_of_lt (l2 j hj) c2⟩)]
      rfl
    · rw [decide_eq_false c2, goodR_bad hj2 (.inr (by omega))]
      simp
  · rw [decide_eq_false c1, goodR_bad hj1 (.inl (by omega))]
    rfl

set_option maxRecDepth 100000 in
set_option maxHeartbeats 4000000 in
theorem valid_any (A : Option Addr) (r : List (List Int)) (c : Nat) (w : World) (a : Nat → Addr) (hE : Env [2, 3] w a) (hE7 : Env [7] w a) (hA : Lists w A r) (hc : r.length ≤ c) :
    Calls Tryd.prog 24 #[.slice A r.length c] w fun e w' => e = .returned (errC a (rErr r)) ∧ Below w.heap.size w w' := by
  have hlen := hA.len
  have hen := fun w' (hb : Below w.heap.size w w') => (⟨(hE.below hb).cell 2 (by simp), (hE.below hb).cell 3 (by simp), (hE7.below hb).cell 7 (by simp)⟩ : w'.cell? ⟨0, 0, none⟩ = some (.iface 160 (.pointer (some (a 2)))) ∧ w'.cell? ⟨1, 0, none⟩ = some (.iface 160 (.pointer (some (a 3)))) ∧ w'.cell? ⟨4, 0, none⟩ = some (.iface 160 (.pointer (some (a 7)))))
  have HEN := hide hen
  clear hen hE hE7
  obtain ⟨z2, z3, z7⟩ := HEN.out w (Below.refl _ _)
  by_cases h16 : 16 < r.length
  · have h16' : (16 : Int) < (r.length : Int) := by omega
    have hr : rErr r = 2 := by unfold rErr; rw [if_pos h16]
    rw [hr, errC_two]
    go_enter Tryd.func24, Tryd.ntmps24
    go_wp2_with (fail)
    go_ret
    exact ⟨rfl, Below.refl _ _⟩
  have h16' : (r.length : Int) ≤ 16 := by omega
  have h16n : r.length ≤ 16 := by omega
  clear h16 z2 z3 z7
  go_enter Tryd.func24, Tryd.ntmps24
  go_wp2_with (fail)
  go_loopw [15] (fun iv wr => ∃ i : Nat, i ≤ r.length ∧ iv = .int .i64 i ∧ Hid (∀ j, j < i → (r.getD j []).length ≤ 16) ∧ Below w.heap.size w wr) (fun iv _ => r.length - (intOf iv).toNat)
  case atStart => exact ⟨0, Nat.zero_le _, rfl, hide (fun j h => absurd h (Nat.not_lt_zero _)), Below.refl _ _⟩
  case round =>
    obtain ⟨i, hi, rfl, HS, hB⟩ := hrel
    have i0 : (0 : Int) ≤ (i : Int) := Int.natCast_nonneg _
    obtain ⟨z2, z3, z7⟩ := HEN.out wr hB
    by_cases hil : i < r.length
    · have i1 : (i : Int) < (r.length : Int) := by omega
      obtain ⟨b, off, A1, c1, rfl, hbl, hcell, hcc, hrow⟩ := (hA.below hB).at_ i hil
      by_cases hb : 16 < (r.getD i []).length
      · have hb' : (16 : Int) < ((r.getD i []).length : Int) := by omega
        have hr : rErr r = 2 := by
          unfold rErr
          rw [if_neg (by omega), if_pos (by
            rw [List.any_eq_true]
            exact ⟨r.getD i [], by rw [getDL_eq r i hil]; exact List.getElem_mem hil, decide_eq_true hb⟩)]
        have HR := hide hr
        generalize (r.getD i []).length = n1 at hcell hb'
        clear hr hb
        go_wp2_with (fail)
        go_ret
        exact ⟨by rw [HR.out]; rfl, hB⟩
      · have hb' : ((r.getD i []).length : Int) ≤ 16 := by omega
        have HS2 := hide (fun j (hj : j < i + 1) => (show (r.getD j []).length ≤ 16 from by
          by_cases q : j = i
          · subst q; omega
          · exact HS.out j (by omega)))
        generalize (r.getD i []).length = n1 at hcell hb'
        clear hb
        go_wp2_with (fail)
        go_roundw
        case rel => exact ⟨i + 1, by omega, by go_num, HS2, hB⟩
        case measure => simp [intOf]; omega
    · obtain rfl : i = r.length := by omega
      have h2 : r.any (fun f => decide (16 < f.length)) = false := by
        rw [List.any_eq_false]
        intro f hf
        obtain ⟨j, hj, rfl⟩ := List.getElem_of_mem hf
        have := HS.out j hj
        rw [getDL_eq r j hj] at this
        simpa using this
      by_cases h0 : r.length = 0
      · have hr : rErr r = 3 := by
          unfold rErr
          rw [if_neg (by omega), if_neg (by rw [h2]; decide), if_pos h0]
        have HR := hide hr
        have h0' : ((r.length : Int) == 0) = true := beq_iff_eq.2 (by omega)
        clear hr h2
        go_wp2_with (fail)
        go_ret
        exact ⟨by rw [HR.out]; rfl, hB⟩
      have h0p : 0 < r.length := by omega
      have h0' : ((r.length : Int) == 0) = false := beq_eq_false_iff_ne.2 (by omega)
      have h0i : (0 : Int) < (r.length : Int) := by omega
      have hbad := fun i (hi : i < r.length) hg => rErr_bad (i := i) h16n h2 hi hg
      have hend := rErr_end h16n h2 h0
      have HBAD := hide hbad
      have HEND := hide hend
      have HSM := hide HS.out
      obtain ⟨w2, rfl⟩ : ∃ w2 : World, w2 = wr := ⟨_, rfl⟩
      clear hbad hend h2 h0
      go_wp2_with (fail)
      go_loopw [30] (fun iv wr => ∃ i : Nat, i ≤ r.length ∧ iv = .int .i64 i ∧ Hid (∀ j, j < i → goodR (r.getD 0 []).length (r.getD j []) = true) ∧ Below w.heap.size w wr) (fun iv _ => r.length - (intOf iv).toNat)
      case atStart => exact ⟨0, Nat.zero_le _, rfl, hide (fun j h => absurd h (Nat.not_lt_zero _)), hB⟩
      case round =>
        obtain ⟨i, hi, rfl, HG, hBi⟩ := hrel
        have i0 : (0 : Int) ≤ (i : Int) := Int.natCast_nonneg _
        obtain ⟨z2, z3, z7⟩ := HEN.out wr hBi
        by_cases hil : i < r.length
        · have i1 : (i : Int) < (r.length : Int) := by omega
          obtain ⟨b, off, A1, c1, rfl, hbl, hcell, hcc, hrow⟩ := (hA.below hBi).at_ i hil
          obtain ⟨b', off', A0, c0, e0, _, hcell0, _, _⟩ := (hA.below hBi).at_ 0 h0p
          injection e0 with e0
          injection e0 with e1 e2 _
          subst e1 e2
          rw [Nat.add_zero] at hcell0
          have hs16 := HSM.out i hil
          have HBI := hide (HBAD.out i hil)
          have HGN := hide (fun (hg : goodR (r.getD 0 []).length (r.getD i []) = true) j (hj : j < i + 1) => (show goodR (r.getD 0 []).length (r.getD j []) = true from by
            by_cases q : j = i
            · subst q; exact hg
            · exact HG.out j (by omega)))
          generalize hf : r.getD i [] = f at hcell hcc hrow hs16 HBI HGN
          generalize hn0 : (r.getD 0 []).length = n0 at hcell0 HBI HGN
          by_cases c1e : f.length = n0
          · by_cases c2 : f.length = 0
            · have hr := HBI.out (by unfold goodR; rw [decide_eq_false (by omega : ¬ 0 < f.length)]; simp)
              have HR := hide hr
              have q1 : ((f.length : Int) != (n0 : Int)) = false := by rw [c1e]; exact bne_self_eq_false _
              have q2 : ((f.length : Int) == 0) = true := beq_iff_eq.2 (by omega)
              clear hr hrow hf hn0
              go_wp2_with (fail)
              go_ret
              exact ⟨by rw [HR.out]; rfl, hBi⟩
            · have h0f : 0 < f.length := by omega
              have q2 : ((f.length : Int) == 0) = false := beq_eq_false_iff_ne.2 (by omega)
              have hmm := goodR_minmax c1e h0f
              have HMI := hide (minL_ok A1 f c1 wr hrow h0f)
              have HMA := hide (maxL_ok A1 f c1 wr hrow h0f)
              generalize Lib.minOf f = mi at hmm HMI
              generalize Lib.maxOf f = ma at hmm HMA
              have HMM := hide hmm
              have HN0 := hide hn0
              clear hmm hrow hf hn0 HG c2
              subst c1e
              by_cases c3 : mi < 0
              · have hr := HBI.out (by rw [HMM.out, decide_eq_false (by omega)]; rfl)
                have HR := hide hr
                clear hr
                go_wp2_with (go_at_call 48; refine Calls.mono HMI.out ?_; rintro e w5 ⟨rfl, hw5⟩; subst hw5)
                go_ret
                exact ⟨by rw [HR.out]; rfl, hBi⟩
              · have c3' : (0 : Int) ≤ mi := by omega
                by_cases c4 : ma < (f.length : Int)
                · have hg := HGN.out (by rw [HMM.out, decide_eq_true c3', decide_eq_true c4]; rfl)
                  have HG2 := hide hg
                  clear hg
                  go_wp2_with (first
                    | (go_at_call 48; refine Calls.mono HMI.out ?_; rintro e w5 ⟨rfl, hw5⟩; subst hw5)
                    | (go_at_call 49; refine Calls.mono HMA.out ?_; rintro e w6 ⟨rfl, hw6⟩; subst hw6))
                  go_roundw
                  case rel => exact ⟨i + 1, by omega, by go_num, (by first | exact HG2 | (rw [HN0.out]; exact HG2)), hBi⟩
                  case measure => simp [intOf]; omega
                · have hr := HBI.out (by rw [HMM.out, decide_eq_false c4, Bool.and_false])
                  have HR := hide hr
                  have c4' : (f.length : Int) ≤ ma := by omega
                  clear hr
                  go_wp2_with (first
                    | (go_at_call 48; refine Calls.mono HMI.out ?_; rintro e w5 ⟨rfl, hw5⟩; subst hw5)
                    | (go_at_call 49; refine Calls.mono HMA.out ?_; rintro e w6 ⟨rfl, hw6⟩; subst hw6))
                  go_ret
                  exact ⟨by rw [HR.out]; rfl, hBi⟩
          · have hr := HBI.out (by unfold goodR; rw [decide_eq_false c1e]; simp)
            have HR := hide hr
            have q1 : ((f.length : Int) != (n0 : Int)) = true := bne_iff_ne.2 (by omega)
            clear hr hrow hf hn0
            go_wp2_with (fail)
            go_ret
            exact ⟨by rw [HR.out]; rfl, hBi⟩
        · obtain rfl : i = r.length := by omega
          have hend := HEND.out (all_upto _ HG.out)
          have HE2 := hide hend
          clear hend
          go_wp2_with (fail)
          go_loopw [62] (fun iv wr => ∃ i : Nat, i ≤ r.length ∧ iv = .int .i64 i ∧ Hid (∀ j, j < i → asc (r.getD j []) (r.getD j []).length = true) ∧ Below w.heap.size w wr) (fun iv _ => r.length - (intOf iv).toNat)
          case atStart => exact ⟨0, Nat.zero_le _, rfl, hide (fun j h => absurd h (Nat.not_lt_zero _)), hBi⟩
          case round =>
            obtain ⟨i, hi, rfl, HO, hBk⟩ := hrel
            have i0 : (0 : Int) ≤ (i : Int) := Int.natCast_nonneg _
            by_cases hil : i < r.length
            · have i1 : (i : Int) < (r.length : Int) := by omega
              obtain ⟨b, off, A1, c1, rfl, hbl, hcell, hcc, hrow⟩ := (hA.below hBk).at_ i hil
              have HIS := hide (fun w' (hb : Below wr.heap.size wr w') => isSorted_ok A1 (r.getD i []) c1 w' (hrow.below hb) hcc (by have := HSM.out i hil; omega))
              have hno := fun (q : asc (r.getD i []) (r.getD i []).length = false) => (show rErr r = 7 from by
                rw [HE2.out, if_neg]
                rw [Bool.not_eq_true, List.all_eq_false]
                exact ⟨r.getD i [], by rw [getDL_eq r i hil]; exact List.getElem_mem hil, by rw [q]; decide⟩)
              have HO2 := hide (fun (q : asc (r.getD i []) (r.getD i []).length = true) j (hj : j < i + 1) => (show asc (r.getD j []) (r.getD j []).length = true from by
                by_cases e : j = i
                · subst e; exact q
                · exact HO.out j (by omega)))
              have HNO := hide hno
              clear hno hrow
              cases has : asc (r.getD i []) (r.getD i []).length with
              | true =>
                rw [has] at HIS
                have HO3 := hide (HO2.out has)
                clear has
                generalize (r.getD i []).length = n1 at hcell HIS
                go_wp2_with (go_at_call 50; refine Calls.mono (HIS.out _ (Below.refl _ _)) ?_; rintro e w5 ⟨rfl, b5⟩)
                go_roundw
                case rel => exact ⟨i + 1, by omega, by go_num, HO3, below_trans hBk b5⟩
                case measure => simp [intOf]; omega
              | false =>
                rw [has] at HIS
                have HR := hide (HNO.out has)
                clear has
                generalize (r.getD i []).length = n1 at hcell HIS
                go_wp2_with (go_at_call 50; refine Calls.mono (HIS.out _ (Below.refl _ _)) ?_; rintro e w5 ⟨rfl, b5⟩; obtain ⟨y2, y3, y7⟩ := HEN.out w5 (below_trans hBk b5))
                go_ret
                exact ⟨by rw [HR.out]; rfl, below_trans hBk b5⟩
            · obtain rfl : i = r.length := by omega
              have hr : rErr r = 0 := by rw [HE2.out, if_pos (all_upto _ HO.out)]
              have HR := hide hr
              clear hr
              go_wp2_with (fail)
              go_ret
              exact ⟨by rw [HR.out]; rfl, hBk⟩
end Go.Proofs.YtioekjkfhbopkaaDoor

/- A region that draws its order, within a round of a range over a function, whose operations move, load, store and index alone: by the plain walk's moves. No condition. -/
namespace Go.Proofs.YtioekjkfhbopkaaDoor
open Go.RowKit Go.Deep

/-- it moves, loads, stores or reckons an address: no call -/
def neB (o : Oper) : Bool := match o.op with | .move _ | .assign _ | .load _ _ | .store _ _ _ | .indexAddr _ _ _ => true | _ => false
def NE (o : Oper) : Prop := neB o = true
theorem ne_about {o : Oper} (h : NE o) (P : Program) (w : World) (ρ : Operand → Value) : o.about P w ρ = none := by
  unfold NE neB at h
  unfold Oper.about
  split at h <;> simp_all
theorem ne_semAt {o : Oper} (h : NE o) (r : Option Nat) (ρ : Operand → Value) : o.semAt r ρ = execOp ρ o := by
  unfold NE neB at h
  unfold Oper.semAt
  split at h <;> cases r <;> simp_all
/-- what it gives: a value, nothing, or an end -/
theorem ne_run {o : Oper} (h : NE o) (P : Program) (w : World) (ρ : Operand → Value) : (∃ v w', (execOp ρ o).run P w = .ok (.value v) w') ∨ (∃ w', (execOp ρ o).run P w = .ok .skip w') ∨ ∃ x w', (execOp ρ o).run P w = .halt x w' := by
  unfold NE neB at h
  unfold execOp
  split at h
  · rename_i e
    simp only [e]
    exact .inl ⟨_, _, rfl⟩
  · rename_i e
    simp only [e]
    exact .inl ⟨_, _, rfl⟩
  · rename_i t x e
    simp only [e, Sem.run_bind]
    cases (Instr.loadAt t (ρ x)).run P w with
    | ok v w' => exact .inl ⟨v, w', rfl⟩
    | halt x w' => exact .inr (.inr ⟨x, w', rfl⟩)
  · rename_i t x y e
    simp only [e, Sem.run_bind]
    cases (Instr.storeAt t (ρ x) (ρ y)).run P w with
    | ok v w' => exact .inr (.inl ⟨w', rfl⟩)
    | halt x w' => exact .inr (.inr ⟨x, w', rfl⟩)
  · rename_i t x y e
    simp only [e, Sem.run_bind]
    cases (Instr.indexAt t (ρ x) (ρ y)).run P w with
    | ok v w' => exact .inl ⟨v, w', rfl⟩
    | halt x w' => exact .inr (.inr ⟨x, w', rfl⟩)
  · cases h
/-- the normal end alone -/
def NormalOnly (Q : Exit → Act → World → Prop) : Exit → Act → World → Prop := fun e a w => e = .normal ∧ Q .normal a w
theorem opsIn_of_ops {F : Fence} {n : Nat} {P : Program} {ops : Array Oper} {Q : Exit → Act → World → Prop} (hne : ∀ (i : Nat) o, ops[i]? = some o → NE o) :
    ∀ (l : List Nat) (a : Act) (w : World), wpOps P ops (NormalOnly Q) l a w → wpOpsIn F n P ops Q l a w
  | [], a, w, h => h.2
  | i :: l, a, w, h => by
    unfold wpOps at h
    unfold wpOpsIn
    cases ho : ops[i]? with
    | none =>
      rw [ho] at h
      exact opsIn_of_ops hne l a w h
    | some o =>
      rw [ho] at h
      have hn := hne i o ho
      dsimp only at h ⊢
      by_cases hw : Region.wanted o (yielded ops a.tmps) = true
      · rw [if_pos hw] at h ⊢
        rcases h with h | ⟨_, a', w', h⟩
        · refine ⟨fun f hf => (by rw [ne_about hn] at hf; cases hf), ?_⟩
          rw [ne_semAt hn]
          unfold Oper.wp at h
          rcases ne_run hn P w a.eval with ⟨v, w', e⟩ | ⟨w', e⟩ | ⟨x, w', e⟩
          · rw [e] at h ⊢
            exact opsIn_of_ops hne l _ _ h
          · rw [e] at h ⊢
            exact opsIn_of_ops hne l _ _ h
          · rw [e] at h ⊢
            cases x <;> first | exact (h : False).elim | (exact absurd (h : NormalOnly Q (.panic _) _ _).1 (by simp))
        · exact absurd h.1 (by simp)
      · rw [if_neg hw] at h ⊢
        exact ⟨fun f hf => (by rw [ne_about hn] at hf; cases hf), opsIn_of_ops hne l _ _ h⟩
/-- THE LAW: within a round, too, by the moves of the plain walk -/
theorem wpIn_region_heldNE {F : Fence} {n : Nat} {P : Program} {ops : Array Oper} {Q : Exit → Act → World → Prop} {S : World → Prop} {id : Nat} {a : Act} {w : World} (hm : P.follows .mixedOrders = true) (hne : ∀ (i : Nat) o, ops[i]? = some o → NE o)
    (h : wpAnyH P .any ops (NormalOnly Q) S ops.size (Array.replicate ops.size false) a w.drew) : (Code.region id ops true).wpIn F n P Q a w :=
  wpIn_region_draw fun t => by
    simp only [Region.schedule, hm, Bool.true_or, if_true]
    exact opsIn_of_ops hne _ _ _ (wpAny_sound ops.size t _ a _ (wpAny_of_held _ _ _ _ h))
theorem ne_all {ops : Array Oper} (h : ops.toList.all neB = true) : ∀ (i : Nat) o, ops[i]? = some o → NE o := fun i o ho => List.all_eq_true.1 h o (Array.mem_toList_iff.2 (Array.mem_of_getElem? ho))
theorem wpOp_run {P : Program} {ops : Array Oper} {Q : Exit → Act → World → Prop} {i : Nat} {o : Oper} {K : Act → World → Prop} {a : Act} {w : World} (hi : ops[i]? = some o) (hg : o.guard = none) (h : o.wp P a w K Q) : wpOp P ops Q i K a w := by
  unfold wpOp
  rw [hi]
  dsimp only
  rw [if_pos (by simp [Region.wanted, hg])]
  exact .inl h
theorem oper_value {P : Program} {Q : Exit → Act → World → Prop} {o : Oper} {K : Act → World → Prop} {a : Act} {w w' : World} {v : Value} (h : (execOp a.eval o).run P w = .ok (.value v) w') (hK : K (a.put o.dst v) w') : o.wp P a w K Q := by
  unfold Oper.wp
  rw [h]
  exact hK
theorem oper_skip {P : Program} {Q : Exit → Act → World → Prop} {o : Oper} {K : Act → World → Prop} {a : Act} {w w' : World} (h : (execOp a.eval o).run P w = .ok .skip w') (hK : K (a.put o.dst undef) w') : o.wp P a w K Q := by
  unfold Oper.wp
  rw [h]
  exact hK
theorem panic_no {Q : Exit → Act → World → Prop} {c : List PanicEntry} {a a' : Act} {w : World} (h : NormalOnly Q (.panic c) a w) : NormalOnly Q (.panic c) a' w := absurd h.1 (by simp)
end Go.Proofs.YtioekjkfhbopkaaDoor

/- The walk of sample.ends at right rules and a right tape that is not empty. No condition. -/
namespace Go.Proofs.YtioekjkfhbopkaaDoor
open Go.RowKit Go.Deep Go.Shelf Go.Proofs.YtioekjkfhbopkaaDoorW.PrintWords

attribute [local go_sem] Oper.semAt_some

theorem Ints.take {w : World} {A : Option Addr} {l : List Int} (h : Ints w A l) (k : Nat) : Ints w A (l.take k) :=
  ⟨by have := h.len; rw [List.length_take]; omega, fun i hi => by
    rw [List.length_take] at hi
    obtain ⟨b, off, e, hb, hc⟩ := h.at_ i (by omega)
    refine ⟨b, off, e, hb, ?_⟩
    rw [hc, List.getD_eq_getElem?_getD, List.getD_eq_getElem?_getD, List.getElem?_take_of_lt (by omega)]⟩

/-- four new blocks of one value each -/
theorem four_new (w : World) (x1 x2 x3 x4 : Value) (t1 t2 t3 t4 : TypeId) {W : World} (hW : W = (((w.alloc (.cells #[x1] t1)).alloc (.cells #[x2] t2)).alloc (.cells #[x3] t3)).alloc (.cells #[x4] t4)) :
    (W.cell? ⟨w.heap.size, 0, none⟩ = some x1 ∧ W.frozen? ⟨w.heap.size, 0, none⟩ = false) ∧ (W.cell? ⟨w.heap.size + 1, 0, none⟩ = some x2 ∧ W.frozen? ⟨w.heap.size + 1, 0, none⟩ = false) ∧ (W.cell? ⟨w.heap.size + 1 + 1, 0, none⟩ = some x3 ∧ W.frozen? ⟨w.heap.size + 1 + 1, 0, none⟩ = false) ∧ (W.cell? ⟨w.heap.size + 1 + 1 + 1, 0, none⟩ = some x4 ∧ W.frozen? ⟨w.heap.size + 1 + 1 + 1, 0, none⟩ = false) ∧ W.heap.size = w.heap.size + 1 + 1 + 1 + 1 := by
  have s1 := World.size_alloc w (.cells #[x1] t1)
  have s2 := World.size_alloc (w.alloc (.cells #[x1] t1)) (.cells #[x2] t2)
  have s3 := World.size_alloc ((w.alloc (.cells #[x1] t1)).alloc (.cells #[x2] t2)) (.cells #[x3] t3)
  have s4 := World.size_alloc (((w.alloc (.cells #[x1] t1)).alloc (.cells #[x2] t2)).alloc (.cells #[x3] t3)) (.cells #[x4] t4)
  have h1 : W.heap[w.heap.size]? = some (.cells #[x1] t1 (0, 0)) := by
    rw [hW, alloc_old _ _ _ (by omega), alloc_old _ _ _ (by omega), alloc_old _ _ _ (by omega), alloc_at]
  have h2 : W.heap[w.heap.size + 1]? = some (.cells #[x2] t2 (0, 0)) := by
    rw [hW, alloc_old _ _ _ (by omega), alloc_old _ _ _ (by omega), ← s1, alloc_at]
  have h3 : W.heap[w.heap.size + 1 + 1]? = some (.cells #[x3] t3 (0, 0)) := by
    rw [hW, alloc_old _ _ _ (by omega), show w.heap.size + 1 + 1 = ((w.alloc (.cells #[x1] t1)).alloc (.cells #[x2] t2)).heap.size by omega, alloc_at]
  have h4 : W.heap[w.heap.size + 1 + 1 + 1]? = some (.cells #[x4] t4 (0, 0)) := by
    rw [hW, show w.heap.size + 1 + 1 + 1 = (((w.alloc (.cells #[x1] t1)).alloc (.cells #[x2] t2)).alloc (.cells #[x3] t3)).heap.size by omega, alloc_at]
  exact ⟨cell_of _ _ 0 _ _ x1 h1 rfl, cell_of _ _ 0 _ _ x2 h2 rfl, cell_of _ _ 0 _ _ x3 h3 rfl, cell_of _ _ 0 _ _ x4 h4 rfl, by rw [hW]; omega⟩
theorem back_good' {r : List (List Int)} {n : Nat} (h : GoodRs r n) {l : List Int} (ht : goodT r l) (k : Nat) : 0 ≤ (backAt l k).2 ∧ (backAt l k).2 < r.length := by
  by_cases h0 : 0 < l.length
  · exact back_good ht h0 k
  · obtain rfl : l = [] := List.eq_nil_of_length_eq_zero (by omega)
    have hp := h.pos
    show 0 ≤ ([] : List Int).getD (0 - 1 - k) 0 ∧ ([] : List Int).getD (0 - 1 - k) 0 < (r.length : Int)
    simp only [List.getD_nil]
    omega
theorem accN_range' {r : List (List Int)} {n : Nat} (h : GoodRs r n) {l : List Int} (ht : goodT r l) {s : Int} (hs : 0 ≤ s ∧ s < n) (pre : List Nat) : 0 ≤ accN r s l pre ∧ accN r s l pre < n := by
  induction pre generalizing s with
  | nil => exact hs
  | cons k pre ih => exact ih (stepR_range h (back_good' h ht k) hs)
set_option maxRecDepth 100000 in
set_option maxHeartbeats 1000000 in
theorem ends_okB (A : Option Addr) (bT oT : Nat) (r : List (List Int)) (n : Nat) (tape : List Int) (c d : Nat) (w : World) (hA : Lists w A r) (hB : Ints w (some ⟨bT, oT, none⟩) tape) (hbT : bT < w.heap.size) (hg : GoodRs r n) (ht : goodT r tape) (hl : tape.length ≤ 2000000) :
    Calls Tryd.prog 33 #[.slice A r.length c, .slice (some ⟨bT, oT, none⟩) tape.length d] w fun e w' => e = .returned (.tuple #[.int .i64 (comeTo r tape 0), .int .i64 (comeTo r tape ((n : Int) - 1))]) ∧ Below w.heap.size w w' := by
  have hlen := hB.len
  obtain ⟨bA, oA, A0, c0, rfl, hbA, hcell0, _, _⟩ := hA.at_ 0 hg.pos
  rw [hg.first, Nat.add_zero] at hcell0
  have hcT : ∀ j, j < tape.length → w.cell? ⟨bT, oT + j, none⟩ = some (.int .i64 (tape.getD j 0)) := fun j hj => by
    obtain ⟨b1, off1, e, _, h⟩ := hB.at_ j hj
    injection e with e
    injection e with e1 e2 _
    subst e1 e2
    exact h
  have HCT := hide hcT
  have HRO := hide hA
  have n0 : (0 : Int) < (n : Int) := by have := hg.n0; omega
  have n16 : (n : Int) ≤ 16 := by have := hg.n16; omega
  have r0 : (0 : Int) < (r.length : Int) := by have := hg.pos; omega
  obtain ⟨W3, hW3⟩ : ∃ W3, W3 = ((w.alloc (.cells #[.slice (some ⟨bA, oA, none⟩) r.length c] 66)).alloc (.cells #[.int .i64 0] 3)).alloc (.cells #[.int .i64 0] 3) := ⟨_, rfl⟩
  have hb3 : Below w.heap.size w W3 := by rw [hW3]; exact below_alloc' (below_alloc' (below_alloc' (Below.refl _ _) _) _) _
  have y0 := (hb3.cell (p := ⟨bA, oA, none⟩) hbA).trans hcell0
  have HB3 := hide hb3
  have HG := hide hg
  have HT := hide ht
  rw [hW3] at y0
  clear hcT hg ht hb3 hW3
  refine callsIn_wide (n := 3) |>.1 ?_
  refine callsIn_of_wp_marks Tryd.func33 rfl trivial ?_ rfl
  refine wpIn_wide.2 ?_
  simp only [Tryd.ntmps33, List.size_toArray, List.length_cons, List.length_nil, Nat.reduceAdd, Nat.reduceSub, Array.replicate_succ, Array.replicate_zero, List.push_toArray, List.append_toArray, List.nil_append, List.cons_append]
  go_wp2_with (go_at_call 53; refine Calls.mono (callsIn_wide (n := 3) |>.1 (back_in Fence.wide 3 trivial rfl (some ⟨bT, oT, none⟩) tape.length d _)) ?_; rintro e w4 ⟨rfl, rfl⟩)
  obtain ⟨⟨f1, f1'⟩, ⟨f2, f2'⟩, ⟨f3, f3'⟩, ⟨f4, f4'⟩, f5⟩ := four_new w (.slice (some ⟨bA, oA, none⟩) r.length c) (.int .i64 0) (.int .i64 ((n : Int) - 1)) (.slice (some ⟨bT, oT, none⟩) tape.length d) 66 3 3 23 rfl
  have hb4 : Below w.heap.size w ((((w.alloc (.cells #[.slice (some ⟨bA, oA, none⟩) r.length c] 66)).alloc (.cells #[.int .i64 0] 3)).alloc (.cells #[.int .i64 ((n : Int) - 1)] 3)).alloc (.cells #[.slice (some ⟨bT, oT, none⟩) tape.length d] 23)) := below_alloc' (below_alloc' (below_alloc' (below_alloc' (Below.refl _ _) _) _) _) _
  generalize (((w.alloc (.cells #[.slice (some ⟨bA, oA, none⟩) r.length c] 66)).alloc (.cells #[.int .i64 0] 3)).alloc (.cells #[.int .i64 ((n : Int) - 1)] 3)).alloc (.cells #[.slice (some ⟨bT, oT, none⟩) tape.length d] 23) = W4 at f1 f1' f2 f2' f3 f3' f4 f4' f5 hb4 ⊢
  refine wpIn_wide (n := 3) |>.1 ?_
  refine wpIn_rangeFunc_ownF (F := Fence.wide) (n := 3) rfl (by decide) (gf := 76) (lb := #[.pointer (some ⟨w.heap.size + 1 + 1 + 1, 0, none⟩)]) (by rfl) trivial (enters_of Tryd.func76 (by kernel_rfl) rfl)
    (backN_stops Fence.wide 2 trivial rfl (by decide) (w.heap.size + 1 + 1 + 1) w.heap.size bT d oT tape hlen W4 (by omega) (by omega) f4 hbT (fun j hj => (hb4.cell (p := ⟨bT, oT + j, none⟩) hbT).trans (HCT.out j hj)))
    (fun h k => KpB.trans h k) ?hKb (Below.refl _ _) (fun _ => rfl)
    (fun pre V => (V.cell? ⟨w.heap.size + 1, 0, none⟩ = some (.int .i64 (accN r 0 tape pre)) ∧ V.frozen? ⟨w.heap.size + 1, 0, none⟩ = false) ∧ (V.cell? ⟨w.heap.size + 1 + 1, 0, none⟩ = some (.int .i64 (accN r ((n : Int) - 1) tape pre)) ∧ V.frozen? ⟨w.heap.size + 1 + 1, 0, none⟩ = false) ∧ V.cell? ⟨w.heap.size, 0, none⟩ = some (.slice (some ⟨bA, oA, none⟩) r.length c) ∧ Below w.heap.size w V) (fun _ _ _ => False) ?hI ?hIx ?h0
    (fun q => { tmps := (#[.slice (some ⟨bA, oA, none⟩) r.length c, .slice (some ⟨bT, oT, none⟩) tape.length d, .pointer (some ⟨w.heap.size, 0, none⟩), undef, .pointer (some ⟨w.heap.size + 1, 0, none⟩), .pointer (some ⟨w.heap.size + 1 + 1, 0, none⟩), undef, .int .i64 (backAt tape q).2, .slice (some ⟨bA, oA, none⟩) r.length c, .pointer (some ⟨bA, oA, none⟩), .slice A0 n c0, .int .i64 n, .int .i64 ((n : Int) - 1), .slice (some ⟨bT, oT, none⟩) tape.length d, .func (.func 76) #[] #[.pointer (some ⟨w.heap.size + 1 + 1 + 1, 0, none⟩)], .int .i64 (backAt tape q).1, .int .i64 (backAt tape q).2, undef, undef, undef, undef, undef, undef, undef, undef, undef, undef, undef, undef, undef, undef, undef, undef]), defers := [] }) ?assign ?body ?done ?stop
  case hKb =>
    intro V r o o' hr h1 h2 h3
    exact ⟨belowK_b (w := w) (Nat.le_refl _) V r o o' (by omega) h1 h2 h3, fun v hv => cell_kept hv (grownBy_putObj' V r o') (fun r' e => by cases e; exact ⟨_, h1, h2⟩)⟩
  case hI =>
    exact OwnFrom.and (Own.from (fun s A B row hs hg hr => ⟨cell_kept hs.1 hg hr, (frozen_kept hs.1 hg hr).trans hs.2⟩) _) (OwnFrom.and (Own.from (fun s A B row hs hg hr => ⟨cell_kept hs.1 hg hr, (frozen_kept hs.1 hg hr).trans hs.2⟩) _) (OwnFrom.and (Own.from (fun s A B row hs hg hr => cell_kept hs hg hr) _) (ownFrom_below (Nat.le_refl _) (by omega))))
  case hIx => exact fun _ _ _ _ _ hs _ _ => hs.elim
  case h0 => exact ⟨⟨f2, f2'⟩, ⟨f3, f3'⟩, f1, hb4⟩
  case assign =>
    intro rr q V K hK
    gi_wp2
    exact hK
  case stop =>
    rintro D c pre V _ _ h _
    exact h.elim
  case body =>
    rintro rr pre q V ⟨⟨hlo, hflo⟩, ⟨hhi, hfhi⟩, hbox, hWV⟩ _
    have hk := back_good' HG.out HT.out q
    have hlr := accN_range' HG.out HT.out (s := 0) ⟨by omega, n0⟩ pre
    have hhr := accN_range' HG.out HT.out (s := (n : Int) - 1) ⟨by omega, by omega⟩ pre
    have a1 := accN_snoc r 0 tape pre q
    have a2 := accN_snoc r ((n : Int) - 1) tape pre q
    generalize (backAt tape q).2 = k at hk a1 a2 ⊢
    generalize (backAt tape q).1 = k1
    generalize accN r 0 tape pre = lo at hlo hlr a1
    generalize accN r ((n : Int) - 1) tape pre = hi at hhi hhr a2
    obtain ⟨kN, rfl⟩ : ∃ kN : Nat, k = (kN : Int) := ⟨k.toNat, by omega⟩
    obtain ⟨lN, rfl⟩ : ∃ lN : Nat, lo = (lN : Int) := ⟨lo.toNat, by omega⟩
    obtain ⟨hN, rfl⟩ : ∃ hN : Nat, hi = (hN : Int) := ⟨hi.toNat, by omega⟩
    obtain ⟨b1, o1, Ak, ck, e1, _, hcellk, hck, hrowk⟩ := HRO.out.at_ kN (by omega)
    injection e1 with e1
    injection e1 with e1 e2 _
    subst e1 e2
    have hrl := (HG.out.rows kN (by omega)).1
    obtain ⟨bk, ok, rfl, hbk, hclo⟩ := hrowk.at_ lN (by rw [hrl]; omega)
    obtain ⟨b2, o2, e3, _, hchi⟩ := hrowk.at_ hN (by rw [hrl]; omega)
    injection e3 with e3
    injection e3 with e3 e4 _
    subst e3 e4
    rw [hrl] at hcellk
    have hcellk := (hWV.cell (p := ⟨bA, oA + kN, none⟩) hbA).trans hcellk
    have hclo := (hWV.cell (p := ⟨bk, ok + lN, none⟩) hbk).trans hclo
    have hchi := (hWV.cell (p := ⟨bk, ok + hN, none⟩) hbk).trans hchi
    have s1 : stepR r (kN : Int) (lN : Int) = (r.getD kN []).getD lN 0 := rfl
    have s2 : stepR r (kN : Int) (hN : Int) = (r.getD kN []).getD hN 0 := rfl
    rw [s1] at a1
    rw [s2] at a2
    generalize (r.getD kN []).getD lN 0 = y1 at hclo a1
    generalize (r.getD kN []).getD hN 0 = y2 at hchi a2
    have HA1 := hide a1
    have HA2 := hide a2
    have HWV := hide hWV
    have k0 : (0 : Int) ≤ (kN : Int) := Int.natCast_nonneg _
    have kl : (kN : Int) < (r.length : Int) := hk.2
    have l0 : (0 : Int) ≤ (lN : Int) := Int.natCast_nonneg _
    have ll : (lN : Int) < (n : Int) := hlr.2
    have g0 : (0 : Int) ≤ (hN : Int) := Int.natCast_nonneg _
    have gl : (hN : Int) < (n : Int) := hhr.2
    clear a1 a2 s1 s2 hrowk hck hrl hk hlr hhr hWV HCT
    obtain ⟨U, hU⟩ : ∃ U, U = V.drew := ⟨_, rfl⟩
    obtain ⟨W1, hW1⟩ : ∃ W1, W1 = U.setCell ⟨w.heap.size + 1, 0, none⟩ (.int .i64 y1) := ⟨_, rfl⟩
    obtain ⟨W2, hW2⟩ : ∃ W2, W2 = W1.setCell ⟨w.heap.size + 1 + 1, 0, none⟩ (.int .i64 y2) := ⟨_, rfl⟩
    have keep1 : ∀ p : Addr, p.block ≠ w.heap.size + 1 → W1.cell? p = U.cell? p := fun p hp => by
      rw [hW1, World.cell?_setCell_other]
      intro e; apply hp; rw [← e]
    have keep2 : ∀ p : Addr, p.block ≠ w.heap.size + 1 + 1 → W2.cell? p = W1.cell? p := fun p hp => by
      rw [hW2, World.cell?_setCell_other]
      intro e; apply hp; rw [← e]
    have hSU : (fun W : World => W.cell? ⟨w.heap.size, 0, none⟩ = some (.slice (some ⟨bA, oA, none⟩) r.length c) ∧ W.cell? ⟨bA, oA + kN, none⟩ = some (.slice (some ⟨bk, ok, none⟩) n ck) ∧ W.cell? ⟨bk, ok + lN, none⟩ = some (.int .i64 y1) ∧ W.cell? ⟨bk, ok + hN, none⟩ = some (.int .i64 y2)) U := by rw [hU]; exact ⟨hbox, hcellk, hclo, hchi⟩
    have hS1 : (fun W : World => W.cell? ⟨w.heap.size, 0, none⟩ = some (.slice (some ⟨bA, oA, none⟩) r.length c) ∧ W.cell? ⟨bA, oA + kN, none⟩ = some (.slice (some ⟨bk, ok, none⟩) n ck) ∧ W.cell? ⟨bk, ok + lN, none⟩ = some (.int .i64 y1) ∧ W.cell? ⟨bk, ok + hN, none⟩ = some (.int .i64 y2)) W1 := by
      refine ⟨?_, ?_, ?_, ?_⟩
      · rw [keep1 _ (by simp)]; exact hSU.1
      · rw [keep1 _ (by simp; omega)]; exact hSU.2.1
      · rw [keep1 _ (by simp; omega)]; exact hSU.2.2.1
      · rw [keep1 _ (by simp; omega)]; exact hSU.2.2.2
    have hS2 : (fun W : World => W.cell? ⟨w.heap.size, 0, none⟩ = some (.slice (some ⟨bA, oA, none⟩) r.length c) ∧ W.cell? ⟨bA, oA + kN, none⟩ = some (.slice (some ⟨bk, ok, none⟩) n ck) ∧ W.cell? ⟨bk, ok + lN, none⟩ = some (.int .i64 y1) ∧ W.cell? ⟨bk, ok + hN, none⟩ = some (.int .i64 y2)) W2 := by
      refine ⟨?_, ?_, ?_, ?_⟩
      · rw [keep2 _ (by simp; omega)]; exact hS1.1
      · rw [keep2 _ (by simp; omega)]; exact hS1.2.1
      · rw [keep2 _ (by simp; omega)]; exact hS1.2.2.1
      · rw [keep2 _ (by simp; omega)]; exact hS1.2.2.2
    have u1 : U.cell? ⟨w.heap.size + 1, 0, none⟩ = some (.int .i64 lN) := by rw [hU]; exact hlo
    have u2 : U.frozen? ⟨w.heap.size + 1, 0, none⟩ = false := by rw [hU]; exact hflo
    have u3 : U.cell? ⟨w.heap.size + 1 + 1, 0, none⟩ = some (.int .i64 hN) := by rw [hU]; exact hhi
    have u4 : U.frozen? ⟨w.heap.size + 1 + 1, 0, none⟩ = false := by rw [hU]; exact hfhi
    have w3 : W1.cell? ⟨w.heap.size + 1 + 1, 0, none⟩ = some (.int .i64 hN) := by rw [keep1 _ (by simp)]; exact u3
    have w4 : W1.frozen? ⟨w.heap.size + 1 + 1, 0, none⟩ = false := by rw [hW1, World.frozen?_setCell]; exact u4
    have hfin : ∀ a' : Act, True := fun _ => trivial
    gi_wp2
    refine wpIn_region_heldNE (S := fun W : World => W.cell? ⟨w.heap.size, 0, none⟩ = some (.slice (some ⟨bA, oA, none⟩) r.length c) ∧ W.cell? ⟨bA, oA + kN, none⟩ = some (.slice (some ⟨bk, ok, none⟩) n ck) ∧ W.cell? ⟨bk, ok + lN, none⟩ = some (.int .i64 y1) ∧ W.cell? ⟨bk, ok + hN, none⟩ = some (.int .i64 y2)) (by kernel_rfl) (ne_all (by kernel_rfl)) ?_
    rw [← hU]
    have x1 : U.setCell ⟨w.heap.size + 1, 0, none⟩ (.int .i64 y1) = W1 := hW1.symm
    have x2 : W1.setCell ⟨w.heap.size + 1 + 1, 0, none⟩ (.int .i64 y2) = W2 := hW2.symm
    obtain ⟨hbx1, hbx2, hbx3, hbx4⟩ := hSU
    obtain ⟨hbx5, hbx6, hbx7, hbx8⟩ := hS1
    have hkO : KeepsOthers V W2 := by
      rw [hW2, hW1, hU]
      exact (KeepsOthers.trans (show KeepsOthers V V.drew from ⟨Nat.le_refl _, fun _ _ h _ => h⟩) (KeepsOthers.setCell _ _ _)).trans (KeepsOthers.setCell _ _ _)
    have hbVU : Below w.heap.size V U := by rw [hU]; exact (Below.refl _ _).drew
    have hbV2 : Below w.heap.size V W2 := by
      rw [hW2, hW1]
      exact (hbVU.setCell (p := ⟨w.heap.size + 1, 0, none⟩) (by simp) _).setCell (p := ⟨w.heap.size + 1 + 1, 0, none⟩) (by simp; omega) _
    have hkB : KpB w.heap.size (w.heap.size + 1 + 1 + 1) V W2 := ⟨hbV2, fun v hv => by rw [keep2 _ (by simp), keep1 _ (by simp; omega), hU]; exact hv⟩
    have hI2 : (W2.cell? ⟨w.heap.size + 1, 0, none⟩ = some (.int .i64 (accN r 0 tape (pre ++ [q]))) ∧ W2.frozen? ⟨w.heap.size + 1, 0, none⟩ = false) ∧ (W2.cell? ⟨w.heap.size + 1 + 1, 0, none⟩ = some (.int .i64 (accN r ((n : Int) - 1) tape (pre ++ [q]))) ∧ W2.frozen? ⟨w.heap.size + 1 + 1, 0, none⟩ = false) ∧ W2.cell? ⟨w.heap.size, 0, none⟩ = some (.slice (some ⟨bA, oA, none⟩) r.length c) ∧ Below w.heap.size w W2 := by
      refine ⟨⟨?_, ?_⟩, ⟨?_, ?_⟩, hS2.1, HWV.out.trans hbV2⟩
      · rw [keep2 _ (by simp), hW1, HA1.out]; exact World.cell?_setCell_same' _ _ _ (by rw [u1]; rfl)
      · rw [hW2, World.frozen?_setCell, hW1, World.frozen?_setCell]; exact u2
      · rw [hW2, HA2.out]; exact World.cell?_setCell_same' _ _ _ (by rw [w3]; rfl)
      · rw [hW2, World.frozen?_setCell]; exact w4
    have HK1 := hide hkO
    have HK2 := hide hkB
    have HK3 := hide hI2
    clear hkO hkB hI2 hbVU hbV2
    clear keep1 keep2 hbox hcellk hclo hchi hlo hflo hhi hfhi
    have HU := hide hU
    have HW1 := hide hW1
    have HW2 := hide hW2
    clear hU hW1 hW2 hfin
    refine wpAnyH_take (i := 0) (v := .slice (some ⟨bA, oA, none⟩) r.length c) rfl (by kernel_rfl) (by kernel_rfl) (by kernel_rfl) (fun _ _ _ h => panic_no h) (Or.inl ⟨by rfl, ?_⟩) ⟨hbx1, hbx2, hbx3, hbx4⟩ ?_
    · rintro w' ⟨q1, q2, q3, q4⟩
      go_simp
    try simp only [Act.put, List.setIfInBounds_toArray, List.set_cons_zero, List.set_cons_succ]
    refine wpAnyH_take (i := 1) (v := .int .i64 kN) rfl (by kernel_rfl) (by kernel_rfl) (by kernel_rfl) (fun _ _ _ h => panic_no h) (Or.inl ⟨by rfl, ?_⟩) ⟨hbx1, hbx2, hbx3, hbx4⟩ ?_
    · rintro w' ⟨q1, q2, q3, q4⟩
      go_simp
    try simp only [Act.put, List.setIfInBounds_toArray, List.set_cons_zero, List.set_cons_succ]
    refine wpAnyH_take (i := 2) (v := .pointer (some ⟨bA, oA + kN, none⟩)) rfl (by kernel_rfl) (by kernel_rfl) (by kernel_rfl) (fun _ _ _ h => panic_no h) (Or.inl ⟨by rfl, ?_⟩) ⟨hbx1, hbx2, hbx3, hbx4⟩ ?_
    · rintro w' ⟨q1, q2, q3, q4⟩
      go_simp
    try simp only [Act.put, List.setIfInBounds_toArray, List.set_cons_zero, List.set_cons_succ]
    refine wpAnyH_take (i := 3) (v := .slice (some ⟨bk, ok, none⟩) n ck) rfl (by kernel_rfl) (by kernel_rfl) (by kernel_rfl) (fun _ _ _ h => panic_no h) (Or.inl ⟨by rfl, ?_⟩) ⟨hbx1, hbx2, hbx3, hbx4⟩ ?_
    · rintro w' ⟨q1, q2, q3, q4⟩
      go_simp
    try simp only [Act.put, List.setIfInBounds_toArray, List.set_cons_zero, List.set_cons_succ]
    refine wpAnyH_take (i := 7) (v := .slice (some ⟨bA, oA, none⟩) r.length c) rfl (by kernel_rfl) (by kernel_rfl) (by kernel_rfl) (fun _ _ _ h => panic_no h) (Or.inl ⟨by rfl, ?_⟩) ⟨hbx1, hbx2, hbx3, hbx4⟩ ?_
    · rintro w' ⟨q1, q2, q3, q4⟩
      go_simp
    try simp only [Act.put, List.setIfInBounds_toArray, List.set_cons_zero, List.set_cons_succ]
    refine wpAnyH_take (i := 8) (v := .int .i64 kN) rfl (by kernel_rfl) (by kernel_rfl) (by kernel_rfl) (fun _ _ _ h => panic_no h) (Or.inl ⟨by rfl, ?_⟩) ⟨hbx1, hbx2, hbx3, hbx4⟩ ?_
    · rintro w' ⟨q1, q2, q3, q4⟩
      go_simp
    try simp only [Act.put, List.setIfInBounds_toArray, List.set_cons_zero, List.set_cons_succ]
    refine wpAnyH_take (i := 9) (v := .pointer (some ⟨bA, oA + kN, none⟩)) rfl (by kernel_rfl) (by kernel_rfl) (by kernel_rfl) (fun _ _ _ h => panic_no h) (Or.inl ⟨by rfl, ?_⟩) ⟨hbx1, hbx2, hbx3, hbx4⟩ ?_
    · rintro w' ⟨q1, q2, q3, q4⟩
      go_simp
    try simp only [Act.put, List.setIfInBounds_toArray, List.set_cons_zero, List.set_cons_succ]
    refine wpAnyH_take (i := 10) (v := .slice (some ⟨bk, ok, none⟩) n ck) rfl (by kernel_rfl) (by kernel_rfl) (by kernel_rfl) (fun _ _ _ h => panic_no h) (Or.inl ⟨by rfl, ?_⟩) ⟨hbx1, hbx2, hbx3, hbx4⟩ ?_
    · rintro w' ⟨q1, q2, q3, q4⟩
      go_simp
    try simp only [Act.put, List.setIfInBounds_toArray, List.set_cons_zero, List.set_cons_succ]
    refine wpAnyH_ready (rs := [4, 11]) (by kernel_rfl) (by simp) ?_
    refine AllReadyH.cons rfl (fun K hK => ?_) ?_
    · go_simp
      refine hK.out _ _ ?_ (fun hHeld => ?_)
      · exact ⟨hbx1, hbx2, hbx3, hbx4⟩
      clear hK K hHeld
      try simp only [Act.put, List.setIfInBounds_toArray, List.set_cons_zero, List.set_cons_succ]
      refine wpAnyH_take (i := 5) (v := .pointer (some ⟨bk, ok + lN, none⟩)) rfl (by kernel_rfl) (by kernel_rfl) (by kernel_rfl) (fun _ _ _ h => panic_no h) (Or.inl ⟨by rfl, ?_⟩) ⟨hbx1, hbx2, hbx3, hbx4⟩ ?_
      · rintro w' ⟨q1, q2, q3, q4⟩
        go_simp
      try simp only [Act.put, List.setIfInBounds_toArray, List.set_cons_zero, List.set_cons_succ]
      refine wpAnyH_take (i := 6) (v := .int .i64 y1) rfl (by kernel_rfl) (by kernel_rfl) (by kernel_rfl) (fun _ _ _ h => panic_no h) (Or.inl ⟨by rfl, ?_⟩) ⟨hbx1, hbx2, hbx3, hbx4⟩ ?_
      · rintro w' ⟨q1, q2, q3, q4⟩
        go_simp
      try simp only [Act.put, List.setIfInBounds_toArray, List.set_cons_zero, List.set_cons_succ]
      refine wpAnyH_ready (rs := [11, 14]) (by kernel_rfl) (by simp) ?_
      refine AllReadyH.cons rfl (fun K hK => ?_) ?_
      · go_simp
        refine hK.out _ _ ?_ (fun hHeld => ?_)
        · exact ⟨hbx1, hbx2, hbx3, hbx4⟩
        clear hK K hHeld
        try simp only [Act.put, List.setIfInBounds_toArray, List.set_cons_zero, List.set_cons_succ]
        refine wpAnyH_take (i := 12) (v := .pointer (some ⟨bk, ok + hN, none⟩)) rfl (by kernel_rfl) (by kernel_rfl) (by kernel_rfl) (fun _ _ _ h => panic_no h) (Or.inl ⟨by rfl, ?_⟩) ⟨hbx1, hbx2, hbx3, hbx4⟩ ?_
        · rintro w' ⟨q1, q2, q3, q4⟩
          go_simp
        try simp only [Act.put, List.setIfInBounds_toArray, List.set_cons_zero, List.set_cons_succ]
        refine wpAnyH_take (i := 13) (v := .int .i64 y2) rfl (by kernel_rfl) (by kernel_rfl) (by kernel_rfl) (fun _ _ _ h => panic_no h) (Or.inl ⟨by rfl, ?_⟩) ⟨hbx1, hbx2, hbx3, hbx4⟩ ?_
        · rintro w' ⟨q1, q2, q3, q4⟩
          go_simp
        try simp only [Act.put, List.setIfInBounds_toArray, List.set_cons_zero, List.set_cons_succ]
        refine wpAnyH_ready (rs := [14]) (by kernel_rfl) (by simp) ?_
        refine AllReadyH.cons rfl (fun K hK => ?_) ?_
        · go_simp
          refine hK.out _ _ ?_ (fun hHeld => ?_)
          · exact ⟨hbx5, hbx6, hbx7, hbx8⟩
          clear hK K hHeld
          try simp only [Act.put, List.setIfInBounds_toArray, List.set_cons_zero, List.set_cons_succ]
          refine wpAnyH_ready (rs := [15]) (by kernel_rfl) (by simp) ?_
          refine AllReadyH.cons rfl (fun K hK => ?_) ?_
          · go_simp
            refine hK.out _ _ ?_ (fun hHeld => ?_)
            · exact hS2
            clear hK K hHeld
            try simp only [Act.put, List.setIfInBounds_toArray, List.set_cons_zero, List.set_cons_succ]
            refine wpAnyH_done (by kernel_rfl) ⟨rfl, ?_⟩ _
            exact ⟨HK1.out, HK2.out, HK3.out⟩
          exact AllReadyH.nil
        exact AllReadyH.nil
      refine AllReadyH.cons rfl (fun K hK => ?_) ?_
      · go_simp
        refine hK.out _ _ ?_ (fun hHeld => ?_)
        · exact ⟨hbx5, hbx6, hbx7, hbx8⟩
        clear hK K hHeld
        try simp only [Act.put, List.setIfInBounds_toArray, List.set_cons_zero, List.set_cons_succ]
        refine wpAnyH_ready (rs := [11]) (by kernel_rfl) (by simp) ?_
        refine AllReadyH.cons rfl (fun K hK => ?_) ?_
        · go_simp
          refine hK.out _ _ ?_ (fun hHeld => ?_)
          · exact ⟨hbx5, hbx6, hbx7, hbx8⟩
          clear hK K hHeld
          try simp only [Act.put, List.setIfInBounds_toArray, List.set_cons_zero, List.set_cons_succ]
          refine wpAnyH_take (i := 12) (v := .pointer (some ⟨bk, ok + hN, none⟩)) rfl (by kernel_rfl) (by kernel_rfl) (by kernel_rfl) (fun _ _ _ h => panic_no h) (Or.inl ⟨by rfl, ?_⟩) ⟨hbx5, hbx6, hbx7, hbx8⟩ ?_
          · rintro w' ⟨q1, q2, q3, q4⟩
            go_simp
          try simp only [Act.put, List.setIfInBounds_toArray, List.set_cons_zero, List.set_cons_succ]
          refine wpAnyH_take (i := 13) (v := .int .i64 y2) rfl (by kernel_rfl) (by kernel_rfl) (by kernel_rfl) (fun _ _ _ h => panic_no h) (Or.inl ⟨by rfl, ?_⟩) ⟨hbx5, hbx6, hbx7, hbx8⟩ ?_
          · rintro w' ⟨q1, q2, q3, q4⟩
            go_simp
          try simp only [Act.put, List.setIfInBounds_toArray, List.set_cons_zero, List.set_cons_succ]
          refine wpAnyH_ready (rs := [15]) (by kernel_rfl) (by simp) ?_
          refine AllReadyH.cons rfl (fun K hK => ?_) ?_
          · go_simp
            refine hK.out _ _ ?_ (fun hHeld => ?_)
            · exact hS2
            clear hK K hHeld
            try simp only [Act.put, List.setIfInBounds_toArray, List.set_cons_zero, List.set_cons_succ]
            refine wpAnyH_done (by kernel_rfl) ⟨rfl, ?_⟩ _
            exact ⟨HK1.out, HK2.out, HK3.out⟩
          exact AllReadyH.nil
        exact AllReadyH.nil
      exact AllReadyH.nil
    refine AllReadyH.cons rfl (fun K hK => ?_) ?_
    · go_simp
      refine hK.out _ _ ?_ (fun hHeld => ?_)
      · exact ⟨hbx1, hbx2, hbx3, hbx4⟩
      clear hK K hHeld
      try simp only [Act.put, List.setIfInBounds_toArray, List.set_cons_zero, List.set_cons_succ]
      refine wpAnyH_take (i := 12) (v := .pointer (some ⟨bk, ok + hN, none⟩)) rfl (by kernel_rfl) (by kernel_rfl) (by kernel_rfl) (fun _ _ _ h => panic_no h) (Or.inl ⟨by rfl, ?_⟩) ⟨hbx1, hbx2, hbx3, hbx4⟩ ?_
      · rintro w' ⟨q1, q2, q3, q4⟩
        go_simp
      try simp only [Act.put, List.setIfInBounds_toArray, List.set_cons_zero, List.set_cons_succ]
      refine wpAnyH_take (i := 13) (v := .int .i64 y2) rfl (by kernel_rfl) (by kernel_rfl) (by kernel_rfl) (fun _ _ _ h => panic_no h) (Or.inl ⟨by rfl, ?_⟩) ⟨hbx1, hbx2, hbx3, hbx4⟩ ?_
      · rintro w' ⟨q1, q2, q3, q4⟩
        go_simp
      try simp only [Act.put, List.setIfInBounds_toArray, List.set_cons_zero, List.set_cons_succ]
      refine wpAnyH_ready (rs := [4]) (by kernel_rfl) (by simp) ?_
      refine AllReadyH.cons rfl (fun K hK => ?_) ?_
      · go_simp
        refine hK.out _ _ ?_ (fun hHeld => ?_)
        · exact ⟨hbx1, hbx2, hbx3, hbx4⟩
        clear hK K hHeld
        try simp only [Act.put, List.setIfInBounds_toArray, List.set_cons_zero, List.set_cons_succ]
        refine wpAnyH_take (i := 5) (v := .pointer (some ⟨bk, ok + lN, none⟩)) rfl (by kernel_rfl) (by kernel_rfl) (by kernel_rfl) (fun _ _ _ h => panic_no h) (Or.inl ⟨by rfl, ?_⟩) ⟨hbx1, hbx2, hbx3, hbx4⟩ ?_
        · rintro w' ⟨q1, q2, q3, q4⟩
          go_simp
        try simp only [Act.put, List.setIfInBounds_toArray, List.set_cons_zero, List.set_cons_succ]
        refine wpAnyH_take (i := 6) (v := .int .i64 y1) rfl (by kernel_rfl) (by kernel_rfl) (by kernel_rfl) (fun _ _ _ h => panic_no h) (Or.inl ⟨by rfl, ?_⟩) ⟨hbx1, hbx2, hbx3, hbx4⟩ ?_
        · rintro w' ⟨q1, q2, q3, q4⟩
          go_simp
        try simp only [Act.put, List.setIfInBounds_toArray, List.set_cons_zero, List.set_cons_succ]
        refine wpAnyH_ready (rs := [14]) (by kernel_rfl) (by simp) ?_
        refine AllReadyH.cons rfl (fun K hK => ?_) ?_
        · go_simp
          refine hK.out _ _ ?_ (fun hHeld => ?_)
          · exact ⟨hbx5, hbx6, hbx7, hbx8⟩
          clear hK K hHeld
          try simp only [Act.put, List.setIfInBounds_toArray, List.set_cons_zero, List.set_cons_succ]
          refine wpAnyH_ready (rs := [15]) (by kernel_rfl) (by simp) ?_
          refine AllReadyH.cons rfl (fun K hK => ?_) ?_
          · go_simp
            refine hK.out _ _ ?_ (fun hHeld => ?_)
            · exact hS2
            clear hK K hHeld
            try simp only [Act.put, List.setIfInBounds_toArray, List.set_cons_zero, List.set_cons_succ]
            refine wpAnyH_done (by kernel_rfl) ⟨rfl, ?_⟩ _
            exact ⟨HK1.out, HK2.out, HK3.out⟩
          exact AllReadyH.nil
        exact AllReadyH.nil
      exact AllReadyH.nil
    exact AllReadyH.nil
  case done =>
    rintro D ys V hD rfl ⟨⟨hlo, hflo⟩, ⟨hhi, hfhi⟩, hbox, hWV⟩ hK
    rw [accN_all] at hlo hhi
    obtain ⟨lo, hlo'⟩ : ∃ lo, comeTo r tape 0 = lo := ⟨_, rfl⟩
    obtain ⟨hi, hhi'⟩ : ∃ hi, comeTo r tape ((n : Int) - 1) = hi := ⟨_, rfl⟩
    rw [hlo'] at hlo
    rw [hhi'] at hhi
    have HLO := hide hlo'
    have HHI := hide hhi'
    obtain ⟨V2, hV2⟩ : ∃ V2, V2 = ((V.setCell ⟨w.heap.size + 1, 0, none⟩ (.int .i64 lo)).setCell ⟨w.heap.size + 1 + 1, 0, none⟩ (.int .i64 hi)).drew := ⟨_, rfl⟩
    have c4 : V2.cell? ⟨w.heap.size + 1, 0, none⟩ = some (.int .i64 lo) := by
      rw [hV2]
      show ((V.setCell _ _).setCell _ _).cell? _ = _
      rw [World.cell?_setCell_other _ _ _ _ (by simp)]
      exact World.cell?_setCell_same' _ _ _ (by rw [hlo]; rfl)
    have c5 : V2.cell? ⟨w.heap.size + 1 + 1, 0, none⟩ = some (.int .i64 hi) := by
      rw [hV2]
      show ((V.setCell _ _).setCell _ _).cell? _ = _
      exact World.cell?_setCell_same' _ _ _ (by rw [World.cell?_setCell_other _ _ _ _ (by simp), hhi]; rfl)
    have hDV : V2.heap[D]? = some (.deferred (some [])) := by
      rw [hV2]
      show ((V.setCell _ _).setCell _ _).heap[D]? = _
      rw [heap_set_other _ _ _ _ D (by omega), heap_set_other _ _ _ _ D (by omega)]
      exact hK
    have hbV : Below w.heap.size w V2 := by
      rw [hV2]
      exact ((hWV.setCell (p := ⟨w.heap.size + 1, 0, none⟩) (by simp) _).setCell (p := ⟨w.heap.size + 1 + 1, 0, none⟩) (by simp; omega) _).drew
    have HC4 := hide c4
    have HC5 := hide c5
    have HDV := hide hDV
    have HBV := hide hbV
    have HV2 := hide hV2
    clear hK hWV hbox HCT HRO hlo' hhi' c4 c5 hDV hbV hV2
    go_wp2_with (fail)
    go_region
    rw [← HV2.out]
    go_wp2_with (fail)
    refine leaves_marks w [D] V2 (by simp) (fun D' hD' => ?_) (fun w' hm => ⟨.tuple #[.int .i64 lo, .int .i64 hi], ?_, ?_⟩)
    · obtain rfl := List.mem_singleton.1 hD'
      exact ⟨by omega, HDV.out⟩
    · have g4 := hm.2 _ _ HC4.out
      have g5 := hm.2 _ _ HC5.out
      simp [results, Tryd.results33, go_sem, g4, g5]
    · exact ⟨by rw [HLO.out, HHI.out], Below.trans HBV.out hm.1⟩
theorem ends_ok (A B : Option Addr) (r : List (List Int)) (n : Nat) (tape : List Int) (c d : Nat) (w : World) (hA : Lists w A r) (hB : Ints w B tape) (hg : GoodRs r n) (ht : goodT r tape) (h0 : 0 < tape.length) (hl : tape.length ≤ 2000000) :
    Calls Tryd.prog 33 #[.slice A r.length c, .slice B tape.length d] w fun e w' => e = .returned (.tuple #[.int .i64 (comeTo r tape 0), .int .i64 (comeTo r tape ((n : Int) - 1))]) ∧ Below w.heap.size w w' := by
  obtain ⟨bT, oT, rfl, hbT, _⟩ := hB.at_ 0 h0
  exact ends_okB A bT oT r n tape c d w hA hB hbT hg ht hl
end Go.Proofs.YtioekjkfhbopkaaDoor

/- The walk of the law SampleValid. Condition: the variables read as laid; the argument is of modest bulk. -/
namespace Go.Proofs.YtioekjkfhbopkaaDoor
open Go.RowKit Go.Deep Go.Proofs.YtioekjkfhbopkaaDoorW.PrintWords

theorem sub23' {c : Nat} (h : c ∈ [2, 3]) : c ∈ codes := by
  simp at h
  rcases h with rfl | rfl <;> simp [codes]
theorem sub7' {c : Nat} (h : c ∈ [7]) : c ∈ codes := by
  simp at h
  subst h
  simp [codes]
set_option maxRecDepth 100000 in
set_option maxHeartbeats 4000000 in
theorem law_valid (A : Option Addr) (r : List (List Int)) (c : Nat) (w : World) (a : Nat → Addr) (hS : Sent codes w a) (hH : Handle w) (hA : Lists w A r) (hc : r.length ≤ c) (hm : r.length ≤ 2000000) (hf : r.flatten.length ≤ 2000000) :
    Calls Tryd.prog 6 #[.slice A r.length c] w fun e w' => e = .returned (.bool true) ∧ Below w.heap.size w w' := by
  have hlen := hA.len
  have HTH := hide (third_any w a (hS.toEnv))
  have hfw := fun w' (hb : Below w.heap.size w w') => fewS_ok A r c w' (hA.below hb) hc hm hf
  have HRE := hide (fun w' (hb : Below w.heap.size w w') => rulesError_ok A r c w' (hA.below hb) hc)
  have HLI := hide (fun w' (hb : Below w.heap.size w w') => listsS_ok A r c w' (hA.below hb) hc hm hf)
  obtain ⟨cc, hcc, hc8⟩ := rErr_nat r
  have hva := fun (A' : Option Addr) (x : Nat) w' (hb : Below w.heap.size w w') (h1 : Lists w' A' r) (hx : r.length ≤ x) => valid_any A' r x w' a ((hS.toEnv.sub (fun c h => sub23' h)).below hb) ((hS.toEnv.sub (fun c h => sub7' h)).below hb) h1 hx
  have hcd := fun w' (hb : Below w.heap.size w w') => coded_any w' a (hS.below hb) (hH.below hb) cc hc8 cc
  rw [decide_eq_true rfl] at hcd
  rw [hcc] at hva HRE
  have HVA := hide hva
  have HCD := hide hcd
  clear hva hcd hcc
  generalize errC a (cc : Int) = ev at HVA HCD
  cases hfe : fewS r with
  | true =>
    rw [hfe] at hfw
    have HFW := hide hfw
    clear hfw hfe
    go_enter Tryd.func6, Tryd.ntmps6
    go_wp2_with (first
      | (go_at_call 9; refine Calls.mono HTH.out ?_; rintro e w1 ⟨rfl, hB1⟩)
      | (go_at_call 10; refine Calls.mono (HFW.out _ (by assumption)) ?_; rintro e w2 ⟨rfl, b2⟩; have hB2 : Below w.heap.size w w2 := below_trans (by assumption) b2)
      | (go_at_call 12; refine Calls.mono (HLI.out _ (by assumption)) ?_; rintro e w3 ⟨A3, c3, rfl, hI3, hc3, b3⟩; have hB3 : Below w.heap.size w w3 := below_trans (by assumption) b3)
      | (go_at_call 24; refine Calls.mono (HVA.out A3 c3 _ (by assumption) hI3 hc3) ?_; rintro e w4 ⟨rfl, b4⟩; have hB4 : Below w.heap.size w w4 := below_trans (by assumption) b4)
      | (go_at_call 25; refine Calls.mono (HRE.out _ (by assumption)) ?_; rintro e w5 ⟨rfl, b5⟩; have hB5 : Below w.heap.size w w5 := below_trans (by assumption) b5)
      | (go_at_call 18; refine Calls.mono (HCD.out _ (by assumption)) ?_; rintro e w6 ⟨rfl, b6⟩; have hB6 : Below w.heap.size w w6 := below_trans (by assumption) b6))
    go_ret
    exact ⟨rfl, hB6⟩
  | false =>
    rw [hfe] at hfw
    have HFW := hide hfw
    clear hfw hfe
    go_enter Tryd.func6, Tryd.ntmps6
    go_wp2_with (first
      | (go_at_call 9; refine Calls.mono HTH.out ?_; rintro e w1 ⟨rfl, hB1⟩)
      | (go_at_call 10; refine Calls.mono (HFW.out _ (by assumption)) ?_; rintro e w2 ⟨rfl, b2⟩; have hB2 : Below w.heap.size w w2 := below_trans (by assumption) b2))
    go_ret
    exact ⟨rfl, hB2⟩
end Go.Proofs.YtioekjkfhbopkaaDoor

/- The walk of sample.Past. Condition: the variables read as laid. -/
namespace Go.Proofs.YtioekjkfhbopkaaDoor
open Go.RowKit Go.Deep Go.Proofs.YtioekjkfhbopkaaDoorW.PrintWords

theorem subD23 {c : Nat} (h : c ∈ [2, 3]) : c ∈ codesD := by
  simp at h
  rcases h with rfl | rfl <;> simp [codesD]
theorem subD7 {c : Nat} (h : c ∈ [7]) : c ∈ codesD := by
  simp at h
  subst h
  simp [codesD]
theorem results_tmp4 {fn : Func} {t u v x : Tmp} (h : fn.results = #[.tmp t, .tmp u, .tmp v, .tmp x]) (tmps : Array Value) (P : Program) (w : World) :
    (results fn tmps).run P w = .ok (.tuple #[tmps.getD t undef, tmps.getD u undef, tmps.getD v undef, tmps.getD x undef]) w := by
  simp [results, h]

set_option maxRecDepth 100000 in
set_option maxHeartbeats 4000000 in
theorem past_good (A B : Option Addr) (r : List (List Int)) (tape : List Int) (c d : Nat) (w : World) (a : Nat → Addr) (hE : Env codesD w a) (hA : Lists w A r) (hB : Ints w B tape) (hc : r.length ≤ c) (hd : tape.length ≤ d) (h0 : rErr r = 0) (ht : goodT r tape) (hl : tape.length ≤ 4000) :
    Calls Tryd.prog 11 #[.slice A r.length c, .slice B tape.length d] w fun e w' => e = .returned (.tuple #[.int .i64 (pastR r (r.getD 0 []).length tape).1, .int .i64 (pastR r (r.getD 0 []).length tape).2.1, .bool (pastR r (r.getD 0 []).length tape).2.2, .nilIface]) ∧ Below w.heap.size w w' := by
  have hg := good_rules h0
  have hlen := hB.len
  have hv := valid_any A r c w a (hE.sub (fun c h => subD23 h)) (hE.sub (fun c h => subD7 h)) hA hc
  rw [h0, errC_zero] at hv
  have HV := hide hv
  have hend := fun (k : Nat) (hk : 0 < k) (hkl : k ≤ tape.length) w' (hb : Below w.heap.size w w') => ends_ok A B r _ (tape.take k) c d w' (hA.below hb) (Ints.take (hB.below hb) k) hg (ht.take k) (by rw [List.length_take]; omega) (by rw [List.length_take]; omega)
  have hend2 : ∀ (k : Nat) (hk : 0 < k) (hkl : k ≤ tape.length) w' (hb : Below w.heap.size w w'), Calls Tryd.prog 33 #[.slice A r.length c, .slice B k d] w' fun e w'' => e = .returned (.tuple #[.int .i64 (comeTo r (tape.take k) 0), .int .i64 (comeTo r (tape.take k) (((r.getD 0 []).length : Int) - 1))]) ∧ Below w'.heap.size w' w'' := fun k hk hkl w' hb => by
    have := hend k hk hkl w' hb
    rw [show (tape.take k).length = k by rw [List.length_take]; omega] at this
    exact this
  have HEND := hide hend2
  have HST := hide (fun n hn hl => pastF_step r (r.getD 0 []).length tape n hn hl)
  have HPE := hide (fun f n h => pastF_end r (r.getD 0 []).length tape f n h)
  have hpr : pastF r (r.getD 0 []).length tape (tape.length + 1 - 1) 1 = pastR r (r.getD 0 []).length tape := pastF_fuel _ _ _ _ _ _ (by omega) (by omega) (by omega)
  generalize pastR r (r.getD 0 []).length tape = res at hpr ⊢
  generalize (r.getD 0 []).length = m at hend hend2 HEND HST HPE hpr
  have HPR := hide hpr
  have HTG := hide ht
  have HBL := hide (fun w' (hb : Below w.heap.size w w') => hB.below hb)
  have hl' : (tape.length : Int) ≤ 4000 := by omega
  clear hv hend hend2 hpr ht hg h0 hE
  go_enter Tryd.func11, Tryd.ntmps11
  go_wp2_with (go_at_call 24; refine Calls.mono HV.out ?_; rintro e w1 ⟨rfl, hB1⟩)
  go_loopw [25] (fun iv wr => ∃ i : Nat, i ≤ tape.length ∧ iv = .int .i64 i ∧ Below w.heap.size w wr) (fun iv _ => tape.length - (intOf iv).toNat)
  case atStart => exact ⟨0, Nat.zero_le _, rfl, hB1⟩
  case round =>
    obtain ⟨i, hi, rfl, hBi⟩ := hrel
    obtain ⟨wi, rfl⟩ : ∃ wi : World, wi = wr := ⟨_, rfl⟩
    have i0 : (0 : Int) ≤ (i : Int) := Int.natCast_nonneg _
    by_cases hil : i < tape.length
    · have i1 : (i : Int) < (tape.length : Int) := by omega
      obtain ⟨b, off, rfl, _, hcell⟩ := (HBL.out wi hBi).at_ i hil
      have hx := HTG.out i hil
      generalize tape.getD i 0 = x at hcell hx
      obtain ⟨x0, x1⟩ := hx
      go_wp2_with (fail)
      go_roundw
      case rel => exact ⟨i + 1, by omega, by go_num, hBi⟩
      case measure => simp [intOf]; omega
    · obtain rfl : i = tape.length := by omega
      clear i0 hil hi
      go_wp2_with (fail)
      go_loopw [11] (fun kv wr => ∃ k : Nat, 0 < k ∧ k ≤ 2 * tape.length + 1 ∧ kv = .int .i64 k ∧ Hid (pastF r m tape (tape.length + 1 - k) k = res) ∧ Below w.heap.size w wr) (fun kv _ => 2 * tape.length + 2 - (intOf kv).toNat)
      case atStart => exact ⟨1, by omega, by omega, rfl, HPR, hBi⟩
      case round =>
        obtain ⟨k, hk0, hk2, rfl, HR, hBk⟩ := hrel
        obtain ⟨wk, rfl⟩ : ∃ wk : World, wk = wr := ⟨_, rfl⟩
        have k0 : (0 : Int) < (k : Int) := by omega
        by_cases hkl : k ≤ tape.length
        · have k1 : (k : Int) ≤ (tape.length : Int) := by omega
          have k2 : (k : Int) ≤ (d : Int) := by omega
          have HE1 := hide (HEND.out k hk0 hkl wk hBk)
          have hst := HST.out k hk0 hkl
          rw [HR.out] at hst
          generalize comeTo r (tape.take k) 0 = lo at HE1 hst
          generalize comeTo r (tape.take k) ((m : Int) - 1) = hi' at HE1 hst
          by_cases he : lo = hi'
          · rw [if_pos he] at hst
            have HS := hide hst
            clear hst
            subst he
            go_wp2_with (go_at_call 33; refine Calls.mono HE1.out ?_; rintro e w5 ⟨rfl, b5⟩)
            (try simp only [Exit.inBlock, Exit.then]); refine bodyPost_ret (results_tmp4 rfl _ _ _) rfl ?_
            exact ⟨by rw [HS.out]; rfl, below_trans hBk b5⟩
          · rw [if_neg he] at hst
            have HS := hide hst.symm
            have he' : (lo == hi') = false := beq_eq_false_iff_ne.2 he
            clear hst
            go_wp2_with (go_at_call 33; refine Calls.mono HE1.out ?_; rintro e w5 ⟨rfl, b5⟩)
            go_roundw
            case rel => exact ⟨k * 2, by omega, by omega, by go_num, HS, below_trans hBk b5⟩
            case measure => simp [intOf]; omega
        · have k1 : (tape.length : Int) < (k : Int) := by omega
          have hre : res = (0, 0, false) := by rw [← HR.out]; exact HPE.out _ k (by omega)
          have HRE := hide hre
          clear hre
          go_wp2_with (fail)
          (try simp only [Exit.inBlock, Exit.then]); refine bodyPost_ret (results_tmp4 rfl _ _ _) rfl ?_
          exact ⟨by rw [HRE.out]; rfl, hBk⟩

set_option maxHeartbeats 2000000 in
theorem past_rules (A B : Option Addr) (r : List (List Int)) (tape : List Int) (c d : Nat) (w : World) (a : Nat → Addr) (hE : Env codesD w a) (hA : Lists w A r) (hc : r.length ≤ c) (h0 : rErr r ≠ 0) :
    Calls Tryd.prog 11 #[.slice A r.length c, .slice B tape.length d] w fun e w' => e = .returned (.tuple #[.int .i64 0, .int .i64 0, .bool false, .iface 160 (.pointer (some (a (rErr r).toNat)))]) ∧ Below w.heap.size w w' := by
  have hv := valid_any A r c w a (hE.sub (fun c h => subD23 h)) (hE.sub (fun c h => subD7 h)) hA hc
  rw [errC_pos' a h0] at hv
  generalize a (rErr r).toNat = x at hv ⊢
  have HV := hide hv
  clear hv h0 hE
  go_enter Tryd.func11, Tryd.ntmps11
  go_wp2_with (go_at_call 24; refine Calls.mono HV.out ?_; rintro e w1 ⟨rfl, hB1⟩)
  (try simp only [Exit.inBlock, Exit.then]); refine bodyPost_ret (results_tmp4 rfl _ _ _) rfl ?_
  exact ⟨rfl, hB1⟩
/-- the first place of a tape that names no rule -/
def FirstBadT (r : List (List Int)) (tape : List Int) (i : Nat) : Prop := i < tape.length ∧ ¬ (0 ≤ tape.getD i 0 ∧ tape.getD i 0 < r.length) ∧ ∀ j, j < i → 0 ≤ tape.getD j 0 ∧ tape.getD j 0 < r.length
set_option maxRecDepth 100000 in
set_option maxHeartbeats 4000000 in
theorem past_tape (A B : Option Addr) (r : List (List Int)) (tape : List Int) (c d : Nat) (w : World) (a : Nat → Addr) (hE : Env codesD w a) (hA : Lists w A r) (hB : Ints w B tape) (hc : r.length ≤ c) (h0 : rErr r = 0) (hl : tape.length ≤ 4000) {bad : Nat} (hbad : FirstBadT r tape bad) :
    Calls Tryd.prog 11 #[.slice A r.length c, .slice B tape.length d] w fun e w' => ∃ g, e = .returned (.tuple #[.int .i64 0, .int .i64 0, .bool false, .iface 67 (.pointer (some ⟨g, 0, none⟩))]) ∧ g < w'.heap.size ∧ w'.cell? ⟨g, 0, none⟩ = some (.int .i64 bad) ∧ w'.cell? ⟨g, 1, none⟩ = some (.iface 160 (.pointer (some (a 3)))) ∧ Below w.heap.size w w' := by
  have hlen := hB.len
  have hv := valid_any A r c w a (hE.sub (fun c h => subD23 h)) (hE.sub (fun c h => subD7 h)) hA hc
  rw [h0, errC_zero] at hv
  have HV := hide hv
  have HBL := hide (fun w' (hb : Below w.heap.size w w') => hB.below hb)
  have HEN := hide (fun w' (h : Below w.heap.size w w') => (show w'.cell? ⟨1, 0, none⟩ = some (.iface 160 (.pointer (some (a 3)))) from (hE.below h).cell 3 (by decide)))
  have hl' : (tape.length : Int) ≤ 4000 := by omega
  obtain ⟨hbl, hb1, hb2⟩ := hbad
  have HB2 := hide hb2
  have HB1 := hide hb1
  clear hv h0 hE hb1 hb2
  go_enter Tryd.func11, Tryd.ntmps11
  go_wp2_with (go_at_call 24; refine Calls.mono HV.out ?_; rintro e w1 ⟨rfl, hB1⟩)
  go_loopw [25] (fun iv wr => ∃ i : Nat, i ≤ bad ∧ iv = .int .i64 i ∧ Below w.heap.size w wr) (fun iv _ => tape.length - (intOf iv).toNat)
  case atStart => exact ⟨0, Nat.zero_le _, rfl, hB1⟩
  case round =>
    obtain ⟨i, hi, rfl, hBi⟩ := hrel
    obtain ⟨wi, rfl⟩ : ∃ wi : World, wi = wr := ⟨_, rfl⟩
    have i0 : (0 : Int) ≤ (i : Int) := Int.natCast_nonneg _
    have hil : i < tape.length := by omega
    have i1 : (i : Int) < (tape.length : Int) := by omega
    obtain ⟨b, off, rfl, _, hcell⟩ := (HBL.out wi hBi).at_ i hil
    have k3 := HEN.out wi hBi
    by_cases e : i = bad
    · subst e
      have hx := HB1.out
      generalize tape.getD i 0 = x at hcell hx
      by_cases x0 : x < 0
      · clear hx
        go_wp2_with (fail)
        go_region
        all_goals go_wp2_with (fail)
        all_goals ((try simp only [Exit.inBlock, Exit.then]); refine bodyPost_ret (results_tmp4 rfl _ _ _) rfl ?_)
        all_goals exact ⟨wi.heap.size, rfl, by simp, by simp, by simp, by first | exact (hBi.alloc hBi.size _).drew | exact hBi.drew.alloc hBi.size _ | exact below_drewN' (hBi.alloc hBi.size _) _⟩
      · have x1 : (r.length : Int) ≤ x := by omega
        clear hx
        go_wp2_with (fail)
        go_region
        all_goals go_wp2_with (fail)
        all_goals ((try simp only [Exit.inBlock, Exit.then]); refine bodyPost_ret (results_tmp4 rfl _ _ _) rfl ?_)
        all_goals exact ⟨wi.heap.size, rfl, by simp, by simp, by simp, by first | exact (hBi.alloc hBi.size _).drew | exact hBi.drew.alloc hBi.size _ | exact below_drewN' (hBi.alloc hBi.size _) _⟩
    · have hx := HB2.out i (by omega)
      generalize tape.getD i 0 = x at hcell hx
      obtain ⟨x0, x1⟩ := hx
      go_wp2_with (fail)
      go_roundw
      case rel => exact ⟨i + 1, by omega, by go_num, hBi⟩
      case measure => simp [intOf]; omega
end Go.Proofs.YtioekjkfhbopkaaDoor
