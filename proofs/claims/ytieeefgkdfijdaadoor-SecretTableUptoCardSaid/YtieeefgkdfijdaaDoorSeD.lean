/- The walk of the law SecretTable. Condition: the variables read as laid; the arguments are of modest bulk. -/
import Derived.Test.YtieeefgkdfijdaaDoorSeB
namespace Go.Proofs.YtieeefgkdfijdaaDoor
open Go.RowKit Go.Deep Go.Proofs.YtieeefgkdfijdaaDoorW.PrintWords

set_option maxRecDepth 100000 in
set_option maxHeartbeats 8000000 in
theorem law_table_bad (Ka La Wa : Option Addr) (K : List Int) (L : List (List Int)) (W : List Int) (kc lc wc : Nat) (w : World) (a : Nat → Addr) (hS : Sent codes w a) (hH : Handle w) (hK : Ints w Ka K) (hL : Lists w La L) (hW : Ints w Wa W) (hkc : K.length ≤ kc) (hlc : L.length ≤ lc) (hwc : W.length ≤ wc) (hK2 : K.length ≤ 2000000) (hl : L.length ≤ 2000000) (hf : L.flatten.length ≤ 2000000)
    (hbad : ¬ (fewKeysOf K L = true ∧ W.length ≤ 100 ∧ ccode K L = 0 ∧ wErr W = 0 ∧ W.length = (L.getD 0 []).length)) :
    Calls Tryd.prog 6 #[.agg #[.slice Ka K.length kc, .slice La L.length lc], .slice Wa W.length wc] w fun e w' => e = .returned (.bool true) ∧ Below w.heap.size w w' := by
  have hw0 : Below w.heap.size w (w.alloc (.cells #[.slice Ka K.length kc, .slice La L.length lc] 39)) := below_alloc' (Below.refl _ _) _
  have HW0 := hide hw0
  have HE : Hid (∀ w', Below (w.alloc (.cells #[.slice Ka K.length kc, .slice La L.length lc] 39)).heap.size (w.alloc (.cells #[.slice Ka K.length kc, .slice La L.length lc] 39)) w' → Env [2, 3] w' a) := hide fun w' hb => (hS.toEnv.sub (fun c h => sub23 h)).below (below_trans hw0 hb)
  have HBX : Hid (∀ w', Below (w.alloc (.cells #[.slice Ka K.length kc, .slice La L.length lc] 39)).heap.size (w.alloc (.cells #[.slice Ka K.length kc, .slice La L.length lc] 39)) w' → w'.cell? ⟨w.heap.size, 0, none⟩ = some (.slice Ka K.length kc) ∧ w'.cell? ⟨w.heap.size, 1, none⟩ = some (.slice La L.length lc) ∧ w.heap.size < w'.heap.size) := hide fun w' hb => by
    refine ⟨?_, ?_, by have := hb.size; simp at this; omega⟩
    · rw [hb.cell (p := ⟨w.heap.size, 0, none⟩) (by simp)]; simp
    · rw [hb.cell (p := ⟨w.heap.size, 1, none⟩) (by simp)]; simp
  have HPAD := hide (fun w' (hb : Below (w.alloc (.cells #[.slice Ka K.length kc, .slice La L.length lc] 39)).heap.size (w.alloc (.cells #[.slice Ka K.length kc, .slice La L.length lc] 39)) w') => pad_any w' a (HE.out w' hb))
  have HFK := hide (fun w' (hb : Below (w.alloc (.cells #[.slice Ka K.length kc, .slice La L.length lc] 39)).heap.size (w.alloc (.cells #[.slice Ka K.length kc, .slice La L.length lc] 39)) w') => fewKeys_ok Ka La K L kc lc w' (hK.below (below_trans hw0 hb)) (hL.below (below_trans hw0 hb)) hkc hlc hl hf)
  have HCE := hide (fun w' (hb : Below (w.alloc (.cells #[.slice Ka K.length kc, .slice La L.length lc] 39)).heap.size (w.alloc (.cells #[.slice Ka K.length kc, .slice La L.length lc] 39)) w') => cipherError_any Ka La K L kc lc w' (hK.below (below_trans hw0 hb)) (hL.below (below_trans hw0 hb)) hkc hlc hK2)
  have HCI := hide (fun w' (hb : Below (w.alloc (.cells #[.slice Ka K.length kc, .slice La L.length lc] 39)).heap.size (w.alloc (.cells #[.slice Ka K.length kc, .slice La L.length lc] 39)) w') => cipher_ok Ka La K L kc lc w' (hK.below (below_trans hw0 hb)) (hL.below (below_trans hw0 hb)) hkc hlc hK2 hl hf)
  by_cases hfew : fewKeysOf K L = true
  · rw [hfew] at HFK
    by_cases h100 : W.length ≤ 100
    · have HIN := hide (fun w' (hb : Below (w.alloc (.cells #[.slice Ka K.length kc, .slice La L.length lc] 39)).heap.size (w.alloc (.cells #[.slice Ka K.length kc, .slice La L.length lc] 39)) w') => intsS_ok Wa W wc w' (hW.below (below_trans hw0 hb)) hwc (by omega))
      have HNN := hide (fun w' (_ : Below (w.alloc (.cells #[.slice Ka K.length kc, .slice La L.length lc] 39)).heap.size (w.alloc (.cells #[.slice Ka K.length kc, .slice La L.length lc] 39)) w') => sameLists_ok none none [] [] 0 0 w' (Lists.nil w' _) (Lists.nil w' _) (Nat.le_refl _) (Nat.le_refl _) (by simp) (by simp))
      have h100' : (W.length : Int) ≤ 100 := by omega
      by_cases h0 : ccode K L = 0
      · rw [h0] at HCE
        have HWE := hide (fun w' (hb : Below (w.alloc (.cells #[.slice Ka K.length kc, .slice La L.length lc] 39)).heap.size (w.alloc (.cells #[.slice Ka K.length kc, .slice La L.length lc] 39)) w') => weights_ok Wa W wc w' (hW.below (below_trans hw0 hb)) hwc (by omega))
        have hL0 : 0 < L.length := by have := (keys_good (ccode_zero h0).keys).2.2.2; have := (ccode_zero h0).len; omega
        by_cases h1 : wErr W = 0
        · rw [h1] at HWE
          have h2 : W.length ≠ (L.getD 0 []).length := fun e => hbad ⟨hfew, h100, h0, h1, e⟩
          have HTB := hide (fun (A : Option Addr) (x : Nat) (B : Option Addr) (y : Nat) (C : Option Addr) (z : Nat) w' (hI : Ints w' A K) (hLs : Lists w' B L) (hIw : Ints w' C W) (hb : Below (w.alloc (.cells #[.slice Ka K.length kc, .slice La L.length lc] 39)).heap.size (w.alloc (.cells #[.slice Ka K.length kc, .slice La L.length lc] 39)) w') => table_err3 A B C K L W x y z w' a (HE.out w' hb) hI hLs hIw h0 h1 h2)
          have hcd := fun w' (hb : Below (w.alloc (.cells #[.slice Ka K.length kc, .slice La L.length lc] 39)).heap.size (w.alloc (.cells #[.slice Ka K.length kc, .slice La L.length lc] 39)) w') => coded_any w' a (hS.below (below_trans HW0.out hb)) (hH.below (below_trans HW0.out hb)) 3 (by decide) 3
          rw [decide_eq_true (by rfl)] at hcd
          have HCD := hide hcd
          obtain ⟨b, off, A0, c0, rfl, hb, d0, hle, hI⟩ := hL.at_ 0 hL0
          have HD0 := hide (fun w' (h : Below (w.alloc (.cells #[.slice Ka K.length kc, .slice (some ⟨b, off, none⟩) L.length lc] 39)).heap.size (w.alloc (.cells #[.slice Ka K.length kc, .slice (some ⟨b, off, none⟩) L.length lc] 39)) w') => show w'.cell? ⟨b, off, none⟩ = some (.slice A0 (L.getD 0 []).length c0) from ((below_trans HW0.out h).cell (p := ⟨b, off, none⟩) hb).trans d0)
          have i0 : (0 : Int) < (L.length : Int) := by omega
          generalize (L.getD 0 []).length = n at HD0 h2
          have hne : ((W.length : Int) != (n : Int)) = true := by rw [bne_iff_ne]; omega
          clear hcd h1 h0 hfew hw0 hbad d0 hI hle h2 hb
          go_enter Tryd.func6, Tryd.ntmps6
          go_wp2_with (first
            | (go_at_call 17; refine Calls.mono (HPAD.out _ (Below.refl _ _)) ?_; rintro e w1 ⟨rfl, hB1⟩; obtain ⟨y0, y1, y2⟩ := HBX.out w1 hB1)
            | (go_at_call 18; refine Calls.mono (HFK.out w1 hB1) ?_; rintro e w2 ⟨rfl, b2⟩; have hB2 := below_trans hB1 b2; obtain ⟨z0, z1, z2⟩ := HBX.out w2 hB2)
            | (go_at_call 19; refine Calls.mono (HCE.out w2 hB2) ?_; rintro e w3 ⟨rfl, b3⟩; have hB3 := below_trans hB2 b3; obtain ⟨u0, u1, u2⟩ := HBX.out w3 hB3)
            | (go_at_call 28; refine Calls.mono (HWE.out w3 hB3) ?_; rintro e w4 ⟨rfl, b4⟩; have hB4 := below_trans hB3 b4; obtain ⟨t0, t1, t2⟩ := HBX.out w4 hB4; have t3 := HD0.out w4 hB4)
            | (go_at_call 32; refine Calls.mono (HNN.out w9 hB9) ?_; rintro e w10 ⟨rfl, b10⟩; have hB10 := below_trans hB9 b10)
            | (go_at_call 24; refine Calls.mono (HCD.out w8 hB8) ?_; rintro e w9 ⟨rfl, b9⟩; have hB9 := below_trans hB8 b9)
            | (go_at_call 30; refine Calls.mono (HTB.out A6 c6 B6 d6 A7 c7 w7 (hI6.below b7) (hL6.below b7) hI7 hB7) ?_; rintro e w8 ⟨rfl, b8⟩; have hB8 := below_trans hB7 b8)
            | (go_at_call 31; refine Calls.mono (HIN.out w6 hB6) ?_; rintro e w7 ⟨A7, c7, rfl, hI7, hc7, b7⟩; have hB7 := below_trans hB6 b7)
            | (go_at_call 23; refine Calls.mono (HCI.out w4 hB4) ?_; rintro e w6 ⟨A6, c6, B6, d6, rfl, hI6, hc6, hL6, hd6, b6⟩; have hB6 := below_trans hB4 b6))
          go_ret
          exact ⟨rfl, below_trans HW0.out hB10⟩
        · obtain ⟨c, hc, hc8⟩ := wErr_nat W
          have hc0 : 0 < c := by
            rcases Nat.eq_zero_or_pos c with h | h
            · subst h; exact absurd hc h1
            · exact h
          have htb := fun (A : Option Addr) (x : Nat) (B : Option Addr) (y : Nat) (C : Option Addr) (z : Nat) w' (hI : Ints w' A K) (hLs : Lists w' B L) (hIw : Ints w' C W) (hb : Below (w.alloc (.cells #[.slice Ka K.length kc, .slice La L.length lc] 39)).heap.size (w.alloc (.cells #[.slice Ka K.length kc, .slice La L.length lc] 39)) w') => table_err2 A B C K L W x y z w' a (HE.out w' hb) hI hLs hIw h0 h1
          have hcd := fun w' (hb : Below (w.alloc (.cells #[.slice Ka K.length kc, .slice La L.length lc] 39)).heap.size (w.alloc (.cells #[.slice Ka K.length kc, .slice La L.length lc] 39)) w') => coded_any w' a (hS.below (below_trans HW0.out hb)) (hH.below (below_trans HW0.out hb)) c hc8 c
          rw [hc] at htb HWE
          rw [decide_eq_true rfl] at hcd
          have he : errC a (c : Int) = .iface 161 (.pointer (some (a c))) := errC_pos a c (by omega)
          rw [he] at htb hcd
          have HTB := hide htb
          have HCD := hide hcd
          have hci : 0 < (c : Int) := by omega
          have hcn : ((c : Int) == 0) = false := by rw [beq_eq_false_iff_ne]; omega
          clear htb hcd he hc h0 h1 hfew hw0 hbad
          go_enter Tryd.func6, Tryd.ntmps6
          go_wp2_with (first
            | (go_at_call 17; refine Calls.mono (HPAD.out _ (Below.refl _ _)) ?_; rintro e w1 ⟨rfl, hB1⟩; obtain ⟨y0, y1, y2⟩ := HBX.out w1 hB1)
            | (go_at_call 18; refine Calls.mono (HFK.out w1 hB1) ?_; rintro e w2 ⟨rfl, b2⟩; have hB2 := below_trans hB1 b2; obtain ⟨z0, z1, z2⟩ := HBX.out w2 hB2)
            | (go_at_call 19; refine Calls.mono (HCE.out w2 hB2) ?_; rintro e w3 ⟨rfl, b3⟩; have hB3 := below_trans hB2 b3; obtain ⟨u0, u1, u2⟩ := HBX.out w3 hB3)
            | (go_at_call 28; refine Calls.mono (HWE.out w3 hB3) ?_; rintro e w4 ⟨rfl, b4⟩; have hB4 := below_trans hB3 b4; obtain ⟨t0, t1, t2⟩ := HBX.out w4 hB4)
            | (go_at_call 32; refine Calls.mono (HNN.out w9 hB9) ?_; rintro e w10 ⟨rfl, b10⟩; have hB10 := below_trans hB9 b10)
            | (go_at_call 24; refine Calls.mono (HCD.out w8 hB8) ?_; rintro e w9 ⟨rfl, b9⟩; have hB9 := below_trans hB8 b9)
            | (go_at_call 30; refine Calls.mono (HTB.out A6 c6 B6 d6 A7 c7 w7 (hI6.below b7) (hL6.below b7) hI7 hB7) ?_; rintro e w8 ⟨rfl, b8⟩; have hB8 := below_trans hB7 b8)
            | (go_at_call 31; refine Calls.mono (HIN.out w6 hB6) ?_; rintro e w7 ⟨A7, c7, rfl, hI7, hc7, b7⟩; have hB7 := below_trans hB6 b7)
            | (go_at_call 23; refine Calls.mono (HCI.out w4 hB4) ?_; rintro e w6 ⟨A6, c6, B6, d6, rfl, hI6, hc6, hL6, hd6, b6⟩; have hB6 := below_trans hB4 b6))
          go_ret
          exact ⟨rfl, below_trans HW0.out hB10⟩
      · obtain ⟨c, hc, hc8⟩ := ccode_nat K L
        have hc0 : 0 < c := by
          rcases Nat.eq_zero_or_pos c with h | h
          · subst h; exact absurd hc h0
          · exact h
        have htb := fun (A : Option Addr) (x : Nat) (B : Option Addr) (y : Nat) (C : Option Addr) (z : Nat) w' (hI : Ints w' A K) (hLs : Lists w' B L) (_hIw : Ints w' C W) (hb : Below (w.alloc (.cells #[.slice Ka K.length kc, .slice La L.length lc] 39)).heap.size (w.alloc (.cells #[.slice Ka K.length kc, .slice La L.length lc] 39)) w') => table_err1 A B C K L W x y z w' a (HE.out w' hb) hI hLs h0
        have hcd := fun w' (hb : Below (w.alloc (.cells #[.slice Ka K.length kc, .slice La L.length lc] 39)).heap.size (w.alloc (.cells #[.slice Ka K.length kc, .slice La L.length lc] 39)) w') => coded_any w' a (hS.below (below_trans HW0.out hb)) (hH.below (below_trans HW0.out hb)) c hc8 c
        rw [hc] at htb HCE
        rw [decide_eq_true rfl] at hcd
        have he : errC a (c : Int) = .iface 161 (.pointer (some (a c))) := errC_pos a c (by omega)
        rw [he] at htb hcd
        have HTB := hide htb
        have HCD := hide hcd
        have hci : 0 < (c : Int) := by omega
        have hcn : ((c : Int) == 0) = false := by rw [beq_eq_false_iff_ne]; omega
        clear htb hcd he hc h0 hfew hw0 hbad
        go_enter Tryd.func6, Tryd.ntmps6
        go_wp2_with (first
          | (go_at_call 17; refine Calls.mono (HPAD.out _ (Below.refl _ _)) ?_; rintro e w1 ⟨rfl, hB1⟩; obtain ⟨y0, y1, y2⟩ := HBX.out w1 hB1)
          | (go_at_call 18; refine Calls.mono (HFK.out w1 hB1) ?_; rintro e w2 ⟨rfl, b2⟩; have hB2 := below_trans hB1 b2; obtain ⟨z0, z1, z2⟩ := HBX.out w2 hB2)
          | (go_at_call 19; refine Calls.mono (HCE.out w2 hB2) ?_; rintro e w3 ⟨rfl, b3⟩; have hB3 := below_trans hB2 b3; obtain ⟨u0, u1, u2⟩ := HBX.out w3 hB3)
          | (go_at_call 32; refine Calls.mono (HNN.out w9 hB9) ?_; rintro e w10 ⟨rfl, b10⟩; have hB10 := below_trans hB9 b10)
          | (go_at_call 24; refine Calls.mono (HCD.out w8 hB8) ?_; rintro e w9 ⟨rfl, b9⟩; have hB9 := below_trans hB8 b9)
          | (go_at_call 30; refine Calls.mono (HTB.out A6 c6 B6 d6 A7 c7 w7 (hI6.below b7) (hL6.below b7) hI7 hB7) ?_; rintro e w8 ⟨rfl, b8⟩; have hB8 := below_trans hB7 b8)
          | (go_at_call 31; refine Calls.mono (HIN.out w6 hB6) ?_; rintro e w7 ⟨A7, c7, rfl, hI7, hc7, b7⟩; have hB7 := below_trans hB6 b7)
          | (go_at_call 23; refine Calls.mono (HCI.out w3 hB3) ?_; rintro e w6 ⟨A6, c6, B6, d6, rfl, hI6, hc6, hL6, hd6, b6⟩; have hB6 := below_trans hB3 b6))
        go_ret
        exact ⟨rfl, below_trans HW0.out hB10⟩
    · have h100' : 100 < (W.length : Int) := by omega
      clear hfew hbad
      go_enter Tryd.func6, Tryd.ntmps6
      go_wp2_with (first
        | (go_at_call 17; refine Calls.mono (HPAD.out _ (Below.refl _ _)) ?_; rintro e w1 ⟨rfl, hB1⟩; obtain ⟨y0, y1, y2⟩ := HBX.out w1 hB1)
        | (go_at_call 18; refine Calls.mono (HFK.out w1 hB1) ?_; rintro e w2 ⟨rfl, b2⟩; have hB2 := below_trans hB1 b2; obtain ⟨z0, z1, z2⟩ := HBX.out w2 hB2))
      go_ret
      exact ⟨rfl, below_trans HW0.out hB2⟩
  · have hfew' : fewKeysOf K L = false := by simpa using hfew
    rw [hfew'] at HFK
    clear hfew hfew' hbad
    go_enter Tryd.func6, Tryd.ntmps6
    go_wp2_with (first
      | (go_at_call 17; refine Calls.mono (HPAD.out _ (Below.refl _ _)) ?_; rintro e w1 ⟨rfl, hB1⟩; obtain ⟨y0, y1, y2⟩ := HBX.out w1 hB1)
      | (go_at_call 18; refine Calls.mono (HFK.out w1 hB1) ?_; rintro e w2 ⟨rfl, b2⟩; have hB2 := below_trans hB1 b2; obtain ⟨z0, z1, z2⟩ := HBX.out w2 hB2))
    go_ret
    exact ⟨rfl, below_trans HW0.out hB2⟩

theorem tabOf_as (K : List Int) (L : List (List Int)) (W : List Int) (M n : Nat) : ((List.range M).map fun m => (List.range n).map fun s => sgn K L m (s : Nat) L.length * W.getD m 0) = tabOf K L W M n := rfl

set_option maxRecDepth 100000 in
set_option maxHeartbeats 8000000 in
theorem law_table_good (Ka La Wa : Option Addr) (K : List Int) (L : List (List Int)) (W : List Int) (kc lc wc : Nat) (w : World) (a : Nat → Addr) (hS : Sent codes w a) (hH : Handle w) (hK : Ints w Ka K) (hL : Lists w La L) (hW : Ints w Wa W) (hkc : K.length ≤ kc) (hlc : L.length ≤ lc) (hwc : W.length ≤ wc) (hK2 : K.length ≤ 2000000) (hl : L.length ≤ 2000000) (hf : L.flatten.length ≤ 2000000)
    (hfew : fewKeysOf K L = true) (h0 : ccode K L = 0) (h1 : wErr W = 0) (h2 : W.length = (L.getD 0 []).length) :
    Calls Tryd.prog 6 #[.agg #[.slice Ka K.length kc, .slice La L.length lc], .slice Wa W.length wc] w fun e w' => e = .returned (.bool true) ∧ Below w.heap.size w w' := by
  have hw0 : Below w.heap.size w (w.alloc (.cells #[.slice Ka K.length kc, .slice La L.length lc] 39)) := below_alloc' (Below.refl _ _) _
  have HW0 := hide hw0
  have HE : Hid (∀ w', Below (w.alloc (.cells #[.slice Ka K.length kc, .slice La L.length lc] 39)).heap.size (w.alloc (.cells #[.slice Ka K.length kc, .slice La L.length lc] 39)) w' → Env [2, 3] w' a) := hide fun w' hb => (hS.toEnv.sub (fun c h => sub23 h)).below (below_trans hw0 hb)
  have HBX : Hid (∀ w', Below (w.alloc (.cells #[.slice Ka K.length kc, .slice La L.length lc] 39)).heap.size (w.alloc (.cells #[.slice Ka K.length kc, .slice La L.length lc] 39)) w' → w'.cell? ⟨w.heap.size, 0, none⟩ = some (.slice Ka K.length kc) ∧ w'.cell? ⟨w.heap.size, 1, none⟩ = some (.slice La L.length lc) ∧ w.heap.size < w'.heap.size) := hide fun w' hb => by
    refine ⟨?_, ?_, by have := hb.size; simp at this; omega⟩
    · rw [hb.cell (p := ⟨w.heap.size, 0, none⟩) (by simp)]; simp
    · rw [hb.cell (p := ⟨w.heap.size, 1, none⟩) (by simp)]; simp
  have HPAD := hide (fun w' (hb : Below (w.alloc (.cells #[.slice Ka K.length kc, .slice La L.length lc] 39)).heap.size (w.alloc (.cells #[.slice Ka K.length kc, .slice La L.length lc] 39)) w') => pad_any w' a (HE.out w' hb))
  have HFK := hide (fun w' (hb : Below (w.alloc (.cells #[.slice Ka K.length kc, .slice La L.length lc] 39)).heap.size (w.alloc (.cells #[.slice Ka K.length kc, .slice La L.length lc] 39)) w') => fewKeys_ok Ka La K L kc lc w' (hK.below (below_trans hw0 hb)) (hL.below (below_trans hw0 hb)) hkc hlc hl hf)
  have HCE := hide (fun w' (hb : Below (w.alloc (.cells #[.slice Ka K.length kc, .slice La L.length lc] 39)).heap.size (w.alloc (.cells #[.slice Ka K.length kc, .slice La L.length lc] 39)) w') => cipherError_any Ka La K L kc lc w' (hK.below (below_trans hw0 hb)) (hL.below (below_trans hw0 hb)) hkc hlc hK2)
  have HCI := hide (fun w' (hb : Below (w.alloc (.cells #[.slice Ka K.length kc, .slice La L.length lc] 39)).heap.size (w.alloc (.cells #[.slice Ka K.length kc, .slice La L.length lc] 39)) w') => cipher_ok Ka La K L kc lc w' (hK.below (below_trans hw0 hb)) (hL.below (below_trans hw0 hb)) hkc hlc hK2 hl hf)
  have hg := ccode_zero h0
  have hM16 := (keys_good h1).1
  have hM0 := (keys_good h1).2.2.2
  have hL0 : 0 < L.length := by have := (keys_good hg.keys).2.2.2; have := hg.len; omega
  obtain ⟨N, hN⟩ : ∃ N : Nat, (N : Int) = topOf L.flatten 0 := ⟨(topOf L.flatten 0).toNat, by have := hg.top; omega⟩
  have hN15 : N ≤ 15 := by have := hg.top; omega
  have h100' : (W.length : Int) ≤ 100 := by omega
  have HIN := hide (fun w' (hb : Below (w.alloc (.cells #[.slice Ka K.length kc, .slice La L.length lc] 39)).heap.size (w.alloc (.cells #[.slice Ka K.length kc, .slice La L.length lc] 39)) w') => intsS_ok Wa W wc w' (hW.below (below_trans hw0 hb)) hwc (by omega))
  have HWE := hide (fun w' (hb : Below (w.alloc (.cells #[.slice Ka K.length kc, .slice La L.length lc] 39)).heap.size (w.alloc (.cells #[.slice Ka K.length kc, .slice La L.length lc] 39)) w') => weights_ok Wa W wc w' (hW.below (below_trans hw0 hb)) hwc (by omega))
  have HSG := hide (fun w' (hb : Below (w.alloc (.cells #[.slice Ka K.length kc, .slice La L.length lc] 39)).heap.size (w.alloc (.cells #[.slice Ka K.length kc, .slice La L.length lc] 39)) w') => signs_tab2 Ka La K L kc lc w' (hK.below (below_trans hw0 hb)) (hL.below (below_trans hw0 hb)) hkc hlc hg W.length h2.symm hM0 N hN)
  have HTB := hide (fun (A : Option Addr) (x : Nat) (B : Option Addr) (y : Nat) (C : Option Addr) (z : Nat) w' (hI : Ints w' A K) (hLs : Lists w' B L) (hIw : Ints w' C W) (hb : Below (w.alloc (.cells #[.slice Ka K.length kc, .slice La L.length lc] 39)).heap.size (w.alloc (.cells #[.slice Ka K.length kc, .slice La L.length lc] 39)) w') => table_ok A B C K L W x y z w' a (HE.out w' hb) hI hLs hIw h0 h1 h2 N hN)
  rw [hfew] at HFK
  rw [h0] at HCE
  rw [h1] at HWE
  have HWR := hide (fun m => weight_range h1 m)
  have HSR := hide (fun m s => sgn_le hg m s L.length (by rw [hg.len]; exact Nat.le_refl _))
  have hll := hL.len
  obtain ⟨b, off, A0, c0, rfl, hb, d0, hle, hI⟩ := hL.at_ 0 hL0
  have HD0 := hide (fun w' (h : Below (w.alloc (.cells #[.slice Ka K.length kc, .slice (some ⟨b, off, none⟩) L.length lc] 39)).heap.size (w.alloc (.cells #[.slice Ka K.length kc, .slice (some ⟨b, off, none⟩) L.length lc] 39)) w') => show w'.cell? ⟨b, off, none⟩ = some (.slice A0 (L.getD 0 []).length c0) from ((below_trans HW0.out h).cell (p := ⟨b, off, none⟩) hb).trans d0)
  have i0 : (0 : Int) < (L.length : Int) := by omega
  rw [← h2] at HD0
  generalize hMM : W.length = M at *
  have HMM := hide hMM
  clear hMM
  have hne : ((M : Int) != (M : Int)) = false := by simp
  clear h1 h0 hfew hw0 d0 hI hle hb h2 hg hN
  go_enter Tryd.func6, Tryd.ntmps6
  go_wp2_with (first
    | (go_at_call 17; refine Calls.mono (HPAD.out _ (Below.refl _ _)) ?_; rintro e w1 ⟨rfl, hB1⟩; obtain ⟨y0, y1, y2⟩ := HBX.out w1 hB1)
    | (go_at_call 18; refine Calls.mono (HFK.out w1 hB1) ?_; rintro e w2 ⟨rfl, b2⟩; have hB2 := below_trans hB1 b2; obtain ⟨z0, z1, z2⟩ := HBX.out w2 hB2)
    | (go_at_call 19; refine Calls.mono (HCE.out w2 hB2) ?_; rintro e w3 ⟨rfl, b3⟩; have hB3 := below_trans hB2 b3; obtain ⟨u0, u1, u2⟩ := HBX.out w3 hB3)
    | (go_at_call 28; refine Calls.mono (HWE.out w3 hB3) ?_; rintro e w4 ⟨rfl, b4⟩; have hB4 := below_trans hB3 b4; obtain ⟨t0, t1, t2⟩ := HBX.out w4 hB4; have t3 := HD0.out w4 hB4)
    | (go_at_call 20; refine Calls.mono (HSG.out w4 hB4) ?_; rintro e w5 ⟨g, gc, gh, gcp, rfl, hgc, hgg, hT5, b5⟩; have hB5 := below_trans hB4 b5; obtain ⟨v0, v1, v2⟩ := HBX.out w5 hB5))
  have hwi := fun (m : Nat) (hm : m < M) (w' : World) (hb' : Below (w.alloc (.cells #[.slice Ka K.length kc, .slice (some ⟨b, off, none⟩) L.length lc] 39)).heap.size (w.alloc (.cells #[.slice Ka K.length kc, .slice (some ⟨b, off, none⟩) L.length lc] 39)) w') => ((hW.below (below_trans HW0.out hb'))).at_ m (by rw [HMM.out]; exact hm)
  have HWI := hide hwi
  clear hwi
  have hF := fun (x s : Nat) => mul_small (HSR.out x (s : Nat)) (HWR.out x)
  have HF := hide hF
  clear hF
  go_loopw [8] (fun v wr => ∃ m : Nat, m ≤ M ∧ v = .int .i64 m ∧ Below w4.heap.size w4 wr ∧ Tab2 wr w4.heap.size g gh gcp M (N + 1) (fun x s => if x < m then sgn K L x (s : Nat) L.length * W.getD x 0 else sgn K L x (s : Nat) L.length)) (fun v _ => M - (intOf v).toNat)
  case atStart => exact ⟨0, Nat.zero_le _, rfl, b5, hT5.congr fun x _ s _ => by rw [if_neg (by omega)]⟩
  case round =>
    obtain ⟨m, hm, rfl, hBm, hTm⟩ := hrel
    obtain ⟨wm, rfl⟩ : ∃ wm : World, wm = wr := ⟨_, rfl⟩
    have m0 : (0 : Int) ≤ (m : Int) := Int.natCast_nonneg _
    by_cases hmM : m < M
    · have m1 : (m : Int) < (M : Int) := by omega
      go_wp2_with (fail)
      go_loopw [9] (fun v wr => ∃ j : Nat, j ≤ N + 1 ∧ v = .int .i64 j ∧ Below w4.heap.size w4 wr ∧ Tab2 wr w4.heap.size g gh gcp M (N + 1) (fun x s => if x < m ∨ (x = m ∧ s < j) then sgn K L x (s : Nat) L.length * W.getD x 0 else sgn K L x (s : Nat) L.length)) (fun v _ => N + 1 - (intOf v).toNat)
      case atStart => exact ⟨0, Nat.zero_le _, rfl, hBm, hTm.congr fun x _ s _ => by
        by_cases e : x < m
        · rw [if_pos e, if_pos (.inl e)]
        · rw [if_neg e, if_neg (by omega)]⟩
      case round =>
        obtain ⟨j, hj, rfl, hBj, hTj⟩ := hrel
        obtain ⟨wj, rfl⟩ : ∃ wj : World, wj = wr := ⟨_, rfl⟩
        have j0 : (0 : Int) ≤ (j : Int) := Int.natCast_nonneg _
        have t1 : wj.cell? ⟨g, m, none⟩ = some (.slice (some ⟨gh m, 0, none⟩) (N + 1) (gcp m)) := (hTj.outer m hmM).1
        have t1c : N + 1 ≤ gcp m := (hTj.outer m hmM).2
        by_cases hjN : j < N + 1
        · have j1 : (j : Int) < (N : Int) + 1 := by omega
          obtain ⟨b3, off3, rfl, _, d3⟩ := HWI.out m hmM wj (below_trans hB4 hBj)
          have t2 : wj.cell? ⟨gh m, j, none⟩ = some (.int .i64 (sgn K L m (j : Nat) L.length)) := by
            have := (hTj.inner m hmM j hjN).1
            rw [if_neg (by omega)] at this
            exact this
          have t3 : wj.frozen? ⟨gh m, j, none⟩ = false := (hTj.inner m hmM j hjN).2
          have hpr := HF.out m j
          have hset := hTj.set m j hmM (sgn K L m (j : Nat) L.length * W.getD m 0)
          have hT' := hset.congr (f' := fun x s => if x < m ∨ (x = m ∧ s < j + 1) then sgn K L x (s : Nat) L.length * W.getD x 0 else sgn K L x (s : Nat) L.length) (fun x _ s _ => by
            by_cases e : x = m ∧ s = j
            · rw [if_pos e, if_pos (by omega), e.1, e.2]
            · rw [if_neg e]
              by_cases e2 : x < m ∨ (x = m ∧ s < j)
              · rw [if_pos e2, if_pos (by omega)]
              · rw [if_neg e2, if_neg (by omega)])
          have hbb := hBj.setCell (p := ⟨gh m, j, none⟩) (hTj.base m hmM) (.int .i64 (sgn K L m (j : Nat) L.length * W.getD m 0))
          clear hset
          generalize sgn K L m (j : Nat) L.length = s0 at *
          generalize W.getD m 0 = x0 at *
          have hw : IntKind.i64.wrap (s0 * x0) = s0 * x0 := by rw [IntKind.wrap_i64]; omega
          have HT := hide hT'
          have HBB := hide hbb
          clear hT' hTj hbb hpr
          go_wp2_with (fail)
          go_still_tail 18, (by kernel_rfl)
          go_wp2_with (fail)
          go_roundw
          case rel =>
            refine ⟨j + 1, by omega, by go_num, ?_, ⟨HT.out.outer, HT.out.inner, HT.out.inj, HT.out.apart, HT.out.base⟩⟩
            exact ⟨HBB.out.os, HBB.out.tape, HBB.out.output, HBB.out.size, HBB.out.block⟩
          case measure => simp [intOf]; omega
        · obtain rfl : j = N + 1 := by omega
          go_wp2_with (fail)
          go_roundw
          case rel => exact ⟨m + 1, by omega, by go_num, hBj, hTj.congr fun x _ s hs => by
            by_cases e : x < m + 1
            · rw [if_pos e, if_pos (by omega)]
            · rw [if_neg e, if_neg (by omega)]⟩
          case measure => simp [intOf]; omega
    · obtain rfl : m = M := by omega
      have hTe : Tab2 wm w4.heap.size g gh gcp m (N + 1) (fun x s => sgn K L x (s : Nat) L.length * W.getD x 0) := hTm.congr fun x hx s _ => by rw [if_pos hx]
      have hLs := hTe.lists (by omega) (by omega)
      rw [tabOf_as] at hLs
      have htl := tabOf_len K L W m (N + 1)
      have hfl := tabOf_flat K L W (N + 1) m
      have hfl2 : (tabOf K L W m (N + 1)).flatten.length ≤ 2000000 := by rw [hfl]; exact Nat.le_trans (Nat.mul_le_mul hM16 (show N + 1 ≤ 16 by omega)) (by decide)
      have hBw := below_trans hB4 hBm
      have hte := tableE_ok (some ⟨g, 0, none⟩) (tabOf K L W m (N + 1)) gc wm hLs (by omega) hfl2
      have HTB2 := hide (fun (A : Option Addr) (x : Nat) (B : Option Addr) (y : Nat) (C : Option Addr) (z : Nat) w' (hI : Ints w' A K) (hLs : Lists w' B L) (hIw : Ints w' C W) hb => (HTB.out A x B y C z w' hI hLs hIw hb))
      clear hTm hTe hfl HTB
      generalize tabOf K L W m (N + 1) = T at hte hLs htl hfl2 HTB2
      rw [htl] at hte
      have HTL := hide htl
      have HLS := hide hLs
      have HFL := hide hfl2
      clear htl hLs hfl2
      by_cases hz : tErr T = 0
      · have HTB := hide (fun (A : Option Addr) (x : Nat) (B : Option Addr) (y : Nat) (C : Option Addr) (z : Nat) w' (hI : Ints w' A K) (hLs : Lists w' B L) (hIw : Ints w' C W) hb => (HTB2.out A x B y C z w' hI hLs hIw hb).mono (fun e w1 h => show ∃ A c, e = .returned (.tuple #[.slice A m c, .nilIface]) ∧ Lists w1 A T ∧ m ≤ c ∧ Below w'.heap.size w' w1 from by
          rcases h with ⟨h1, (⟨_, A, c, rfl, h2, h3⟩ | ⟨h2, _⟩)⟩
          · rw [HTL.out] at h3 ⊢
            exact ⟨A, c, rfl, h2, h3, h1⟩
          · exact absurd hz h2))
        have HSL := hide (fun (A : Option Addr) (c : Nat) w' (hA : Lists w' A T) (hc : m ≤ c) (hb : Below wm.heap.size wm w') => (by
          have := sameLists_ok A (some ⟨g, 0, none⟩) T T c gc w' hA (HLS.out.below hb) (by rw [HTL.out]; exact hc) (by rw [HTL.out]; exact hgc) (by rw [HTL.out]; omega) HFL.out
          rw [HTL.out, decide_eq_true rfl] at this
          exact this : Calls Tryd.prog 32 #[.slice A m c, .slice (some ⟨g, 0, none⟩) m gc] w' fun e w1 => e = .returned (.bool true) ∧ Below w'.heap.size w' w1))
        have HCD := hide (fun w' (hb : Below (w.alloc (.cells #[.slice Ka K.length kc, .slice (some ⟨b, off, none⟩) L.length lc] 39)).heap.size (w.alloc (.cells #[.slice Ka K.length kc, .slice (some ⟨b, off, none⟩) L.length lc] 39)) w') => coded_any w' a (hS.below (below_trans HW0.out hb)) (hH.below (below_trans HW0.out hb)) 0 (by decide) 0)
        rw [hz] at hte
        have HTER := hide hte
        clear hte hz HTB2
        go_wp2_with (first
          | (go_at_call 29; refine Calls.mono HTER.out ?_; rintro e wa ⟨rfl, ba⟩; have hBa := below_trans hBw ba; obtain ⟨q0, q1, q2⟩ := HBX.out wa hBa)
          | (go_at_call 32; refine Calls.mono (HSL.out A8 c8 w9 (hL8.below b9) hc8 (below_trans ba (below_trans b6 (below_trans b7 (below_trans b8 b9))))) ?_; rintro e w10 ⟨rfl, b10⟩; have hB10 := below_trans hB9 b10)
          | (go_at_call 24; refine Calls.mono (HCD.out w8 hB8) ?_; rintro e w9 ⟨rfl, b9⟩; have hB9 := below_trans hB8 b9)
          | (go_at_call 30; refine Calls.mono (HTB.out A6 c6 B6 d6 A7 c7 w7 (hI6.below b7) (hL6.below b7) hI7 hB7) ?_; rintro e w8 ⟨A8, c8, rfl, hL8, hc8, b8⟩; have hB8 := below_trans hB7 b8)
          | (go_at_call 31; refine Calls.mono (HIN.out w6 hB6) ?_; rintro e w7 ⟨A7, c7, rfl, hI7, hc7, b7⟩; have hB7 := below_trans hB6 b7)
          | (go_at_call 23; refine Calls.mono (HCI.out wa hBa) ?_; rintro e w6 ⟨A6, c6, B6, d6, rfl, hI6, hc6, hL6, hd6, b6⟩; have hB6 := below_trans hBa b6))
        go_ret
        exact ⟨rfl, below_trans HW0.out hB10⟩
      · obtain ⟨c, hc, hc8⟩ := tErr_nat T
        have hc0 : 0 < c := by
          rcases Nat.eq_zero_or_pos c with h | h
          · subst h; exact absurd hc hz
          · exact h
        have he : errC a (c : Int) = .iface 161 (.pointer (some (a c))) := errC_pos a c (by omega)
        have HTB := hide (fun (A : Option Addr) (x : Nat) (B : Option Addr) (y : Nat) (C : Option Addr) (z : Nat) w' (hI : Ints w' A K) (hLs : Lists w' B L) (hIw : Ints w' C W) hb => (HTB2.out A x B y C z w' hI hLs hIw hb).mono (fun e w1 h => show e = .returned (.tuple #[.slice none 0 0, .iface 161 (.pointer (some (a c)))]) ∧ Below w'.heap.size w' w1 from by
          rcases h with ⟨h1, (⟨h2, _⟩ | ⟨_, h2⟩)⟩
          · exact absurd h2 hz
          · rw [hc, he] at h2
            exact ⟨h2, h1⟩))
        have HNN := hide (fun w' (_ : Below (w.alloc (.cells #[.slice Ka K.length kc, .slice (some ⟨b, off, none⟩) L.length lc] 39)).heap.size (w.alloc (.cells #[.slice Ka K.length kc, .slice (some ⟨b, off, none⟩) L.length lc] 39)) w') => sameLists_ok none none [] [] 0 0 w' (Lists.nil w' _) (Lists.nil w' _) (Nat.le_refl _) (Nat.le_refl _) (by simp) (by simp))
        have hcd := fun w' (hb : Below (w.alloc (.cells #[.slice Ka K.length kc, .slice (some ⟨b, off, none⟩) L.length lc] 39)).heap.size (w.alloc (.cells #[.slice Ka K.length kc, .slice (some ⟨b, off, none⟩) L.length lc] 39)) w') => coded_any w' a (hS.below (below_trans HW0.out hb)) (hH.below (below_trans HW0.out hb)) c hc8 c
        rw [decide_eq_true rfl, he] at hcd
        have HCD := hide hcd
        rw [hc] at hte
        have HTER := hide hte
        have hci : 0 < (c : Int) := by omega
        clear hte hz HTB2 hcd he hc
        go_wp2_with (first
          | (go_at_call 29; refine Calls.mono HTER.out ?_; rintro e wa ⟨rfl, ba⟩; have hBa := below_trans hBw ba; obtain ⟨q0, q1, q2⟩ := HBX.out wa hBa)
          | (go_at_call 32; refine Calls.mono (HNN.out w9 hB9) ?_; rintro e w10 ⟨rfl, b10⟩; have hB10 := below_trans hB9 b10)
          | (go_at_call 24; refine Calls.mono (HCD.out w8 hB8) ?_; rintro e w9 ⟨rfl, b9⟩; have hB9 := below_trans hB8 b9)
          | (go_at_call 30; refine Calls.mono (HTB.out A6 c6 B6 d6 A7 c7 w7 (hI6.below b7) (hL6.below b7) hI7 hB7) ?_; rintro e w8 ⟨rfl, b8⟩; have hB8 := below_trans hB7 b8)
          | (go_at_call 31; refine Calls.mono (HIN.out w6 hB6) ?_; rintro e w7 ⟨A7, c7, rfl, hI7, hc7, b7⟩; have hB7 := below_trans hB6 b7)
          | (go_at_call 23; refine Calls.mono (HCI.out wa hBa) ?_; rintro e w6 ⟨A6, c6, B6, d6, rfl, hI6, hc6, hL6, hd6, b6⟩; have hB6 := below_trans hBa b6))
        go_ret
        exact ⟨rfl, below_trans HW0.out hB10⟩
theorem law_table (Ka La Wa : Option Addr) (K : List Int) (L : List (List Int)) (W : List Int) (kc lc wc : Nat) (w : World) (a : Nat → Addr) (hS : Sent codes w a) (hH : Handle w) (hK : Ints w Ka K) (hL : Lists w La L) (hW : Ints w Wa W) (hkc : K.length ≤ kc) (hlc : L.length ≤ lc) (hwc : W.length ≤ wc) (hK2 : K.length ≤ 2000000) (hl : L.length ≤ 2000000) (hf : L.flatten.length ≤ 2000000) :
    Calls Tryd.prog 6 #[.agg #[.slice Ka K.length kc, .slice La L.length lc], .slice Wa W.length wc] w fun e w' => e = .returned (.bool true) ∧ Below w.heap.size w w' := by
  by_cases h : fewKeysOf K L = true ∧ W.length ≤ 100 ∧ ccode K L = 0 ∧ wErr W = 0 ∧ W.length = (L.getD 0 []).length
  · exact law_table_good Ka La Wa K L W kc lc wc w a hS hH hK hL hW hkc hlc hwc hK2 hl hf h.1 h.2.2.1 h.2.2.2.1 h.2.2.2.2
  · exact law_table_bad Ka La Wa K L W kc lc wc w a hS hH hK hL hW hkc hlc hwc hK2 hl hf h
end Go.Proofs.YtieeefgkdfijdaaDoor
