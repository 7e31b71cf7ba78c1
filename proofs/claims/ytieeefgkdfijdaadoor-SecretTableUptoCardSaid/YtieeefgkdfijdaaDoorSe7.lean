/- The walk of the law SecretPerfect. Condition: the variables read as laid; the argument is of modest bulk. -/
import Derived.Test.YtieeefgkdfijdaaDoorSe6
import Derived.Test.YtieeefgkdfijdaaDoorCode
import Derived.Test.YtieeefgkdfijdaaDoorSame
namespace Go.Proofs.YtieeefgkdfijdaaDoor
open Go.RowKit Go.Deep Go.Proofs.YtieeefgkdfijdaaDoorW.PrintWords

theorem cipher_ok (Ka La : Option Addr) (K : List Int) (L : List (List Int)) (kc lc : Nat) (w : World) (hK : Ints w Ka K) (hL : Lists w La L) (hkc : K.length ≤ kc) (hlc : L.length ≤ lc) (hK2 : K.length ≤ 2000000) (hl : L.length ≤ 2000000) (hf : L.flatten.length ≤ 2000000) :
    Calls Tryd.prog 23 #[.agg #[.slice Ka K.length kc, .slice La L.length lc]] w fun e w' => ∃ A c B d, e = .returned (.agg #[.slice A K.length c, .slice B L.length d]) ∧ Ints w' A K ∧ K.length ≤ c ∧ Lists w' B L ∧ L.length ≤ d ∧ Below w.heap.size w w' := by
  refine (PSecretTable.demonlaw3_cipher.calls (L.length + 1) Ka kc K La lc L K L w hK.toC hkc hL.toC hlc (cipher_f K L hK2 hl hf)).mono ?_
  rintro e w' ⟨v0, v1, rfl, hR, hS, hb⟩
  obtain ⟨A, c, rfl, hI, hc⟩ := Ints.ofR hR
  obtain ⟨B, d, rfl, hLs, hd⟩ := Lists.ofR (Kd.S_R hS)
  exact ⟨A, c, B, d, rfl, hI, hc, hLs, hd, hb⟩
theorem signsRef_ok (Ka La : Option Addr) (K : List Int) (L : List (List Int)) (kc lc : Nat) (w : World) (hK : Ints w Ka K) (hL : Lists w La L) (hkc : K.length ≤ kc) (hlc : L.length ≤ lc) (hg : GoodCipher K L) :
    Calls Tryd.prog 20 #[.agg #[.slice Ka K.length kc, .slice La L.length lc]] w fun e w' => ∃ A c, e = .returned (.slice A (signsOf K L).length c) ∧ Lists w' A (signsOf K L) ∧ (signsOf K L).length ≤ c ∧ Below w.heap.size w w' := by
  obtain ⟨k, hk⟩ := signs_f hg
  refine (PSecretTable.demonref3_SignsOf.calls k Ka kc K La lc L (signsOf K L) w hK.toC hkc hL.toC hlc hk).mono ?_
  rintro e w' ⟨v0, rfl, hS, hb⟩
  obtain ⟨A, c, rfl, hI, hc⟩ := Lists.ofR (Kd.S_R hS)
  exact ⟨A, c, rfl, hI, hc, hb⟩
theorem fewKeys_ok (Ka La : Option Addr) (K : List Int) (L : List (List Int)) (kc lc : Nat) (w : World) (hK : Ints w Ka K) (hL : Lists w La L) (hkc : K.length ≤ kc) (hlc : L.length ≤ lc) (hl : L.length ≤ 2000000) (hf : L.flatten.length ≤ 2000000) :
    Calls Tryd.prog 18 #[.agg #[.slice Ka K.length kc, .slice La L.length lc]] w fun e w' => e = .returned (.bool (fewKeysOf K L)) ∧ Below w.heap.size w w' :=
  PSecretTable.demonlaw3_fewKeys.calls (L.length + 1) Ka kc K La lc L (fewKeysOf K L) w hK.toC hkc hL.toC hlc (fewKeys_f K L hl hf)
theorem ccode_nat (K : List Int) (L : List (List Int)) : ∃ c : Nat, ccode K L = (c : Int) ∧ c ≤ 8 := by
  rcases ccode_cases K L with h | h | h
  · exact ⟨0, h, by decide⟩
  · exact ⟨2, h, by decide⟩
  · exact ⟨3, h, by decide⟩

def sameTo (t : List (List Int)) (n : Nat) : Bool := (t.take n).all fun r => decide (r = t.getD 0 [])
theorem sameTo_succ (t : List (List Int)) (i : Nat) (h : i < t.length) : sameTo t (i + 1) = (sameTo t i && decide (t.getD i [] = t.getD 0 [])) := by
  unfold sameTo
  rw [takeL_at t i h, List.all_append]
  simp
theorem sameTo_all (t : List (List Int)) : sameTo t t.length = isPerfect t := by
  unfold sameTo isPerfect
  rw [List.take_length]
theorem sub23 {c : Nat} (h : c ∈ [2, 3]) : c ∈ codes := by
  simp at h
  rcases h with rfl | rfl <;> simp [codes]

set_option maxRecDepth 100000 in
set_option maxHeartbeats 8000000 in
theorem law_perfect (Ka La : Option Addr) (K : List Int) (L : List (List Int)) (kc lc : Nat) (w : World) (a : Nat → Addr) (hS : Sent codes w a) (hH : Handle w) (hK : Ints w Ka K) (hL : Lists w La L) (hkc : K.length ≤ kc) (hlc : L.length ≤ lc) (hK2 : K.length ≤ 2000000) (hl : L.length ≤ 2000000) (hf : L.flatten.length ≤ 2000000) :
    Calls Tryd.prog 4 #[.agg #[.slice Ka K.length kc, .slice La L.length lc]] w fun e w' => e = .returned (.bool true) ∧ Below w.heap.size w w' := by
  have hw0 : Below w.heap.size w (w.alloc (.cells #[.slice Ka K.length kc, .slice La L.length lc] 39)) := below_alloc' (Below.refl _ _) _
  have HW0 := hide hw0
  have HE : Hid (∀ w', Below (w.alloc (.cells #[.slice Ka K.length kc, .slice La L.length lc] 39)).heap.size (w.alloc (.cells #[.slice Ka K.length kc, .slice La L.length lc] 39)) w' → Env [2, 3] w' a) := hide fun w' hb => (hS.toEnv.sub (fun c h => sub23 h)).below (below_trans hw0 hb)
  have HBX : Hid (∀ w', Below (w.alloc (.cells #[.slice Ka K.length kc, .slice La L.length lc] 39)).heap.size (w.alloc (.cells #[.slice Ka K.length kc, .slice La L.length lc] 39)) w' → w'.cell? ⟨w.heap.size, 0, none⟩ = some (.slice Ka K.length kc) ∧ w'.cell? ⟨w.heap.size, 1, none⟩ = some (.slice La L.length lc) ∧ w.heap.size < w'.heap.size) := hide fun w' hb => by
    refine ⟨?_, ?_, by have := hb.size; simp at this; omega⟩
    · rw [hb.cell (p := ⟨w.heap.size, 0, none⟩) (by simp)]; simp
    · rw [hb.cell (p := ⟨w.heap.size, 1, none⟩) (by simp)]; simp
  have HPAD := hide (fun w' (hb : Below (w.alloc (.cells #[.slice Ka K.length kc, .slice La L.length lc] 39)).heap.size (w.alloc (.cells #[.slice Ka K.length kc, .slice La L.length lc] 39)) w') => pad_any w' a (HE.out w' hb))
  have HFK := hide (fun w' (hb : Below (w.alloc (.cells #[.slice Ka K.length kc, .slice La L.length lc] 39)).heap.size (w.alloc (.cells #[.slice Ka K.length kc, .slice La L.length lc] 39)) w') => fewKeys_ok Ka La K L kc lc w' (hK.below (below_trans hw0 hb)) (hL.below (below_trans hw0 hb)) hkc hlc hl hf)
  have HCE := hide (fun w' (hb : Below (w.alloc (.cells #[.slice Ka K.length kc, .slice La L.length lc] 39)).heap.size (w.alloc (.cells #[.slice Ka K.length kc, .slice La L.length lc] 39)) w') => cipherError_any Ka La K L kc lc w' (hK.below (below_trans hw0 hb)) (hL.below (below_trans hw0 hb)) hkc hlc hK2)
  have HCI := hide (fun w' (hb : Below (w.alloc (.cells #[.slice Ka K.length kc, .slice La L.length lc] 39)).heap.size (w.alloc (.cells #[.slice Ka K.length kc, .slice La L.length lc] 39)) w') => cipher_ok Ka La K L kc lc w' (hK.below (below_trans hw0 hb)) (hL.below (below_trans hw0 hb)) hkc hlc hK2 hl hf)
  by_cases hfew : fewKeysOf K L = true
  · rw [hfew] at HFK
    by_cases h0 : ccode K L = 0
    · have hg := ccode_zero h0
      have HSR := hide (fun w' (hb : Below (w.alloc (.cells #[.slice Ka K.length kc, .slice La L.length lc] 39)).heap.size (w.alloc (.cells #[.slice Ka K.length kc, .slice La L.length lc] 39)) w') => signsRef_ok Ka La K L kc lc w' (hK.below (below_trans hw0 hb)) (hL.below (below_trans hw0 hb)) hkc hlc hg)
      rw [h0] at HCE
      have HPF := hide (fun (A : Option Addr) (c : Nat) (B : Option Addr) (d : Nat) w' (hI : Ints w' A K) (hLs : Lists w' B L) (hb : Below (w.alloc (.cells #[.slice Ka K.length kc, .slice La L.length lc] 39)).heap.size (w.alloc (.cells #[.slice Ka K.length kc, .slice La L.length lc] 39)) w') => perfect_ok A B K L c d w' a (HE.out w' hb) hI hLs hg h0)
      have hva := fun (A : Option Addr) (c : Nat) (B : Option Addr) (d : Nat) w' (hI : Ints w' A K) (hLs : Lists w' B L) (hb : Below (w.alloc (.cells #[.slice Ka K.length kc, .slice La L.length lc] 39)).heap.size (w.alloc (.cells #[.slice Ka K.length kc, .slice La L.length lc] 39)) w') => secValid_any A B K L c d w' a (HE.out w' hb) hI hLs
      rw [h0, errC_zero] at hva
      have HVA := hide hva
      have HCD := hide (fun w' (hb : Below (w.alloc (.cells #[.slice Ka K.length kc, .slice La L.length lc] 39)).heap.size (w.alloc (.cells #[.slice Ka K.length kc, .slice La L.length lc] 39)) w') => coded_any w' a (hS.below (below_trans HW0.out hb)) (hH.below (below_trans HW0.out hb)) 0 (by decide) 0)
      clear hg h0 hfew hw0 hva
      go_enter Tryd.func4, Tryd.ntmps4
      go_wp2_with (first
        | (go_at_call 17; refine Calls.mono (HPAD.out _ (Below.refl _ _)) ?_; rintro e w1 ⟨rfl, hB1⟩; obtain ⟨y0, y1, y2⟩ := HBX.out w1 hB1)
        | (go_at_call 18; refine Calls.mono (HFK.out w1 hB1) ?_; rintro e w2 ⟨rfl, b2⟩; have hB2 := below_trans hB1 b2; obtain ⟨z0, z1, z2⟩ := HBX.out w2 hB2)
        | (go_at_call 19; refine Calls.mono (HCE.out w2 hB2) ?_; rintro e w3 ⟨rfl, b3⟩; have hB3 := below_trans hB2 b3; obtain ⟨u0, u1, u2⟩ := HBX.out w3 hB3)
        | (go_at_call 20; refine Calls.mono (HSR.out w3 hB3) ?_; rintro e w4 ⟨A4, c4, rfl, hL4, hc4, b4⟩; have hB4 := below_trans hB3 b4; obtain ⟨v0, v1, v2⟩ := HBX.out w4 hB4))
      have htl := hL4.len
      have hsz4 := hL4
      generalize hT : signsOf K L = T at hL4 hc4 htl ⊢
      have HT := hide hT
      clear hT hsz4
      go_loopw [5, 7] (fun s v wr => ∃ i : Nat, i ≤ T.length ∧ v = .int .i64 i ∧ s = .bool (sameTo T i) ∧ Below w4.heap.size w4 wr) (fun _ v _ => T.length - (intOf v).toNat)
      case atStart => exact ⟨0, Nat.zero_le _, rfl, rfl, Below.refl _ _⟩
      case round =>
        obtain ⟨i, hi, rfl, rfl, hBi⟩ := hrel
        obtain ⟨wi, rfl⟩ : ∃ wi : World, wi = wr := ⟨_, rfl⟩
        have i0 : (0 : Int) ≤ (i : Int) := Int.natCast_nonneg _
        by_cases hil : i < T.length
        · have hst := sameTo_succ T i hil
          obtain ⟨b, off, A', c', rfl, hb, d1, hle, hI⟩ := (hL4.below hBi).at_ i hil
          obtain ⟨b0, off0, A0, c0, e0, _, d0, hle0, hI0⟩ := (hL4.below hBi).at_ 0 (by omega)
          injection e0 with e0
          injection e0 with e1 e2 _
          subst e1 e2
          have d0' : wi.cell? ⟨b, off, none⟩ = some (.slice A0 (T.getD 0 []).length c0) := d0
          have hcall := fun w' (h : Below wi.heap.size wi w') => same_any A' A0 (T.getD i []) (T.getD 0 []) c' c0 w' (hI.below h) (hI0.below h)
          have i1 : (i : Int) < (T.length : Int) := by omega
          have i2 : (0 : Int) < (T.length : Int) := by omega
          have i4 : 0 < T.length := by omega
          clear d0 hI hI0
          generalize T.getD i [] = ri at d1 hle hcall hst
          generalize T.getD 0 [] = r0 at d0' hle0 hcall hst
          generalize hsm : decide (ri = r0) = sm at hcall hst
          have HST := hide hst
          have HC := hide hcall
          clear hst hcall hsm
          generalize ri.length = n1 at d1 hle HC
          generalize r0.length = n0 at d0' hle0 HC
          change Hid (_ = (sameTo T i && sm)) at HST
          generalize sameTo T i = s at HST ⊢
          cases s
          · go_wp2_with (fail)
            go_quiet (fail)
            go_wp2_with (fail)
            go_roundw
            case rel => exact ⟨i + 1, by omega, by go_num, by rw [HST.out]; rfl, below_drewN' hBi _⟩
            case measure => simp [intOf]; omega
          · go_wp2_with (fail)
            go_region_held3 (fun w' => w'.cell? ⟨b, off + i, none⟩ = some (.slice A' n1 c') ∧ w'.cell? ⟨b, off, none⟩ = some (.slice A0 n0 c0))
              (first | go_keep | exact ⟨‹_›, ‹_›⟩ | trivial)
              ((first
                | (go_at_call 21
                   refine Calls.mono (HC.out _ (below_drewN' (Below.refl _ _) 1)) ?_
                   rintro e w5 ⟨rfl, b5⟩
                   have b5' : Below wi.heap.size wi w5 := (below_drewN' (Below.refl _ _) 1).trans b5
                   have q1 : w5.cell? ⟨b, off + i, none⟩ = some (.slice A' n1 c') := (b5'.cell (p := ⟨b, off + i, none⟩) hb).trans d1
                   have q0 : w5.cell? ⟨b, off, none⟩ = some (.slice A0 n0 c0) := (b5'.cell (p := ⟨b, off, none⟩) hb).trans d0')))
            go_wp2_with (fail)
            go_roundw
            case rel => exact ⟨i + 1, by omega, by go_num, by rw [HST.out]; rfl, hBi.trans (b5'.mono hBi.size)⟩
            case measure => simp [intOf]; omega
        · obtain rfl : i = T.length := by omega
          rw [sameTo_all, ← HT.out]
          have hBw := below_trans hB4 hBi
          obtain ⟨q0, q1, q2⟩ := HBX.out wi hBw
          generalize isPerfect (signsOf K L) = pf at *
          go_wp2_with (first
            | (go_at_call 24; refine Calls.mono (HCD.out w9 hB9) ?_; rintro e w10 ⟨rfl, b10⟩; have hB10 := below_trans hB9 b10)
            | (go_at_call 24; refine Calls.mono (HCD.out w8 hB8) ?_; rintro e w9 ⟨rfl, b9⟩; have hB9 := below_trans hB8 b9)
            | (go_at_call 25; refine Calls.mono (HVA.out A7 c7 B7 d7 w7 hI7 hL7 hB7) ?_; rintro e w8 ⟨rfl, b8⟩; have hB8 := below_trans hB7 b8)
            | (go_at_call 23; refine Calls.mono (HCI.out w6 hB6) ?_; rintro e w7 ⟨A7, c7, B7, d7, rfl, hI7, hc7, hL7, hd7, b7⟩; have hB7 := below_trans hB6 b7)
            | (go_at_call 22; refine Calls.mono (HPF.out A5 c5 B5 d5 w5 hI5 hL5 hB5) ?_; rintro e w6 ⟨rfl, b6⟩; have hB6 := below_trans hB5 b6; obtain ⟨p0, p1, p2⟩ := HBX.out w6 hB6)
            | (go_at_call 23; refine Calls.mono (HCI.out wi hBw) ?_; rintro e w5 ⟨A5, c5, B5, d5, rfl, hI5, hc5, hL5, hd5, b5⟩; have hB5 := below_trans hBw b5))
          go_ret
          exact ⟨rfl, below_trans HW0.out hB10⟩
    · obtain ⟨c, hc, hc8⟩ := ccode_nat K L
      have hc0 : 0 < c := by
        rcases Nat.eq_zero_or_pos c with h | h
        · subst h; exact absurd hc h0
        · exact h
      have hpe := fun (A : Option Addr) (x : Nat) (B : Option Addr) (y : Nat) w' (hI : Ints w' A K) (hLs : Lists w' B L) (hb : Below (w.alloc (.cells #[.slice Ka K.length kc, .slice La L.length lc] 39)).heap.size (w.alloc (.cells #[.slice Ka K.length kc, .slice La L.length lc] 39)) w') => perfect_err A B K L x y w' a (HE.out w' hb) hI hLs h0
      have hva := fun (A : Option Addr) (x : Nat) (B : Option Addr) (y : Nat) w' (hI : Ints w' A K) (hLs : Lists w' B L) (hb : Below (w.alloc (.cells #[.slice Ka K.length kc, .slice La L.length lc] 39)).heap.size (w.alloc (.cells #[.slice Ka K.length kc, .slice La L.length lc] 39)) w') => secValid_any A B K L x y w' a (HE.out w' hb) hI hLs
      have hcd := fun w' (hb : Below (w.alloc (.cells #[.slice Ka K.length kc, .slice La L.length lc] 39)).heap.size (w.alloc (.cells #[.slice Ka K.length kc, .slice La L.length lc] 39)) w') => coded_any w' a (hS.below (below_trans HW0.out hb)) (hH.below (below_trans HW0.out hb)) c hc8 c
      rw [hc] at hpe hva HCE
      rw [decide_eq_true rfl] at hcd
      have he : errC a (c : Int) = .iface 161 (.pointer (some (a c))) := errC_pos a c (by omega)
      rw [he] at hpe hva hcd
      have HPF := hide hpe
      have HVA := hide hva
      have HCD := hide hcd
      clear hpe hva hcd he hc h0 hfew hw0
      have hci : 0 < (c : Int) := by omega
      have hcn : ((c : Int) == 0) = false := by rw [beq_eq_false_iff_ne]; omega
      go_enter Tryd.func4, Tryd.ntmps4
      go_wp2_with (first
        | (go_at_call 24; refine Calls.mono (HCD.out w9 hB9) ?_; rintro e w10 ⟨rfl, b10⟩; have hB10 := below_trans hB9 b10)
        | (go_at_call 24; refine Calls.mono (HCD.out w8 hB8) ?_; rintro e w9 ⟨rfl, b9⟩; have hB9 := below_trans hB8 b9)
        | (go_at_call 25; refine Calls.mono (HVA.out A7 c7 B7 d7 w7 hI7 hL7 hB7) ?_; rintro e w8 ⟨rfl, b8⟩; have hB8 := below_trans hB7 b8)
        | (go_at_call 23; refine Calls.mono (HCI.out w6 hB6) ?_; rintro e w7 ⟨A7, c7, B7, d7, rfl, hI7, hc7, hL7, hd7, b7⟩; have hB7 := below_trans hB6 b7)
        | (go_at_call 22; refine Calls.mono (HPF.out A5 c5 B5 d5 w5 hI5 hL5 hB5) ?_; rintro e w6 ⟨rfl, b6⟩; have hB6 := below_trans hB5 b6; obtain ⟨p0, p1, p2⟩ := HBX.out w6 hB6)
        | (go_at_call 23; refine Calls.mono (HCI.out w3 hB3) ?_; rintro e w5 ⟨A5, c5, B5, d5, rfl, hI5, hc5, hL5, hd5, b5⟩; have hB5 := below_trans hB3 b5)
        | (go_at_call 17; refine Calls.mono (HPAD.out _ (Below.refl _ _)) ?_; rintro e w1 ⟨rfl, hB1⟩; obtain ⟨y0, y1, y2⟩ := HBX.out w1 hB1)
        | (go_at_call 18; refine Calls.mono (HFK.out w1 hB1) ?_; rintro e w2 ⟨rfl, b2⟩; have hB2 := below_trans hB1 b2; obtain ⟨z0, z1, z2⟩ := HBX.out w2 hB2)
        | (go_at_call 19; refine Calls.mono (HCE.out w2 hB2) ?_; rintro e w3 ⟨rfl, b3⟩; have hB3 := below_trans hB2 b3; obtain ⟨u0, u1, u2⟩ := HBX.out w3 hB3))
      go_ret
      exact ⟨rfl, below_trans HW0.out hB10⟩
  · have hfew' : fewKeysOf K L = false := by simpa using hfew
    rw [hfew'] at HFK
    clear hfew hfew'
    go_enter Tryd.func4, Tryd.ntmps4
    go_wp2_with (first
      | (go_at_call 17; refine Calls.mono (HPAD.out _ (Below.refl _ _)) ?_; rintro e w1 ⟨rfl, hB1⟩; obtain ⟨y0, y1, y2⟩ := HBX.out w1 hB1)
      | (go_at_call 18; refine Calls.mono (HFK.out w1 hB1) ?_; rintro e w2 ⟨rfl, b2⟩; have hB2 := below_trans hB1 b2))
    go_ret
    exact ⟨rfl, below_trans HW0.out hB2⟩
end Go.Proofs.YtieeefgkdfijdaaDoor
