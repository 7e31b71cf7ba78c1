/- The walk of secret.signs at right ciphers. No condition. -/
import Derived.Test.YtieeefgkdfijdaaDoorSe3
import Derived.Test.YtieeefgkdfijdaaDoorTab
import Derived.Deep.RegionHeld3
import Derived.StillTailTactics
namespace Go.Proofs.YtieeefgkdfijdaaDoor
open Go.RowKit Go.Deep Go.Proofs.YtieeefgkdfijdaaDoorW.PrintMore
attribute [local go_sem] max2_int min2_int max_two min_two

/-- a table of the call's own that reads as signs -/
def RetTab (M c : Nat) (f : Nat → Nat → Int) (w : World) (e : Ending) (w' : World) : Prop :=
  ∃ B, e = .returned (.slice (some ⟨B, 0, none⟩) M M) ∧ w.heap.size ≤ B ∧ Tab w' B M c f ∧ Below w.heap.size w w'
theorem sgn_step (K : List Int) (L : List (List Int)) (m : Nat) (s : Int) (n : Nat) : sgn K L m s (n + 1) = sgn K L m s n + if (L.getD n []).getD m 0 = s then K.getD n 0 else 0 := rfl
theorem topOf_flat_step (L : List (List Int)) (i : Nat) (hi : i < L.length) (hr : 0 < (L.getD i []).length) : topOf (L.take (i + 1)).flatten 0 = if topOf (L.take i).flatten 0 < greatest (L.getD i []) then greatest (L.getD i []) else topOf (L.take i).flatten 0 := by
  rw [flat_take L i hi, topOf_append, greatest_top _ hr]
theorem topOf_mono (l : List Int) : ∀ t, t ≤ topOf l t := by
  induction l with
  | nil => intro t; exact Int.le_refl _
  | cons x r ih =>
    intro t
    have h := ih (if x > t then x else t)
    show t ≤ topOf r (if x > t then x else t)
    have h2 : t ≤ if x > t then x else t := by split <;> omega
    omega
theorem topOf_mem (l : List Int) (x : Int) (h : x ∈ l) : ∀ t, x ≤ topOf l t := by
  induction l with
  | nil => cases h
  | cons y r ih =>
    intro t
    show x ≤ topOf r (if y > t then y else t)
    rcases List.mem_cons.1 h with e | e
    · subst e
      have h := topOf_mono r (if x > t then x else t)
      have h2 : x ≤ if x > t then x else t := by split <;> omega
      omega
    · exact ih e _
theorem sign_le_top (L : List (List Int)) (i m : Nat) (hi : i < L.length) (hm : m < (L.getD i []).length) : (L.getD i []).getD m 0 ≤ topOf L.flatten 0 := by
  refine topOf_mem _ _ ?_ _
  rw [getD_eq L i [] hi] at hm ⊢
  rw [getD_eq _ m 0 hm]
  exact List.mem_flatten.2 ⟨L[i], List.getElem_mem hi, List.getElem_mem hm⟩

set_option maxRecDepth 100000 in
set_option maxHeartbeats 4000000 in
theorem signs_ok (Ka La : Option Addr) (K : List Int) (L : List (List Int)) (kc lc : Nat) (w : World) (hK : Ints w Ka K) (hL : Lists w La L) (hg : GoodCipher K L) (N : Nat) (hN : (N : Int) = topOf L.flatten 0) :
    Calls Tryd.prog 53 #[.agg #[.slice Ka K.length kc, .slice La L.length lc]] w (RetTab (L.getD 0 []).length (N + 1) (fun m s => sgn K L m (s : Nat) L.length) w) := by
  obtain ⟨hK16, hKn, hKs, hK0⟩ := keys_good hg.keys
  have hlen := hg.len
  have hN15 : N ≤ 15 := by have := hg.top; omega
  have hrow := fun i (hi : i < L.length) => hg.row i hi
  have HROW := hide hrow
  have HG := hide hg
  have hKL : K.length = L.length := hlen.symm
  rw [hKL] at hK16 hK0 ⊢
  have HLEN := hide hlen
  clear hrow hg hlen hKL
  go_enter Tryd.func53, Tryd.ntmps53
  go_wp2_with (fail)
  go_loopw [3, 13] (fun t i wr => ∃ k : Nat, k ≤ L.length ∧ i = .int .i64 k ∧ t = .int .i64 (topOf (L.take k).flatten 0) ∧ Below (w.heap.size + 1) (w.alloc (.cells #[.slice Ka L.length kc, .slice La L.length lc] 46)) wr) (fun _ i _ => L.length - (intOf i).toNat)
  case atStart => exact ⟨0, Nat.zero_le _, rfl, rfl, Below.refl _ _⟩
  case round =>
    obtain ⟨i, hi, rfl, rfl, hBi⟩ := hrel
    obtain ⟨wi, rfl⟩ : ∃ wi : World, wi = wr := ⟨_, rfl⟩
    have hz : w.heap.size < wi.heap.size := by have := hBi.size; simp at this; omega
    have hBw : Below w.heap.size w wi := (below_alloc' (Below.refl _ _) _).trans (hBi.mono (by omega))
    by_cases hil : i < L.length
    · obtain ⟨b, off, A', c', rfl, hb, d1, hle, hI⟩ := (hL.below hBw).at_ i hil
      have hgr := HROW.out i hil
      have hst := topOf_flat_step L i hil hgr.pos
      have i0 : (0 : Int) ≤ (i : Int) := Int.natCast_nonneg _
      have i1 : (i : Int) < (L.length : Int) := by omega
      have hmx := max_ok A' (L.getD i []) c' wi hI hgr.pos
      have HST := hide hst
      have HMX := hide hmx
      clear hst hmx hgr hI
      change Hid (_ = if topOf (L.take i).flatten 0 < greatest (L.getD i []) then greatest (L.getD i []) else topOf (L.take i).flatten 0) at HST
      generalize greatest (L.getD i []) = g at HST HMX
      generalize topOf (L.take i).flatten 0 = t at HST ⊢
      generalize L.getD i [] = r at d1 hle HMX
      by_cases hgt : t < g
      · go_wp2_with (go_at_call 75; refine Calls.mono HMX.out ?_; rintro e w2 ⟨rfl, hb2⟩)
        go_roundw
        case rel => exact ⟨i + 1, by omega, by go_num, by rw [HST.out, if_pos hgt], hBi.trans (hb2.mono (by omega))⟩
        case measure => simp [intOf]; omega
      · go_wp2_with (go_at_call 75; refine Calls.mono HMX.out ?_; rintro e w2 ⟨rfl, hb2⟩)
        go_roundw
        case rel => exact ⟨i + 1, by omega, by go_num, by rw [HST.out, if_neg (by omega)], hBi.trans (hb2.mono (by omega))⟩
        case measure => simp [intOf]; omega
    · obtain rfl : i = L.length := by omega
      rw [List.take_length, ← hN]
      have HN := hide hN
      clear hN
      have y0 : wi.cell? ⟨w.heap.size, 0, none⟩ = some (.slice Ka L.length kc) := by rw [hBi.cell (p := ⟨w.heap.size, 0, none⟩) (by show w.heap.size < w.heap.size + 1; omega)]; simp
      have y1 : wi.cell? ⟨w.heap.size, 1, none⟩ = some (.slice La L.length lc) := by rw [hBi.cell (p := ⟨w.heap.size, 1, none⟩) (by show w.heap.size < w.heap.size + 1; omega)]; simp
      have hL0 : 0 < L.length := hK0
      obtain ⟨b, off, A0, c0, rfl, hb, d0, hle, hI0⟩ := (hL.below hBw).at_ 0 hL0
      have d0' : wi.cell? ⟨b, off, none⟩ = some (.slice A0 (L.getD 0 []).length c0) := d0
      have hM := (HROW.out 0 hL0).most
      have hM0 := (HROW.out 0 hL0).pos
      clear d0 hI0
      generalize hMM : (L.getD 0 []).length = M at d0' hM hM0 hle ⊢
      have HMM := hide hMM
      clear hMM
      have i2 : (0 : Int) < (L.length : Int) := by omega
      go_wp2_with (at_make; refine wp_make_lists _ rfl (.tmp 26) (.tmp 26) rfl .i64 .i64 M rfl rfl (by omega) ?_; intro w3 hrow3 hb3 hs3; obtain ⟨k3, k4⟩ := below_cells hb3)
      clear k3 k4
      have hB0 : w.heap.size < wi.heap.size := hz
      have hBo : Below w.heap.size w w3 := hBw.trans (hb3.mono (by omega))
      have v0 : w3.cell? ⟨w.heap.size, 0, none⟩ = some (.slice Ka L.length kc) := (hb3.cell (p := ⟨w.heap.size, 0, none⟩) hz).trans y0
      have v1 : w3.cell? ⟨w.heap.size, 1, none⟩ = some (.slice (some ⟨b, off, none⟩) L.length lc) := (hb3.cell (p := ⟨w.heap.size, 1, none⟩) hz).trans y1
      generalize hBB : wi.heap.size = B at *
      clear hBB
      go_loopw [30] (fun i wr => ∃ m : Nat, m ≤ M ∧ i = .int .i64 m ∧ Below B w3 wr ∧ TabTo wr B M (N + 1) m (fun m s => sgn K L m (s : Nat) L.length)) (fun i _ => M - (intOf i).toNat)
      case atStart => exact ⟨0, Nat.zero_le _, rfl, Below.refl _ _, TabTo.zero hrow3 hs3.out⟩
      case round =>
        obtain ⟨m, hm, rfl, hBm, hTm⟩ := hrel
        obtain ⟨wm, rfl⟩ : ∃ wm : World, wm = wr := ⟨_, rfl⟩
        by_cases hmM : m < M
        · have c1 := hTm.outer.frozen m
          have c2 : wm.cell? ⟨B, m, none⟩ = some (.slice none 0 0) := by
            have := hTm.outer.cell (i := m) hmM
            rw [if_neg (by omega)] at this
            exact this
          have hBl := hTm.outer.lt
          have u0 : wm.cell? ⟨w.heap.size, 0, none⟩ = some (.slice Ka L.length kc) := (hBm.cell (p := ⟨w.heap.size, 0, none⟩) hB0).trans v0
          have u1 : wm.cell? ⟨w.heap.size, 1, none⟩ = some (.slice (some ⟨b, off, none⟩) L.length lc) := (hBm.cell (p := ⟨w.heap.size, 1, none⟩) hB0).trans v1
          have hwm : B ≤ wm.heap.size := by omega
          have hne1 : B ≠ w.heap.size := by omega
          have hne2 : w.heap.size ≠ B := by omega
          go_wp2_with (at_make; refine wp_make_ints' _ rfl (.tmp 36) (.tmp 36) rfl .i64 .i64 (N + 1) rfl rfl (by omega) ?_; intro w4 hrow4 hb4 hs4; obtain ⟨k5, k6⟩ := below_cells hb4
                       have u4 : w4.cell? ⟨w.heap.size, 1, none⟩ = some (.slice (some ⟨b, off, none⟩) L.length lc) := (hb4.cell (p := ⟨w.heap.size, 1, none⟩) (by show w.heap.size < wm.heap.size; omega)).trans u1)
          have hszm := hTm.size
          have hT4 := TabTo.succ (f := fun x s => if x = m then sgn K L m (s : Nat) 0 else sgn K L x (s : Nat) L.length) (w1 := w4) ⟨hTm.outer, fun x hx => (hTm.inner x hx).congr fun i _ => by rw [if_neg (by omega)], hTm.size⟩ hmM hb4 (by rw [hszm] at hrow4; exact hrow4.congr fun i _ => by rw [if_pos rfl]; rfl) hs4.out
          have hB4 : Below B w3 (w4.setCell ⟨B, m, none⟩ (.slice (some ⟨B + 1 + m, 0, none⟩) (N + 1) (N + 1))) := (hBm.trans (hb4.mono (by omega))).setCell (by show B ≤ B; omega) _
          have e1 : (w4.setCell ⟨B, m, none⟩ (.slice (some ⟨B + 1 + m, 0, none⟩) (N + 1) (N + 1))).cell? ⟨w.heap.size, 1, none⟩ = some (.slice (some ⟨b, off, none⟩) L.length lc) := (hB4.cell (p := ⟨w.heap.size, 1, none⟩) hB0).trans v1
          clear k5 k6 hrow4 hs4 hb4 hTm hBm c1 c2 hBl u0 u1 u4
          try rw [hszm]
          generalize w4.setCell ⟨B, m, none⟩ (.slice (some ⟨B + 1 + m, 0, none⟩) (N + 1) (N + 1)) = w5 at hT4 hB4 e1 ⊢
          go_wp2_with (fail)
          go_loopw [42] (fun v wr => ∃ k : Nat, k ≤ L.length ∧ v = .int .i64 k ∧ Below B w3 wr ∧ TabTo wr B M (N + 1) (m + 1) (fun x s => if x = m then sgn K L m (s : Nat) k else sgn K L x (s : Nat) L.length)) (fun v _ => L.length - (intOf v).toNat)
          case atStart => exact ⟨0, Nat.zero_le _, rfl, hB4, hT4⟩
          case round =>
            obtain ⟨k, hk, rfl, hBk, hTk⟩ := hrel
            obtain ⟨wk, rfl⟩ : ∃ wk : World, wk = wr := ⟨_, rfl⟩
            by_cases hkL : k < L.length
            · have hLk := hL.below (hBo.trans (hBk.mono (by omega)))
              obtain ⟨b1, off1, A', c', e, hb1, d1, hle1, hI1⟩ := hLk.at_ k hkL
              injection e with e
              injection e with e1' e2' _
              subst e1' e2'
              have hgr := HROW.out k hkL
              have hmr : m < (L.getD k []).length := by rw [hgr.len, HMM.out]; exact hmM
              obtain ⟨b2, off2, rfl, _, d2⟩ := hI1.at_ m hmr
              obtain ⟨b3, off3, rfl, _, d3⟩ := (hK.below (hBo.trans (hBk.mono (by omega)))).at_ k (by rw [← HLEN.out]; exact hkL)
              have hsg := hgr.sign m hmr
              have hst := fun s => sgn_step K L m s k
              have htop := sign_le_top L k m hkL hmr
              rw [← HN.out] at htop
              have hbk := sgn_le HG.out m ((L.getD k []).getD m 0) k (by rw [← HLEN.out]; omega)
              have hbk1 := sgn_le HG.out m ((L.getD k []).getD m 0) (k + 1) (by rw [← HLEN.out]; omega)
              rw [hst, if_pos rfl] at hbk1
              generalize (L.getD k []).getD m 0 = x at d2 hsg hst htop hbk hbk1
              obtain ⟨x, rfl⟩ := Int.eq_ofNat_of_zero_le hsg.1
              have hxN : x < N + 1 := by omega
              have t1 : wk.cell? ⟨B, m, none⟩ = some (.slice (some ⟨B + 1 + m, 0, none⟩) (N + 1) (N + 1)) := by
                have := hTk.outer.cell (i := m) hmM
                rw [if_pos (by omega)] at this
                exact this
              have t2 : wk.cell? ⟨B + 1 + m, x, none⟩ = some (.int .i64 (sgn K L m (x : Nat) k)) := by
                have := (hTk.inner m (by omega)).cell (i := x) hxN
                rw [if_pos rfl] at this
                exact this
              have t3 : wk.frozen? ⟨B + 1 + m, x, none⟩ = false := (hTk.inner m (by omega)).frozen _
              have t0 : wk.cell? ⟨w.heap.size, 0, none⟩ = some (.slice (some ⟨b3, off3, none⟩) L.length kc) := (hBk.cell (p := ⟨w.heap.size, 0, none⟩) hB0).trans v0
              have hset := hTk.set m x (by omega) (sgn K L m (x : Nat) k + K.getD k 0)
              have hT' := hset.congr (g := fun y s => if y = m then sgn K L m (s : Nat) (k + 1) else sgn K L y (s : Nat) L.length) (fun y _ s _ => by
                by_cases e : y = m
                · rw [if_pos e, if_pos e, hst]
                  by_cases e2 : s = x
                  · rw [if_pos ⟨e, e2⟩, e2, if_pos rfl]
                  · rw [if_neg (fun h => e2 h.2), if_neg (by omega), Int.add_zero]
                · rw [if_neg (fun h => e h.1), if_neg e, if_neg e])
              clear hset hst hLk hI1 hgr
              generalize sgn K L m (x : Nat) k = s0 at *
              generalize K.getD k 0 = kk at *
              have HT := hide hT'
              clear hT' hTk
              have k0 : (0 : Int) ≤ (k : Int) := Int.natCast_nonneg _
              have k1 : (k : Int) < (L.length : Int) := by omega
              have m0 : (0 : Int) ≤ (m : Int) := Int.natCast_nonneg _
              have m1 : (m : Int) < (M : Int) := by omega
              have m2 : (m : Int) < ((L.getD k []).length : Int) := by omega
              have x0 : (0 : Int) ≤ (x : Int) := Int.natCast_nonneg _
              have x1 : (x : Int) < (N : Int) + 1 := by omega
              have hw : IntKind.i64.wrap (s0 + kk) = s0 + kk := by rw [IntKind.wrap_i64]; omega
              generalize (L.getD k []).length = rl at d1 hle1 hmr m2
              go_wp2_with (fail)
              go_still_tail 17, (by kernel_rfl)
              go_wp2_with (fail)
              go_roundw
              case rel =>
                refine ⟨k + 1, by omega, by go_num, ?_, ⟨HT.out.outer, HT.out.inner, HT.out.size⟩⟩
                have hbb := hBk.setCell (p := ⟨B + 1 + m, x, none⟩) (by show B ≤ B + 1 + m; omega) (.int .i64 (s0 + kk))
                exact ⟨hbb.os, hbb.tape, hbb.output, hbb.size, hbb.block⟩
              case measure => simp [intOf]; omega
            · obtain rfl : k = L.length := by omega
              go_wp2_with (fail)
              go_roundw
              case rel => exact ⟨m + 1, by omega, by go_num, hBk, hTk.congr fun x _ s _ => by
                by_cases e : x = m
                · rw [if_pos e, e]
                · rw [if_neg e]⟩
              case measure => simp [intOf]; omega
        · obtain rfl : m = M := by omega
          go_wp2_with (fail)
          go_ret
          unfold RetTab
          rw [HMM.out]
          exact ⟨B, rfl, by omega, hTm.whole, hBo.trans (hBm.mono (by omega))⟩
end Go.Proofs.YtieeefgkdfijdaaDoor
