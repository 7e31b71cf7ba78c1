/- The walk of ising.Strip at right sizes. No condition. -/
import Derived.Test.YtngogonepjicpaaDoorEv1
import Derived.Test.YtngogonepjicpaaDoorStM
import Derived.Deep.RegionHeld3
import Derived.StillTailTactics
namespace Go.Proofs.YtngogonepjicpaaDoor
open Go.RowKit Go.Deep

theorem wrap_succ (N : Nat) (h : N ≤ 96) : wrap64 ((N : Int) + 1) = ((N + 1 : Nat) : Int) := by
  unfold wrap64
  omega
/-- a number in the last row so far is written -/
theorem TabTo.set {w : World} {B M c k : Nat} {f : Nat → Nat → Nat} (h : TabTo w B M c k f) (j i : Nat) (hj : j < k) (v : Nat) :
    TabTo (w.setCell ⟨B + 1 + j, i, none⟩ (.int .i64 v)) B M c k (fun x y => if x = j ∧ y = i then v else f x y) := by
  refine ⟨h.outer.setOther (by show B ≠ B + 1 + j; omega) _, fun x hx => ?_, by simp [World.setCell]; exact h.size⟩
  by_cases e : x = j
  · subst e
    refine ((h.inner x hx).set i _).congr fun y hy => ?_
    by_cases e2 : y = i
    · subst e2; simp
    · simp [e2]
  · refine ((h.inner x hx).setOther (by show B + 1 + x ≠ B + 1 + j; omega) _).congr fun y hy => ?_
    simp [e]
theorem Tab.other {w : World} {B M c : Nat} {f : Nat → Nat → Nat} (h : Tab w B M c f) {p : Addr} (hp : p.block < B) (v : Value) : Tab (w.setCell p v) B M c f :=
  ⟨h.outer.setOther (by show B ≠ p.block; omega) _, fun j hj => (h.inner j hj).setOther (by show B + 1 + j ≠ p.block; omega) _⟩
theorem TabTo.congr {w : World} {B M c k : Nat} {f g : Nat → Nat → Nat} (h : TabTo w B M c k f) (e : ∀ j, j < k → ∀ i, i < c → f j i = g j i) : TabTo w B M c k g :=
  ⟨h.outer, fun j hj => (h.inner j hj).congr fun i hi => by rw [e j hj i hi], h.size⟩

set_option maxRecDepth 100000 in
set_option maxHeartbeats 8000000 in
theorem strip_open (h L : Nat) (w : World) (h0 : 1 ≤ h) (h1 : h ≤ 4) (hL : 1 ≤ L) (hL2 : L ≤ 12) :
    Calls Tryd.prog 37 #[.int .i64 h, .int .i64 L, .bool false] w (RetIntsErr (stripList h L false) w) := by
  obtain ⟨M, hM, hM2, HM⟩ := wrap_pow h (by omega)
  have hM16 : M ≤ 16 := by rw [HM.out]; exact two_pow_le16 h h1
  have hmg := many_open h (by omega) L (by omega) h0 hL
  have hms := many_small h (by omega) L (by omega) false
  generalize hN : stripMany h L false = N at hmg hms
  have HN := hide hN
  clear hN
  go_enter Tryd.func37, Tryd.ntmps37
  go_wp2_with (at_make; rw [hmg]; refine wp_make_ints' _ rfl (.tmp 60) (.tmp 60) rfl .i64 .i64 (N + 1) rfl rfl (by omega) ?_; intro w2 hrow hb2 hs2; obtain ⟨k3, k4⟩ := below_cells hb2)
  have x0 : w2.cell? ⟨w.heap.size, 0, none⟩ = some (.int .i64 h) := by rw [k3 _ _ (by simp)]; simp
  have hB2 : Below w.heap.size w w2 := below_trans (below_alloc' (Below.refl _ _) _) hb2
  have hrow0 : w2.rowIs (w.heap.size + 1) 3 (N + 1) (fun _ => .int .i64 0) := by simpa using hrow
  have hsz2 : w2.heap.size = w.heap.size + 2 := by have := hs2.out; simpa using this
  clear k3 k4 hb2 hrow hs2 hmg
  generalize hZ : w.heap.size = Z at *
  have HZ := hide hZ
  clear hZ
  rw [hM]
  go_loopw [64] (fun i wr => ∃ f : Nat, f ≤ M ∧ i = .int .i64 f ∧ Below (Z + 1) w2 wr ∧ wr.rowIs (Z + 1) 3 (N + 1) (fun k => .int .i64 ((sumTo (fun x => firstSum h L false x k) f : Nat) : Int))) (fun i _ => M - (intOf i).toNat)
  case atStart => exact ⟨0, Nat.zero_le _, rfl, Below.refl _ _, hrow0.congr fun _ _ => rfl⟩
  case round =>
    obtain ⟨f, hf, rfl, hB, hrw⟩ := hrel
    obtain ⟨wo, rfl⟩ : ∃ wo : World, wo = wr := ⟨_, rfl⟩
    have hRlt := hrw.lt
    have y0 : wo.cell? ⟨Z, 0, none⟩ = some (.int .i64 h) := (hB.cell (p := ⟨Z, 0, none⟩) (by show Z < Z + 1; omega)).trans x0
    by_cases hlt : f < M
    · go_wp2_with (at_make; refine wp_make_lists _ rfl (.tmp 68) (.tmp 68) rfl .i64 .i64 M (congrArg (Value.int .i64) hM) (congrArg (Value.int .i64) hM) (by omega) ?_; intro w3 hrow3 hb3 hs3; obtain ⟨k3, k4⟩ := below_cells hb3)
      clear k3 k4
      generalize hB0 : wo.heap.size = B0 at *
      -- the table of noughts
      go_loopw [72] (fun i wr => ∃ k : Nat, k ≤ M ∧ i = .int .i64 k ∧ Below B0 wo wr ∧ TabTo wr B0 M (N + 1) k (fun _ _ => 0)) (fun i _ => M - (intOf i).toNat)
      case atStart => exact ⟨0, Nat.zero_le _, rfl, hb3, TabTo.zero hrow3 hs3.out⟩
      case round =>
        obtain ⟨k, hk, rfl, hBk, hT⟩ := hrel
        obtain ⟨wq, rfl⟩ : ∃ wq : World, wq = wr := ⟨_, rfl⟩
        by_cases hkM : k < M
        · have c1 := hT.outer.frozen k
          have c2 : wq.cell? ⟨B0, k, none⟩ = some (.slice none 0 0) := by
            have := hT.outer.cell (i := k) hkM
            rw [if_neg (by omega)] at this
            exact this
          have hBl := hT.outer.lt
          go_wp2_with (at_make; refine wp_make_ints' _ rfl (.tmp 78) (.tmp 78) rfl .i64 .i64 (N + 1) rfl rfl (by omega) ?_; intro w4 hrow4 hb4 hs4; obtain ⟨k5, k6⟩ := below_cells hb4)
          go_roundw
          case rel =>
            have hsz := hT.size
            rw [hsz] at hrow4
            refine ⟨k + 1, by omega, by go_num, (hBk.trans (hb4.mono (by omega))).setCell (Nat.le_refl _) _, ?_⟩
            rw [hsz]
            exact hT.succ hkM hb4 hrow4 hs4.out
          case measure => simp [intOf]; omega
        · obtain rfl : k = M := by omega
          have hTab := hT.whole
          have hsz := hide hT.size
          clear hT hb3 hrow3 hs3
          have c1 : wq.cell? ⟨B0, f, none⟩ = some (.slice (some ⟨B0 + 1 + f, 0, none⟩) (N + 1) (N + 1)) := hTab.outer.cell hlt
          have c4 : wq.cell? ⟨Z, 0, none⟩ = some (.int .i64 h) := (hBk.cell (p := ⟨Z, 0, none⟩) (by show Z < B0; omega)).trans y0
          have hin : innerOf h f < N + 1 := by rw [← HN.out]; exact many_ge h L false f h1 hL (by rw [← HM.out]; exact hlt)
          have hf16 : f < 16 := by omega
          have c2 : wq.cell? ⟨B0 + 1 + f, innerOf h f, none⟩ = some (.int .i64 0) := (hTab.inner f hlt).cell hin
          have c3 : wq.frozen? ⟨B0 + 1 + f, innerOf h f, none⟩ = false := (hTab.inner f hlt).frozen _
          have hf0 : (0 : Int) ≤ (f : Int) := Int.natCast_nonneg _
          have hf1 : (f : Int) < (k : Int) := by omega
          have hset := hTab.set f (innerOf h f) hlt 1
          have HSET := hide hset
          have c5 : (wq.setCell ⟨B0 + 1 + f, innerOf h f, none⟩ (.int .i64 1)).cell? ⟨B0, f, none⟩ = some (.slice (some ⟨B0 + 1 + f, 0, none⟩) (N + 1) (N + 1)) := (World.cell?_setCell_far _ _ _ _ (by show B0 + 1 + f ≠ B0; omega)).trans c1
          clear hset
          have hZf : Z ≠ B0 + 1 + f := by omega
          have HIN := hide (inner_ok h f h0 h1 hf16 Z)
          generalize hvf : innerOf h f = vf at c2 c3 c5 hin HSET HIN
          have hv0 : (0 : Int) ≤ (vf : Int) := Int.natCast_nonneg _
          have hv1 : (vf : Int) < (N : Int) + 1 := by omega
          have HVF := hide hvf
          clear hvf
          go_wp2_with (fail)
          go_region_held3 (fun w' => w'.cell? ⟨B0, f, none⟩ = some (.slice (some ⟨B0 + 1 + f, 0, none⟩) (N + 1) (N + 1)))
            (first | go_keep | assumption | exact c5)
            ((first
              | (go_at_call 53
                 refine Calls.mono (HIN.out _ (by simpa using c4)) ?_
                 rintro e w' ⟨rfl, rfl⟩)))
          obtain ⟨w5, hw5⟩ : ∃ w5, w5 = (wq.setCell ⟨B0 + 1 + f, vf, none⟩ (.int .i64 1)).drew := ⟨_, rfl⟩
          have hT5 : Tab w5 B0 k (N + 1) (fun c q => ways h f 0 c q) := by
            rw [hw5]
            refine Tab.congr (f := fun x y => if x = f ∧ y = vf then 1 else 0) ⟨HSET.out.outer, HSET.out.inner⟩ fun c _ q _ => ?_
            simp only [ways, HVF.out]
          have hB5 : Below B0 wo w5 := by
            have hbb := hBk.setCell (p := ⟨B0 + 1 + f, vf, none⟩) (by show B0 ≤ B0 + 1 + f; omega) (.int .i64 1)
            rw [hw5]
            exact ⟨hbb.os, hbb.tape, hbb.output, hbb.size, hbb.block⟩
          clear c1 c2 c3 c4 c5 hin HSET HIN hv0 hv1 HVF hTab hsz hBk
          rename_i hh
          clear hh
          rw [← hw5]
          clear hw5
          go_wp2_with (fail)
          go_loopw [12, 92] (fun v12 i wt => ∃ t B, t ≤ L - 1 ∧ i = .int .i64 (t : Nat) ∧ v12 = .slice (some ⟨B, 0, none⟩) k k ∧ B0 ≤ B ∧ Below B0 wo wt ∧ Tab wt B k (N + 1) (fun c q => ways h f t c q)) (fun _ i _ => L - 1 - (intOf i).toNat)
          case atStart => exact ⟨0, B0, Nat.zero_le _, rfl, rfl, Nat.le_refl _, hB5, hT5⟩
          case round =>
            obtain ⟨t, B, ht, rfl, rfl, hBB, hBt, hTt⟩ := hrel
            obtain ⟨wt, rfl⟩ : ∃ wt : World, wt = wr := ⟨_, rfl⟩
            clear hT5 hB5
            have hTw := hTt.lt
            by_cases htl : t + 1 < L
            · go_wp2_with (at_make; refine wp_make_lists _ rfl (.tmp 95) (.tmp 95) rfl .i64 .i64 k rfl rfl (by omega) ?_; intro w6 hrow6 hb6 hs6; obtain ⟨k5, k6⟩ := below_cells hb6)
              clear k5 k6
              have hT6 : TabTo w6 wt.heap.size k (N + 1) 0 (fun d q => ways h f (t + 1) d q) := TabTo.zero hrow6 hs6.out
              clear hrow6 hs6
              have hBs := hBt.size
              generalize hB' : wt.heap.size = B' at *
              -- the columns d
              go_loopw [99] (fun i wq => ∃ d : Nat, d ≤ k ∧ i = .int .i64 d ∧ Below B' wt wq ∧ TabTo wq B' k (N + 1) d (fun d q => ways h f (t + 1) d q)) (fun i _ => k - (intOf i).toNat)
              case atStart => exact ⟨0, Nat.zero_le _, rfl, hb6, hT6⟩
              case round =>
                obtain ⟨d, hd, rfl, hBd, hTd⟩ := hrel
                obtain ⟨wd, rfl⟩ : ∃ wd : World, wd = wr := ⟨_, rfl⟩
                by_cases hdk : d < k
                · have e1 : wd.cell? ⟨B', d, none⟩ = some (.slice none 0 0) := by
                    have := hTd.outer.cell (i := d) hdk
                    rw [if_neg (by omega)] at this
                    exact this
                  have e2 := hTd.outer.frozen d
                  have e3 := hTd.outer.lt
                  have hszd := hTd.size
                  have e4 : B' < B' + 1 + d := by omega
                  go_wp2_with (at_make; refine wp_make_ints' _ rfl (.tmp 105) (.tmp 105) rfl .i64 .i64 (N + 1) rfl rfl (by omega) ?_; intro w7 hrow7 hb7 hs7; obtain ⟨k5, k6⟩ := below_cells hb7)
                  clear k5 k6
                  have hT8 := TabTo.succ (f := fun x q => if x = d then sumTo (fun c => step h f t d c q) 0 else ways h f (t + 1) x q) (w1 := w7) ⟨hTd.outer, fun x hx => (hTd.inner x hx).congr fun i _ => by rw [if_neg (by omega)], hTd.size⟩ hdk hb7 (by rw [hszd] at hrow7; exact hrow7.congr fun i _ => by rw [if_pos rfl]; rfl) hs7.out
                  have hB8 : Below B' wt (w7.setCell ⟨B', d, none⟩ (.slice (some ⟨B' + 1 + d, 0, none⟩) (N + 1) (N + 1))) := (hBd.trans (hb7.mono (by omega))).setCell (by show B' ≤ B'; omega) _
                  clear hs7 hb7 hrow7 hTd hBd e1 e2 e3 e4
                  try rw [hszd]
                  generalize w7.setCell ⟨B', d, none⟩ (.slice (some ⟨B' + 1 + d, 0, none⟩) (N + 1) (N + 1)) = w8 at hT8 hB8 ⊢
                  clear hszd
                  go_wp2_with (fail)
                  -- the columns c that lead to d
                  go_loopw [110] (fun i wq => ∃ c : Nat, c ≤ k ∧ i = .int .i64 c ∧ Below B' wt wq ∧ TabTo wq B' k (N + 1) (d + 1) (fun x q => if x = d then sumTo (fun c => step h f t d c q) c else ways h f (t + 1) x q)) (fun i _ => k - (intOf i).toNat)
                  case atStart => exact ⟨0, Nat.zero_le _, rfl, hB8, hT8⟩
                  case round =>
                    obtain ⟨c, hc, rfl, hBc, hTc⟩ := hrel
                    obtain ⟨wc, rfl⟩ : ∃ wc : World, wc = wr := ⟨_, rfl⟩
                    by_cases hck : c < k
                    · have z0 : wc.cell? ⟨Z, 0, none⟩ = some (.int .i64 h) := ((hBc.cell (p := ⟨Z, 0, none⟩) (by show Z < B'; omega)).trans (hBt.cell (p := ⟨Z, 0, none⟩) (by show Z < B0; omega))).trans y0
                      have z1 : wc.cell? ⟨B, c, none⟩ = some (.slice (some ⟨B + 1 + c, 0, none⟩) (N + 1) (N + 1)) := (hTt.below hBc (by omega)).outer.cell hck
                      have hk2 : k = 2 ^ h := HM.out
                      have hxe : bits BinOp.xor IntKind.i64 (c : Int) (d : Int) = ((c ^^^ d : Nat) : Int) := i64_xor c d (by omega) (by omega)
                      have hx16 : c ^^^ d < 16 := xor_go h h1 c d (by omega) (by omega)
                      have hil := inner_le h (by omega) d (by omega)
                      have hol : ones (c ^^^ d) ≤ h := ham_le h (by omega) c (by omega) d (by omega)
                      have HIN := hide (inner_ok h d h0 h1 (by omega) Z wc z0)
                      have HON := hide (ones_ok (c ^^^ d) hx16)
                      obtain ⟨u, hu⟩ : ∃ u, u = innerOf h d + ones (c ^^^ d) := ⟨_, rfl⟩
                      have hu8 : u ≤ 8 := by omega
                      have huh : innerOf h d + ham c d = u := hu.symm
                      have HUH := hide huh
                      clear huh
                      generalize innerOf h d = vi at hu hil HIN
                      generalize hvo : ones (c ^^^ d) = vo at hu hol HON
                      clear hvo
                      generalize c ^^^ d = x at hxe hx16 HON
                      clear hk2
                      go_wp2_with (first
                        | (go_at_call 53
                           refine HIN.out.mono ?_
                           rintro e w' ⟨rfl, rfl⟩)
                        | (go_at_call 54
                           refine (HON.out _).mono ?_
                           rintro e w' ⟨rfl, rfl⟩))
                      have hui : (vi : Int) + (vo : Int) = (u : Int) := by omega
                      rw [hui]
                      clear hui hu hil hol HIN HON hxe hx16 z0
                      -- the numbers of column c
                      go_loopw [127] (fun i wq => ∃ r : Nat, r ≤ N + 1 ∧ i = .int .i64 r ∧ Below B' wt wq ∧ TabTo wq B' k (N + 1) (d + 1) (fun x q => if x = d then sumTo (fun c => step h f t d c q) c + part (ways h f t c) u r q else ways h f (t + 1) x q)) (fun i _ => N + 1 - (intOf i).toNat)
                      case atStart =>
                        exact ⟨0, Nat.zero_le _, rfl, hBc, hTc.congr fun x _ q _ => by
                          by_cases e : x = d
                          · rw [if_pos e, if_pos e, part_zero]; rfl
                          · rw [if_neg e, if_neg e]⟩
                      case round =>
                        obtain ⟨r, hr, rfl, hBr, hTr⟩ := hrel
                        obtain ⟨wv, rfl⟩ : ∃ wv : World, wv = wr := ⟨_, rfl⟩
                        clear z1
                        by_cases hrN : r < N + 1
                        · have hTz := hTt.below hBr (by omega)
                          have q4 : wv.cell? ⟨B + 1 + c, r, none⟩ = some (.int .i64 ((ways h f t c r : Nat) : Int)) := (hTz.inner c hck).cell hrN
                          have hr0 : (0 : Int) ≤ (r : Int) := Int.natCast_nonneg _
                          have hr1 : (r : Int) < (N : Int) + 1 := by omega
                          by_cases hg : ways h f t c r = 0
                          · have hstep := fun q => part_skip (ways h f t c) u r q hg
                            have HST := hide hstep
                            clear hstep
                            rw [hg] at q4
                            clear hg
                            go_wp2_with (fail)
                            go_roundw
                            case rel => exact ⟨r + 1, by omega, by go_num, hBr, hTr.congr fun x _ q _ => by rw [HST.out]⟩
                            case measure => simp [intOf]; omega
                          · have hroom := room_step h L false f t c d r h1 (by rw [← HM.out]; exact hlt) (by rw [← HM.out]; exact hck) (by rw [← HM.out]; exact hdk) htl (by omega)
                            rw [HN.out, HUH.out] at hroom
                            have hgb := ways_bound h f t c r h1 (by omega)
                            have q1 : wv.cell? ⟨B', d, none⟩ = some (.slice (some ⟨B' + 1 + d, 0, none⟩) (N + 1) (N + 1)) := by
                              have := hTr.outer.cell (i := d) hdk
                              rw [if_pos (by omega)] at this
                              exact this
                            have q2 : wv.cell? ⟨B' + 1 + d, r + u, none⟩ = some (.int .i64 ((sumTo (fun c => step h f t d c (r + u)) c : Nat) : Int)) := by
                              have := (hTr.inner d (by omega)).cell (i := r + u) hroom
                              rw [if_pos rfl, part_at, Nat.add_zero] at this
                              exact this
                            have q3 : wv.frozen? ⟨B' + 1 + d, r + u, none⟩ = false := (hTr.inner d (by omega)).frozen _
                            have hsb := steps_bound h f t d c (r + u) h1 (by omega) (by rw [← HM.out]; omega)
                            have hset := hTr.set d (r + u) (by omega) (sumTo (fun c => step h f t d c (r + u)) c + ways h f t c r)
                            have hT' : TabTo (wv.setCell ⟨B' + 1 + d, r + u, none⟩ (.int .i64 ((sumTo (fun c => step h f t d c (r + u)) c + ways h f t c r : Nat) : Int))) B' k (N + 1) (d + 1) (fun x q => if x = d then sumTo (fun c => step h f t d c q) c + part (ways h f t c) u (r + 1) q else ways h f (t + 1) x q) :=
                              hset.congr fun x _ q _ => by
                                by_cases e : x = d
                                · have e0 := part_add (ways h f t c) (fun q => sumTo (fun c => step h f t d c q) c) u r q
                                  rw [part_at] at e0
                                  rw [if_pos e, if_pos e, ← e0, Nat.add_zero]
                                  by_cases e2 : q = r + u
                                  · rw [if_pos ⟨e, e2⟩, if_pos e2]
                                  · rw [if_neg (fun h => e2 h.2), if_neg e2]
                                · rw [if_neg (fun h => e h.1), if_neg e, if_neg e]
                            generalize sumTo (fun c => step h f t d c (r + u)) c = v1 at *
                            generalize ways h f t c r = v2 at *
                            have hd0 : (0 : Int) ≤ (d : Int) := Int.natCast_nonneg _
                            have hd1 : (d : Int) < (k : Int) := by omega
                            have hv2 : 0 < (v2 : Int) := by omega
                            have hr4 : 0 ≤ (r : Int) + (u : Int) := by omega
                            have hr3 : (r : Int) + (u : Int) < (N : Int) + 1 := by omega
                            have hr5 : ((r : Int) + (u : Int)).toNat = r + u := by omega
                            have HT := hide hT'
                            clear hset hTz hT' hTr hg
                            go_wp2_with (fail)
                            go_roundw
                            case rel =>
                              exact ⟨r + 1, by omega, by go_num, hBr.setCell (p := ⟨B' + 1 + d, r + u, none⟩) (by show B' ≤ B' + 1 + d; omega) (.int .i64 ((v1 + v2 : Nat) : Int)), HT.out⟩
                            case measure => simp [intOf]; omega
                        · obtain rfl : r = N + 1 := by omega
                          go_wp2_with (fail)
                          go_roundw
                          case rel => exact ⟨c + 1, by omega, by go_num, hBr, hTr.congr fun x _ q hq => by
                            by_cases e : x = d
                            · rw [if_pos e, if_pos e, part_end _ _ _ _ hq]
                              show _ = sumTo (fun c => step h f t d c q) c + step h f t d c q
                              unfold step
                              rw [HUH.out]
                            · rw [if_neg e, if_neg e]⟩
                          case measure => simp [intOf]; omega
                    · obtain rfl : c = k := by omega
                      go_wp2_with (fail)
                      go_roundw
                      case rel => exact ⟨d + 1, by omega, by go_num, hBc, hTc.congr fun x _ q _ => by
                        by_cases e : x = d
                        · rw [if_pos e, e, HM.out, step_sum]
                        · rw [if_neg e]⟩
                      case measure => simp [intOf]; omega
                · obtain rfl : d = k := by omega
                  have hW := hTd.whole
                  go_wp2_with (fail)
                  go_roundw
                  case rel => exact ⟨t + 1, B', by omega, by go_num, rfl, by omega, hBt.trans (hBd.mono (by omega)), hW⟩
                  case measure => simp [intOf]; omega
            · obtain rfl : t = L - 1 := by omega
              have hrw' := hrw.of_block (hBt.block (Z + 1) (by omega))
              have hB1 : Below (Z + 1) w2 wt := hB.trans (hBt.mono (by omega))
              clear hBt hrw hB
              go_wp2_with (fail)
              -- the last columns
              go_loopw [153] (fun i wq => ∃ c : Nat, c ≤ k ∧ i = .int .i64 c ∧ Below (Z + 1) w2 wq ∧ Tab wq B k (N + 1) (fun c q => ways h f (L - 1) c q) ∧ wq.rowIs (Z + 1) 3 (N + 1) (fun q => .int .i64 ((sumTo (fun x => firstSum h L false x q) f + sumTo (fun x => closing h L false f x q) c : Nat) : Int))) (fun i _ => k - (intOf i).toNat)
              case atStart => exact ⟨0, Nat.zero_le _, rfl, hB1, hTt, hrw'⟩
              case round =>
                obtain ⟨c, hc, rfl, hBc, hTc, hOc⟩ := hrel
                obtain ⟨wc, rfl⟩ : ∃ wc : World, wc = wr := ⟨_, rfl⟩
                by_cases hck : c < k
                · have z1 : wc.cell? ⟨B, c, none⟩ = some (.slice (some ⟨B + 1 + c, 0, none⟩) (N + 1) (N + 1)) := hTc.outer.cell hck
                  have HUH : Hid (upOf false f c = 0) := hide rfl
                  go_wp2_with (fail)
                  go_loopw [167] (fun i wq => ∃ r : Nat, r ≤ N + 1 ∧ i = .int .i64 r ∧ Below (Z + 1) w2 wq ∧ Tab wq B k (N + 1) (fun c q => ways h f (L - 1) c q) ∧ wq.rowIs (Z + 1) 3 (N + 1) (fun q => .int .i64 ((sumTo (fun x => firstSum h L false x q) f + sumTo (fun x => closing h L false f x q) c + part (ways h f (L - 1) c) 0 r q : Nat) : Int))) (fun i _ => N + 1 - (intOf i).toNat)
                  case atStart =>
                    exact ⟨0, Nat.zero_le _, rfl, hBc, hTc, hOc.congr fun q _ => by rw [part_zero, Nat.add_zero]⟩
                  case round =>
                    obtain ⟨r, hr, rfl, hBr, hTr, hOr⟩ := hrel
                    obtain ⟨wv, rfl⟩ : ∃ wv : World, wv = wr := ⟨_, rfl⟩
                    clear z1
                    by_cases hrN : r < N + 1
                    · have q4 : wv.cell? ⟨B + 1 + c, r, none⟩ = some (.int .i64 ((ways h f (L - 1) c r : Nat) : Int)) := (hTr.inner c hck).cell hrN
                      have hr0 : (0 : Int) ≤ (r : Int) := Int.natCast_nonneg _
                      have hr1 : (r : Int) < (N : Int) + 1 := by omega
                      by_cases hg : ways h f (L - 1) c r = 0
                      · have hstep := fun q => part_skip (ways h f (L - 1) c) 0 r q hg
                        have HST := hide hstep
                        clear hstep
                        rw [hg] at q4
                        clear hg
                        go_wp2_with (fail)
                        go_roundw
                        case rel => exact ⟨r + 1, by omega, by go_num, hBr, hTr, hOr.congr fun q _ => by rw [HST.out]⟩
                        case measure => simp [intOf]; omega
                      · have hroom := room_close h L false f c r h1 hL (by rw [← HM.out]; exact hlt) (by rw [← HM.out]; exact hck) (by omega)
                        rw [HN.out, HUH.out] at hroom
                        have hgb := ways_bound h f (L - 1) c r h1 (by omega)
                        have q2 : wv.cell? ⟨Z + 1, r + 0, none⟩ = some (.int .i64 ((sumTo (fun x => firstSum h L false x (r + 0)) f + sumTo (fun x => closing h L false f x (r + 0)) c : Nat) : Int)) := by
                          have := hOr.cell (i := r + 0) hroom
                          rw [part_at, Nat.add_zero] at this
                          exact this
                        have q3 : wv.frozen? ⟨Z + 1, r + 0, none⟩ = false := hOr.frozen _
                        have hsb1 := firsts_bound h L false f (r + 0) h1 hL2 (by rw [← HM.out]; omega)
                        have hsb2 := closings_bound h L f false c (r + 0) h1 hL2 (by rw [← HM.out]; omega)
                        have hset := hOr.set (r + 0) (.int .i64 ((sumTo (fun x => firstSum h L false x (r + 0)) f + sumTo (fun x => closing h L false f x (r + 0)) c + ways h f (L - 1) c r : Nat) : Int))
                        have hO' := hset.congr (g := fun q => .int .i64 ((sumTo (fun x => firstSum h L false x q) f + sumTo (fun x => closing h L false f x q) c + part (ways h f (L - 1) c) 0 (r + 1) q : Nat) : Int)) (fun q _ => by
                          have e0 := part_add (ways h f (L - 1) c) (fun q => sumTo (fun x => firstSum h L false x q) f + sumTo (fun x => closing h L false f x q) c) 0 r q
                          rw [part_at] at e0
                          rw [← e0]
                          by_cases e2 : q = r + 0
                          · rw [if_pos e2, if_pos e2, Nat.add_zero]; rfl
                          · rw [if_neg e2, if_neg e2])
                        have hT' := hTr.other (p := ⟨Z + 1, r + 0, none⟩) (by show Z + 1 < B; omega) (.int .i64 ((sumTo (fun x => firstSum h L false x (r + 0)) f + sumTo (fun x => closing h L false f x (r + 0)) c + ways h f (L - 1) c r : Nat) : Int))
                        simp only [Nat.add_zero] at q2 q3 hroom hsb1 hsb2 hO' hT'
                        generalize sumTo (fun x => firstSum h L false x r) f = v0 at *
                        generalize sumTo (fun x => closing h L false f x r) c = v1 at *
                        generalize ways h f (L - 1) c r = v2 at *
                        have hv2 : 0 < (v2 : Int) := by omega
                        have HT := hide hT'
                        have HO := hide hO'
                        clear hset hO' hT' hTr hOr hg
                        go_wp2_with (fail)
                        go_roundw
                        case rel =>
                          exact ⟨r + 1, by omega, by go_num, hBr.setCell (p := ⟨Z + 1, r, none⟩) (by show Z + 1 ≤ Z + 1; omega) (.int .i64 ((v0 + v1 + v2 : Nat) : Int)), HT.out, HO.out⟩
                        case measure => simp [intOf]; omega
                    · obtain rfl : r = N + 1 := by omega
                      go_wp2_with (fail)
                      go_roundw
                      case rel => exact ⟨c + 1, by omega, by go_num, hBr, hTr, hOr.congr fun q hq => by
                        rw [part_end _ _ _ _ hq, Nat.add_assoc]
                        show _ = Value.int .i64 ((_ + (sumTo (fun x => closing h L false f x q) c + closing h L false f c q) : Nat) : Int)
                        unfold closing
                        rw [HUH.out]⟩
                      case measure => simp [intOf]; omega
                · obtain rfl : c = k := by omega
                  go_wp2_with (fail)
                  go_roundw
                  case rel => exact ⟨f + 1, by omega, by go_num, hBc, hOc.congr fun q _ => by
                    show _ = Value.int .i64 ((sumTo (fun x => firstSum h L false x q) f + firstSum h L false f q : Nat) : Int)
                    unfold firstSum
                    rw [← HM.out]⟩
                  case measure => simp [intOf]; omega
    · obtain rfl : f = M := by omega
      go_wp2_with (fail)
      go_ret2
      refine ⟨some ⟨Z + 1, 0, none⟩, N + 1, by rw [stripList_length, HN.out]; rfl, ?_, by rw [stripList_length, HN.out]; omega, by rw [HZ.out]; exact hB2.trans (hB.mono (by omega))⟩
      have hi := Ints.ofRow (f := fun q => (stripCount h L false q : Int)) (hrw.congr fun q _ => by rw [HM.out, count_firsts]) (by omega)
      unfold stripList
      rw [HN.out]
      exact hi

set_option maxRecDepth 100000 in
set_option maxHeartbeats 8000000 in
theorem strip_ring (h L : Nat) (w : World) (h0 : 1 ≤ h) (h1 : h ≤ 4) (hL : 1 ≤ L) (hL2 : L ≤ 12) (hr : 3 ≤ L) :
    Calls Tryd.prog 37 #[.int .i64 h, .int .i64 L, .bool true] w (RetIntsErr (stripList h L true) w) := by
  obtain ⟨M, hM, hM2, HM⟩ := wrap_pow h (by omega)
  have hM16 : M ≤ 16 := by rw [HM.out]; exact two_pow_le16 h h1
  have hmg := many_ring h (by omega) L (by omega) h0 hL
  have hms := many_small h (by omega) L (by omega) true
  generalize hN : stripMany h L true = N at hmg hms
  have HN := hide hN
  clear hN
  go_enter Tryd.func37, Tryd.ntmps37
  go_wp2_with (at_make; rw [hmg]; refine wp_make_ints' _ rfl (.tmp 60) (.tmp 60) rfl .i64 .i64 (N + 1) rfl rfl (by omega) ?_; intro w2 hrow hb2 hs2; obtain ⟨k3, k4⟩ := below_cells hb2)
  have x0 : w2.cell? ⟨w.heap.size, 0, none⟩ = some (.int .i64 h) := by rw [k3 _ _ (by simp)]; simp
  have hB2 : Below w.heap.size w w2 := below_trans (below_alloc' (Below.refl _ _) _) hb2
  have hrow0 : w2.rowIs (w.heap.size + 1) 3 (N + 1) (fun _ => .int .i64 0) := by simpa using hrow
  have hsz2 : w2.heap.size = w.heap.size + 2 := by have := hs2.out; simpa using this
  clear k3 k4 hb2 hrow hs2 hmg
  generalize hZ : w.heap.size = Z at *
  have HZ := hide hZ
  clear hZ
  rw [hM]
  go_loopw [64] (fun i wr => ∃ f : Nat, f ≤ M ∧ i = .int .i64 f ∧ Below (Z + 1) w2 wr ∧ wr.rowIs (Z + 1) 3 (N + 1) (fun k => .int .i64 ((sumTo (fun x => firstSum h L true x k) f : Nat) : Int))) (fun i _ => M - (intOf i).toNat)
  case atStart => exact ⟨0, Nat.zero_le _, rfl, Below.refl _ _, hrow0.congr fun _ _ => rfl⟩
  case round =>
    obtain ⟨f, hf, rfl, hB, hrw⟩ := hrel
    obtain ⟨wo, rfl⟩ : ∃ wo : World, wo = wr := ⟨_, rfl⟩
    have hRlt := hrw.lt
    have y0 : wo.cell? ⟨Z, 0, none⟩ = some (.int .i64 h) := (hB.cell (p := ⟨Z, 0, none⟩) (by show Z < Z + 1; omega)).trans x0
    by_cases hlt : f < M
    · go_wp2_with (at_make; refine wp_make_lists _ rfl (.tmp 68) (.tmp 68) rfl .i64 .i64 M (congrArg (Value.int .i64) hM) (congrArg (Value.int .i64) hM) (by omega) ?_; intro w3 hrow3 hb3 hs3; obtain ⟨k3, k4⟩ := below_cells hb3)
      clear k3 k4
      generalize hB0 : wo.heap.size = B0 at *
      -- the table of noughts
      go_loopw [72] (fun i wr => ∃ k : Nat, k ≤ M ∧ i = .int .i64 k ∧ Below B0 wo wr ∧ TabTo wr B0 M (N + 1) k (fun _ _ => 0)) (fun i _ => M - (intOf i).toNat)
      case atStart => exact ⟨0, Nat.zero_le _, rfl, hb3, TabTo.zero hrow3 hs3.out⟩
      case round =>
        obtain ⟨k, hk, rfl, hBk, hT⟩ := hrel
        obtain ⟨wq, rfl⟩ : ∃ wq : World, wq = wr := ⟨_, rfl⟩
        by_cases hkM : k < M
        · have c1 := hT.outer.frozen k
          have c2 : wq.cell? ⟨B0, k, none⟩ = some (.slice none 0 0) := by
            have := hT.outer.cell (i := k) hkM
            rw [if_neg (by omega)] at this
            exact this
          have hBl := hT.outer.lt
          go_wp2_with (at_make; refine wp_make_ints' _ rfl (.tmp 78) (.tmp 78) rfl .i64 .i64 (N + 1) rfl rfl (by omega) ?_; intro w4 hrow4 hb4 hs4; obtain ⟨k5, k6⟩ := below_cells hb4)
          go_roundw
          case rel =>
            have hsz := hT.size
            rw [hsz] at hrow4
            refine ⟨k + 1, by omega, by go_num, (hBk.trans (hb4.mono (by omega))).setCell (Nat.le_refl _) _, ?_⟩
            rw [hsz]
            exact hT.succ hkM hb4 hrow4 hs4.out
          case measure => simp [intOf]; omega
        · obtain rfl : k = M := by omega
          have hTab := hT.whole
          have hsz := hide hT.size
          clear hT hb3 hrow3 hs3
          have c1 : wq.cell? ⟨B0, f, none⟩ = some (.slice (some ⟨B0 + 1 + f, 0, none⟩) (N + 1) (N + 1)) := hTab.outer.cell hlt
          have c4 : wq.cell? ⟨Z, 0, none⟩ = some (.int .i64 h) := (hBk.cell (p := ⟨Z, 0, none⟩) (by show Z < B0; omega)).trans y0
          have hin : innerOf h f < N + 1 := by rw [← HN.out]; exact many_ge h L true f h1 hL (by rw [← HM.out]; exact hlt)
          have hf16 : f < 16 := by omega
          have c2 : wq.cell? ⟨B0 + 1 + f, innerOf h f, none⟩ = some (.int .i64 0) := (hTab.inner f hlt).cell hin
          have c3 : wq.frozen? ⟨B0 + 1 + f, innerOf h f, none⟩ = false := (hTab.inner f hlt).frozen _
          have hf0 : (0 : Int) ≤ (f : Int) := Int.natCast_nonneg _
          have hf1 : (f : Int) < (k : Int) := by omega
          have hset := hTab.set f (innerOf h f) hlt 1
          have HSET := hide hset
          have c5 : (wq.setCell ⟨B0 + 1 + f, innerOf h f, none⟩ (.int .i64 1)).cell? ⟨B0, f, none⟩ = some (.slice (some ⟨B0 + 1 + f, 0, none⟩) (N + 1) (N + 1)) := (World.cell?_setCell_far _ _ _ _ (by show B0 + 1 + f ≠ B0; omega)).trans c1
          clear hset
          have hZf : Z ≠ B0 + 1 + f := by omega
          have HIN := hide (inner_ok h f h0 h1 hf16 Z)
          generalize hvf : innerOf h f = vf at c2 c3 c5 hin HSET HIN
          have hv0 : (0 : Int) ≤ (vf : Int) := Int.natCast_nonneg _
          have hv1 : (vf : Int) < (N : Int) + 1 := by omega
          have HVF := hide hvf
          clear hvf
          go_wp2_with (fail)
          go_region_held3 (fun w' => w'.cell? ⟨B0, f, none⟩ = some (.slice (some ⟨B0 + 1 + f, 0, none⟩) (N + 1) (N + 1)))
            (first | go_keep | assumption | exact c5)
            ((first
              | (go_at_call 53
                 refine Calls.mono (HIN.out _ (by simpa using c4)) ?_
                 rintro e w' ⟨rfl, rfl⟩)))
          obtain ⟨w5, hw5⟩ : ∃ w5, w5 = (wq.setCell ⟨B0 + 1 + f, vf, none⟩ (.int .i64 1)).drew := ⟨_, rfl⟩
          have hT5 : Tab w5 B0 k (N + 1) (fun c q => ways h f 0 c q) := by
            rw [hw5]
            refine Tab.congr (f := fun x y => if x = f ∧ y = vf then 1 else 0) ⟨HSET.out.outer, HSET.out.inner⟩ fun c _ q _ => ?_
            simp only [ways, HVF.out]
          have hB5 : Below B0 wo w5 := by
            have hbb := hBk.setCell (p := ⟨B0 + 1 + f, vf, none⟩) (by show B0 ≤ B0 + 1 + f; omega) (.int .i64 1)
            rw [hw5]
            exact ⟨hbb.os, hbb.tape, hbb.output, hbb.size, hbb.block⟩
          clear c1 c2 c3 c4 c5 hin HSET HIN hv0 hv1 HVF hTab hsz hBk
          rename_i hh
          clear hh
          rw [← hw5]
          clear hw5
          go_wp2_with (fail)
          go_loopw [12, 92] (fun v12 i wt => ∃ t B, t ≤ L - 1 ∧ i = .int .i64 (t : Nat) ∧ v12 = .slice (some ⟨B, 0, none⟩) k k ∧ B0 ≤ B ∧ Below B0 wo wt ∧ Tab wt B k (N + 1) (fun c q => ways h f t c q)) (fun _ i _ => L - 1 - (intOf i).toNat)
          case atStart => exact ⟨0, B0, Nat.zero_le _, rfl, rfl, Nat.le_refl _, hB5, hT5⟩
          case round =>
            obtain ⟨t, B, ht, rfl, rfl, hBB, hBt, hTt⟩ := hrel
            obtain ⟨wt, rfl⟩ : ∃ wt : World, wt = wr := ⟨_, rfl⟩
            clear hT5 hB5
            have hTw := hTt.lt
            by_cases htl : t + 1 < L
            · go_wp2_with (at_make; refine wp_make_lists _ rfl (.tmp 95) (.tmp 95) rfl .i64 .i64 k rfl rfl (by omega) ?_; intro w6 hrow6 hb6 hs6; obtain ⟨k5, k6⟩ := below_cells hb6)
              clear k5 k6
              have hT6 : TabTo w6 wt.heap.size k (N + 1) 0 (fun d q => ways h f (t + 1) d q) := TabTo.zero hrow6 hs6.out
              clear hrow6 hs6
              have hBs := hBt.size
              generalize hB' : wt.heap.size = B' at *
              -- the columns d
              go_loopw [99] (fun i wq => ∃ d : Nat, d ≤ k ∧ i = .int .i64 d ∧ Below B' wt wq ∧ TabTo wq B' k (N + 1) d (fun d q => ways h f (t + 1) d q)) (fun i _ => k - (intOf i).toNat)
              case atStart => exact ⟨0, Nat.zero_le _, rfl, hb6, hT6⟩
              case round =>
                obtain ⟨d, hd, rfl, hBd, hTd⟩ := hrel
                obtain ⟨wd, rfl⟩ : ∃ wd : World, wd = wr := ⟨_, rfl⟩
                by_cases hdk : d < k
                · have e1 : wd.cell? ⟨B', d, none⟩ = some (.slice none 0 0) := by
                    have := hTd.outer.cell (i := d) hdk
                    rw [if_neg (by omega)] at this
                    exact this
                  have e2 := hTd.outer.frozen d
                  have e3 := hTd.outer.lt
                  have hszd := hTd.size
                  have e4 : B' < B' + 1 + d := by omega
                  go_wp2_with (at_make; refine wp_make_ints' _ rfl (.tmp 105) (.tmp 105) rfl .i64 .i64 (N + 1) rfl rfl (by omega) ?_; intro w7 hrow7 hb7 hs7; obtain ⟨k5, k6⟩ := below_cells hb7)
                  clear k5 k6
                  have hT8 := TabTo.succ (f := fun x q => if x = d then sumTo (fun c => step h f t d c q) 0 else ways h f (t + 1) x q) (w1 := w7) ⟨hTd.outer, fun x hx => (hTd.inner x hx).congr fun i _ => by rw [if_neg (by omega)], hTd.size⟩ hdk hb7 (by rw [hszd] at hrow7; exact hrow7.congr fun i _ => by rw [if_pos rfl]; rfl) hs7.out
                  have hB8 : Below B' wt (w7.setCell ⟨B', d, none⟩ (.slice (some ⟨B' + 1 + d, 0, none⟩) (N + 1) (N + 1))) := (hBd.trans (hb7.mono (by omega))).setCell (by show B' ≤ B'; omega) _
                  clear hs7 hb7 hrow7 hTd hBd e1 e2 e3 e4
                  try rw [hszd]
                  generalize w7.setCell ⟨B', d, none⟩ (.slice (some ⟨B' + 1 + d, 0, none⟩) (N + 1) (N + 1)) = w8 at hT8 hB8 ⊢
                  clear hszd
                  go_wp2_with (fail)
                  -- the columns c that lead to d
                  go_loopw [110] (fun i wq => ∃ c : Nat, c ≤ k ∧ i = .int .i64 c ∧ Below B' wt wq ∧ TabTo wq B' k (N + 1) (d + 1) (fun x q => if x = d then sumTo (fun c => step h f t d c q) c else ways h f (t + 1) x q)) (fun i _ => k - (intOf i).toNat)
                  case atStart => exact ⟨0, Nat.zero_le _, rfl, hB8, hT8⟩
                  case round =>
                    obtain ⟨c, hc, rfl, hBc, hTc⟩ := hrel
                    obtain ⟨wc, rfl⟩ : ∃ wc : World, wc = wr := ⟨_, rfl⟩
                    by_cases hck : c < k
                    · have z0 : wc.cell? ⟨Z, 0, none⟩ = some (.int .i64 h) := ((hBc.cell (p := ⟨Z, 0, none⟩) (by show Z < B'; omega)).trans (hBt.cell (p := ⟨Z, 0, none⟩) (by show Z < B0; omega))).trans y0
                      have z1 : wc.cell? ⟨B, c, none⟩ = some (.slice (some ⟨B + 1 + c, 0, none⟩) (N + 1) (N + 1)) := (hTt.below hBc (by omega)).outer.cell hck
                      have hk2 : k = 2 ^ h := HM.out
                      have hxe : bits BinOp.xor IntKind.i64 (c : Int) (d : Int) = ((c ^^^ d : Nat) : Int) := i64_xor c d (by omega) (by omega)
                      have hx16 : c ^^^ d < 16 := xor_go h h1 c d (by omega) (by omega)
                      have hil := inner_le h (by omega) d (by omega)
                      have hol : ones (c ^^^ d) ≤ h := ham_le h (by omega) c (by omega) d (by omega)
                      have HIN := hide (inner_ok h d h0 h1 (by omega) Z wc z0)
                      have HON := hide (ones_ok (c ^^^ d) hx16)
                      obtain ⟨u, hu⟩ : ∃ u, u = innerOf h d + ones (c ^^^ d) := ⟨_, rfl⟩
                      have hu8 : u ≤ 8 := by omega
                      have huh : innerOf h d + ham c d = u := hu.symm
                      have HUH := hide huh
                      clear huh
                      generalize innerOf h d = vi at hu hil HIN
                      generalize hvo : ones (c ^^^ d) = vo at hu hol HON
                      clear hvo
                      generalize c ^^^ d = x at hxe hx16 HON
                      clear hk2
                      go_wp2_with (first
                        | (go_at_call 53
                           refine HIN.out.mono ?_
                           rintro e w' ⟨rfl, rfl⟩)
                        | (go_at_call 54
                           refine (HON.out _).mono ?_
                           rintro e w' ⟨rfl, rfl⟩))
                      have hui : (vi : Int) + (vo : Int) = (u : Int) := by omega
                      rw [hui]
                      clear hui hu hil hol HIN HON hxe hx16 z0
                      -- the numbers of column c
                      go_loopw [127] (fun i wq => ∃ r : Nat, r ≤ N + 1 ∧ i = .int .i64 r ∧ Below B' wt wq ∧ TabTo wq B' k (N + 1) (d + 1) (fun x q => if x = d then sumTo (fun c => step h f t d c q) c + part (ways h f t c) u r q else ways h f (t + 1) x q)) (fun i _ => N + 1 - (intOf i).toNat)
                      case atStart =>
                        exact ⟨0, Nat.zero_le _, rfl, hBc, hTc.congr fun x _ q _ => by
                          by_cases e : x = d
                          · rw [if_pos e, if_pos e, part_zero]; rfl
                          · rw [if_neg e, if_neg e]⟩
                      case round =>
                        obtain ⟨r, hr, rfl, hBr, hTr⟩ := hrel
                        obtain ⟨wv, rfl⟩ : ∃ wv : World, wv = wr := ⟨_, rfl⟩
                        clear z1
                        by_cases hrN : r < N + 1
                        · have hTz := hTt.below hBr (by omega)
                          have q4 : wv.cell? ⟨B + 1 + c, r, none⟩ = some (.int .i64 ((ways h f t c r : Nat) : Int)) := (hTz.inner c hck).cell hrN
                          have hr0 : (0 : Int) ≤ (r : Int) := Int.natCast_nonneg _
                          have hr1 : (r : Int) < (N : Int) + 1 := by omega
                          by_cases hg : ways h f t c r = 0
                          · have hstep := fun q => part_skip (ways h f t c) u r q hg
                            have HST := hide hstep
                            clear hstep
                            rw [hg] at q4
                            clear hg
                            go_wp2_with (fail)
                            go_roundw
                            case rel => exact ⟨r + 1, by omega, by go_num, hBr, hTr.congr fun x _ q _ => by rw [HST.out]⟩
                            case measure => simp [intOf]; omega
                          · have hroom := room_step h L true f t c d r h1 (by rw [← HM.out]; exact hlt) (by rw [← HM.out]; exact hck) (by rw [← HM.out]; exact hdk) htl (by omega)
                            rw [HN.out, HUH.out] at hroom
                            have hgb := ways_bound h f t c r h1 (by omega)
                            have q1 : wv.cell? ⟨B', d, none⟩ = some (.slice (some ⟨B' + 1 + d, 0, none⟩) (N + 1) (N + 1)) := by
                              have := hTr.outer.cell (i := d) hdk
                              rw [if_pos (by omega)] at this
                              exact this
                            have q2 : wv.cell? ⟨B' + 1 + d, r + u, none⟩ = some (.int .i64 ((sumTo (fun c => step h f t d c (r + u)) c : Nat) : Int)) := by
                              have := (hTr.inner d (by omega)).cell (i := r + u) hroom
                              rw [if_pos rfl, part_at, Nat.add_zero] at this
                              exact this
                            have q3 : wv.frozen? ⟨B' + 1 + d, r + u, none⟩ = false := (hTr.inner d (by omega)).frozen _
                            have hsb := steps_bound h f t d c (r + u) h1 (by omega) (by rw [← HM.out]; omega)
                            have hset := hTr.set d (r + u) (by omega) (sumTo (fun c => step h f t d c (r + u)) c + ways h f t c r)
                            have hT' : TabTo (wv.setCell ⟨B' + 1 + d, r + u, none⟩ (.int .i64 ((sumTo (fun c => step h f t d c (r + u)) c + ways h f t c r : Nat) : Int))) B' k (N + 1) (d + 1) (fun x q => if x = d then sumTo (fun c => step h f t d c q) c + part (ways h f t c) u (r + 1) q else ways h f (t + 1) x q) :=
                              hset.congr fun x _ q _ => by
                                by_cases e : x = d
                                · have e0 := part_add (ways h f t c) (fun q => sumTo (fun c => step h f t d c q) c) u r q
                                  rw [part_at] at e0
                                  rw [if_pos e, if_pos e, ← e0, Nat.add_zero]
                                  by_cases e2 : q = r + u
                                  · rw [if_pos ⟨e, e2⟩, if_pos e2]
                                  · rw [if_neg (fun h => e2 h.2), if_neg e2]
                                · rw [if_neg (fun h => e h.1), if_neg e, if_neg e]
                            generalize sumTo (fun c => step h f t d c (r + u)) c = v1 at *
                            generalize ways h f t c r = v2 at *
                            have hd0 : (0 : Int) ≤ (d : Int) := Int.natCast_nonneg _
                            have hd1 : (d : Int) < (k : Int) := by omega
                            have hv2 : 0 < (v2 : Int) := by omega
                            have hr4 : 0 ≤ (r : Int) + (u : Int) := by omega
                            have hr3 : (r : Int) + (u : Int) < (N : Int) + 1 := by omega
                            have hr5 : ((r : Int) + (u : Int)).toNat = r + u := by omega
                            have HT := hide hT'
                            clear hset hTz hT' hTr hg
                            go_wp2_with (fail)
                            go_roundw
                            case rel =>
                              exact ⟨r + 1, by omega, by go_num, hBr.setCell (p := ⟨B' + 1 + d, r + u, none⟩) (by show B' ≤ B' + 1 + d; omega) (.int .i64 ((v1 + v2 : Nat) : Int)), HT.out⟩
                            case measure => simp [intOf]; omega
                        · obtain rfl : r = N + 1 := by omega
                          go_wp2_with (fail)
                          go_roundw
                          case rel => exact ⟨c + 1, by omega, by go_num, hBr, hTr.congr fun x _ q hq => by
                            by_cases e : x = d
                            · rw [if_pos e, if_pos e, part_end _ _ _ _ hq]
                              show _ = sumTo (fun c => step h f t d c q) c + step h f t d c q
                              unfold step
                              rw [HUH.out]
                            · rw [if_neg e, if_neg e]⟩
                          case measure => simp [intOf]; omega
                    · obtain rfl : c = k := by omega
                      go_wp2_with (fail)
                      go_roundw
                      case rel => exact ⟨d + 1, by omega, by go_num, hBc, hTc.congr fun x _ q _ => by
                        by_cases e : x = d
                        · rw [if_pos e, e, HM.out, step_sum]
                        · rw [if_neg e]⟩
                      case measure => simp [intOf]; omega
                · obtain rfl : d = k := by omega
                  have hW := hTd.whole
                  go_wp2_with (fail)
                  go_roundw
                  case rel => exact ⟨t + 1, B', by omega, by go_num, rfl, by omega, hBt.trans (hBd.mono (by omega)), hW⟩
                  case measure => simp [intOf]; omega
            · obtain rfl : t = L - 1 := by omega
              have hrw' := hrw.of_block (hBt.block (Z + 1) (by omega))
              have hB1 : Below (Z + 1) w2 wt := hB.trans (hBt.mono (by omega))
              clear hBt hrw hB
              go_wp2_with (fail)
              -- the last columns
              go_loopw [153] (fun i wq => ∃ c : Nat, c ≤ k ∧ i = .int .i64 c ∧ Below (Z + 1) w2 wq ∧ Tab wq B k (N + 1) (fun c q => ways h f (L - 1) c q) ∧ wq.rowIs (Z + 1) 3 (N + 1) (fun q => .int .i64 ((sumTo (fun x => firstSum h L true x q) f + sumTo (fun x => closing h L true f x q) c : Nat) : Int))) (fun i _ => k - (intOf i).toNat)
              case atStart => exact ⟨0, Nat.zero_le _, rfl, hB1, hTt, hrw'⟩
              case round =>
                obtain ⟨c, hc, rfl, hBc, hTc, hOc⟩ := hrel
                obtain ⟨wc, rfl⟩ : ∃ wc : World, wc = wr := ⟨_, rfl⟩
                by_cases hck : c < k
                · have z1 : wc.cell? ⟨B, c, none⟩ = some (.slice (some ⟨B + 1 + c, 0, none⟩) (N + 1) (N + 1)) := hTc.outer.cell hck
                  have hxe : bits BinOp.xor IntKind.i64 (c : Int) (f : Int) = ((c ^^^ f : Nat) : Int) := i64_xor c f (by omega) (by omega)
                  have hx16 : c ^^^ f < 16 := xor_go h h1 c f (by rw [← HM.out]; exact hck) (by rw [← HM.out]; exact hlt)
                  have HON := hide (ones_ok (c ^^^ f) hx16)
                  obtain ⟨u, hu⟩ : ∃ u, u = ones (c ^^^ f) := ⟨_, rfl⟩
                  have hu8 : u ≤ 8 := by
                    have := ham_le h (by omega) c (by rw [← HM.out]; exact hck) f (by rw [← HM.out]; exact hlt)
                    rw [hu]
                    exact Nat.le_trans this (by omega)
                  have huh : upOf true f c = u := hu.symm
                  have HUH := hide huh
                  clear huh
                  rw [← hu] at HON
                  clear hu
                  generalize c ^^^ f = x at hxe hx16 HON
                  go_wp2_with (go_at_call 54; refine (HON.out _).mono ?_; rintro e w' ⟨rfl, rfl⟩)
                  clear hxe hx16 HON
                  go_loopw [167] (fun i wq => ∃ r : Nat, r ≤ N + 1 ∧ i = .int .i64 r ∧ Below (Z + 1) w2 wq ∧ Tab wq B k (N + 1) (fun c q => ways h f (L - 1) c q) ∧ wq.rowIs (Z + 1) 3 (N + 1) (fun q => .int .i64 ((sumTo (fun x => firstSum h L true x q) f + sumTo (fun x => closing h L true f x q) c + part (ways h f (L - 1) c) u r q : Nat) : Int))) (fun i _ => N + 1 - (intOf i).toNat)
                  case atStart =>
                    exact ⟨0, Nat.zero_le _, rfl, hBc, hTc, hOc.congr fun q _ => by rw [part_zero, Nat.add_zero]⟩
                  case round =>
                    obtain ⟨r, hr, rfl, hBr, hTr, hOr⟩ := hrel
                    obtain ⟨wv, rfl⟩ : ∃ wv : World, wv = wr := ⟨_, rfl⟩
                    clear z1
                    by_cases hrN : r < N + 1
                    · have q4 : wv.cell? ⟨B + 1 + c, r, none⟩ = some (.int .i64 ((ways h f (L - 1) c r : Nat) : Int)) := (hTr.inner c hck).cell hrN
                      have hr0 : (0 : Int) ≤ (r : Int) := Int.natCast_nonneg _
                      have hr1 : (r : Int) < (N : Int) + 1 := by omega
                      by_cases hg : ways h f (L - 1) c r = 0
                      · have hstep := fun q => part_skip (ways h f (L - 1) c) u r q hg
                        have HST := hide hstep
                        clear hstep
                        rw [hg] at q4
                        clear hg
                        go_wp2_with (fail)
                        go_roundw
                        case rel => exact ⟨r + 1, by omega, by go_num, hBr, hTr, hOr.congr fun q _ => by rw [HST.out]⟩
                        case measure => simp [intOf]; omega
                      · have hroom := room_close h L true f c r h1 hL (by rw [← HM.out]; exact hlt) (by rw [← HM.out]; exact hck) (by omega)
                        rw [HN.out, HUH.out] at hroom
                        have hgb := ways_bound h f (L - 1) c r h1 (by omega)
                        have q2 : wv.cell? ⟨Z + 1, r + u, none⟩ = some (.int .i64 ((sumTo (fun x => firstSum h L true x (r + u)) f + sumTo (fun x => closing h L true f x (r + u)) c : Nat) : Int)) := by
                          have := hOr.cell (i := r + u) hroom
                          rw [part_at, Nat.add_zero] at this
                          exact this
                        have q3 : wv.frozen? ⟨Z + 1, r + u, none⟩ = false := hOr.frozen _
                        have hsb1 := firsts_bound h L true f (r + u) h1 hL2 (by rw [← HM.out]; omega)
                        have hsb2 := closings_bound h L f true c (r + u) h1 hL2 (by rw [← HM.out]; omega)
                        have hset := hOr.set (r + u) (.int .i64 ((sumTo (fun x => firstSum h L true x (r + u)) f + sumTo (fun x => closing h L true f x (r + u)) c + ways h f (L - 1) c r : Nat) : Int))
                        have hO' := hset.congr (g := fun q => .int .i64 ((sumTo (fun x => firstSum h L true x q) f + sumTo (fun x => closing h L true f x q) c + part (ways h f (L - 1) c) u (r + 1) q : Nat) : Int)) (fun q _ => by
                          have e0 := part_add (ways h f (L - 1) c) (fun q => sumTo (fun x => firstSum h L true x q) f + sumTo (fun x => closing h L true f x q) c) u r q
                          rw [part_at] at e0
                          rw [← e0]
                          by_cases e2 : q = r + u
                          · rw [if_pos e2, if_pos e2, Nat.add_zero]
                          · rw [if_neg e2, if_neg e2])
                        have hT' := hTr.other (p := ⟨Z + 1, r + u, none⟩) (by show Z + 1 < B; omega) (.int .i64 ((sumTo (fun x => firstSum h L true x (r + u)) f + sumTo (fun x => closing h L true f x (r + u)) c + ways h f (L - 1) c r : Nat) : Int))
                        generalize sumTo (fun x => firstSum h L true x (r + u)) f = v0 at *
                        generalize sumTo (fun x => closing h L true f x (r + u)) c = v1 at *
                        generalize ways h f (L - 1) c r = v2 at *
                        have hv2 : 0 < (v2 : Int) := by omega
                        have hr4 : 0 ≤ (r : Int) + (u : Int) := by omega
                        have hr3 : (r : Int) + (u : Int) < (N : Int) + 1 := by omega
                        have hr5 : ((r : Int) + (u : Int)).toNat = r + u := by omega
                        have HT := hide hT'
                        have HO := hide hO'
                        clear hset hO' hT' hTr hOr hg
                        go_wp2_with (fail)
                        go_roundw
                        case rel =>
                          exact ⟨r + 1, by omega, by go_num, hBr.setCell (p := ⟨Z + 1, (r + u), none⟩) (by show Z + 1 ≤ Z + 1; omega) (.int .i64 ((v0 + v1 + v2 : Nat) : Int)), HT.out, HO.out⟩
                        case measure => simp [intOf]; omega
                    · obtain rfl : r = N + 1 := by omega
                      go_wp2_with (fail)
                      go_roundw
                      case rel => exact ⟨c + 1, by omega, by go_num, hBr, hTr, hOr.congr fun q hq => by
                        rw [part_end _ _ _ _ hq, Nat.add_assoc]
                        show _ = Value.int .i64 ((_ + (sumTo (fun x => closing h L true f x q) c + closing h L true f c q) : Nat) : Int)
                        unfold closing
                        rw [HUH.out]⟩
                      case measure => simp [intOf]; omega
                · obtain rfl : c = k := by omega
                  go_wp2_with (fail)
                  go_roundw
                  case rel => exact ⟨f + 1, by omega, by go_num, hBc, hOc.congr fun q _ => by
                    show _ = Value.int .i64 ((sumTo (fun x => firstSum h L true x q) f + firstSum h L true f q : Nat) : Int)
                    unfold firstSum
                    rw [← HM.out]⟩
                  case measure => simp [intOf]; omega
    · obtain rfl : f = M := by omega
      go_wp2_with (fail)
      go_ret2
      refine ⟨some ⟨Z + 1, 0, none⟩, N + 1, by rw [stripList_length, HN.out]; rfl, ?_, by rw [stripList_length, HN.out]; omega, by rw [HZ.out]; exact hB2.trans (hB.mono (by omega))⟩
      have hi := Ints.ofRow (f := fun q => (stripCount h L true q : Int)) (hrw.congr fun q _ => by rw [HM.out, count_firsts]) (by omega)
      unfold stripList
      rw [HN.out]
      exact hi
end Go.Proofs.YtngogonepjicpaaDoor
