/- Words, plain laws and walks behind the law ZeroStrong, part 4. No condition. -/
import Derived.Test.YtehheklbibocjaaDoorFlatZeroStrongc
import Derived.Test.YtehheklbibocjaaDoorFlatZeroStronga
import Derived.LaidEql
import Derived.Stop.Asserts
import Derived.RowKitTokens

/- The walk of StrongOf. No condition. -/
namespace Go.Proofs.YtehheklbibocjaaDoor
open Go.RowKit Go.Deep Go.Proofs.YtehheklbibocjaaDoorW.PrintWords

/-- have two vertices of the product an edge (by lists)? -/
def strongQ (l k : List (Int × Int)) (m v w : Nat) : Bool := (decide (v / m = w / m) || adjL l ((v / m : Nat) : Int) ((w / m : Nat) : Int)) && (decide (v % m = w % m) || adjL k ((v % m : Nat) : Int) ((w % m : Nat) : Int))
/-- the boxes of StrongOf's arguments, as they stay -/
structure SOf (w : World) (n : Int) (A : Option Addr) (la c : Nat) (m : Int) (B : Option Addr) (lb d : Nat) (W : World) : Prop where
  below : Below w.heap.size w W
  size : w.heap.size + 3 ≤ W.heap.size
  a0 : W.cell? ⟨w.heap.size, 0, none⟩ = some (.int .i64 n)
  a1 : W.cell? ⟨w.heap.size, 1, none⟩ = some (.slice A la c)
  b0 : W.cell? ⟨w.heap.size + 1, 0, none⟩ = some (.int .i64 m)
  b1 : W.cell? ⟨w.heap.size + 1, 1, none⟩ = some (.slice B lb d)
  r0 : W.cell? ⟨w.heap.size + 2, 0, none⟩ = some (.int .i64 0)
  r1 : W.cell? ⟨w.heap.size + 2, 1, none⟩ = some (.slice none 0 0)
  f0 : W.frozen? ⟨w.heap.size + 2, 0, none⟩ = false
  f1 : W.frozen? ⟨w.heap.size + 2, 1, none⟩ = false
def gObj (n : Int) (A : Option Addr) (len c : Nat) : Obj := .cells #[.int .i64 n, .slice A len c] 24
theorem SOf.start (w : World) (n : Int) (A : Option Addr) (la c : Nat) (m : Int) (B : Option Addr) (lb d : Nat) : SOf w n A la c m B lb d (((w.alloc (gObj n A la c)).alloc (gObj m B lb d)).alloc (gObj 0 none 0 0)) ∧ (((w.alloc (gObj n A la c)).alloc (gObj m B lb d)).alloc (gObj 0 none 0 0)).heap.size = w.heap.size + 3 := by
  obtain ⟨V1, hV1⟩ : ∃ V, w.alloc (gObj n A la c) = V := ⟨_, rfl⟩
  obtain ⟨V2, hV2⟩ : ∃ V, V1.alloc (gObj m B lb d) = V := ⟨_, rfl⟩
  obtain ⟨V3, hV3⟩ : ∃ V, V2.alloc (gObj 0 none 0 0) = V := ⟨_, rfl⟩
  rw [hV1, hV2, hV3]
  have s1 : V1.heap.size = w.heap.size + 1 := by rw [← hV1, World.size_alloc]
  have s2 : V2.heap.size = w.heap.size + 2 := by rw [← hV2, World.size_alloc, s1]
  have s3 : V3.heap.size = w.heap.size + 3 := by rw [← hV3, World.size_alloc, s2]
  have b1 : Below w.heap.size w V1 := by rw [← hV1]; exact below_alloc' (Below.refl _ _) _
  have b2 : Below V1.heap.size V1 V2 := by rw [← hV2]; exact below_alloc' (Below.refl _ _) _
  have b3 : Below V2.heap.size V2 V3 := by rw [← hV3]; exact below_alloc' (Below.refl _ _) _
  have e1 : V3.heap[w.heap.size]? = some (gObj n A la c) := by
    rw [b3.block _ (by omega), b2.block _ (by omega), ← hV1]
    exact alloc_at _ _
  have e2 : V3.heap[w.heap.size + 1]? = some (gObj m B lb d) := by
    rw [b3.block _ (by omega), ← s1, ← hV2]
    exact alloc_at _ _
  have e3 : V3.heap[w.heap.size + 2]? = some (gObj 0 none 0 0) := by
    rw [← s2, ← hV3]
    exact alloc_at _ _
  exact ⟨⟨below_trans (below_trans b1 b2) b3, by omega, (cell_of _ _ 0 _ _ _ e1 rfl).1, (cell_of _ _ 1 _ _ _ e1 rfl).1, (cell_of _ _ 0 _ _ _ e2 rfl).1, (cell_of _ _ 1 _ _ _ e2 rfl).1, (cell_of _ _ 0 _ _ _ e3 rfl).1, (cell_of _ _ 1 _ _ _ e3 rfl).1, (cell_of _ _ 0 _ _ _ e3 rfl).2, (cell_of _ _ 1 _ _ _ e3 rfl).2⟩, s3⟩
theorem SOf.later {w : World} {n : Int} {A : Option Addr} {la c : Nat} {m : Int} {B : Option Addr} {lb d : Nat} {W W' : World} (h : SOf w n A la c m B lb d W) (b : Below W.heap.size W W') : SOf w n A la c m B lb d W' := by
  have hs := h.size
  have key : ∀ q o, q < w.heap.size + 3 → W'.cell? ⟨q, o, none⟩ = W.cell? ⟨q, o, none⟩ := fun q o hq => b.cell (p := ⟨q, o, none⟩) (by show q < _; omega)
  have fkey : ∀ q o, q < w.heap.size + 3 → W'.frozen? ⟨q, o, none⟩ = W.frozen? ⟨q, o, none⟩ := fun q o hq => b.frozen (p := ⟨q, o, none⟩) (by show q < _; omega)
  exact ⟨below_trans h.below b, Nat.le_trans hs b.size, (key _ _ (by omega)).trans h.a0, (key _ _ (by omega)).trans h.a1, (key _ _ (by omega)).trans h.b0, (key _ _ (by omega)).trans h.b1, (key _ _ (by omega)).trans h.r0, (key _ _ (by omega)).trans h.r1, (fkey _ _ (by omega)).trans h.f0, (fkey _ _ (by omega)).trans h.f1⟩

theorem div_wrap' {a b : Nat} (h : a ≤ 1000) : IntKind.i64.wrap ((a : Int) / (b : Int)) = ((a / b : Nat) : Int) := by
  have e : (a : Int) / (b : Int) = ((a / b : Nat) : Int) := rfl
  have h2 : a / b ≤ a := Nat.div_le_self _ _
  rw [e, IntKind.wrap_i64]
  generalize a / b = q at h2
  omega
theorem mod_wrap {a b : Nat} (h : a ≤ 1000) : IntKind.i64.wrap ((a % b : Nat) : Int) = ((a % b : Nat) : Int) := by
  have h2 : a % b ≤ a := Nat.mod_le _ _
  rw [IntKind.wrap_i64]
  generalize a % b = q at h2
  omega
set_option maxRecDepth 100000 in
set_option maxHeartbeats 8000000 in
theorem strongOf_ok (n m : Nat) (A : Option Addr) (l : List (Int × Int)) (c : Nat) (B : Option Addr) (k : List (Int × Int)) (d : Nat) (w : World) (hA : Pairs w A l) (hB : Pairs w B k) (h3 : n * m ≤ 16) (hm16 : m ≤ 16) :
    Calls Tryd.prog 16 #[.agg #[.int .i64 n, .slice A l.length c], .agg #[.int .i64 m, .slice B k.length d]] w fun e w' => ∃ E f, e = .returned (.agg #[.int .i64 (n * m : Nat), .slice E (allTo (strongQ l k m) (n * m) (n * m)).length f]) ∧ Pairs w' E (allTo (strongQ l k m) (n * m) (n * m)) ∧ (allTo (strongQ l k m) (n * m) (n * m)).length ≤ f ∧ (∀ x, E = some x → w.heap.size ≤ x.block ∧ x.block < w'.heap.size) ∧ Below w.heap.size w w' := by
  obtain ⟨hst0, hs3⟩ := SOf.start w n A l.length c m B k.length d
  obtain ⟨N, hN⟩ : ∃ N, n * m = N := ⟨_, rfl⟩
  rw [hN] at h3 ⊢
  have hNi : (n : Int) * (m : Int) = (N : Int) := by rw [← hN]; rfl
  have hw : wrap64 ((n : Int) * (m : Int)) = (N : Int) := by rw [hNi]; unfold wrap64; omega
  obtain ⟨P, hP⟩ : ∃ P, strongQ l k m = P := ⟨_, rfl⟩
  rw [hP]
  have HP := hide hP
  have HNN := hide hN
  have HAB := hide (And.intro hA hB)
  have HST := hide hst0
  have HGS := hide (SGr.start (((w.alloc (gObj n A l.length c)).alloc (gObj m B k.length d)).alloc (gObj 0 none 0 0)) 24 (N : Int))
  have HS3 := hide hs3
  clear hA hB hst0 hs3 hP hN
  go_enter Tryd.func16, Tryd.ntmps16
  go_wp2_with (fail)
  obtain ⟨W3, hW3⟩ : ∃ W, (((w.alloc (gObj n A l.length c)).alloc (gObj m B k.length d)).alloc (gObj 0 none 0 0)) = W := ⟨_, rfl⟩
  have hS3 := HST.out
  have hGS := HGS.out
  have hz3 := HS3.out
  rw [hW3] at hS3 hGS hz3
  have HB := hide hS3
  have HSZ := hide (show w.heap.size + 1 + 1 + 1 = W3.heap.size from hz3.symm)
  have hz3' : w.heap.size + 2 < W3.heap.size := by omega
  have HSTART : Hid (∃ E f, SGr W3 24 (N : Int) ((((w.alloc (gObj n A l.length c)).alloc (gObj m B k.length d)).alloc (gObj 0 none 0 0)).alloc (.cells #[.int .i64 (N : Int), .slice none 0 0] 24)) (allTo P N 0) E f) := hide ⟨_, _, by rw [hW3]; exact hGS⟩
  clear hGS HGS HS3 HST hS3 hW3 hz3
  go_loopw [6] (fun jv wr => ∃ v : Nat, v ≤ N ∧ jv = .int .i64 v ∧ Hid (∃ E f, SGr W3 24 (N : Int) wr (allTo P N v) E f)) (fun jv _ => N - (intOf jv).toNat)
  case atStart => exact ⟨0, Nat.zero_le _, rfl, HSTART⟩
  case round =>
    obtain ⟨v, hv, rfl, HJ⟩ := hrel
    obtain ⟨wv, rfl⟩ : ∃ wv : World, wv = wr := ⟨_, rfl⟩
    clear HSTART
    rw [HSZ.out]
    have v0 : (0 : Int) ≤ (v : Int) := Int.natCast_nonneg _
    obtain ⟨Ev, fv, hGv⟩ := HJ.out
    obtain ⟨c0, c1, c2, c3⟩ := hGv.cells
    by_cases hvl : v < N
    · have v1 : (v : Int) < (N : Int) := by omega
      clear hGv c1 c2
      go_wp2_with (fail)
      go_loopw [7] (fun jv wr => ∃ x : Nat, v + 1 ≤ x ∧ x ≤ N ∧ jv = .int .i64 x ∧ Hid (∃ E f, SGr W3 24 (N : Int) wr (allTo P N v ++ rowTo P v x) E f)) (fun jv _ => N - (intOf jv).toNat)
      case atStart => exact ⟨v + 1, Nat.le_refl _, hvl, by go_num, by rw [rowTo_first, List.append_nil]; exact HJ⟩
      case round =>
        obtain ⟨x, hvx, hx, rfl, HK⟩ := hrel
        obtain ⟨wx, rfl⟩ : ∃ wx : World, wx = wr := ⟨_, rfl⟩
        clear HJ c0 c3
        have hbd := grown_length (P := P) (N := N) (v := v) (w := x) (by omega) hv hx
        obtain ⟨L, hL⟩ : ∃ L, allTo P N v ++ rowTo P v x = L := ⟨_, rfl⟩
        rw [hL] at HK hbd
        obtain ⟨E, f, hG⟩ := HK.out
        obtain ⟨c0, c1, c2, c3⟩ := hG.cells
        have x0 : (0 : Int) ≤ (x : Int) := Int.natCast_nonneg _
        by_cases hxl : x < N
        · have x1 : (x : Int) < (N : Int) := by omega
          have hm0 : 0 < m := Nat.pos_of_ne_zero fun e => by have := HNN.out; rw [e, Nat.mul_zero] at this; omega
          have hs := HB.out.later hG.below
          obtain ⟨a0, a1, b0, b1⟩ := And.intro hs.a0 (And.intro hs.a1 (And.intro hs.b0 hs.b1))
          have zz := hs.size
          have m0 : ((m : Int) == 0) = false := beq_eq_false_iff_ne.2 (by omega)
          have m1 : (m : Int) ≠ 0 := by omega
          have m2 : (0 : Int) < (m : Int) := by omega
          have e1 : wrap64 ((v : Int) / (m : Int)) = ((v / m : Nat) : Int) := div_wrap (by omega)
          have e2 : wrap64 ((x : Int) / (m : Int)) = ((x / m : Nat) : Int) := div_wrap (by omega)
          have e1' : IntKind.i64.wrap ((v : Int) / (m : Int)) = ((v / m : Nat) : Int) := div_wrap' (by omega)
          have e2' : IntKind.i64.wrap ((x : Int) / (m : Int)) = ((x / m : Nat) : Int) := div_wrap' (by omega)
          have mN : ¬ m = 0 := by omega
          have e3 : (v : Int) % (m : Int) = ((v % m : Nat) : Int) := rfl
          have e4 : (x : Int) % (m : Int) = ((x % m : Nat) : Int) := rfl
          have e3t := tmod_nat v m
          have e4t := tmod_nat x m
          have e3' : IntKind.i64.wrap ((v % m : Nat) : Int) = ((v % m : Nat) : Int) := mod_wrap (by omega)
          have e4' : IntKind.i64.wrap ((x % m : Nat) : Int) = ((x % m : Nat) : Int) := mod_wrap (by omega)
          have hPP : P v x = ((decide (v / m = x / m) || adjL l ((v / m : Nat) : Int) ((x / m : Nat) : Int)) && (decide (v % m = x % m) || adjL k ((v % m : Nat) : Int) ((x % m : Nat) : Int))) := by rw [← HP.out]; rfl
          generalize v / m = vi at e1 e1' hPP
          generalize x / m = xi at e2 e2' hPP
          generalize v % m = vk at e3 e3' e3t hPP
          generalize x % m = xk at e4 e4' e4t hPP
          have HG := hide (And.intro hG hs)
          have HLL := hide hL
          have hlen : (L ++ [((v : Int), (x : Int))]).length = L.length + 1 := by rw [List.length_append, List.length_singleton]
          have HLEN := hide hlen
          have HPP := hide hPP
          have HJA := hide (fun V (hb : Below w.heap.size w V) => joined_any n A l c (vi : Int) (xi : Int) V (HAB.out.1.below hb))
          have HJB := hide (fun V (hb : Below w.heap.size w V) => joined_any m B k d (vk : Int) (xk : Int) V (HAB.out.2.below hb))
          have z1 : w.heap.size + 1 < wx.heap.size := by omega
          have z2 : w.heap.size < wx.heap.size := by omega
          clear hG hs hL hlen hPP c1 c2
          have HGwx := HG
          by_cases g0 : vi = xi
          · have q0 : ((vi : Int) == (xi : Int)) = true := by rw [g0]; simp
            go_wp2_with (fail)
            go_quiet (fail)
            have hGw6 := HGwx.out.1.later (below_drewN' (Below.refl _ _) nq)
            have hsw6 := HGwx.out.2.later (below_drewN' (Below.refl _ _) nq)
            generalize World.drewN wx nq = w6 at hGw6 hsw6 ⊢
            have HGw6 := hide (And.intro hGw6 hsw6)
            clear HGwx a0 a1 b0 b1 z1 z2
            obtain ⟨a0, a1, b0, b1⟩ := And.intro hsw6.a0 (And.intro hsw6.a1 (And.intro hsw6.b0 hsw6.b1))
            have z1 : w.heap.size + 1 < w6.heap.size := by have := hsw6.size; omega
            have z2 : w.heap.size < w6.heap.size := by omega
            clear hGw6 hsw6
            by_cases g2 : vk = xk
            · have q2 : ((vk : Int) == (xk : Int)) = true := by rw [g2]; simp
              go_wp2_with (fail)
              go_quiet (fail)
              have hGw7 := HGw6.out.1.later (below_drewN' (Below.refl _ _) nq)
              have hsw7 := HGw6.out.2.later (below_drewN' (Below.refl _ _) nq)
              generalize World.drewN w6 nq = w7 at hGw7 hsw7 ⊢
              have HGw7 := hide (And.intro hGw7 hsw7)
              clear HGw6 a0 a1 b0 b1 z1 z2
              obtain ⟨a0, a1, b0, b1⟩ := And.intro hsw7.a0 (And.intro hsw7.a1 (And.intro hsw7.b0 hsw7.b1))
              have z1 : w.heap.size + 1 < w7.heap.size := by have := hsw7.size; omega
              have z2 : w.heap.size < w7.heap.size := by omega
              clear hGw7 hsw7
              have hp : P v x = true := by rw [HPP.out]; simp [g0, g2]
              have HROW := hide (rowTo_yes (P := P) (v := v) (w := x) (by omega) hp)
              clear hp
              have hzq := lt_of_block HGw7.out.1.box
              obtain ⟨c0, c1, c2, c3⟩ := HGw7.out.1.cells
              go_wp2_with (at_builtin; refine wp_app_pairs _ rfl (.tmp 77) (.tmp 81) rfl (W3.heap.size + 1) (.slice E L.length f) L rfl (own_below HGw7.out.1.own (below_alloc' (Below.refl _ _) _)) (some ⟨w7.heap.size, 0, none⟩) 1 1 [((v : Int), (x : Int))] rfl rfl (pairs_one (by simp) (by simp)) (by omega) (by rw [World.size_alloc]; omega) ?_; intro E' f' w9 hf9 ho9 hg9 _; obtain ⟨hG9, y1, y2⟩ := SGr.push HGw7.out.1 ho9 hg9; rw [HLEN.out] at hG9; have HG9 := hide hG9; clear ho9 hg9 hf9 hG9)
              go_roundw
              case rel => exact ⟨x + 1, by omega, by omega, by go_num, hide ⟨E', f', by rw [HROW.out, ← List.append_assoc, HLL.out]; exact HG9.out⟩⟩
              case measure => simp [intOf]; omega
            · have q2 : ((vk : Int) == (xk : Int)) = false := beq_eq_false_iff_ne.2 (by omega)
              cases g3 : adjL k (vk : Int) (xk : Int)
              · simp only [g3] at HJB
                have hp : P v x = false := by rw [HPP.out]; simp [g0, g2, g3]
                have HROW := hide (rowTo_no (P := P) (v := v) (w := x) hp)
                clear hp
                go_wp2_with (fail)
                refine wp_region_still_tail 19 (by kernel_rfl) (by kernel_rfl) ?_
                change wpStill _ _ (World.drew w6) (fun a' => wpList _ _ _ _ a' (World.drew w6)) _ _
                have hGd : SGr W3 24 (N : Int) (World.drew w6) L E f := HGw6.out.1.later (below_drewN' (Below.refl _ _) 1)
                have hsd : SOf w n A l.length c m B k.length d (World.drew w6) := HGw6.out.2.later (below_drewN' (Below.refl _ _) 1)
                generalize World.drew w6 = wd at hGd hsd ⊢
                have HGd := hide (And.intro hGd hsd)
                clear HGw6 a0 a1 b0 b1 z1 z2 hGd
                obtain ⟨a0, a1, b0, b1⟩ := And.intro hsd.a0 (And.intro hsd.a1 (And.intro hsd.b0 hsd.b1))
                have z1 : w.heap.size + 1 < wd.heap.size := by have := hsd.size; omega
                have z2 : w.heap.size < wd.heap.size := by omega
                clear hsd
                simp only [List.take_succ_cons, List.take_zero, List.drop_succ_cons, List.drop_zero]
                repeat still_step
                refine wpStill_nil ?_
                go_wp2_with (go_at_call 31; refine Calls.mono (HJB.out _ HGd.out.2.below) ?_; rintro e w7 ⟨rfl, hbn⟩; have hGw7 := HGd.out.1.later hbn; have hsw7 := HGd.out.2.later hbn)
                have HGw7 := hide (And.intro hGw7 hsw7)
                go_roundw
                case rel => exact ⟨x + 1, by omega, by omega, by go_num, hide ⟨E, f, by rw [HROW.out, HLL.out]; exact HGw7.out.1⟩⟩
                case measure => simp [intOf]; omega
              · simp only [g3] at HJB
                have hp : P v x = true := by rw [HPP.out]; simp [g0, g3]
                have HROW := hide (rowTo_yes (P := P) (v := v) (w := x) (by omega) hp)
                clear hp
                go_wp2_with (fail)
                refine wp_region_still_tail 19 (by kernel_rfl) (by kernel_rfl) ?_
                change wpStill _ _ (World.drew w6) (fun a' => wpList _ _ _ _ a' (World.drew w6)) _ _
                have hGd : SGr W3 24 (N : Int) (World.drew w6) L E f := HGw6.out.1.later (below_drewN' (Below.refl _ _) 1)
                have hsd : SOf w n A l.length c m B k.length d (World.drew w6) := HGw6.out.2.later (below_drewN' (Below.refl _ _) 1)
                generalize World.drew w6 = wd at hGd hsd ⊢
                have HGd := hide (And.intro hGd hsd)
                clear HGw6 a0 a1 b0 b1 z1 z2 hGd
                obtain ⟨a0, a1, b0, b1⟩ := And.intro hsd.a0 (And.intro hsd.a1 (And.intro hsd.b0 hsd.b1))
                have z1 : w.heap.size + 1 < wd.heap.size := by have := hsd.size; omega
                have z2 : w.heap.size < wd.heap.size := by omega
                clear hsd
                simp only [List.take_succ_cons, List.take_zero, List.drop_succ_cons, List.drop_zero]
                repeat still_step
                refine wpStill_nil ?_
                go_wp2_with (first
                  | (go_at_call 31; refine Calls.mono (HJB.out _ HGd.out.2.below) ?_; rintro e w7 ⟨rfl, hbn⟩; have hGw7 := HGd.out.1.later hbn; have hsw7 := HGd.out.2.later hbn; have hzw7 := lt_of_block hGw7.box; obtain ⟨c0, c1, c2, c3⟩ := hGw7.cells)
                  | (at_builtin; refine wp_app_pairs _ rfl (.tmp 77) (.tmp 81) rfl (W3.heap.size + 1) (.slice E L.length f) L rfl (own_below hGw7.own (below_alloc' (Below.refl _ _) _)) (some ⟨w7.heap.size, 0, none⟩) 1 1 [((v : Int), (x : Int))] rfl rfl (pairs_one (by simp) (by simp)) (by omega) (by rw [World.size_alloc]; omega) ?_; intro E' f' w9 hf9 ho9 hg9 _; obtain ⟨hG9, y1, y2⟩ := SGr.push hGw7 ho9 hg9; rw [HLEN.out] at hG9; have HG9 := hide hG9; clear ho9 hg9 hf9 hG9))
                go_roundw
                case rel => exact ⟨x + 1, by omega, by omega, by go_num, hide ⟨E', f', by rw [HROW.out, ← List.append_assoc, HLL.out]; exact HG9.out⟩⟩
                case measure => simp [intOf]; omega
          · have q0 : ((vi : Int) == (xi : Int)) = false := beq_eq_false_iff_ne.2 (by omega)
            go_wp2_with (fail)
            refine wp_region_still_tail 19 (by kernel_rfl) (by kernel_rfl) ?_
            change wpStill _ _ (World.drew wx) (fun a' => wpList _ _ _ _ a' (World.drew wx)) _ _
            have hGd : SGr W3 24 (N : Int) (World.drew wx) L E f := HGwx.out.1.later (below_drewN' (Below.refl _ _) 1)
            have hsd : SOf w n A l.length c m B k.length d (World.drew wx) := HGwx.out.2.later (below_drewN' (Below.refl _ _) 1)
            generalize World.drew wx = wd at hGd hsd ⊢
            have HGd := hide (And.intro hGd hsd)
            clear HGwx a0 a1 b0 b1 z1 z2 hGd
            obtain ⟨a0, a1, b0, b1⟩ := And.intro hsd.a0 (And.intro hsd.a1 (And.intro hsd.b0 hsd.b1))
            have z1 : w.heap.size + 1 < wd.heap.size := by have := hsd.size; omega
            have z2 : w.heap.size < wd.heap.size := by omega
            clear hsd
            simp only [List.take_succ_cons, List.take_zero, List.drop_succ_cons, List.drop_zero]
            repeat still_step
            refine wpStill_nil ?_
            go_wp2_with (go_at_call 31; refine Calls.mono (HJA.out _ HGd.out.2.below) ?_; rintro e w6 ⟨rfl, hbn⟩; have hGw6 := HGd.out.1.later hbn; have hsw6 := HGd.out.2.later hbn)
            have HGw6 := hide (And.intro hGw6 hsw6)
            clear HGd a0 a1 b0 b1 z1 z2 hGw6 hbn
            have z1 : w.heap.size + 1 < w6.heap.size := by have := hsw6.size; omega
            have z2 : w.heap.size < w6.heap.size := by omega
            obtain ⟨a0, a1, b0, b1⟩ := And.intro hsw6.a0 (And.intro hsw6.a1 (And.intro hsw6.b0 hsw6.b1))
            clear hsw6
            cases g1 : adjL l (vi : Int) (xi : Int)
            · by_cases g2 : vk = xk
              · have q2 : ((vk : Int) == (xk : Int)) = true := by rw [g2]; simp
                go_wp2_with (fail)
                go_quiet (fail)
                have hGw7 := HGw6.out.1.later (below_drewN' (Below.refl _ _) nq)
                have hsw7 := HGw6.out.2.later (below_drewN' (Below.refl _ _) nq)
                generalize World.drewN w6 nq = w7 at hGw7 hsw7 ⊢
                have HGw7 := hide (And.intro hGw7 hsw7)
                clear HGw6 a0 a1 b0 b1 z1 z2
                obtain ⟨a0, a1, b0, b1⟩ := And.intro hsw7.a0 (And.intro hsw7.a1 (And.intro hsw7.b0 hsw7.b1))
                have z1 : w.heap.size + 1 < w7.heap.size := by have := hsw7.size; omega
                have z2 : w.heap.size < w7.heap.size := by omega
                clear hGw7 hsw7
                have hp : P v x = false := by rw [HPP.out]; simp [g0, g1, g2]
                have HROW := hide (rowTo_no (P := P) (v := v) (w := x) hp)
                clear hp
                go_wp2_with (fail)
                go_roundw
                case rel => exact ⟨x + 1, by omega, by omega, by go_num, hide ⟨E, f, by rw [HROW.out, HLL.out]; exact HGw7.out.1⟩⟩
                case measure => simp [intOf]; omega
              · have q2 : ((vk : Int) == (xk : Int)) = false := beq_eq_false_iff_ne.2 (by omega)
                cases g3 : adjL k (vk : Int) (xk : Int)
                · simp only [g3] at HJB
                  have hp : P v x = false := by rw [HPP.out]; simp [g0, g1, g2, g3]
                  have HROW := hide (rowTo_no (P := P) (v := v) (w := x) hp)
                  clear hp
                  go_wp2_with (fail)
                  refine wp_region_still_tail 19 (by kernel_rfl) (by kernel_rfl) ?_
                  change wpStill _ _ (World.drew w6) (fun a' => wpList _ _ _ _ a' (World.drew w6)) _ _
                  have hGd : SGr W3 24 (N : Int) (World.drew w6) L E f := HGw6.out.1.later (below_drewN' (Below.refl _ _) 1)
                  have hsd : SOf w n A l.length c m B k.length d (World.drew w6) := HGw6.out.2.later (below_drewN' (Below.refl _ _) 1)
                  generalize World.drew w6 = wd at hGd hsd ⊢
                  have HGd := hide (And.intro hGd hsd)
                  clear HGw6 a0 a1 b0 b1 z1 z2 hGd
                  obtain ⟨a0, a1, b0, b1⟩ := And.intro hsd.a0 (And.intro hsd.a1 (And.intro hsd.b0 hsd.b1))
                  have z1 : w.heap.size + 1 < wd.heap.size := by have := hsd.size; omega
                  have z2 : w.heap.size < wd.heap.size := by omega
                  clear hsd
                  simp only [List.take_succ_cons, List.take_zero, List.drop_succ_cons, List.drop_zero]
                  repeat still_step
                  refine wpStill_nil ?_
                  go_wp2_with (go_at_call 31; refine Calls.mono (HJB.out _ HGd.out.2.below) ?_; rintro e w7 ⟨rfl, hbn⟩; have hGw7 := HGd.out.1.later hbn; have hsw7 := HGd.out.2.later hbn)
                  have HGw7 := hide (And.intro hGw7 hsw7)
                  go_roundw
                  case rel => exact ⟨x + 1, by omega, by omega, by go_num, hide ⟨E, f, by rw [HROW.out, HLL.out]; exact HGw7.out.1⟩⟩
                  case measure => simp [intOf]; omega
                · simp only [g3] at HJB
                  have hp : P v x = false := by rw [HPP.out]; simp [g0, g1, g3]
                  have HROW := hide (rowTo_no (P := P) (v := v) (w := x) hp)
                  clear hp
                  go_wp2_with (fail)
                  refine wp_region_still_tail 19 (by kernel_rfl) (by kernel_rfl) ?_
                  change wpStill _ _ (World.drew w6) (fun a' => wpList _ _ _ _ a' (World.drew w6)) _ _
                  have hGd : SGr W3 24 (N : Int) (World.drew w6) L E f := HGw6.out.1.later (below_drewN' (Below.refl _ _) 1)
                  have hsd : SOf w n A l.length c m B k.length d (World.drew w6) := HGw6.out.2.later (below_drewN' (Below.refl _ _) 1)
                  generalize World.drew w6 = wd at hGd hsd ⊢
                  have HGd := hide (And.intro hGd hsd)
                  clear HGw6 a0 a1 b0 b1 z1 z2 hGd
                  obtain ⟨a0, a1, b0, b1⟩ := And.intro hsd.a0 (And.intro hsd.a1 (And.intro hsd.b0 hsd.b1))
                  have z1 : w.heap.size + 1 < wd.heap.size := by have := hsd.size; omega
                  have z2 : w.heap.size < wd.heap.size := by omega
                  clear hsd
                  simp only [List.take_succ_cons, List.take_zero, List.drop_succ_cons, List.drop_zero]
                  repeat still_step
                  refine wpStill_nil ?_
                  go_wp2_with (go_at_call 31; refine Calls.mono (HJB.out _ HGd.out.2.below) ?_; rintro e w7 ⟨rfl, hbn⟩; have hGw7 := HGd.out.1.later hbn; have hsw7 := HGd.out.2.later hbn)
                  have HGw7 := hide (And.intro hGw7 hsw7)
                  go_roundw
                  case rel => exact ⟨x + 1, by omega, by omega, by go_num, hide ⟨E, f, by rw [HROW.out, HLL.out]; exact HGw7.out.1⟩⟩
                  case measure => simp [intOf]; omega
            · by_cases g2 : vk = xk
              · have q2 : ((vk : Int) == (xk : Int)) = true := by rw [g2]; simp
                go_wp2_with (fail)
                go_quiet (fail)
                have hGw7 := HGw6.out.1.later (below_drewN' (Below.refl _ _) nq)
                have hsw7 := HGw6.out.2.later (below_drewN' (Below.refl _ _) nq)
                generalize World.drewN w6 nq = w7 at hGw7 hsw7 ⊢
                have HGw7 := hide (And.intro hGw7 hsw7)
                clear HGw6 a0 a1 b0 b1 z1 z2
                obtain ⟨a0, a1, b0, b1⟩ := And.intro hsw7.a0 (And.intro hsw7.a1 (And.intro hsw7.b0 hsw7.b1))
                have z1 : w.heap.size + 1 < w7.heap.size := by have := hsw7.size; omega
                have z2 : w.heap.size < w7.heap.size := by omega
                clear hGw7 hsw7
                have hp : P v x = true := by rw [HPP.out]; simp [g1, g2]
                have HROW := hide (rowTo_yes (P := P) (v := v) (w := x) (by omega) hp)
                clear hp
                have hzq := lt_of_block HGw7.out.1.box
                obtain ⟨c0, c1, c2, c3⟩ := HGw7.out.1.cells
                go_wp2_with (at_builtin; refine wp_app_pairs _ rfl (.tmp 77) (.tmp 81) rfl (W3.heap.size + 1) (.slice E L.length f) L rfl (own_below HGw7.out.1.own (below_alloc' (Below.refl _ _) _)) (some ⟨w7.heap.size, 0, none⟩) 1 1 [((v : Int), (x : Int))] rfl rfl (pairs_one (by simp) (by simp)) (by omega) (by rw [World.size_alloc]; omega) ?_; intro E' f' w9 hf9 ho9 hg9 _; obtain ⟨hG9, y1, y2⟩ := SGr.push HGw7.out.1 ho9 hg9; rw [HLEN.out] at hG9; have HG9 := hide hG9; clear ho9 hg9 hf9 hG9)
                go_roundw
                case rel => exact ⟨x + 1, by omega, by omega, by go_num, hide ⟨E', f', by rw [HROW.out, ← List.append_assoc, HLL.out]; exact HG9.out⟩⟩
                case measure => simp [intOf]; omega
              · have q2 : ((vk : Int) == (xk : Int)) = false := beq_eq_false_iff_ne.2 (by omega)
                cases g3 : adjL k (vk : Int) (xk : Int)
                · simp only [g3] at HJB
                  have hp : P v x = false := by rw [HPP.out]; simp [g1, g2, g3]
                  have HROW := hide (rowTo_no (P := P) (v := v) (w := x) hp)
                  clear hp
                  go_wp2_with (fail)
                  refine wp_region_still_tail 19 (by kernel_rfl) (by kernel_rfl) ?_
                  change wpStill _ _ (World.drew w6) (fun a' => wpList _ _ _ _ a' (World.drew w6)) _ _
                  have hGd : SGr W3 24 (N : Int) (World.drew w6) L E f := HGw6.out.1.later (below_drewN' (Below.refl _ _) 1)
                  have hsd : SOf w n A l.length c m B k.length d (World.drew w6) := HGw6.out.2.later (below_drewN' (Below.refl _ _) 1)
                  generalize World.drew w6 = wd at hGd hsd ⊢
                  have HGd := hide (And.intro hGd hsd)
                  clear HGw6 a0 a1 b0 b1 z1 z2 hGd
                  obtain ⟨a0, a1, b0, b1⟩ := And.intro hsd.a0 (And.intro hsd.a1 (And.intro hsd.b0 hsd.b1))
                  have z1 : w.heap.size + 1 < wd.heap.size := by have := hsd.size; omega
                  have z2 : w.heap.size < wd.heap.size := by omega
                  clear hsd
                  simp only [List.take_succ_cons, List.take_zero, List.drop_succ_cons, List.drop_zero]
                  repeat still_step
                  refine wpStill_nil ?_
                  go_wp2_with (go_at_call 31; refine Calls.mono (HJB.out _ HGd.out.2.below) ?_; rintro e w7 ⟨rfl, hbn⟩; have hGw7 := HGd.out.1.later hbn; have hsw7 := HGd.out.2.later hbn)
                  have HGw7 := hide (And.intro hGw7 hsw7)
                  go_roundw
                  case rel => exact ⟨x + 1, by omega, by omega, by go_num, hide ⟨E, f, by rw [HROW.out, HLL.out]; exact HGw7.out.1⟩⟩
                  case measure => simp [intOf]; omega
                · simp only [g3] at HJB
                  have hp : P v x = true := by rw [HPP.out]; simp [g1, g3]
                  have HROW := hide (rowTo_yes (P := P) (v := v) (w := x) (by omega) hp)
                  clear hp
                  go_wp2_with (fail)
                  refine wp_region_still_tail 19 (by kernel_rfl) (by kernel_rfl) ?_
                  change wpStill _ _ (World.drew w6) (fun a' => wpList _ _ _ _ a' (World.drew w6)) _ _
                  have hGd : SGr W3 24 (N : Int) (World.drew w6) L E f := HGw6.out.1.later (below_drewN' (Below.refl _ _) 1)
                  have hsd : SOf w n A l.length c m B k.length d (World.drew w6) := HGw6.out.2.later (below_drewN' (Below.refl _ _) 1)
                  generalize World.drew w6 = wd at hGd hsd ⊢
                  have HGd := hide (And.intro hGd hsd)
                  clear HGw6 a0 a1 b0 b1 z1 z2 hGd
                  obtain ⟨a0, a1, b0, b1⟩ := And.intro hsd.a0 (And.intro hsd.a1 (And.intro hsd.b0 hsd.b1))
                  have z1 : w.heap.size + 1 < wd.heap.size := by have := hsd.size; omega
                  have z2 : w.heap.size < wd.heap.size := by omega
                  clear hsd
                  simp only [List.take_succ_cons, List.take_zero, List.drop_succ_cons, List.drop_zero]
                  repeat still_step
                  refine wpStill_nil ?_
                  go_wp2_with (first
                    | (go_at_call 31; refine Calls.mono (HJB.out _ HGd.out.2.below) ?_; rintro e w7 ⟨rfl, hbn⟩; have hGw7 := HGd.out.1.later hbn; have hsw7 := HGd.out.2.later hbn; have hzw7 := lt_of_block hGw7.box; obtain ⟨c0, c1, c2, c3⟩ := hGw7.cells)
                    | (at_builtin; refine wp_app_pairs _ rfl (.tmp 77) (.tmp 81) rfl (W3.heap.size + 1) (.slice E L.length f) L rfl (own_below hGw7.own (below_alloc' (Below.refl _ _) _)) (some ⟨w7.heap.size, 0, none⟩) 1 1 [((v : Int), (x : Int))] rfl rfl (pairs_one (by simp) (by simp)) (by omega) (by rw [World.size_alloc]; omega) ?_; intro E' f' w9 hf9 ho9 hg9 _; obtain ⟨hG9, y1, y2⟩ := SGr.push hGw7 ho9 hg9; rw [HLEN.out] at hG9; have HG9 := hide hG9; clear ho9 hg9 hf9 hG9))
                  go_roundw
                  case rel => exact ⟨x + 1, by omega, by omega, by go_num, hide ⟨E', f', by rw [HROW.out, ← List.append_assoc, HLL.out]; exact HG9.out⟩⟩
                  case measure => simp [intOf]; omega
        · have hxN : x = N := by omega
          have x1 : ¬ (x : Int) < (N : Int) := by omega
          rw [← hL, hxN, ← allTo_succ] at HK
          have HV1 := hide (show v + 1 ≤ N from hvl)
          go_wp2_with (fail)
          go_roundw
          case rel => exact ⟨v + 1, HV1.out, by go_num, HK⟩
          case measure =>
            have := HV1.out
            simp [intOf]
            omega
    · obtain rfl : v = N := by omega
      have hrr := HB.out.later hGv.below
      obtain ⟨r0, r1, f0, f1⟩ := And.intro hrr.r0 (And.intro hrr.r1 (And.intro hrr.f0 hrr.f1))
      have zr : w.heap.size + 2 < wv.heap.size := by have := hrr.size; omega
      have hown := hGv.own
      have hcap := own_cap hGv.own
      have hbw := hrr.below
      have hzz : w.heap.size + 2 < W3.heap.size + 1 := by omega
      have hEb : ∀ x, Ev = some x → w.heap.size ≤ x.block ∧ x.block < ((wv.setCell ⟨w.heap.size + 2, 0, none⟩ (.int .i64 (v : Int))).setCell ⟨w.heap.size + 2, 1, none⟩ (.slice Ev (allTo P v v).length fv)).heap.size := fun x e => by
        rw [World.size_setCell, World.size_setCell]
        rcases own_at hGv.own with ⟨e', _⟩ | ⟨g, e', h, h'⟩
        · rw [e'] at e; cases e
        · rw [e'] at e
          injection e with e
          subst e
          exact ⟨by show w.heap.size ≤ g; omega, h'⟩
      go_wp2_with (fail)
      refine bodyPost_ret (v := .agg #[.int .i64 (v : Int), .slice Ev (allTo P v v).length fv]) (by simp [results, Tryd.results16, go_sem, r0, r1]) rfl ⟨Ev, fv, rfl, ?_, hcap, hEb, ?_⟩
      · exact Pairs.own (ownsRow_setCell_below (ownsRow_setCell_below hown (a := ⟨w.heap.size + 2, 0, none⟩) hzz _) (a := ⟨w.heap.size + 2, 1, none⟩) hzz _)
      · exact (hbw.setCell (p := ⟨w.heap.size + 2, 0, none⟩) (by show w.heap.size ≤ w.heap.size + 2; omega) _).setCell (p := ⟨w.heap.size + 2, 1, none⟩) (by show w.heap.size ≤ w.heap.size + 2; omega) _
end Go.Proofs.YtehheklbibocjaaDoor

/- Neighbours by bits and by lists are the same. No condition. -/
namespace Go.Proofs.YtehheklbibocjaaDoor

theorem orAt_bit (M : List Nat) (a x i : Nat) (ha : a < M.length) : (orAt M a x).getD i 0 = if a = i then M.getD a 0 ||| x else M.getD i 0 := by
  unfold orAt
  exact natGetD_set M a i _ ha
theorem put1_bit (M : List Nat) (e : Int × Int) (h0 : 0 ≤ e.1) (h1 : e.1 < e.2) (h2 : e.2 < (M.length : Int)) (i j : Nat) : ((put1 M e).getD i 0).testBit j = ((M.getD i 0).testBit j || adjAt e.1 e.2 (i : Int) (j : Int)) := by
  obtain ⟨p, q⟩ := e
  simp only at h0 h1 h2
  obtain ⟨a, rfl⟩ : ∃ a : Nat, p = (a : Int) := ⟨p.toNat, by omega⟩
  obtain ⟨b, rfl⟩ : ∃ b : Nat, q = (b : Int) := ⟨q.toNat, by omega⟩
  have hab : a ≠ b := by omega
  show ((orAt (orAt M (a : Int).toNat (2 ^ (b : Int).toNat)) (b : Int).toNat (2 ^ (a : Int).toNat)).getD i 0).testBit j = _
  rw [Int.toNat_natCast, Int.toNat_natCast, orAt_bit _ _ _ _ (by rw [orAt_length]; omega), orAt_bit _ _ _ _ (by omega), orAt_bit _ _ _ _ (by omega)]
  unfold adjAt
  have d1 : ((a : Int) == (i : Int)) = decide (a = i) := by rw [Bool.eq_iff_iff, beq_iff_eq, decide_eq_true_eq]; omega
  have d2 : ((b : Int) == (j : Int)) = decide (b = j) := by rw [Bool.eq_iff_iff, beq_iff_eq, decide_eq_true_eq]; omega
  have d3 : ((a : Int) == (j : Int)) = decide (a = j) := by rw [Bool.eq_iff_iff, beq_iff_eq, decide_eq_true_eq]; omega
  have d4 : ((b : Int) == (i : Int)) = decide (b = i) := by rw [Bool.eq_iff_iff, beq_iff_eq, decide_eq_true_eq]; omega
  rw [if_neg hab]
  show _ = ((M.getD i 0).testBit j || (((a : Int) == (i : Int)) && ((b : Int) == (j : Int)) || ((a : Int) == (j : Int)) && ((b : Int) == (i : Int))))
  rw [d1, d2, d3, d4]
  by_cases hbi : b = i
  · subst hbi
    rw [if_pos rfl, Nat.testBit_or, Nat.testBit_two_pow]
    simp [hab]
  · rw [if_neg hbi]
    by_cases hai : a = i
    · subst hai
      rw [if_pos rfl, Nat.testBit_or, Nat.testBit_two_pow]
      simp [hbi]
    · rw [if_neg hai]
      simp [hai, hbi]
theorem putAll_bit (l : List (Int × Int)) (i j : Nat) : ∀ M : List Nat, (∀ e, e ∈ l → 0 ≤ e.1 ∧ e.1 < e.2 ∧ e.2 < (M.length : Int)) → ((l.foldl put1 M).getD i 0).testBit j = ((M.getD i 0).testBit j || adjL l (i : Int) (j : Int)) := by
  induction l with
  | nil =>
    intro M _
    show _ = ((M.getD i 0).testBit j || false)
    rw [Bool.or_false]
    rfl
  | cons e l ih =>
    intro M h
    have he := h e (List.mem_cons_self ..)
    rw [List.foldl_cons, ih (put1 M e) (fun x hx => by rw [put1_length]; exact h x (List.mem_cons_of_mem _ hx)), put1_bit M e he.1 he.2.1 he.2.2, Bool.or_assoc]
    rfl
theorem near_bit {n : Nat} {l : List (Int × Int)} (hg : GoodE n l l.length) (i j : Nat) : ((nearL n l).getD i 0).testBit j = adjL l (i : Int) (j : Int) := by
  unfold nearL
  rw [putAll_bit]
  · rw [natRep, Nat.zero_testBit, Bool.false_or]
  · intro e he
    obtain ⟨k, hk, rfl⟩ := List.getElem_of_mem he
    have := hg.edge hk
    rw [getD_eq l k _ hk] at this
    rw [List.length_replicate]
    exact this
theorem strong_same {n m : Nat} {l k : List (Int × Int)} (h1 : GoodE n l l.length) (h2 : GoodE m k k.length) : strongP (nearL n l) (nearL m k) m = strongQ l k m := by
  funext v w
  unfold strongP strongQ
  rw [near_bit h1, near_bit h2]
end Go.Proofs.YtehheklbibocjaaDoor

/- The walks of errors.Is and errors.As at the errors of this program: a sentinel (a pointer to an errors.errorString) and a *api.Fault (after the kit's worked Sentry and Toyas). Condition: the variables read as laid. -/
namespace Go.Proofs.YtehheklbibocjaaDoor
open Go.RowKit Go.Deep Go.Extern.Stop Go.Stop Go.Extern

/-- the sentinels of the codes S: their cells, their blocks, none twice -/
structure Sent (S : List Nat) (w : World) (a : Nat → Addr) : Prop extends Env S w a where
  blk : ∀ c, c ∈ S → ∃ ca ta, w.heap[(a c).block]? = some (.cells ca ta (0, 0))
  inj : ∀ c, c ∈ S → ∀ d, d ∈ S → a c = a d → c = d
theorem Sent.lt {S : List Nat} {w : World} {a : Nat → Addr} (h : Sent S w a) {c : Nat} (hc : c ∈ S) : (a c).block < w.heap.size := by
  obtain ⟨ca, ta, hb⟩ := h.blk c hc
  exact (Array.getElem?_eq_some_iff.1 hb).1
theorem Sent.below {S : List Nat} {w w' : World} {a : Nat → Addr} (h : Sent S w a) (hb : Below w.heap.size w w') : Sent S w' a :=
  ⟨h.toEnv.below hb, fun c hc => by
    obtain ⟨ca, ta, hx⟩ := h.blk c hc
    exact ⟨ca, ta, (hb.block _ (h.lt hc)).trans hx⟩, h.inj⟩
/-- the handle of the type error -/
def Handle (w : World) : Prop := w.cell? ⟨8, 0, none⟩ = some (.iface 94 (.agg #[.pointer (some ⟨9, 29, none⟩)]))
theorem Handle.below {w w' : World} (h : Handle w) (hb : Below w.heap.size w w') : Handle w' :=
  (hb.cell (p := ⟨8, 0, none⟩) (World.block_lt_of_cell? w _ h)).trans h

/-! ### errors.Is -/
theorem is_typeOf (v : Value) (w : World) : (Extern.ReflectliteType.typeOf #[.iface 108 v]).run Tryd.prog w = .ok (.iface 94 (.agg #[.pointer (some ⟨9, 108, none⟩)])) w := by kernel_rfl
/-- the model's own entry for (rtype).Comparable, behind a name -/
def compExt : TypeId → Sem Value := fun t => do Rtype.noPackHeld "Comparable" t; pure (.bool (← typeInfo t).comparable)
theorem is_comparable (w : World) : (Extern.ReflectliteType.method compExt #[.agg #[.pointer (some ⟨9, 108, none⟩)]]).run Tryd.prog w = .ok (.bool true) w := by kernel_rfl
theorem is_methodComparable (v : Value) (w : World) : (Go.method 247 94 v "Comparable").run Tryd.prog w = .ok (76, v) w := by kernel_rfl
theorem is_comp : (Tryd.prog.info? 108).map (·.comparable) = some true := by kernel_rfl
theorem is_size : (Tryd.prog.info? 131).map (·.size) = some 1 := by kernel_rfl
theorem no_is_E (v : Value) (xT : TypeId) (w : World) : (Instr.typeAssert (.iface 108 v) xT 105 true).run Tryd.prog w = .ok (.tuple #[.nilIface, .bool false]) w := run_typeAssert_lacksB Tryd.underlying105 (by kernel_rfl) (by kernel_rfl) v xT w
theorem no_unwrap_E (v : Value) (xT : TypeId) (w : World) : (Instr.typeAssert (.iface 108 v) xT 101 true).run Tryd.prog w = .ok (.tuple #[.nilIface, .bool false]) w := run_typeAssert_lacksB Tryd.underlying101 (by kernel_rfl) (by kernel_rfl) v xT w
theorem no_unwraps_E (v : Value) (xT : TypeId) (w : World) : (Instr.typeAssert (.iface 108 v) xT 103 true).run Tryd.prog w = .ok (.tuple #[.nilIface, .bool false]) w := run_typeAssert_lacksB Tryd.underlying103 (by kernel_rfl) (by kernel_rfl) v xT w
theorem no_is_F (v : Value) (xT : TypeId) (w : World) : (Instr.typeAssert (.iface 69 v) xT 105 true).run Tryd.prog w = .ok (.tuple #[.nilIface, .bool false]) w := run_typeAssert_lacksB Tryd.underlying105 (by kernel_rfl) (by kernel_rfl) v xT w
theorem has_unwrap_F (v : Value) (xT : TypeId) (w : World) : (Instr.typeAssert (.iface 69 v) xT 101 true).run Tryd.prog w = .ok (.tuple #[.iface 69 v, .bool true]) w := run_typeAssert_hasB Tryd.underlying101 (by kernel_rfl) v xT w
theorem method_unwrap_F (v : Value) (w : World) : (Go.method 247 69 v "Unwrap").run Tryd.prog w = .ok (70, v) w := by kernel_rfl

set_option maxHeartbeats 1000000 in
theorem is_same (a : Addr) (w : World) :
    Calls Tryd.prog 39 #[.iface 108 (.pointer (some a)), .iface 108 (.pointer (some a))] w fun e w' => e = .returned (.bool true) ∧ w' = w := by
  obtain ⟨i, hi, hcmp⟩ := Option.map_eq_some_iff.1 is_comp
  obtain ⟨j, hj, hjs⟩ := Option.map_eq_some_iff.1 is_size
  have h8 := @run_callFunc_extern Tryd.prog 47 _ Extern.ReflectliteType.typeOf Tryd.func47 (by kernel_rfl) (by kernel_rfl) (by kernel_rfl) (by kernel_rfl)
  have h32 := @run_callFunc_extern Tryd.prog 76 _ (Extern.ReflectliteType.method compExt) Tryd.func76 (by kernel_rfl) (by kernel_rfl) (by kernel_rfl) (by kernel_rfl)
  have tT := is_typeOf
  have cT := is_comparable
  have mR := is_methodComparable
  have heq := run_eql_iface_ptr_same (P := Tryd.prog) w a Tryd.underlying29 Tryd.underlying108 hi hcmp hj
  clear hi hcmp hj hjs
  go_enter Tryd.func39, Tryd.ntmps39
  go_wp2
  refine wp_loop_rounds 1 ?_
  rw [rounds_succ]
  go_wp2
  go_ret
  exact ⟨rfl, rfl⟩

set_option maxHeartbeats 1000000 in
theorem is_other (a b : Addr) (ca cb : Array Value) (ta tb : TypeId) (w : World) (hne : a ≠ b) (ha : w.heap[a.block]? = some (.cells ca ta (0, 0))) (hb : w.heap[b.block]? = some (.cells cb tb (0, 0))) :
    Calls Tryd.prog 39 #[.iface 108 (.pointer (some a)), .iface 108 (.pointer (some b))] w fun e w' => e = .returned (.bool false) ∧ w' = w := by
  obtain ⟨i, hi, hcmp⟩ := Option.map_eq_some_iff.1 is_comp
  obtain ⟨j, hj, hjs⟩ := Option.map_eq_some_iff.1 is_size
  have h8 := @run_callFunc_extern Tryd.prog 47 _ Extern.ReflectliteType.typeOf Tryd.func47 (by kernel_rfl) (by kernel_rfl) (by kernel_rfl) (by kernel_rfl)
  have h32 := @run_callFunc_extern Tryd.prog 76 _ (Extern.ReflectliteType.method compExt) Tryd.func76 (by kernel_rfl) (by kernel_rfl) (by kernel_rfl) (by kernel_rfl)
  have tT := is_typeOf
  have cT := is_comparable
  have mR := is_methodComparable
  have nE := no_is_E
  have uE := no_unwrap_E
  have vE := no_unwraps_E
  have heq := run_eql_iface_ptr_other (P := Tryd.prog) w Tryd.underlying29 Tryd.underlying108 hi hcmp hj (by rw [hjs]; decide) hne ha hb
  clear hi hcmp hj hjs
  go_enter Tryd.func39, Tryd.ntmps39
  go_wp2
  refine wp_loop_rounds 1 ?_
  rw [rounds_succ]
  go_wp2
  go_ret
  exact ⟨rfl, rfl⟩

/-- errors.Is between sentinels -/
theorem is_sent {S : List Nat} (w : World) (a : Nat → Addr) (h : Sent S w a) (c d : Nat) (hc : c ∈ S) (hd : d ∈ S) :
    Calls Tryd.prog 39 #[.iface 108 (.pointer (some (a c))), .iface 108 (.pointer (some (a d)))] w fun e w' => e = .returned (.bool (decide (c = d))) ∧ w' = w := by
  by_cases e : c = d
  · subst e
    rw [decide_eq_true rfl]
    exact is_same (a c) w
  · rw [decide_eq_false e]
    obtain ⟨ca, ta, ha⟩ := h.blk c hc
    obtain ⟨cb, tb, hb⟩ := h.blk d hd
    exact is_other (a c) (a d) ca cb ta tb w (fun x => e (h.inj c hc d hd x)) ha hb

set_option maxHeartbeats 1000000 in
theorem is_fault_same (pb po : Nat) (b : Addr) (w : World) (h1 : w.cell? ⟨pb, po + 1, none⟩ = some (.iface 108 (.pointer (some b)))) :
    Calls Tryd.prog 39 #[.iface 69 (.pointer (some ⟨pb, po, none⟩)), .iface 108 (.pointer (some b))] w fun e w' => e = .returned (.bool true) ∧ w' = w := by
  obtain ⟨i, hi, hcmp⟩ := Option.map_eq_some_iff.1 is_comp
  obtain ⟨j, hj, hjs⟩ := Option.map_eq_some_iff.1 is_size
  have h8 := @run_callFunc_extern Tryd.prog 47 _ Extern.ReflectliteType.typeOf Tryd.func47 (by kernel_rfl) (by kernel_rfl) (by kernel_rfl) (by kernel_rfl)
  have h32 := @run_callFunc_extern Tryd.prog 76 _ (Extern.ReflectliteType.method compExt) Tryd.func76 (by kernel_rfl) (by kernel_rfl) (by kernel_rfl) (by kernel_rfl)
  have tT := is_typeOf
  have cT := is_comparable
  have mR := is_methodComparable
  have nE := no_is_E
  have uE := no_unwrap_E
  have vE := no_unwraps_E
  have nW := no_is_F
  have uW := has_unwrap_F
  have mU := method_unwrap_F
  have heq := run_eql_iface_ptr_same (P := Tryd.prog) w b Tryd.underlying29 Tryd.underlying108 hi hcmp hj
  have hty := run_eql_iface_types (P := Tryd.prog) 69 108 (.pointer (some ⟨pb, po, none⟩)) (.pointer (some b)) Tryd.underlying29 (by decide) w
  clear hi hcmp hj hjs
  go_enter Tryd.func39, Tryd.ntmps39
  go_wp2
  refine wp_loop_rounds 2 ?_
  rw [rounds_succ]
  go_wp2
  rw [rounds_succ]
  go_wp2
  go_ret
  exact ⟨rfl, rfl⟩

set_option maxHeartbeats 1000000 in
theorem is_fault_other (pb po : Nat) (b a : Addr) (ca cb : Array Value) (ta tb : TypeId) (w : World) (h1 : w.cell? ⟨pb, po + 1, none⟩ = some (.iface 108 (.pointer (some a)))) (hne : a ≠ b) (ha : w.heap[a.block]? = some (.cells ca ta (0, 0))) (hb : w.heap[b.block]? = some (.cells cb tb (0, 0))) :
    Calls Tryd.prog 39 #[.iface 69 (.pointer (some ⟨pb, po, none⟩)), .iface 108 (.pointer (some b))] w fun e w' => e = .returned (.bool false) ∧ w' = w := by
  obtain ⟨i, hi, hcmp⟩ := Option.map_eq_some_iff.1 is_comp
  obtain ⟨j, hj, hjs⟩ := Option.map_eq_some_iff.1 is_size
  have h8 := @run_callFunc_extern Tryd.prog 47 _ Extern.ReflectliteType.typeOf Tryd.func47 (by kernel_rfl) (by kernel_rfl) (by kernel_rfl) (by kernel_rfl)
  have h32 := @run_callFunc_extern Tryd.prog 76 _ (Extern.ReflectliteType.method compExt) Tryd.func76 (by kernel_rfl) (by kernel_rfl) (by kernel_rfl) (by kernel_rfl)
  have tT := is_typeOf
  have cT := is_comparable
  have mR := is_methodComparable
  have nE := no_is_E
  have uE := no_unwrap_E
  have vE := no_unwraps_E
  have nW := no_is_F
  have uW := has_unwrap_F
  have mU := method_unwrap_F
  have heq := run_eql_iface_ptr_other (P := Tryd.prog) w Tryd.underlying29 Tryd.underlying108 hi hcmp hj (by rw [hjs]; decide) hne ha hb
  have hty := run_eql_iface_types (P := Tryd.prog) 69 108 (.pointer (some ⟨pb, po, none⟩)) (.pointer (some b)) Tryd.underlying29 (by decide) w
  clear hi hcmp hj hjs
  go_enter Tryd.func39, Tryd.ntmps39
  go_wp2
  refine wp_loop_rounds 2 ?_
  rw [rounds_succ]
  go_wp2
  rw [rounds_succ]
  go_wp2
  go_ret
  exact ⟨rfl, rfl⟩

/-- errors.Is of a fault whose error is a sentinel -/
theorem is_fault {S : List Nat} (w : World) (a : Nat → Addr) (h : Sent S w a) (pb po : Nat) (c d : Nat) (hc : c ∈ S) (hd : d ∈ S) (h1 : w.cell? ⟨pb, po + 1, none⟩ = some (.iface 108 (.pointer (some (a c))))) :
    Calls Tryd.prog 39 #[.iface 69 (.pointer (some ⟨pb, po, none⟩)), .iface 108 (.pointer (some (a d)))] w fun e w' => e = .returned (.bool (decide (c = d))) ∧ w' = w := by
  by_cases e : c = d
  · subst e
    rw [decide_eq_true rfl]
    exact is_fault_same pb po (a c) w h1
  · rw [decide_eq_false e]
    obtain ⟨ca, ta, ha⟩ := h.blk c hc
    obtain ⟨cb, tb, hb⟩ := h.blk d hd
    exact is_fault_other pb po (a d) (a c) ca cb ta tb w h1 (fun x => e (h.inj c hc d hd x)) ha hb
end Go.Proofs.YtehheklbibocjaaDoor

/- The walks of errors.As with a target of the type **api.Fault: at a sentinel it is false, at a fault true (after the kit's worked Toyas). Condition: the handle of the type error is laid. -/
namespace Go.Proofs.YtehheklbibocjaaDoor
open Go.RowKit Go.Deep Go.Extern.Stop Go.Stop Go.Extern

/-! ### closed facts on the model's entries for internal/reflectlite, at this program's types -/
def kindExt : TypeId → Sem Value := fun t => do pure (.int .u8 (← Rtype.kind t))
def vTypeExt : TypeId → Addr → Nat → Nat → Sem Value := fun t _ _ _ => ReflectliteType.toType t
def unpackExt : Array Value → Sem Value := fun args => ReflectliteValue.unpack (args.getD 0 (.tuple #[]))
theorem as_valueOfT (t : Addr) (w : World) : (unpackExt #[.iface 71 (.pointer (some t))]).run Tryd.prog w
    = .ok (.agg #[.pointer (some ⟨9, 71, none⟩), .pointer (some ⟨w.heap.size, 0, none⟩), .int .u64 150]) (w.alloc (.cells #[.pointer (some t)] 71)) := by kernel_rfl
theorem as_typeT (a : Addr) (w : World) : (ReflectliteValue.methodAny (ReflectliteValue.valueError "reflectlite.Value.Type" 0) vTypeExt #[.agg #[.pointer (some ⟨9, 71, none⟩), .pointer (some a), .int .u64 150]]).run Tryd.prog w
    = .ok (.iface 94 (.agg #[.pointer (some ⟨9, 71, none⟩)])) w := by kernel_rfl
theorem as_methodKind (h : Value) (w : World) : (Go.method 247 94 (.agg #[h]) "Kind").run Tryd.prog w = .ok (66, h) w := by kernel_rfl
theorem as_kindT (w : World) : (ReflectliteType.abiMethod kindExt #[.pointer (some ⟨9, 71, none⟩)]).run Tryd.prog w = .ok (.int .u8 22) w := by kernel_rfl
theorem as_kindF (w : World) : (ReflectliteType.abiMethod kindExt #[.pointer (some ⟨9, 69, none⟩)]).run Tryd.prog w = .ok (.int .u8 22) w := by kernel_rfl
theorem rlm (z : Sem Value) (f : TypeId → Addr → Nat → Nat → Sem Value) (v : Value) :
    ReflectliteValue.method z f #[v] = (do match ← ReflectliteValue.parts v with | none => z | some (t, a, fl) => f t a fl (fl % 32)) := rfl
theorem as_partsT (a : Addr) (w : World) : (ReflectliteValue.parts (.agg #[.pointer (some ⟨9, 71, none⟩), .pointer (some a), .int .u64 150])).run Tryd.prog w = .ok (some (71, a, 150)) w := by kernel_rfl
theorem as_isNilT (a p : Addr) (W : World) (ha : W.cell? a = some (.pointer (some p))) :
    (ReflectliteValue.method (ReflectliteValue.valueError "reflectlite.Value.IsNil" 0) ReflectliteValue.isNil #[.agg #[.pointer (some ⟨9, 71, none⟩), .pointer (some a), .int .u64 150]]).run Tryd.prog W = .ok (.bool false) W := by
  rw [rlm]
  simp only [Sem.run_bind, as_partsT, Result.andThen]
  simp [ReflectliteValue.isNil, loadVar, isAgg, underlying, Tryd.underlying71, ha, Result.andThen]
theorem as_methodElem (h : Value) (w : World) : (Go.method 247 94 (.agg #[h]) "Elem").run Tryd.prog w = .ok (77, .agg #[h]) w := by kernel_rfl
theorem as_methodImplements (h : Value) (w : World) : (Go.method 247 94 (.agg #[h]) "Implements").run Tryd.prog w = .ok (78, .agg #[h]) w := by kernel_rfl
theorem as_methodAssignableTo (h : Value) (w : World) : (Go.method 247 94 (.agg #[h]) "AssignableTo").run Tryd.prog w = .ok (75, .agg #[h]) w := by kernel_rfl
theorem as_elemT (w : World) : (ReflectliteType.method ReflectliteType.elem #[.agg #[.pointer (some ⟨9, 71, none⟩)]]).run Tryd.prog w = .ok (.iface 94 (.agg #[.pointer (some ⟨9, 69, none⟩)])) w := by kernel_rfl
theorem as_implementsF (w : World) : (ReflectliteType.relation "Implements" ReflectliteType.implements_ #[.agg #[.pointer (some ⟨9, 69, none⟩)], .iface 94 (.agg #[.pointer (some ⟨9, 29, none⟩)])]).run Tryd.prog w = .ok (.bool true) w := by kernel_rfl
theorem as_typeOfF (v : Value) (w : World) : (ReflectliteType.typeOf #[.iface 69 v]).run Tryd.prog w = .ok (.iface 94 (.agg #[.pointer (some ⟨9, 69, none⟩)])) w := by kernel_rfl
theorem as_assignF (w : World) : (ReflectliteType.relation "AssignableTo" ReflectliteType.assignableTo #[.agg #[.pointer (some ⟨9, 69, none⟩)], .iface 94 (.agg #[.pointer (some ⟨9, 69, none⟩)])]).run Tryd.prog w = .ok (.bool true) w := by kernel_rfl
theorem as_assignE (w : World) : (ReflectliteType.relation "AssignableTo" ReflectliteType.assignableTo #[.agg #[.pointer (some ⟨9, 108, none⟩)], .iface 94 (.agg #[.pointer (some ⟨9, 69, none⟩)])]).run Tryd.prog w = .ok (.bool false) w := by kernel_rfl
theorem as_valueOfF (e : Addr) (w : World) : (unpackExt #[.iface 69 (.pointer (some e))]).run Tryd.prog w
    = .ok (.agg #[.pointer (some ⟨9, 69, none⟩), .pointer (some ⟨w.heap.size, 0, none⟩), .int .u64 150]) (w.alloc (.cells #[.pointer (some e)] 69)) := by kernel_rfl
theorem as_elemOfT (w : World) : (Rtype.elem? 71).run Tryd.prog w = .ok (some 69) w := by kernel_rfl
theorem as_mkF (p : Addr) (w : World) : (ReflectliteValue.mk 69 p ReflectliteValue.flagAddr).run Tryd.prog w = .ok (.agg #[.pointer (some ⟨9, 69, none⟩), .pointer (some p), .int .u64 406]) w := by kernel_rfl
theorem as_elemVT (a p : Addr) (W : World) (ha : W.cell? a = some (.pointer (some p))) :
    (ReflectliteValue.method (ReflectliteValue.valueError "reflectlite.Value.Elem" 0) ReflectliteValue.elem #[.agg #[.pointer (some ⟨9, 71, none⟩), .pointer (some a), .int .u64 150]]).run Tryd.prog W
      = .ok (.agg #[.pointer (some ⟨9, 69, none⟩), .pointer (some p), .int .u64 406]) W := by
  rw [rlm]
  simp only [Sem.run_bind, as_partsT, Result.andThen]
  simp [ReflectliteValue.elem, loadVar, isAgg, underlying, Tryd.underlying71, ha, Result.andThen, as_elemOfT, as_mkF]
theorem rls (v x : Value) : ReflectliteValue.set #[v, x] = (do
    let (some (dst, a, fl), some (src, b, _)) := (← ReflectliteValue.parts v, ← ReflectliteValue.parts x)
      | unsupported (.noEntry "extern/(internal/reflectlite.Value).Set.zeroValue")
    if fl / ReflectliteValue.flagAddr % 2 == 0 then unsupported (.noEntry "extern/(internal/reflectlite.Value).Set.unaddressable")
    let val ← loadVar src b
    if ← Rtype.directlyAssignable dst src then storeVar dst a val
    else if ← Rtype.implements dst src then
      if (← Rtype.kind src) == 20 then
        match val with
        | .nilIface => unsupported (.noEntry "extern/reflectlite: a nil value of one interface type handed on as a value of another")
        | _ => storeVar dst a val
      else storeVar dst a (.iface src val)
    else panicString ("reflectlite.Set: value of type " ++ (← Rtype.spelt src) ++ " is not assignable to type " ++ (← Rtype.spelt dst))
    pure (.tuple #[])) := rfl
theorem as_partsFa (a : Addr) (w : World) : (ReflectliteValue.parts (.agg #[.pointer (some ⟨9, 69, none⟩), .pointer (some a), .int .u64 406])).run Tryd.prog w = .ok (some (69, a, 406)) w := by kernel_rfl
theorem as_partsF (a : Addr) (w : World) : (ReflectliteValue.parts (.agg #[.pointer (some ⟨9, 69, none⟩), .pointer (some a), .int .u64 150])).run Tryd.prog w = .ok (some (69, a, 150)) w := by kernel_rfl
theorem as_directF (w : World) : (Rtype.directlyAssignable 69 69).run Tryd.prog w = .ok true w := by kernel_rfl
theorem as_setF (ta b e : Addr) (old : Value) (W : World) (hb : W.cell? b = some (.pointer (some e))) (ht : W.cell? ta = some old) (hf : W.frozen? ta = false) :
    (ReflectliteValue.set #[.agg #[.pointer (some ⟨9, 69, none⟩), .pointer (some ta), .int .u64 406], .agg #[.pointer (some ⟨9, 69, none⟩), .pointer (some b), .int .u64 150]]).run Tryd.prog W
      = .ok (.tuple #[]) (W.setCell ta (.pointer (some e))) := by
  rw [rls]
  simp only [Sem.run_bind, as_partsFa, as_partsF, Result.andThen]
  simp [ReflectliteValue.flagAddr, loadVar, isAgg, underlying, Tryd.underlying69, hb, Result.andThen, as_directF, storeVar, Value.cells, storeCells, Addr.add]
  rw [run_store Tryd.prog W ta _ _ (by rfl)]
  simp [ht, hf]

theorem no_as_E (v : Value) (xT : TypeId) (w : World) : (Instr.typeAssert (.iface 108 v) xT 98 true).run Tryd.prog w = .ok (.tuple #[.nilIface, .bool false]) w := run_typeAssert_lacksB Tryd.underlying98 (by kernel_rfl) (by kernel_rfl) v xT w

set_option maxHeartbeats 4000000 in
/-- errors.As at a sentinel: false; what was there is as it was -/
theorem as_sent (e t : Addr) (w : World) (hg : Handle w) :
    Calls Tryd.prog 38 #[.iface 108 (.pointer (some e)), .iface 71 (.pointer (some t))] w fun ev w' => ev = .returned (.bool false) ∧ Below w.heap.size w w' := by
  have h6 := @run_callFunc_extern Tryd.prog 43 _ unpackExt Tryd.func43 (by kernel_rfl) (by kernel_rfl) (by kernel_rfl) (by kernel_rfl)
  have h7 := @run_callFunc_extern Tryd.prog 44 _ (ReflectliteValue.methodAny (ReflectliteValue.valueError "reflectlite.Value.Type" 0) vTypeExt) Tryd.func44 (by kernel_rfl) (by kernel_rfl) (by kernel_rfl) (by kernel_rfl)
  have h8 := @run_callFunc_extern Tryd.prog 45 _ (ReflectliteValue.method (ReflectliteValue.valueError "reflectlite.Value.IsNil" 0) ReflectliteValue.isNil) Tryd.func45 (by kernel_rfl) (by kernel_rfl) (by kernel_rfl) (by kernel_rfl)
  have h27 := @run_callFunc_extern Tryd.prog 66 _ (ReflectliteType.abiMethod kindExt) Tryd.func66 (by kernel_rfl) (by kernel_rfl) (by kernel_rfl) (by kernel_rfl)
  have h37 := @run_callFunc_extern Tryd.prog 77 _ (ReflectliteType.method ReflectliteType.elem) Tryd.func77 (by kernel_rfl) (by kernel_rfl) (by kernel_rfl) (by kernel_rfl)
  have h38 := @run_callFunc_extern Tryd.prog 78 _ (ReflectliteType.relation "Implements" ReflectliteType.implements_) Tryd.func78 (by kernel_rfl) (by kernel_rfl) (by kernel_rfl) (by kernel_rfl)
  have h10 := @run_callFunc_extern Tryd.prog 47 _ ReflectliteType.typeOf Tryd.func47 (by kernel_rfl) (by kernel_rfl) (by kernel_rfl) (by kernel_rfl)
  have h35 := @run_callFunc_extern Tryd.prog 75 _ (ReflectliteType.relation "AssignableTo" ReflectliteType.assignableTo) Tryd.func75 (by kernel_rfl) (by kernel_rfl) (by kernel_rfl) (by kernel_rfl)
  have tO := is_typeOf
  have mA := as_methodAssignableTo
  have aE := as_assignE
  have f6 := as_valueOfT
  have f7 := as_typeT
  have mK := as_methodKind
  have mE := as_methodElem
  have mI := as_methodImplements
  have kT := as_kindT
  have kF := as_kindF
  have eT := as_elemT
  have iF := as_implementsF
  have nA := no_as_E
  have uE := no_unwrap_E
  have vE := no_unwraps_E
  have n8 := as_isNilT ⟨w.heap.size, 0, none⟩ t ((w.alloc (.cells #[.pointer (some t)] 71)).alloc (.cells #[.pointer (some ⟨9, 71, none⟩), .pointer (some ⟨w.heap.size, 0, none⟩), .int .u64 150] 81)) (by simp)
  have hlt : 8 < w.heap.size := World.block_lt_of_cell? w _ hg
  have hg2 : ((w.alloc (.cells #[.pointer (some t)] 71)).alloc (.cells #[.pointer (some ⟨9, 71, none⟩), .pointer (some ⟨w.heap.size, 0, none⟩), .int .u64 150] 81)).cell? ⟨8, 0, none⟩ = some (.iface 94 (.agg #[.pointer (some ⟨9, 29, none⟩)])) := by
    rw [World.cell?_alloc_lt _ _ ⟨8, 0, none⟩ (by simp; omega), World.cell?_alloc_lt _ _ ⟨8, 0, none⟩ hlt]; exact hg
  go_enter Tryd.func38, Tryd.ntmps38
  go_wp2
  refine wp_loop_rounds 1 ?_
  rw [rounds_succ]
  go_wp2
  go_ret
  exact ⟨rfl, below_alloc' (below_alloc' (below_alloc' (Below.refl _ _) _) _) _⟩

set_option maxHeartbeats 4000000 in
/-- errors.As at a fault: true; the target points to it -/
theorem as_fault (e t : Addr) (old : Value) (w : World) (hg : Handle w) (ht0 : w.cell? t = some old) (hf0 : w.frozen? t = false) :
    Calls Tryd.prog 38 #[.iface 69 (.pointer (some e)), .iface 71 (.pointer (some t))] w fun ev w' => ev = .returned (.bool true) ∧ w' = ((((w.alloc (.cells #[.pointer (some t)] 71)).alloc (.cells #[.pointer (some ⟨9, 71, none⟩), .pointer (some ⟨w.heap.size, 0, none⟩), .int .u64 150] 81)).alloc (.cells #[.pointer (some ⟨9, 71, none⟩), .pointer (some ⟨w.heap.size, 0, none⟩), .int .u64 150] 81)).alloc (.cells #[.pointer (some e)] 69)).setCell t (.pointer (some e)) := by
  have h6 := @run_callFunc_extern Tryd.prog 43 _ unpackExt Tryd.func43 (by kernel_rfl) (by kernel_rfl) (by kernel_rfl) (by kernel_rfl)
  have h7 := @run_callFunc_extern Tryd.prog 44 _ (ReflectliteValue.methodAny (ReflectliteValue.valueError "reflectlite.Value.Type" 0) vTypeExt) Tryd.func44 (by kernel_rfl) (by kernel_rfl) (by kernel_rfl) (by kernel_rfl)
  have h8 := @run_callFunc_extern Tryd.prog 45 _ (ReflectliteValue.method (ReflectliteValue.valueError "reflectlite.Value.IsNil" 0) ReflectliteValue.isNil) Tryd.func45 (by kernel_rfl) (by kernel_rfl) (by kernel_rfl) (by kernel_rfl)
  have h27 := @run_callFunc_extern Tryd.prog 66 _ (ReflectliteType.abiMethod kindExt) Tryd.func66 (by kernel_rfl) (by kernel_rfl) (by kernel_rfl) (by kernel_rfl)
  have h37 := @run_callFunc_extern Tryd.prog 77 _ (ReflectliteType.method ReflectliteType.elem) Tryd.func77 (by kernel_rfl) (by kernel_rfl) (by kernel_rfl) (by kernel_rfl)
  have h38 := @run_callFunc_extern Tryd.prog 78 _ (ReflectliteType.relation "Implements" ReflectliteType.implements_) Tryd.func78 (by kernel_rfl) (by kernel_rfl) (by kernel_rfl) (by kernel_rfl)
  have h10 := @run_callFunc_extern Tryd.prog 47 _ ReflectliteType.typeOf Tryd.func47 (by kernel_rfl) (by kernel_rfl) (by kernel_rfl) (by kernel_rfl)
  have h35 := @run_callFunc_extern Tryd.prog 75 _ (ReflectliteType.relation "AssignableTo" ReflectliteType.assignableTo) Tryd.func75 (by kernel_rfl) (by kernel_rfl) (by kernel_rfl) (by kernel_rfl)
  have h11 := @run_callFunc_extern Tryd.prog 50 _ (ReflectliteValue.method (ReflectliteValue.valueError "reflectlite.Value.Elem" 0) ReflectliteValue.elem) Tryd.func50 (by kernel_rfl) (by kernel_rfl) (by kernel_rfl) (by kernel_rfl)
  have h12 := @run_callFunc_extern Tryd.prog 51 _ ReflectliteValue.set Tryd.func51 (by kernel_rfl) (by kernel_rfl) (by kernel_rfl) (by kernel_rfl)
  have tO := as_typeOfF
  have mA := as_methodAssignableTo
  have aE := as_assignF
  have vF := as_valueOfF
  have f6 := as_valueOfT
  have f7 := as_typeT
  have mK := as_methodKind
  have mE := as_methodElem
  have mI := as_methodImplements
  have kT := as_kindT
  have kF := as_kindF
  have eT := as_elemT
  have iF := as_implementsF
  have n8 := as_isNilT ⟨w.heap.size, 0, none⟩ t ((w.alloc (.cells #[.pointer (some t)] 71)).alloc (.cells #[.pointer (some ⟨9, 71, none⟩), .pointer (some ⟨w.heap.size, 0, none⟩), .int .u64 150] 81)) (by simp)
  have hlt : 8 < w.heap.size := World.block_lt_of_cell? w _ hg
  have hg2 : ((w.alloc (.cells #[.pointer (some t)] 71)).alloc (.cells #[.pointer (some ⟨9, 71, none⟩), .pointer (some ⟨w.heap.size, 0, none⟩), .int .u64 150] 81)).cell? ⟨8, 0, none⟩ = some (.iface 94 (.agg #[.pointer (some ⟨9, 29, none⟩)])) := by
    rw [World.cell?_alloc_lt _ _ ⟨8, 0, none⟩ (by simp; omega), World.cell?_alloc_lt _ _ ⟨8, 0, none⟩ hlt]; exact hg
  have htl : t.block < w.heap.size := World.block_lt_of_cell? w _ ht0
  have el := as_elemVT ⟨w.heap.size, 0, none⟩ t (((w.alloc (.cells #[.pointer (some t)] 71)).alloc (.cells #[.pointer (some ⟨9, 71, none⟩), .pointer (some ⟨w.heap.size, 0, none⟩), .int .u64 150] 81)).alloc (.cells #[.pointer (some ⟨9, 71, none⟩), .pointer (some ⟨w.heap.size, 0, none⟩), .int .u64 150] 81)) (by rw [World.cell?_alloc_lt _ _ ⟨w.heap.size, 0, none⟩ (by simp; omega)]; simp)
  have st := as_setF t ⟨w.heap.size + 1 + 1 + 1, 0, none⟩ e old ((((w.alloc (.cells #[.pointer (some t)] 71)).alloc (.cells #[.pointer (some ⟨9, 71, none⟩), .pointer (some ⟨w.heap.size, 0, none⟩), .int .u64 150] 81)).alloc (.cells #[.pointer (some ⟨9, 71, none⟩), .pointer (some ⟨w.heap.size, 0, none⟩), .int .u64 150] 81)).alloc (.cells #[.pointer (some e)] 69))
    (by rw [World.cell?_alloc_at _ _ _ _ (by simp)]; rfl)
    (by rw [World.cell?_alloc_lt _ _ t (by simp; omega), World.cell?_alloc_lt _ _ t (by simp; omega), World.cell?_alloc_lt _ _ t (by simp; omega), World.cell?_alloc_lt _ _ t htl]; exact ht0)
    (by rw [World.frozen?_alloc_old _ _ t (by simp; omega), World.frozen?_alloc_old _ _ t (by simp; omega), World.frozen?_alloc_old _ _ t (by simp; omega), World.frozen?_alloc_old _ _ t (Nat.ne_of_lt htl)]; exact hf0)
  go_enter Tryd.func38, Tryd.ntmps38
  go_wp2
  refine wp_loop_rounds 1 ?_
  rw [rounds_succ]
  go_wp2
  go_ret
  exact ⟨rfl, rfl⟩
end Go.Proofs.YtehheklbibocjaaDoor

/- The walks of plain.Code and coded. Condition: the variables read as laid. -/
namespace Go.Proofs.YtehheklbibocjaaDoor
open Go.RowKit Go.Deep

def codes : List Nat := [1, 2, 3, 4, 5, 6, 7, 8]
theorem mem_codes {c : Nat} (h1 : 1 ≤ c) (h8 : c ≤ 8) : c ∈ codes := by
  unfold codes
  simp
  omega

theorem code_nil (w : World) : Calls Tryd.prog 30 #[.nilIface] w fun e w' => e = .returned (.tuple #[.int .i64 0, .int .i64 (-1)]) ∧ w = w' := by
  go_enter Tryd.func30, Tryd.ntmps30
  go_wp2
  go_ret2
  exact ⟨rfl, rfl⟩

set_option maxHeartbeats 4000000 in
theorem code_sent (w : World) (a : Nat → Addr) (hS : Sent codes w a) (hH : Handle w) (c : Nat) (h1 : 1 ≤ c) (h8 : c ≤ 8) :
    Calls Tryd.prog 30 #[.iface 108 (.pointer (some (a c)))] w fun e w' => e = .returned (.tuple #[.int .i64 c, .int .i64 (-1)]) ∧ Below w.heap.size w w' := by
  have has := as_sent (a c) ⟨w.heap.size, 0, none⟩ (w.alloc (.cells #[.pointer none] 69)) (hH.below (below_alloc' (Below.refl _ _) _))
  have HAS := hide has
  clear has
  have hn := fun X => run_eql_iface_nil_left (P := Tryd.prog) X 108 (.pointer (some (a c))) Tryd.underlying29
  go_enter Tryd.func30, Tryd.ntmps30
  go_wp2_with
    (go_at_call 38
     refine HAS.out.mono ?_
     rintro e w1 ⟨rfl, hb1⟩
     have hS1 := hS.below (below_trans (below_alloc' (Below.refl _ _) (.cells #[.pointer none] 69)) hb1)
     have e1 := hS1.cell 1 (by decide)
     have e2 := hS1.cell 2 (by decide)
     have e3 := hS1.cell 3 (by decide)
     have e4 := hS1.cell 4 (by decide)
     have e5 := hS1.cell 5 (by decide)
     have e6 := hS1.cell 6 (by decide)
     have e7 := hS1.cell 7 (by decide)
     have e8 := hS1.cell 8 (by decide)
     simp only [glob] at e1 e2 e3 e4 e5 e6 e7 e8)
  clear e1 e2 e3 e4 e5 e6 e7 e8
  have hB0 : Below w.heap.size w w1 := below_trans (below_alloc' (Below.refl _ _) (.cells #[.pointer none] 69)) hb1
  clear hb1
  go_loopw [3, 26] (fun at3 i wr => ∃ k : Nat, k < c ∧ i = .int .i64 k ∧ at3 = .int .i64 (-1) ∧ Below (w1.heap.size + 1) (w1.alloc (.cells #[.iface 108 (.pointer (some (a 1))), .iface 108 (.pointer (some (a 2))), .iface 108 (.pointer (some (a 3))), .iface 108 (.pointer (some (a 4))), .iface 108 (.pointer (some (a 5))), .iface 108 (.pointer (some (a 6))), .iface 108 (.pointer (some (a 7))), .iface 108 (.pointer (some (a 8)))] 29)) wr) (fun _ i _ => 8 - (intOf i).toNat)
  case atStart => exact ⟨0, by omega, rfl, rfl, Below.refl _ _⟩
  case round =>
    obtain ⟨k, hk, rfl, rfl, hB⟩ := hrel
    have hcell : wr.cell? ⟨w1.heap.size, k, none⟩ = some (.iface 108 (.pointer (some (a (k + 1))))) := by
      rw [hB.cell (p := ⟨w1.heap.size, k, none⟩) (by show w1.heap.size < _; omega), World.cell?_alloc_at _ _ _ _ rfl]
      have hk8 : k < 8 := by omega
      clear hk hB
      match k, hk8 with
      | 0, _ => rfl
      | 1, _ => rfl
      | 2, _ => rfl
      | 3, _ => rfl
      | 4, _ => rfl
      | 5, _ => rfl
      | 6, _ => rfl
      | 7, _ => rfl
    have hSr : Sent codes wr a := hS.below (below_trans (below_alloc' hB0 _) (hB.mono (by simp)))
    have his := is_sent wr a hSr c (k + 1) (mem_codes h1 h8) (mem_codes (by omega) (by omega))
    by_cases e : c = k + 1
    · rw [decide_eq_true e] at his
      have HIS := hide his
      clear his
      have HE := hide e
      clear e
      go_wp2_with (go_at_call 39; refine HIS.out.mono ?_; rintro e w2 ⟨rfl, rfl⟩)
      go_ret2
      refine ⟨?_, ?_⟩
      · have := HE.out
        subst this
        rfl
      · exact (below_alloc' hB0 _).trans (hB.mono (by have := hB0.size; omega))
    · rw [decide_eq_false e] at his
      have HIS := hide his
      clear his
      have hk2 : k + 1 < c := by omega
      clear e
      go_wp2_with (go_at_call 39; refine HIS.out.mono ?_; rintro e w2 ⟨rfl, rfl⟩)
      go_roundw
      case rel => exact ⟨k + 1, hk2, by go_num, rfl, hB⟩
      case measure => simp [intOf]; omega

set_option maxHeartbeats 4000000 in
theorem code_fault (w : World) (a : Nat → Addr) (hS : Sent codes w a) (hH : Handle w) (c : Nat) (h1 : 1 ≤ c) (h8 : c ≤ 8) (pb po : Nat) (at_ : Int) (hpb : pb < w.heap.size) (hat : w.cell? ⟨pb, po, none⟩ = some (.int .i64 at_)) (herr : w.cell? ⟨pb, po + 1, none⟩ = some (.iface 108 (.pointer (some (a c))))) :
    Calls Tryd.prog 30 #[.iface 69 (.pointer (some ⟨pb, po, none⟩))] w fun e w' => e = .returned (.tuple #[.int .i64 c, .int .i64 at_]) ∧ Below w.heap.size w w' := by
  have has := as_fault ⟨pb, po, none⟩ ⟨w.heap.size, 0, none⟩ (.pointer none) (w.alloc (.cells #[.pointer none] 69)) (hH.below (below_alloc' (Below.refl _ _) _)) (by simp) (by simp)
  have HAS := hide has
  clear has
  have hn := fun X => run_eql_iface_nil_left (P := Tryd.prog) X 69 (.pointer (some ⟨pb, po, none⟩)) Tryd.underlying29
  go_enter Tryd.func30, Tryd.ntmps30
  go_wp2_with
    (go_at_call 38
     refine HAS.out.mono ?_
     rintro e w1 ⟨rfl, hw1⟩
     have hB0 : Below w.heap.size w w1 := by
       rw [hw1]
       refine Below.setCell ?_ (by simp) _
       exact below_alloc' (below_alloc' (below_alloc' (below_alloc' (below_alloc' (Below.refl _ _) _) _) _) _) _
     have hf1 : w1.cell? ⟨w.heap.size, 0, none⟩ = some (.pointer (some ⟨pb, po, none⟩)) := by
       rw [hw1, World.cell?_setCell_same (u := .pointer none)]
       rw [World.cell?_alloc_lt _ _ ⟨w.heap.size, 0, none⟩ (by simp; omega), World.cell?_alloc_lt _ _ ⟨w.heap.size, 0, none⟩ (by simp; omega), World.cell?_alloc_lt _ _ ⟨w.heap.size, 0, none⟩ (by simp; omega), World.cell?_alloc_lt _ _ ⟨w.heap.size, 0, none⟩ (by simp)]
       simp
     clear hw1
     have hat1 : w1.cell? ⟨pb, po, none⟩ = some (.int .i64 at_) := (hB0.cell (p := ⟨pb, po, none⟩) hpb).trans hat
     have hS1 := hS.below hB0
     have e1 := hS1.cell 1 (by decide)
     have e2 := hS1.cell 2 (by decide)
     have e3 := hS1.cell 3 (by decide)
     have e4 := hS1.cell 4 (by decide)
     have e5 := hS1.cell 5 (by decide)
     have e6 := hS1.cell 6 (by decide)
     have e7 := hS1.cell 7 (by decide)
     have e8 := hS1.cell 8 (by decide)
     simp only [glob] at e1 e2 e3 e4 e5 e6 e7 e8)
  clear e1 e2 e3 e4 e5 e6 e7 e8
  go_loopw [3, 26] (fun at3 i wr => ∃ k : Nat, k < c ∧ i = .int .i64 k ∧ at3 = .int .i64 at_ ∧ Below (w1.heap.size + 1) (w1.alloc (.cells #[.iface 108 (.pointer (some (a 1))), .iface 108 (.pointer (some (a 2))), .iface 108 (.pointer (some (a 3))), .iface 108 (.pointer (some (a 4))), .iface 108 (.pointer (some (a 5))), .iface 108 (.pointer (some (a 6))), .iface 108 (.pointer (some (a 7))), .iface 108 (.pointer (some (a 8)))] 29)) wr) (fun _ i _ => 8 - (intOf i).toNat)
  case atStart => exact ⟨0, by omega, rfl, rfl, Below.refl _ _⟩
  case round =>
    obtain ⟨k, hk, rfl, rfl, hB⟩ := hrel
    have hcell : wr.cell? ⟨w1.heap.size, k, none⟩ = some (.iface 108 (.pointer (some (a (k + 1))))) := by
      rw [hB.cell (p := ⟨w1.heap.size, k, none⟩) (by show w1.heap.size < _; omega), World.cell?_alloc_at _ _ _ _ rfl]
      have hk8 : k < 8 := by omega
      clear hk hB
      match k, hk8 with
      | 0, _ => rfl
      | 1, _ => rfl
      | 2, _ => rfl
      | 3, _ => rfl
      | 4, _ => rfl
      | 5, _ => rfl
      | 6, _ => rfl
      | 7, _ => rfl
    have hSr : Sent codes wr a := hS.below (below_trans (below_alloc' hB0 _) (hB.mono (by simp)))
    have herr1 : wr.cell? ⟨pb, po + 1, none⟩ = some (.iface 108 (.pointer (some (a c)))) := ((below_trans (below_alloc' hB0 _) (hB.mono (by simp))).cell (p := ⟨pb, po + 1, none⟩) hpb).trans herr
    have his := is_fault wr a hSr pb po c (k + 1) (mem_codes h1 h8) (mem_codes (by omega) (by omega)) herr1
    clear herr1
    by_cases e : c = k + 1
    · rw [decide_eq_true e] at his
      have HIS := hide his
      clear his
      have HE := hide e
      clear e
      go_wp2_with (go_at_call 39; refine HIS.out.mono ?_; rintro e w2 ⟨rfl, rfl⟩)
      go_ret2
      refine ⟨?_, ?_⟩
      · have := HE.out
        subst this
        rfl
      · exact (below_alloc' hB0 _).trans (hB.mono (by have := hB0.size; omega))
    · rw [decide_eq_false e] at his
      have HIS := hide his
      clear his
      have hk2 : k + 1 < c := by omega
      clear e
      go_wp2_with (go_at_call 39; refine HIS.out.mono ?_; rintro e w2 ⟨rfl, rfl⟩)
      go_roundw
      case rel => exact ⟨k + 1, hk2, by go_num, rfl, hB⟩
      case measure => simp [intOf]; omega

set_option maxHeartbeats 1000000 in
/-- coded: is the error's code this one? -/
theorem coded_any (w : World) (a : Nat → Addr) (hS : Sent codes w a) (hH : Handle w) (c : Nat) (hc : c ≤ 8) (x : Int) :
    Calls Tryd.prog 14 #[errC a c, .int .i64 x] w fun e w' => e = .returned (.bool (decide ((c : Int) = x))) ∧ Below w.heap.size w w' := by
  by_cases h0 : c = 0
  · subst h0
    have e0 : errC a ((0 : Nat) : Int) = .nilIface := rfl
    rw [e0]
    by_cases hx : x = 0
    · subst hx
      go_enter Tryd.func14, Tryd.ntmps14
      go_wp2_with (go_at_call 30; refine (code_nil _).mono ?_; rintro e w' ⟨rfl, rfl⟩)
      go_ret
      exact ⟨rfl, Below.refl _ _⟩
    · have h1 : (0 == x) = false := by simpa using fun h : 0 = x => hx h.symm
      have h2 : decide (((0 : Nat) : Int) = x) = false := decide_eq_false (fun h => hx h.symm)
      rw [h2]
      clear hx h2
      go_enter Tryd.func14, Tryd.ntmps14
      go_wp2_with (go_at_call 30; refine (code_nil _).mono ?_; rintro e w' ⟨rfl, rfl⟩)
      go_ret
      exact ⟨rfl, Below.refl _ _⟩
  · have e0 : errC a (c : Int) = .iface 108 (.pointer (some (a c))) := by unfold errC; rw [if_neg (by omega)]; rfl
    rw [e0]
    have hcode := code_sent w a hS hH c (by omega) hc
    have HC := hide hcode
    clear hcode e0 h0
    generalize a c = a0 at HC ⊢
    have hcc : ∃ y : Int, y = (c : Int) := ⟨_, rfl⟩
    obtain ⟨y, hy⟩ := hcc
    rw [← hy] at HC ⊢
    clear hy hc
    by_cases hx : y = x
    · subst hx
      rw [decide_eq_true rfl]
      go_enter Tryd.func14, Tryd.ntmps14
      go_wp2_with (go_at_call 30; refine HC.out.mono ?_; rintro e w' ⟨rfl, hb⟩)
      go_ret
      exact ⟨rfl, hb⟩
    · have h1 : (y == x) = false := by simpa using hx
      rw [decide_eq_false hx]
      clear hx
      go_enter Tryd.func14, Tryd.ntmps14
      go_wp2_with (go_at_call 30; refine HC.out.mono ?_; rintro e w' ⟨rfl, hb⟩)
      go_ret
      exact ⟨rfl, hb⟩
end Go.Proofs.YtehheklbibocjaaDoor
