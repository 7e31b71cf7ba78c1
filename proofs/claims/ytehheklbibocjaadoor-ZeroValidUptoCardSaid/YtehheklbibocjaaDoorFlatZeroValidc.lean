/- Words, plain laws and walks behind the law ZeroValid, part 3. No condition. -/
import Derived.Test.YtehheklbibocjaaDoorFlatZeroValidb
import Derived.Laws.StructEq

/- The walks of Joined and SameGraph. No condition. -/
namespace Go.Proofs.YtehheklbibocjaaDoor
open Go.RowKit Go.Deep Go.Proofs.YtehheklbibocjaaDoorW.PrintWords

/-- does an edge join two vertices? -/
def adjAt (p q a b : Int) : Bool := (p == a && q == b) || (p == b && q == a)
def adjL (l : List (Int × Int)) (a b : Int) : Bool := l.any fun e => adjAt e.1 e.2 a b
/-- none of the first k edges joins them -/
structure NoneTo (l : List (Int × Int)) (a b : Int) (k : Nat) : Prop where
  out : ∀ j, j < k → adjAt (l.getD j (0, 0)).1 (l.getD j (0, 0)).2 a b = false
theorem NoneTo.zero (l : List (Int × Int)) (a b : Int) : NoneTo l a b 0 := ⟨fun j h => absurd h (by omega)⟩
theorem NoneTo.succ {l : List (Int × Int)} {a b : Int} {k : Nat} (h : NoneTo l a b k) (hk : adjAt (l.getD k (0, 0)).1 (l.getD k (0, 0)).2 a b = false) : NoneTo l a b (k + 1) :=
  ⟨fun j hj => by
    by_cases e : j = k
    · rw [e]; exact hk
    · exact h.out j (by omega)⟩
theorem adjL_yes {l : List (Int × Int)} {a b : Int} {k : Nat} (hk : k < l.length) (h : adjAt (l.getD k (0, 0)).1 (l.getD k (0, 0)).2 a b = true) : adjL l a b = true := by
  rw [getD_eq l k _ hk] at h
  exact List.any_eq_true.2 ⟨l[k], List.getElem_mem hk, h⟩
theorem adjL_no {l : List (Int × Int)} {a b : Int} (h : NoneTo l a b l.length) : adjL l a b = false := by
  unfold adjL
  rw [List.any_eq_false]
  intro e he
  obtain ⟨i, hi, rfl⟩ := List.getElem_of_mem he
  have := h.out i hi
  rw [getD_eq l i _ hi] at this
  rw [this]
  decide

set_option maxRecDepth 100000 in
set_option maxHeartbeats 4000000 in
theorem joined_any (n : Int) (A : Option Addr) (l : List (Int × Int)) (cap : Nat) (a b : Int) (w : World) (hP : Pairs w A l) :
    Calls Tryd.prog 31 #[.agg #[.int .i64 n, .slice A l.length cap], .int .i64 a, .int .i64 b] w fun e w' => e = .returned (.bool (adjL l a b)) ∧ Below w.heap.size w w' := by
  have hl := hP.len
  have HP := hide hP
  clear hP
  go_enter Tryd.func31, Tryd.ntmps31
  go_wp2_with (fail)
  go_loopw [7] (fun i wr => ∃ k : Nat, k ≤ l.length ∧ Hid (NoneTo l a b k) ∧ i = .int .i64 k ∧ Hid (Below (w.heap.size + 1) (w.alloc (.cells #[.int .i64 n, .slice A l.length cap] 24)) wr)) (fun i _ => l.length - (intOf i).toNat)
  case atStart => exact ⟨0, Nat.zero_le _, hide (NoneTo.zero _ _ _), rfl, hide (Below.refl _ _)⟩
  case round =>
    obtain ⟨k, hk, hg, rfl, hB⟩ := hrel
    obtain ⟨wi, rfl⟩ : ∃ wi : World, wi = wr := ⟨_, rfl⟩
    have hsz : w.heap.size + 1 ≤ wi.heap.size := by have := hB.out.size; simp at this; exact this
    have hbw : Below w.heap.size w wi := (below_alloc' (Below.refl _ _) _).trans (hB.out.mono (Nat.le_succ _))
    have HBW := hide hbw
    have k0 : (0 : Int) ≤ (k : Int) := Int.natCast_nonneg _
    have zw : w.heap.size < wi.heap.size := by omega
    by_cases hlt : k < l.length
    · obtain ⟨g, off, rfl, hb, c1, c2⟩ := (HP.out.below hbw).at_ k hlt
      have HY := hide (fun h => adjL_yes (a := a) (b := b) hlt h)
      have HN := hide (fun h => hg.out.succ (k := k) h)
      generalize (l.getD k (0,0)).1 = p at c1 HY HN
      generalize (l.getD k (0,0)).2 = q at c2 HY HN
      have k1 : (k : Int) < (l.length : Int) := by omega
      have y1 : wi.cell? ⟨w.heap.size, 1, none⟩ = some (.slice (some ⟨g, off, none⟩) l.length cap) := by
        rw [hB.out.cell (p := ⟨w.heap.size, 1, none⟩) (by show w.heap.size < _; omega)]; simp
      clear hbw
      cases e1 : (p == a) <;> cases e2 : (q == b) <;> cases e3 : (p == b) <;> cases e4 : (q == a)
      all_goals have HV := hide (show adjAt p q a b = ((p == a && q == b) || (p == b && q == a)) from rfl)
      all_goals rw [e1, e2, e3, e4] at HV
      all_goals go_wp2_with (fail)
      all_goals first
        | (go_ret
           exact ⟨ret_bool (HY.out HV.out).symm, below_alloc' HBW.out _⟩)
        | (go_roundw
           case rel => exact ⟨k + 1, by omega, hide (HN.out HV.out), by go_num, hide (hB.out.alloc hsz _)⟩
           case measure => simp [intOf]; omega)
    · obtain rfl : k = l.length := by omega
      have HF := hide (adjL_no hg.out)
      have y1 : wi.cell? ⟨w.heap.size, 1, none⟩ = some (.slice A l.length cap) := by
        rw [hB.out.cell (p := ⟨w.heap.size, 1, none⟩) (by show w.heap.size < _; omega)]; simp
      go_wp2_with (fail)
      go_ret
      rw [HF.out]
      exact ⟨rfl, HBW.out⟩

/-- two lists of pairs are alike ahead of place k -/
structure AlikeP (l m : List (Int × Int)) (k : Nat) : Prop where
  out : ∀ j, j < k → l.getD j (0, 0) = m.getD j (0, 0)
theorem AlikeP.zero (l m : List (Int × Int)) : AlikeP l m 0 := ⟨fun j h => absurd h (by omega)⟩
theorem AlikeP.succ {l m : List (Int × Int)} {k : Nat} (h : AlikeP l m k) (hk : l.getD k (0, 0) = m.getD k (0, 0)) : AlikeP l m (k + 1) :=
  ⟨fun j hj => by
    by_cases e : j = k
    · rw [e]; exact hk
    · exact h.out j (by omega)⟩

@[go_sem] theorem eq_pair (a b c d : Int) (w : World) : (Op.equalIn 10000 51 (.agg #[.int .i64 a, .int .i64 b]) (.agg #[.int .i64 c, .int .i64 d])).run Tryd.prog w = .ok (a == c && b == d) w := by
  have u3 := Tryd.underlying3
  have a3 := Tryd.isAgg3
  have z3 := Tryd.sizeOf3
  rw [show (10000 : Nat) = 9999 + 1 from rfl, Op.equalIn]
  simp only [Sem.run_bind, run_underlying Tryd.underlying51, Result.andThen_ok]
  simp only [Std.Legacy.Range.forIn_eq_forIn_range', Std.Legacy.Range.size, Nat.sub_zero, Nat.add_sub_cancel, Nat.div_one, List.range'_succ, List.range'_zero, List.forIn_cons, List.forIn_nil]
  go_simp
  by_cases h1 : a = c <;> by_cases h2 : b = d <;> simp [h1, h2]

set_option maxRecDepth 100000 in
set_option maxHeartbeats 4000000 in
/-- the same graph twice is the same -/
theorem sameGraph_yes (n : Int) (A B : Option Addr) (l : List (Int × Int)) (c d : Nat) (w : World) (hA : Pairs w A l) (hB : Pairs w B l) :
    Calls Tryd.prog 17 #[.agg #[.int .i64 n, .slice A l.length c], .agg #[.int .i64 n, .slice B l.length d]] w fun e w' => e = .returned (.bool true) ∧ Below w.heap.size w w' := by
  have hl := hA.len
  have HAB := hide (And.intro hA hB)
  have n1 : (n != n) = false := by simp
  have n2 : ((l.length : Int) != (l.length : Int)) = false := by simp
  clear hA hB
  go_enter Tryd.func17, Tryd.ntmps17
  go_wp2_with (fail)
  go_loopw [5] (fun i wr => ∃ k m : Nat, k ≤ l.length ∧ i = .int .i64 k ∧ wr = World.drewN ((w.alloc (.cells #[.int .i64 n, .slice A l.length c] 24)).alloc (.cells #[.int .i64 n, .slice B l.length d] 24)) m) (fun i _ => l.length - (intOf i).toNat)
  case atStart => exact ⟨0, 0, Nat.zero_le _, rfl, rfl⟩
  case round =>
    obtain ⟨k, m, hk, rfl, hwr⟩ := hrel
    obtain ⟨wi, rfl⟩ : ∃ wi : World, wi = wr := ⟨_, rfl⟩
    have k0 : (0 : Int) ≤ (k : Int) := Int.natCast_nonneg _
    have hbw : Below w.heap.size w wi := by rw [hwr]; exact below_drewN' (below_alloc' (below_alloc' (Below.refl _ _) _) _) _
    have y1 : wi.cell? ⟨w.heap.size, 1, none⟩ = some (.slice A l.length c) := by rw [hwr]; show (World.alloc _ _).cell? _ = _; simp
    have y2 : wi.cell? ⟨w.heap.size + 1, 1, none⟩ = some (.slice B l.length d) := by rw [hwr]; show (World.alloc _ _).cell? _ = _; simp
    have HBW := hide hbw
    have HWR := hide hwr
    clear hwr
    by_cases hlt : k < l.length
    · obtain ⟨g, off, rfl, hb, c1, c2⟩ := (HAB.out.1.below hbw).at_ k hlt
      obtain ⟨g', off', rfl, hb', d1, d2⟩ := (HAB.out.2.below hbw).at_ k hlt
      clear hbw
      generalize (l.getD k (0,0)).1 = p at c1 d1
      generalize (l.getD k (0,0)).2 = q at c2 d2
      have k1 : (k : Int) < (l.length : Int) := by omega
      have p1 : (p != p) = false := by simp
      have q1 : (q != q) = false := by simp
      go_wp2_with (fail)
      go_quiet (fail)
      go_wp2_with (fail)
      go_roundw
      case rel => exact ⟨k + 1, m + nq, by omega, by go_num, by rw [HWR.out, World.drewN_drewN]⟩
      case measure => simp [intOf]; omega
    · obtain rfl : k = l.length := by omega
      go_wp2_with (fail)
      go_ret
      exact ⟨rfl, HBW.out⟩
end Go.Proofs.YtehheklbibocjaaDoor

/- The walk of StrongOf. No condition. -/
namespace Go.Proofs.YtehheklbibocjaaDoor
open Go.RowKit Go.Deep Go.Proofs.YtehheklbibocjaaDoorW.PrintWords

/-- have two vertices of the product an edge (by lists)? -/
def strongQ (l k : List (Int × Int)) (m v w : Nat) : Bool := (decide (v / m = w / m) || adjL l ((v / m : Nat) : Int) ((w / m : Nat) : Int)) && (decide (v % m = w % m) || adjL k ((v % m : Nat) : Int) ((w % m : Nat) : Int))
/-- the boxes of StrongOf's arguments, as they stay -/
structure SOf (w : World) (n : Int) (A : Option Addr) (la c : Nat) (m : Int) (B : Option Addr) (lb d : Nat) (W : World) : Prop where
  below : Below w.heap.size w W
  size : w.heap.size + 3 ≤ W.heap.size
  a0 : W.cell? ⟨w.heap.size, 0, none⟩ = some (.int .i64 n)
  a1 : W.cell? ⟨w.heap.size, 1, none⟩ = some (.slice A la c)
  b0 : W.cell? ⟨w.heap.size + 1, 0, none⟩ = some (.int .i64 m)
  b1 : W.cell? ⟨w.heap.size + 1, 1, none⟩ = some (.slice B lb d)
  r0 : W.cell? ⟨w.heap.size + 2, 0, none⟩ = some (.int .i64 0)
  r1 : W.cell? ⟨w.heap.size + 2, 1, none⟩ = some (.slice none 0 0)
  f0 : W.frozen? ⟨w.heap.size + 2, 0, none⟩ = false
  f1 : W.frozen? ⟨w.heap.size + 2, 1, none⟩ = false
def gObj (n : Int) (A : Option Addr) (len c : Nat) : Obj := .cells #[.int .i64 n, .slice A len c] 24
theorem SOf.start (w : World) (n : Int) (A : Option Addr) (la c : Nat) (m : Int) (B : Option Addr) (lb d : Nat) : SOf w n A la c m B lb d (((w.alloc (gObj n A la c)).alloc (gObj m B lb d)).alloc (gObj 0 none 0 0)) ∧ (((w.alloc (gObj n A la c)).alloc (gObj m B lb d)).alloc (gObj 0 none 0 0)).heap.size = w.heap.size + 3 := by
  obtain ⟨V1, hV1⟩ : ∃ V, w.alloc (gObj n A la c) = V := ⟨_, rfl⟩
  obtain ⟨V2, hV2⟩ : ∃ V, V1.alloc (gObj m B lb d) = V := ⟨_, rfl⟩
  obtain ⟨V3, hV3⟩ : ∃ V, V2.alloc (gObj 0 none 0 0) = V := ⟨_, rfl⟩
  rw [hV1, hV2, hV3]
  have s1 : V1.heap.size = w.heap.size + 1 := by rw [← hV1, World.size_alloc]
  have s2 : V2.heap.size = w.heap.size + 2 := by rw [← hV2, World.size_alloc, s1]
  have s3 : V3.heap.size = w.heap.size + 3 := by rw [← hV3, World.size_alloc, s2]
  have b1 : Below w.heap.size w V1 := by rw [← hV1]; exact below_alloc' (Below.refl _ _) _
  have b2 : Below V1.heap.size V1 V2 := by rw [← hV2]; exact below_alloc' (Below.refl _ _) _
  have b3 : Below V2.heap.size V2 V3 := by rw [← hV3]; exact below_alloc' (Below.refl _ _) _
  have e1 : V3.heap[w.heap.size]? = some (gObj n A la c) := by
    rw [b3.block _ (by omega), b2.block _ (by omega), ← hV1]
    exact alloc_at _ _
  have e2 : V3.heap[w.heap.size + 1]? = some (gObj m B lb d) := by
    rw [b3.block _ (by omega), ← s1, ← hV2]
    exact alloc_at _ _
  have e3 : V3.heap[w.heap.size + 2]? = some (gObj 0 none 0 0) := by
    rw [← s2, ← hV3]
    exact alloc_at _ _
  exact ⟨⟨below_trans (below_trans b1 b2) b3, by omega, (cell_of _ _ 0 _ _ _ e1 rfl).1, (cell_of _ _ 1 _ _ _ e1 rfl).1, (cell_of _ _ 0 _ _ _ e2 rfl).1, (cell_of _ _ 1 _ _ _ e2 rfl).1, (cell_of _ _ 0 _ _ _ e3 rfl).1, (cell_of _ _ 1 _ _ _ e3 rfl).1, (cell_of _ _ 0 _ _ _ e3 rfl).2, (cell_of _ _ 1 _ _ _ e3 rfl).2⟩, s3⟩
theorem SOf.later {w : World} {n : Int} {A : Option Addr} {la c : Nat} {m : Int} {B : Option Addr} {lb d : Nat} {W W' : World} (h : SOf w n A la c m B lb d W) (b : Below W.heap.size W W') : SOf w n A la c m B lb d W' := by
  have hs := h.size
  have key : ∀ q o, q < w.heap.size + 3 → W'.cell? ⟨q, o, none⟩ = W.cell? ⟨q, o, none⟩ := fun q o hq => b.cell (p := ⟨q, o, none⟩) (by show q < _; omega)
  have fkey : ∀ q o, q < w.heap.size + 3 → W'.frozen? ⟨q, o, none⟩ = W.frozen? ⟨q, o, none⟩ := fun q o hq => b.frozen (p := ⟨q, o, none⟩) (by show q < _; omega)
  exact ⟨below_trans h.below b, Nat.le_trans hs b.size, (key _ _ (by omega)).trans h.a0, (key _ _ (by omega)).trans h.a1, (key _ _ (by omega)).trans h.b0, (key _ _ (by omega)).trans h.b1, (key _ _ (by omega)).trans h.r0, (key _ _ (by omega)).trans h.r1, (fkey _ _ (by omega)).trans h.f0, (fkey _ _ (by omega)).trans h.f1⟩

theorem div_wrap' {a b : Nat} (h : a ≤ 1000) : IntKind.i64.wrap ((a : Int) / (b : Int)) = ((a / b : Nat) : Int) := by
  have e : (a : Int) / (b : Int) = ((a / b : Nat) : Int) := rfl
  have h2 : a / b ≤ a := Nat.div_le_self _ _
  rw [e, IntKind.wrap_i64]
  generalize a / b = q at h2
  omega
theorem mod_wrap {a b : Nat} (h : a ≤ 1000) : IntKind.i64.wrap ((a % b : Nat) : Int) = ((a % b : Nat) : Int) := by
  have h2 : a % b ≤ a := Nat.mod_le _ _
  rw [IntKind.wrap_i64]
  generalize a % b = q at h2
  omega
set_option maxRecDepth 100000 in
set_option maxHeartbeats 8000000 in
theorem strongOf_ok (n m : Nat) (A : Option Addr) (l : List (Int × Int)) (c : Nat) (B : Option Addr) (k : List (Int × Int)) (d : Nat) (w : World) (hA : Pairs w A l) (hB : Pairs w B k) (h3 : n * m ≤ 16) (hm16 : m ≤ 16) :
    Calls Tryd.prog 16 #[.agg #[.int .i64 n, .slice A l.length c], .agg #[.int .i64 m, .slice B k.length d]] w fun e w' => ∃ E f, e = .returned (.agg #[.int .i64 (n * m : Nat), .slice E (allTo (strongQ l k m) (n * m) (n * m)).length f]) ∧ Pairs w' E (allTo (strongQ l k m) (n * m) (n * m)) ∧ (allTo (strongQ l k m) (n * m) (n * m)).length ≤ f ∧ (∀ x, E = some x → w.heap.size ≤ x.block ∧ x.block < w'.heap.size) ∧ Below w.heap.size w w' := by
  obtain ⟨hst0, hs3⟩ := SOf.start w n A l.length c m B k.length d
  obtain ⟨N, hN⟩ : ∃ N, n * m = N := ⟨_, rfl⟩
  rw [hN] at h3 ⊢
  have hNi : (n : Int) * (m : Int) = (N : Int) := by rw [← hN]; rfl
  have hw : wrap64 ((n : Int) * (m : Int)) = (N : Int) := by rw [hNi]; unfold wrap64; omega
  obtain ⟨P, hP⟩ : ∃ P, strongQ l k m = P := ⟨_, rfl⟩
  rw [hP]
  have HP := hide hP
  have HNN := hide hN
  have HAB := hide (And.intro hA hB)
  have HST := hide hst0
  have HGS := hide (SGr.start (((w.alloc (gObj n A l.length c)).alloc (gObj m B k.length d)).alloc (gObj 0 none 0 0)) 24 (N : Int))
  have HS3 := hide hs3
  clear hA hB hst0 hs3 hP hN
  go_enter Tryd.func16, Tryd.ntmps16
  go_wp2_with (fail)
  obtain ⟨W3, hW3⟩ : ∃ W, (((w.alloc (gObj n A l.length c)).alloc (gObj m B k.length d)).alloc (gObj 0 none 0 0)) = W := ⟨_, rfl⟩
  have hS3 := HST.out
  have hGS := HGS.out
  have hz3 := HS3.out
  rw [hW3] at hS3 hGS hz3
  have HB := hide hS3
  have HSZ := hide (show w.heap.size + 1 + 1 + 1 = W3.heap.size from hz3.symm)
  have hz3' : w.heap.size + 2 < W3.heap.size := by omega
  have HSTART : Hid (∃ E f, SGr W3 24 (N : Int) ((((w.alloc (gObj n A l.length c)).alloc (gObj m B k.length d)).alloc (gObj 0 none 0 0)).alloc (.cells #[.int .i64 (N : Int), .slice none 0 0] 24)) (allTo P N 0) E f) := hide ⟨_, _, by rw [hW3]; exact hGS⟩
  clear hGS HGS HS3 HST hS3 hW3 hz3
  go_loopw [6] (fun jv wr => ∃ v : Nat, v ≤ N ∧ jv = .int .i64 v ∧ Hid (∃ E f, SGr W3 24 (N : Int) wr (allTo P N v) E f)) (fun jv _ => N - (intOf jv).toNat)
  case atStart => exact ⟨0, Nat.zero_le _, rfl, HSTART⟩
  case round =>
    obtain ⟨v, hv, rfl, HJ⟩ := hrel
    obtain ⟨wv, rfl⟩ : ∃ wv : World, wv = wr := ⟨_, rfl⟩
    clear HSTART
    rw [HSZ.out]
    have v0 : (0 : Int) ≤ (v : Int) := Int.natCast_nonneg _
    obtain ⟨Ev, fv, hGv⟩ := HJ.out
    obtain ⟨c0, c1, c2, c3⟩ := hGv.cells
    by_cases hvl : v < N
    · have v1 : (v : Int) < (N : Int) := by omega
      clear hGv c1 c2
      go_wp2_with (fail)
      go_loopw [7] (fun jv wr => ∃ x : Nat, v + 1 ≤ x ∧ x ≤ N ∧ jv = .int .i64 x ∧ Hid (∃ E f, SGr W3 24 (N : Int) wr (allTo P N v ++ rowTo P v x) E f)) (fun jv _ => N - (intOf jv).toNat)
      case atStart => exact ⟨v + 1, Nat.le_refl _, hvl, by go_num, by rw [rowTo_first, List.append_nil]; exact HJ⟩
      case round =>
        obtain ⟨x, hvx, hx, rfl, HK⟩ := hrel
        obtain ⟨wx, rfl⟩ : ∃ wx : World, wx = wr := ⟨_, rfl⟩
        clear HJ c0 c3
        have hbd := grown_length (P := P) (N := N) (v := v) (w := x) (by omega) hv hx
        obtain ⟨L, hL⟩ : ∃ L, allTo P N v ++ rowTo P v x = L := ⟨_, rfl⟩
        rw [hL] at HK hbd
        obtain ⟨E, f, hG⟩ := HK.out
        obtain ⟨c0, c1, c2, c3⟩ := hG.cells
        have x0 : (0 : Int) ≤ (x : Int) := Int.natCast_nonneg _
        by_cases hxl : x < N
        · have x1 : (x : Int) < (N : Int) := by omega
          have hm0 : 0 < m := Nat.pos_of_ne_zero fun e => by have := HNN.out; rw [e, Nat.mul_zero] at this; omega
          have hs := HB.out.later hG.below
          obtain ⟨a0, a1, b0, b1⟩ := And.intro hs.a0 (And.intro hs.a1 (And.intro hs.b0 hs.b1))
          have zz := hs.size
          have m0 : ((m : Int) == 0) = false := beq_eq_false_iff_ne.2 (by omega)
          have m1 : (m : Int) ≠ 0 := by omega
          have m2 : (0 : Int) < (m : Int) := by omega
          have e1 : wrap64 ((v : Int) / (m : Int)) = ((v / m : Nat) : Int) := div_wrap (by omega)
          have e2 : wrap64 ((x : Int) / (m : Int)) = ((x / m : Nat) : Int) := div_wrap (by omega)
          have e1' : IntKind.i64.wrap ((v : Int) / (m : Int)) = ((v / m : Nat) : Int) := div_wrap' (by omega)
          have e2' : IntKind.i64.wrap ((x : Int) / (m : Int)) = ((x / m : Nat) : Int) := div_wrap' (by omega)
          have mN : ¬ m = 0 := by omega
          have e3 : (v : Int) % (m : Int) = ((v % m : Nat) : Int) := rfl
          have e4 : (x : Int) % (m : Int) = ((x % m : Nat) : Int) := rfl
          have e3t := tmod_nat v m
          have e4t := tmod_nat x m
          have e3' : IntKind.i64.wrap ((v % m : Nat) : Int) = ((v % m : Nat) : Int) := mod_wrap (by omega)
          have e4' : IntKind.i64.wrap ((x % m : Nat) : Int) = ((x % m : Nat) : Int) := mod_wrap (by omega)
          have hPP : P v x = ((decide (v / m = x / m) || adjL l ((v / m : Nat) : Int) ((x / m : Nat) : Int)) && (decide (v % m = x % m) || adjL k ((v % m : Nat) : Int) ((x % m : Nat) : Int))) := by rw [← HP.out]; rfl
          generalize v / m = vi at e1 e1' hPP
          generalize x / m = xi at e2 e2' hPP
          generalize v % m = vk at e3 e3' e3t hPP
          generalize x % m = xk at e4 e4' e4t hPP
          have HG := hide (And.intro hG hs)
          have HLL := hide hL
          have hlen : (L ++ [((v : Int), (x : Int))]).length = L.length + 1 := by rw [List.length_append, List.length_singleton]
          have HLEN := hide hlen
          have HPP := hide hPP
          have HJA := hide (fun V (hb : Below w.heap.size w V) => joined_any n A l c (vi : Int) (xi : Int) V (HAB.out.1.below hb))
          have HJB := hide (fun V (hb : Below w.heap.size w V) => joined_any m B k d (vk : Int) (xk : Int) V (HAB.out.2.below hb))
          have z1 : w.heap.size + 1 < wx.heap.size := by omega
          have z2 : w.heap.size < wx.heap.size := by omega
          clear hG hs hL hlen hPP c1 c2
          have HGwx := HG
          by_cases g0 : vi = xi
          · have q0 : ((vi : Int) == (xi : Int)) = true := by rw [g0]; simp
            go_wp2_with (fail)
            go_quiet (fail)
            have hGw6 := HGwx.out.1.later (below_drewN' (Below.refl _ _) nq)
            have hsw6 := HGwx.out.2.later (below_drewN' (Below.refl _ _) nq)
            generalize World.drewN wx nq = w6 at hGw6 hsw6 ⊢
            have HGw6 := hide (And.intro hGw6 hsw6)
            clear HGwx a0 a1 b0 b1 z1 z2
            obtain ⟨a0, a1, b0, b1⟩ := And.intro hsw6.a0 (And.intro hsw6.a1 (And.intro hsw6.b0 hsw6.b1))
            have z1 : w.heap.size + 1 < w6.heap.size := by have := hsw6.size; omega
            have z2 : w.heap.size < w6.heap.size := by omega
            clear hGw6 hsw6
            by_cases g2 : vk = xk
            · have q2 : ((vk : Int) == (xk : Int)) = true := by rw [g2]; simp
              go_wp2_with (fail)
              go_quiet (fail)
              have hGw7 := HGw6.out.1.later (below_drewN' (Below.refl _ _) nq)
              have hsw7 := HGw6.out.2.later (below_drewN' (Below.refl _ _) nq)
              generalize World.drewN w6 nq = w7 at hGw7 hsw7 ⊢
              have HGw7 := hide (And.intro hGw7 hsw7)
              clear HGw6 a0 a1 b0 b1 z1 z2
              obtain ⟨a0, a1, b0, b1⟩ := And.intro hsw7.a0 (And.intro hsw7.a1 (And.intro hsw7.b0 hsw7.b1))
              have z1 : w.heap.size + 1 < w7.heap.size := by have := hsw7.size; omega
              have z2 : w.heap.size < w7.heap.size := by omega
              clear hGw7 hsw7
              have hp : P v x = true := by rw [HPP.out]; simp [g0, g2]
              have HROW := hide (rowTo_yes (P := P) (v := v) (w := x) (by omega) hp)
              clear hp
              have hzq := lt_of_block HGw7.out.1.box
              obtain ⟨c0, c1, c2, c3⟩ := HGw7.out.1.cells
              go_wp2_with (at_builtin; refine wp_app_pairs _ rfl (.tmp 77) (.tmp 81) rfl (W3.heap.size + 1) (.slice E L.length f) L rfl (own_below HGw7.out.1.own (below_alloc' (Below.refl _ _) _)) (some ⟨w7.heap.size, 0, none⟩) 1 1 [((v : Int), (x : Int))] rfl rfl (pairs_one (by simp) (by simp)) (by omega) (by rw [World.size_alloc]; omega) ?_; intro E' f' w9 hf9 ho9 hg9 _; obtain ⟨hG9, y1, y2⟩ := SGr.push HGw7.out.1 ho9 hg9; rw [HLEN.out] at hG9; have HG9 := hide hG9; clear ho9 hg9 hf9 hG9)
              go_roundw
              case rel => exact ⟨x + 1, by omega, by omega, by go_num, hide ⟨E', f', by rw [HROW.out, ← List.append_assoc, HLL.out]; exact HG9.out⟩⟩
              case measure => simp [intOf]; omega
            · have q2 : ((vk : Int) == (xk : Int)) = false := beq_eq_false_iff_ne.2 (by omega)
              cases g3 : adjL k (vk : Int) (xk : Int)
              · simp only [g3] at HJB
                have hp : P v x = false := by rw [HPP.out]; simp [g0, g2, g3]
                have HROW := hide (rowTo_no (P := P) (v := v) (w := x) hp)
                clear hp
                go_wp2_with (fail)
                refine wp_region_still_tail 19 (by kernel_rfl) (by kernel_rfl) ?_
                change wpStill _ _ (World.drew w6) (fun a' => wpList _ _ _ _ a' (World.drew w6)) _ _
                have hGd : SGr W3 24 (N : Int) (World.drew w6) L E f := HGw6.out.1.later (below_drewN' (Below.refl _ _) 1)
                have hsd : SOf w n A l.length c m B k.length d (World.drew w6) := HGw6.out.2.later (below_drewN' (Below.refl _ _) 1)
                generalize World.drew w6 = wd at hGd hsd ⊢
                have HGd := hide (And.intro hGd hsd)
                clear HGw6 a0 a1 b0 b1 z1 z2 hGd
                obtain ⟨a0, a1, b0, b1⟩ := And.intro hsd.a0 (And.intro hsd.a1 (And.intro hsd.b0 hsd.b1))
                have z1 : w.heap.size + 1 < wd.heap.size := by have := hsd.size; omega
                have z2 : w.heap.size < wd.heap.size := by omega
                clear hsd
                simp only [List.take_succ_cons, List.take_zero, List.drop_succ_cons, List.drop_zero]
                repeat still_step
                refine wpStill_nil ?_
                go_wp2_with (go_at_call 31; refine Calls.mono (HJB.out _ HGd.out.2.below) ?_; rintro e w7 ⟨rfl, hbn⟩; have hGw7 := HGd.out.1.later hbn; have hsw7 := HGd.out.2.later hbn)
                have HGw7 := hide (And.intro hGw7 hsw7)
                go_roundw
                case rel => exact ⟨x + 1, by omega, by omega, by go_num, hide ⟨E, f, by rw [HROW.out, HLL.out]; exact HGw7.out.1⟩⟩
                case measure => simp [intOf]; omega
              · simp only [g3] at HJB
                have hp : P v x = true := by rw [HPP.out]; simp [g0, g3]
                have HROW := hide (rowTo_yes (P := P) (v := v) (w := x) (by omega) hp)
                clear hp
                go_wp2_with (fail)
                refine wp_region_still_tail 19 (by kernel_rfl) (by kernel_rfl) ?_
                change wpStill _ _ (World.drew w6) (fun a' => wpList _ _ _ _ a' (World.drew w6)) _ _
                have hGd : SGr W3 24 (N : Int) (World.drew w6) L E f := HGw6.out.1.later (below_drewN' (Below.refl _ _) 1)
                have hsd : SOf w n A l.length c m B k.length d (World.drew w6) := HGw6.out.2.later (below_drewN' (Below.refl _ _) 1)
                generalize World.drew w6 = wd at hGd hsd ⊢
                have HGd := hide (And.intro hGd hsd)
                clear HGw6 a0 a1 b0 b1 z1 z2 hGd
                obtain ⟨a0, a1, b0, b1⟩ := And.intro hsd.a0 (And.intro hsd.a1 (And.intro hsd.b0 hsd.b1))
                have z1 : w.heap.size + 1 < wd.heap.size := by have := hsd.size; omega
                have z2 : w.heap.size < wd.heap.size := by omega
                clear hsd
                simp only [List.take_succ_cons, List.take_zero, List.drop_succ_cons, List.drop_zero]
                repeat still_step
                refine wpStill_nil ?_
                go_wp2_with (first
                  | (go_at_call 31; refine Calls.mono (HJB.out _ HGd.out.2.below) ?_; rintro e w7 ⟨rfl, hbn⟩; have hGw7 := HGd.out.1.later hbn; have hsw7 := HGd.out.2.later hbn; have hzw7 := lt_of_block hGw7.box; obtain ⟨c0, c1, c2, c3⟩ := hGw7.cells)
                  | (at_builtin; refine wp_app_pairs _ rfl (.tmp 77) (.tmp 81) rfl (W3.heap.size + 1) (.slice E L.length f) L rfl (own_below hGw7.own (below_alloc' (Below.refl _ _) _)) (some ⟨w7.heap.size, 0, none⟩) 1 1 [((v : Int), (x : Int))] rfl rfl (pairs_one (by simp) (by simp)) (by omega) (by rw [World.size_alloc]; omega) ?_; intro E' f' w9 hf9 ho9 hg9 _; obtain ⟨hG9, y1, y2⟩ := SGr.push hGw7 ho9 hg9; rw [HLEN.out] at hG9; have HG9 := hide hG9; clear ho9 hg9 hf9 hG9))
                go_roundw
                case rel => exact ⟨x + 1, by omega, by omega, by go_num, hide ⟨E', f', by rw [HROW.out, ← List.append_assoc, HLL.out]; exact HG9.out⟩⟩
                case measure => simp [intOf]; omega
          · have q0 : ((vi : Int) == (xi : Int)) = false := beq_eq_false_iff_ne.2 (by omega)
            go_wp2_with (fail)
            refine wp_region_still_tail 19 (by kernel_rfl) (by kernel_rfl) ?_
            change wpStill _ _ (World.drew wx) (fun a' => wpList _ _ _ _ a' (World.drew wx)) _ _
            have hGd : SGr W3 24 (N : Int) (World.drew wx) L E f := HGwx.out.1.later (below_drewN' (Below.refl _ _) 1)
            have hsd : SOf w n A l.length c m B k.length d (World.drew wx) := HGwx.out.2.later (below_drewN' (Below.refl _ _) 1)
            generalize World.drew wx = wd at hGd hsd ⊢
            have HGd := hide (And.intro hGd hsd)
            clear HGwx a0 a1 b0 b1 z1 z2 hGd
            obtain ⟨a0, a1, b0, b1⟩ := And.intro hsd.a0 (And.intro hsd.a1 (And.intro hsd.b0 hsd.b1))
            have z1 : w.heap.size + 1 < wd.heap.size := by have := hsd.size; omega
            have z2 : w.heap.size < wd.heap.size := by omega
            clear hsd
            simp only [List.take_succ_cons, List.take_zero, List.drop_succ_cons, List.drop_zero]
            repeat still_step
            refine wpStill_nil ?_
            go_wp2_with (go_at_call 31; refine Calls.mono (HJA.out _ HGd.out.2.below) ?_; rintro e w6 ⟨rfl, hbn⟩; have hGw6 := HGd.out.1.later hbn; have hsw6 := HGd.out.2.later hbn)
            have HGw6 := hide (And.intro hGw6 hsw6)
            clear HGd a0 a1 b0 b1 z1 z2 hGw6 hbn
            have z1 : w.heap.size + 1 < w6.heap.size := by have := hsw6.size; omega
            have z2 : w.heap.size < w6.heap.size := by omega
            obtain ⟨a0, a1, b0, b1⟩ := And.intro hsw6.a0 (And.intro hsw6.a1 (And.intro hsw6.b0 hsw6.b1))
            clear hsw6
            cases g1 : adjL l (vi : Int) (xi : Int)
            · by_cases g2 : vk = xk
              · have q2 : ((vk : Int) == (xk : Int)) = true := by rw [g2]; simp
                go_wp2_with (fail)
                go_quiet (fail)
                have hGw7 := HGw6.out.1.later (below_drewN' (Below.refl _ _) nq)
                have hsw7 := HGw6.out.2.later (below_drewN' (Below.refl _ _) nq)
                generalize World.drewN w6 nq = w7 at hGw7 hsw7 ⊢
                have HGw7 := hide (And.intro hGw7 hsw7)
                clear HGw6 a0 a1 b0 b1 z1 z2
                obtain ⟨a0, a1, b0, b1⟩ := And.intro hsw7.a0 (And.intro hsw7.a1 (And.intro hsw7.b0 hsw7.b1))
                have z1 : w.heap.size + 1 < w7.heap.size := by have := hsw7.size; omega
                have z2 : w.heap.size < w7.heap.size := by omega
                clear hGw7 hsw7
                have hp : P v x = false := by rw [HPP.out]; simp [g0, g1, g2]
                have HROW := hide (rowTo_no (P := P) (v := v) (w := x) hp)
                clear hp
                go_wp2_with (fail)
                go_roundw
                case rel => exact ⟨x + 1, by omega, by omega, by go_num, hide ⟨E, f, by rw [HROW.out, HLL.out]; exact HGw7.out.1⟩⟩
                case measure => simp [intOf]; omega
              · have q2 : ((vk : Int) == (xk : Int)) = false := beq_eq_false_iff_ne.2 (by omega)
                cases g3 : adjL k (vk : Int) (xk : Int)
                · simp only [g3] at HJB
                  have hp : P v x = false := by rw [HPP.out]; simp [g0, g1, g2, g3]
                  have HROW := hide (rowTo_no (P := P) (v := v) (w := x) hp)
                  clear hp
                  go_wp2_with (fail)
                  refine wp_region_still_tail 19 (by kernel_rfl) (by kernel_rfl) ?_
                  change wpStill _ _ (World.drew w6) (fun a' => wpList _ _ _ _ a' (World.drew w6)) _ _
                  have hGd : SGr W3 24 (N : Int) (World.drew w6) L E f := HGw6.out.1.later (below_drewN' (Below.refl _ _) 1)
                  have hsd : SOf w n A l.length c m B k.length d (World.drew w6) := HGw6.out.2.later (below_drewN' (Below.refl _ _) 1)
                  generalize World.drew w6 = wd at hGd hsd ⊢
                  have HGd := hide (And.intro hGd hsd)
                  clear HGw6 a0 a1 b0 b1 z1 z2 hGd
                  obtain ⟨a0, a1, b0, b1⟩ := And.intro hsd.a0 (And.intro hsd.a1 (And.intro hsd.b0 hsd.b1))
                  have z1 : w.heap.size + 1 < wd.heap.size := by have := hsd.size; omega
                  have z2 : w.heap.size < wd.heap.size := by omega
                  clear hsd
                  simp only [List.take_succ_cons, List.take_zero, List.drop_succ_cons, List.drop_zero]
                  repeat still_step
                  refine wpStill_nil ?_
                  go_wp2_with (go_at_call 31; refine Calls.mono (HJB.out _ HGd.out.2.below) ?_; rintro e w7 ⟨rfl, hbn⟩; have hGw7 := HGd.out.1.later hbn; have hsw7 := HGd.out.2.later hbn)
                  have HGw7 := hide (And.intro hGw7 hsw7)
                  go_roundw
                  case rel => exact ⟨x + 1, by omega, by omega, by go_num, hide ⟨E, f, by rw [HROW.out, HLL.out]; exact HGw7.out.1⟩⟩
                  case measure => simp [intOf]; omega
                · simp only [g3] at HJB
                  have hp : P v x = false := by rw [HPP.out]; simp [g0, g1, g3]
                  have HROW := hide (rowTo_no (P := P) (v := v) (w := x) hp)
                  clear hp
                  go_wp2_with (fail)
                  refine wp_region_still_tail 19 (by kernel_rfl) (by kernel_rfl) ?_
                  change wpStill _ _ (World.drew w6) (fun a' => wpList _ _ _ _ a' (World.drew w6)) _ _
                  have hGd : SGr W3 24 (N : Int) (World.drew w6) L E f := HGw6.out.1.later (below_drewN' (Below.refl _ _) 1)
                  have hsd : SOf w n A l.length c m B k.length d (World.drew w6) := HGw6.out.2.later (below_drewN' (Below.refl _ _) 1)
                  generalize World.drew w6 = wd at hGd hsd ⊢
                  have HGd := hide (And.intro hGd hsd)
                  clear HGw6 a0 a1 b0 b1 z1 z2 hGd
                  obtain ⟨a0, a1, b0, b1⟩ := And.intro hsd.a0 (And.intro hsd.a1 (And.intro hsd.b0 hsd.b1))
                  have z1 : w.heap.size + 1 < wd.heap.size := by have := hsd.size; omega
                  have z2 : w.heap.size < wd.heap.size := by omega
                  clear hsd
                  simp only [List.take_succ_cons, List.take_zero, List.drop_succ_cons, List.drop_zero]
                  repeat still_step
                  refine wpStill_nil ?_
                  go_wp2_with (go_at_call 31; refine Calls.mono (HJB.out _ HGd.out.2.below) ?_; rintro e w7 ⟨rfl, hbn⟩; have hGw7 := HGd.out.1.later hbn; have hsw7 := HGd.out.2.later hbn)
                  have HGw7 := hide (And.intro hGw7 hsw7)
                  go_roundw
                  case rel => exact ⟨x + 1, by omega, by omega, by go_num, hide ⟨E, f, by rw [HROW.out, HLL.out]; exact HGw7.out.1⟩⟩
                  case measure => simp [intOf]; omega
            · by_cases g2 : vk = xk
              · have q2 : ((vk : Int) == (xk : Int)) = true := by rw [g2]; simp
                go_wp2_with (fail)
                go_quiet (fail)
                have hGw7 := HGw6.out.1.later (below_drewN' (Below.refl _ _) nq)
                have hsw7 := HGw6.out.2.later (below_drewN' (Below.refl _ _) nq)
                generalize World.drewN w6 nq = w7 at hGw7 hsw7 ⊢
                have HGw7 := hide (And.intro hGw7 hsw7)
                clear HGw6 a0 a1 b0 b1 z1 z2
                obtain ⟨a0, a1, b0, b1⟩ := And.intro hsw7.a0 (And.intro hsw7.a1 (And.intro hsw7.b0 hsw7.b1))
                have z1 : w.heap.size + 1 < w7.heap.size := by have := hsw7.size; omega
                have z2 : w.heap.size < w7.heap.size := by omega
                clear hGw7 hsw7
                have hp : P v x = true := by rw [HPP.out]; simp [g1, g2]
                have HROW := hide (rowTo_yes (P := P) (v := v) (w := x) (by omega) hp)
                clear hp
                have hzq := lt_of_block HGw7.out.1.box
                obtain ⟨c0, c1, c2, c3⟩ := HGw7.out.1.cells
                go_wp2_with (at_builtin; refine wp_app_pairs _ rfl (.tmp 77) (.tmp 81) rfl (W3.heap.size + 1) (.slice E L.length f) L rfl (own_below HGw7.out.1.own (below_alloc' (Below.refl _ _) _)) (some ⟨w7.heap.size, 0, none⟩) 1 1 [((v : Int), (x : Int))] rfl rfl (pairs_one (by simp) (by simp)) (by omega) (by rw [World.size_alloc]; omega) ?_; intro E' f' w9 hf9 ho9 hg9 _; obtain ⟨hG9, y1, y2⟩ := SGr.push HGw7.out.1 ho9 hg9; rw [HLEN.out] at hG9; have HG9 := hide hG9; clear ho9 hg9 hf9 hG9)
                go_roundw
                case rel => exact ⟨x + 1, by omega, by omega, by go_num, hide ⟨E', f', by rw [HROW.out, ← List.append_assoc, HLL.out]; exact HG9.out⟩⟩
                case measure => simp [intOf]; omega
              · have q2 : ((vk : Int) == (xk : Int)) = false := beq_eq_false_iff_ne.2 (by omega)
                cases g3 : adjL k (vk : Int) (xk : Int)
                · simp only [g3] at HJB
                  have hp : P v x = false := by rw [HPP.out]; simp [g1, g2, g3]
                  have HROW := hide (rowTo_no (P := P) (v := v) (w := x) hp)
                  clear hp
                  go_wp2_with (fail)
                  refine wp_region_still_tail 19 (by kernel_rfl) (by kernel_rfl) ?_
                  change wpStill _ _ (World.drew w6) (fun a' => wpList _ _ _ _ a' (World.drew w6)) _ _
                  have hGd : SGr W3 24 (N : Int) (World.drew w6) L E f := HGw6.out.1.later (below_drewN' (Below.refl _ _) 1)
                  have hsd : SOf w n A l.length c m B k.length d (World.drew w6) := HGw6.out.2.later (below_drewN' (Below.refl _ _) 1)
                  generalize World.drew w6 = wd at hGd hsd ⊢
                  have HGd := hide (And.intro hGd hsd)
                  clear HGw6 a0 a1 b0 b1 z1 z2 hGd
                  obtain ⟨a0, a1, b0, b1⟩ := And.intro hsd.a0 (And.intro hsd.a1 (And.intro hsd.b0 hsd.b1))
                  have z1 : w.heap.size + 1 < wd.heap.size := by have := hsd.size; omega
                  have z2 : w.heap.size < wd.heap.size := by omega
                  clear hsd
                  simp only [List.take_succ_cons, List.take_zero, List.drop_succ_cons, List.drop_zero]
                  repeat still_step
                  refine wpStill_nil ?_
                  go_wp2_with (go_at_call 31; refine Calls.mono (HJB.out _ HGd.out.2.below) ?_; rintro e w7 ⟨rfl, hbn⟩; have hGw7 := HGd.out.1.later hbn; have hsw7 := HGd.out.2.later hbn)
                  have HGw7 := hide (And.intro hGw7 hsw7)
                  go_roundw
                  case rel => exact ⟨x + 1, by omega, by omega, by go_num, hide ⟨E, f, by rw [HROW.out, HLL.out]; exact HGw7.out.1⟩⟩
                  case measure => simp [intOf]; omega
                · simp only [g3] at HJB
                  have hp : P v x = true := by rw [HPP.out]; simp [g1, g3]
                  have HROW := hide (rowTo_yes (P := P) (v := v) (w := x) (by omega) hp)
                  clear hp
                  go_wp2_with (fail)
                  refine wp_region_still_tail 19 (by kernel_rfl) (by kernel_rfl) ?_
                  change wpStill _ _ (World.drew w6) (fun a' => wpList _ _ _ _ a' (World.drew w6)) _ _
                  have hGd : SGr W3 24 (N : Int) (World.drew w6) L E f := HGw6.out.1.later (below_drewN' (Below.refl _ _) 1)
                  have hsd : SOf w n A l.length c m B k.length d (World.drew w6) := HGw6.out.2.later (below_drewN' (Below.refl _ _) 1)
                  generalize World.drew w6 = wd at hGd hsd ⊢
                  have HGd := hide (And.intro hGd hsd)
                  clear HGw6 a0 a1 b0 b1 z1 z2 hGd
                  obtain ⟨a0, a1, b0, b1⟩ := And.intro hsd.a0 (And.intro hsd.a1 (And.intro hsd.b0 hsd.b1))
                  have z1 : w.heap.size + 1 < wd.heap.size := by have := hsd.size; omega
                  have z2 : w.heap.size < wd.heap.size := by omega
                  clear hsd
                  simp only [List.take_succ_cons, List.take_zero, List.drop_succ_cons, List.drop_zero]
                  repeat still_step
                  refine wpStill_nil ?_
                  go_wp2_with (first
                    | (go_at_call 31; refine Calls.mono (HJB.out _ HGd.out.2.below) ?_; rintro e w7 ⟨rfl, hbn⟩; have hGw7 := HGd.out.1.later hbn; have hsw7 := HGd.out.2.later hbn; have hzw7 := lt_of_block hGw7.box; obtain ⟨c0, c1, c2, c3⟩ := hGw7.cells)
                    | (at_builtin; refine wp_app_pairs _ rfl (.tmp 77) (.tmp 81) rfl (W3.heap.size + 1) (.slice E L.length f) L rfl (own_below hGw7.own (below_alloc' (Below.refl _ _) _)) (some ⟨w7.heap.size, 0, none⟩) 1 1 [((v : Int), (x : Int))] rfl rfl (pairs_one (by simp) (by simp)) (by omega) (by rw [World.size_alloc]; omega) ?_; intro E' f' w9 hf9 ho9 hg9 _; obtain ⟨hG9, y1, y2⟩ := SGr.push hGw7 ho9 hg9; rw [HLEN.out] at hG9; have HG9 := hide hG9; clear ho9 hg9 hf9 hG9))
                  go_roundw
                  case rel => exact ⟨x + 1, by omega, by omega, by go_num, hide ⟨E', f', by rw [HROW.out, ← List.append_assoc, HLL.out]; exact HG9.out⟩⟩
                  case measure => simp [intOf]; omega
        · have hxN : x = N := by omega
          have x1 : ¬ (x : Int) < (N : Int) := by omega
          rw [← hL, hxN, ← allTo_succ] at HK
          have HV1 := hide (show v + 1 ≤ N from hvl)
          go_wp2_with (fail)
          go_roundw
          case rel => exact ⟨v + 1, HV1.out, by go_num, HK⟩
          case measure =>
            have := HV1.out
            simp [intOf]
            omega
    · obtain rfl : v = N := by omega
      have hrr := HB.out.later hGv.below
      obtain ⟨r0, r1, f0, f1⟩ := And.intro hrr.r0 (And.intro hrr.r1 (And.intro hrr.f0 hrr.f1))
      have zr : w.heap.size + 2 < wv.heap.size := by have := hrr.size; omega
      have hown := hGv.own
      have hcap := own_cap hGv.own
      have hbw := hrr.below
      have hzz : w.heap.size + 2 < W3.heap.size + 1 := by omega
      have hEb : ∀ x, Ev = some x → w.heap.size ≤ x.block ∧ x.block < ((wv.setCell ⟨w.heap.size + 2, 0, none⟩ (.int .i64 (v : Int))).setCell ⟨w.heap.size + 2, 1, none⟩ (.slice Ev (allTo P v v).length fv)).heap.size := fun x e => by
        rw [World.size_setCell, World.size_setCell]
        rcases own_at hGv.own with ⟨e', _⟩ | ⟨g, e', h, h'⟩
        · rw [e'] at e; cases e
        · rw [e'] at e
          injection e with e
          subst e
          exact ⟨by show w.heap.size ≤ g; omega, h'⟩
      go_wp2_with (fail)
      refine bodyPost_ret (v := .agg #[.int .i64 (v : Int), .slice Ev (allTo P v v).length fv]) (by simp [results, Tryd.results16, go_sem, r0, r1]) rfl ⟨Ev, fv, rfl, ?_, hcap, hEb, ?_⟩
      · exact Pairs.own (ownsRow_setCell_below (ownsRow_setCell_below hown (a := ⟨w.heap.size + 2, 0, none⟩) hzz _) (a := ⟨w.heap.size + 2, 1, none⟩) hzz _)
      · exact (hbw.setCell (p := ⟨w.heap.size + 2, 0, none⟩) (by show w.heap.size ≤ w.heap.size + 2; omega) _).setCell (p := ⟨w.heap.size + 2, 1, none⟩) (by show w.heap.size ≤ w.heap.size + 2; omega) _
end Go.Proofs.YtehheklbibocjaaDoor

/- Neighbours by bits and by lists are the same. No condition. -/
namespace Go.Proofs.YtehheklbibocjaaDoor

theorem orAt_bit (M : List Nat) (a x i : Nat) (ha : a < M.length) : (orAt M a x).getD i 0 = if a = i then M.getD a 0 ||| x else M.getD i 0 := by
  unfold orAt
  exact natGetD_set M a i _ ha
theorem put1_bit (M : List Nat) (e : Int × Int) (h0 : 0 ≤ e.1) (h1 : e.1 < e.2) (h2 : e.2 < (M.length : Int)) (i j : Nat) : ((put1 M e).getD i 0).testBit j = ((M.getD i 0).testBit j || adjAt e.1 e.2 (i : Int) (j : Int)) := by
  obtain ⟨p, q⟩ := e
  simp only at h0 h1 h2
  obtain ⟨a, rfl⟩ : ∃ a : Nat, p = (a : Int) := ⟨p.toNat, by omega⟩
  obtain ⟨b, rfl⟩ : ∃ b : Nat, q = (b : Int) := ⟨q.toNat, by omega⟩
  have hab : a ≠ b := by omega
  show ((orAt (orAt M (a : Int).toNat (2 ^ (b : Int).toNat)) (b : Int).toNat (2 ^ (a : Int).toNat)).getD i 0).testBit j = _
  rw [Int.toNat_natCast, Int.toNat_natCast, orAt_bit _ _ _ _ (by rw [orAt_length]; omega), orAt_bit _ _ _ _ (by omega), orAt_bit _ _ _ _ (by omega)]
  unfold adjAt
  have d1 : ((a : Int) == (i : Int)) = decide (a = i) := by rw [Bool.eq_iff_iff, beq_iff_eq, decide_eq_true_eq]; omega
  have d2 : ((b : Int) == (j : Int)) = decide (b = j) := by rw [Bool.eq_iff_iff, beq_iff_eq, decide_eq_true_eq]; omega
  have d3 : ((a : Int) == (j : Int)) = decide (a = j) := by rw [Bool.eq_iff_iff, beq_iff_eq, decide_eq_true_eq]; omega
  have d4 : ((b : Int) == (i : Int)) = decide (b = i) := by rw [Bool.eq_iff_iff, beq_iff_eq, decide_eq_true_eq]; omega
  rw [if_neg hab]
  show _ = ((M.getD i 0).testBit j || (((a : Int) == (i : Int)) && ((b : Int) == (j : Int)) || ((a : Int) == (j : Int)) && ((b : Int) == (i : Int))))
  rw [d1, d2, d3, d4]
  by_cases hbi : b = i
  · subst hbi
    rw [if_pos rfl, Nat.testBit_or, Nat.testBit_two_pow]
    simp [hab]
  · rw [if_neg hbi]
    by_cases hai : a = i
    · subst hai
      rw [if_pos rfl, Nat.testBit_or, Nat.testBit_two_pow]
      simp [hbi]
    · rw [if_neg hai]
      simp [hai, hbi]
theorem putAll_bit (l : List (Int × Int)) (i j : Nat) : ∀ M : List Nat, (∀ e, e ∈ l → 0 ≤ e.1 ∧ e.1 < e.2 ∧ e.2 < (M.length : Int)) → ((l.foldl put1 M).getD i 0).testBit j = ((M.getD i 0).testBit j || adjL l (i : Int) (j : Int)) := by
  induction l with
  | nil =>
    intro M _
    show _ = ((M.getD i 0).testBit j || false)
    rw [Bool.or_false]
    rfl
  | cons e l ih =>
    intro M h
    have he := h e (List.mem_cons_self ..)
    rw [List.foldl_cons, ih (put1 M e) (fun x hx => by rw [put1_length]; exact h x (List.mem_cons_of_mem _ hx)), put1_bit M e he.1 he.2.1 he.2.2, Bool.or_assoc]
    rfl
theorem near_bit {n : Nat} {l : List (Int × Int)} (hg : GoodE n l l.length) (i j : Nat) : ((nearL n l).getD i 0).testBit j = adjL l (i : Int) (j : Int) := by
  unfold nearL
  rw [putAll_bit]
  · rw [natRep, Nat.zero_testBit, Bool.false_or]
  · intro e he
    obtain ⟨k, hk, rfl⟩ := List.getElem_of_mem he
    have := hg.edge hk
    rw [getD_eq l k _ hk] at this
    rw [List.length_replicate]
    exact this
theorem strong_same {n m : Nat} {l k : List (Int × Int)} (h1 : GoodE n l l.length) (h2 : GoodE m k k.length) : strongP (nearL n l) (nearL m k) m = strongQ l k m := by
  funext v w
  unfold strongP strongQ
  rw [near_bit h1, near_bit h2]
end Go.Proofs.YtehheklbibocjaaDoor

/- The search's answer, plain: a fold over all extensions in their order. No condition. -/
namespace Go.Proofs.YtehheklbibocjaaDoor

theorem popN_low (d x : Nat) : popN (d + 1) x = x % 2 + popN d (x / 2) := by
  unfold popN
  rw [List.range_succ_eq_map, List.filter_cons, List.filter_map, ]
  have e : ((fun i => x.testBit i) ∘ Nat.succ) = fun i => (x / 2).testBit i := by
    funext i
    exact Nat.testBit_succ x i
  rw [e, Nat.testBit_zero]
  rcases Nat.mod_two_eq_zero_or_one x with h | h <;> rw [h] <;> simp <;> omega
theorem pop_popN (x : Nat) : pop x = popN 16 x := rfl
theorem pop_low {x : Nat} (h : x < 2 ^ 16) : pop x = x % 2 + pop (x / 2) := by
  rw [pop_popN, pop_popN, popN_low, popN_succ 15 (x / 2)]
  have hx : x / 2 < 2 ^ 15 := by
    have e : (2 : Nat) ^ 16 = 2 * 2 ^ 15 := by rw [Nat.pow_succ, Nat.mul_comm]
    omega
  rw [Nat.testBit_lt_two_pow hx, if_neg (by decide), Nat.add_zero]
theorem filter_mono {α : Type} (p q : α → Bool) (h : ∀ x, p x = true → q x = true) (l : List α) : (l.filter p).length ≤ (l.filter q).length := by
  induction l with
  | nil => exact Nat.le_refl _
  | cons x l ih =>
    rw [List.filter_cons, List.filter_cons]
    by_cases hp : p x = true
    · rw [if_pos hp, if_pos (h x hp), List.length_cons, List.length_cons]
      omega
    · rw [if_neg hp]
      split
      · rw [List.length_cons]; omega
      · exact ih
theorem pop_mono {a b : Nat} (h : ∀ i, a.testBit i = true → b.testBit i = true) : pop a ≤ pop b := filter_mono _ _ h _
theorem div_bit (x v i : Nat) : (x / 2 ^ v).testBit i = x.testBit (v + i) := by rw [Nat.testBit_div_two_pow, Nat.add_comm]
theorem without_bit {left m : Nat} (i : Nat) (h : (without left m).testBit i = true) : left.testBit i = true := by
  unfold without at h
  rw [Nat.testBit_and] at h
  exact (Bool.and_eq_true_iff.1 h).1
theorem pop_without (left m v : Nat) : pop (without left m / 2 ^ v) ≤ pop (left / 2 ^ v) := pop_mono fun i h => by
  rw [div_bit] at h ⊢
  exact without_bit _ h

/-- all lists that begin with now and go on with vertices that may join, in their order -/
def exts (M : List Nat) (n : Nat) : Nat → Nat → List Int → List (List Int)
  | 0, _, _ => []
  | k + 1, left, now =>
    if (left / 2 ^ (n - (k + 1))) % 2 = 0 then exts M n k left now
    else (now ++ [((n - (k + 1) : Nat) : Int)]) :: (exts M n k (without left (M.getD (n - (k + 1)) 0)) (now ++ [((n - (k + 1) : Nat) : Int)]) ++ exts M n k left now)
theorem exts_length {M : List Nat} {n : Nat} : ∀ (k left : Nat) (now l : List Int), k ≤ n → left < 2 ^ 16 → l ∈ exts M n k left now → l.length ≤ now.length + pop (left / 2 ^ (n - k)) := by
  intro k
  induction k with
  | zero => intro left now l _ _ h; simp [exts] at h
  | succ k ih =>
    intro left now l hk hl h
    have hv : n - k = (n - (k + 1)) + 1 := by omega
    have hx : left / 2 ^ (n - k) = left / 2 ^ (n - (k + 1)) / 2 := by rw [hv, Nat.pow_succ, Nat.div_div_eq_div_mul]
    have hp := pop_low (div_lt16 (v := n - (k + 1)) hl)
    have i0 := fun l' h' => ih left now l' (by omega) hl h'
    rw [hx] at i0
    unfold exts at h
    by_cases hb : (left / 2 ^ (n - (k + 1))) % 2 = 0
    · rw [if_pos hb] at h
      have := i0 l h
      omega
    · rw [if_neg hb] at h
      have h1 : (left / 2 ^ (n - (k + 1))) % 2 = 1 := (Nat.mod_two_eq_zero_or_one _).resolve_left hb
      rcases List.mem_cons.1 h with h | h
      · rw [h, List.length_append, List.length_singleton]
        omega
      · rcases List.mem_append.1 h with h | h
        · have i1 := ih (without left (M.getD (n - (k + 1)) 0)) _ l (by omega) (without_lt hl) h
          have i2 := pop_without left (M.getD (n - (k + 1)) 0) (n - k)
          rw [hx] at i2
          rw [hx] at *
          rw [List.length_append, List.length_singleton] at i1
          omega
        · have := i0 l h
          omega
/-- the better one, the list's way round -/
def best (L : List (List Int)) (b : List Int) : List Int := L.foldl (fun b l => upd l b) b
theorem best_same {L : List (List Int)} {b : List Int} (h : ∀ l, l ∈ L → l.length ≤ b.length) : best L b = b := by
  induction L with
  | nil => rfl
  | cons l L ih =>
    show best L (upd l b) = b
    have e : upd l b = b := by unfold upd; rw [if_neg (by have := h l (List.mem_cons_self ..); omega)]
    rw [e]
    exact ih fun l' h' => h l' (List.mem_cons_of_mem _ h')
theorem best_append (L K : List (List Int)) (b : List Int) : best (L ++ K) b = best K (best L b) := List.foldl_append
theorem loop_exts {M : List Nat} {n : Nat} : ∀ (k left : Nat) (now b : List Int), k ≤ n → left < 2 ^ 16 → loopF M n k left now b = best (exts M n k left now) b := by
  intro k
  induction k with
  | zero => intro left now b _ _; rfl
  | succ k ih =>
    intro left now b hk hl
    have hv : n - k = (n - (k + 1)) + 1 := by omega
    have hx : left / 2 ^ (n - k) = left / 2 ^ (n - (k + 1)) / 2 := by rw [hv, Nat.pow_succ, Nat.div_div_eq_div_mul]
    have hp := pop_low (div_lt16 (v := n - (k + 1)) hl)
    by_cases hb : (left / 2 ^ (n - (k + 1))) % 2 = 0
    · rw [loopF_skip (.inl hb), ih left now b (by omega) hl]
      conv => rhs; unfold exts
      rw [if_pos hb]
    · have h1 : (left / 2 ^ (n - (k + 1))) % 2 = 1 := (Nat.mod_two_eq_zero_or_one _).resolve_left hb
      have he : exts M n (k + 1) left now = ((now ++ [((n - (k + 1) : Nat) : Int)]) :: exts M n k (without left (M.getD (n - (k + 1)) 0)) (now ++ [((n - (k + 1) : Nat) : Int)])) ++ exts M n k left now := by
        conv => lhs; unfold exts
        rw [if_neg hb]
        rfl
      rw [he, best_append]
      by_cases hc : now.length + pop (left / 2 ^ (n - (k + 1))) ≤ b.length
      · rw [loopF_skip (.inr hc), ih left now b (by omega) hl]
        congr 1
        refine (best_same fun l h => ?_).symm
        rcases List.mem_cons.1 h with h | h
        · rw [h, List.length_append, List.length_singleton]
          omega
        · have i1 := exts_length k (without left (M.getD (n - (k + 1)) 0)) _ l (by omega) (without_lt hl) h
          have i2 := pop_without left (M.getD (n - (k + 1)) 0) (n - k)
          rw [hx] at i2
          rw [hx] at *
          rw [List.length_append, List.length_singleton] at i1
          omega
      · rw [loopF_take (fun h => h.elim hb hc), ih left now _ (by omega) hl, ih _ _ _ (by omega) (without_lt hl)]
        rfl

theorem without_iff {left m i : Nat} (hm : m < 2 ^ 16) (hi : i < 64) : (without left m).testBit i = (left.testBit i && !m.testBit i) := by
  unfold without
  have e : (18446744073709551615 - m : Nat) = 2 ^ 64 - (m + 1) := by omega
  rw [Nat.testBit_and, e, Nat.testBit_two_pow_sub_succ (Nat.lt_trans hm (by decide)), decide_eq_true hi, Bool.true_and]
/-- a list of vertices that may go on: in order, none neighbour to another one -/
structure OkT (M : List Nat) (left lo n : Nat) (t : List Nat) : Prop where
  mem : ∀ u, u ∈ t → left.testBit u = true ∧ lo ≤ u ∧ u < n
  pair : t.Pairwise fun u w => u < w ∧ (M.getD u 0).testBit w = false
def toI (t : List Nat) : List Int := t.map fun (u : Nat) => (u : Int)
theorem bit_div (x v : Nat) : x.testBit v = decide (x / 2 ^ v % 2 = 1) := Nat.testBit_eq_decide_div_mod_eq
theorem mem_exts {M : List Nat} {n : Nat} (hn : n ≤ 16) (hM : Low M) : ∀ (k left : Nat) (now l : List Int), k ≤ n → (l ∈ exts M n k left now ↔ ∃ t, t ≠ [] ∧ l = now ++ toI t ∧ OkT M left (n - k) n t) := by
  intro k
  induction k with
  | zero =>
    intro left now l _
    constructor
    · intro h; simp [exts] at h
    · rintro ⟨t, h0, _, h⟩
      cases t with
      | nil => exact absurd rfl h0
      | cons u t =>
        have := h.mem u (List.mem_cons_self ..)
        omega
  | succ k ih =>
    intro left now l hk
    obtain ⟨v, hv⟩ : ∃ v, n - (k + 1) = v := ⟨_, rfl⟩
    have hv1 : n - k = v + 1 := by omega
    have hvn : v < n := by omega
    have skip : ∀ t, OkT M left (v + 1) n t → OkT M left v n t := fun t h => ⟨fun u hu => ⟨(h.mem u hu).1, by have := (h.mem u hu).2.1; omega, (h.mem u hu).2.2⟩, h.pair⟩
    have low : ∀ t, OkT M left v n t → (∀ u, u ∈ t → u ≠ v) → OkT M left (v + 1) n t := fun t h hne => ⟨fun u hu => ⟨(h.mem u hu).1, by have := (h.mem u hu).2.1; have := hne u hu; omega, (h.mem u hu).2.2⟩, h.pair⟩
    unfold exts
    rw [hv]
    by_cases hb : (left / 2 ^ v) % 2 = 0
    · rw [if_pos hb, ih left now l (by omega), hv1]
      have hf : left.testBit v = false := by rw [bit_div, decide_eq_false (by omega)]
      constructor
      · rintro ⟨t, h0, h1, h2⟩
        exact ⟨t, h0, h1, skip t h2⟩
      · rintro ⟨t, h0, h1, h2⟩
        refine ⟨t, h0, h1, low t h2 fun u hu e => ?_⟩
        have := (h2.mem u hu).1
        rw [e, hf] at this
        cases this
    · rw [if_neg hb, List.mem_cons, List.mem_append, ih _ _ l (by omega), ih left now l (by omega), hv1]
      have ht : left.testBit v = true := by rw [bit_div, decide_eq_true (by omega)]
      constructor
      · rintro (h | ⟨t, h0, h1, h2⟩ | ⟨t, h0, h1, h2⟩)
        · exact ⟨[v], by simp, h, ⟨fun u hu => by rw [List.mem_singleton] at hu; subst hu; exact ⟨ht, Nat.le_refl _, hvn⟩, List.pairwise_singleton _ _⟩⟩
        · refine ⟨v :: t, by simp, by rw [h1, List.append_assoc]; rfl, ⟨fun u hu => ?_, List.pairwise_cons.2 ⟨fun u hu => ?_, h2.pair⟩⟩⟩
          · rcases List.mem_cons.1 hu with e | hu
            · rw [e]; exact ⟨ht, Nat.le_refl _, hvn⟩
            · have := h2.mem u hu
              exact ⟨without_bit u this.1, by omega, this.2.2⟩
          · have := h2.mem u hu
            rw [without_iff (hM v) (by omega)] at this
            have h3 := (Bool.and_eq_true_iff.1 this.1).2
            exact ⟨by omega, by cases q : (M.getD v 0).testBit u <;> rw [q] at h3 <;> first | rfl | cases h3⟩
        · exact ⟨t, h0, h1, skip t h2⟩
      · rintro ⟨t, h0, h1, h2⟩
        cases t with
        | nil => exact absurd rfl h0
        | cons u t =>
          obtain ⟨hp1, hp2⟩ := List.pairwise_cons.1 h2.pair
          by_cases e : u = v
          · subst e
            by_cases h0' : t = []
            · exact .inl (by rw [h1, h0']; rfl)
            · refine .inr (.inl ⟨t, h0', by rw [h1, List.append_assoc]; rfl, ⟨fun w hw => ?_, hp2⟩⟩)
              have h4 := hp1 w hw
              have h5 := h2.mem w (List.mem_cons_of_mem _ hw)
              exact ⟨by rw [without_iff (hM u) (by omega), h5.1, h4.2]; rfl, by omega, h5.2.2⟩
          · refine .inr (.inr ⟨u :: t, h0, h1, low _ h2 fun w hw e' => ?_⟩)
            have hu := h2.mem u (List.mem_cons_self ..)
            rcases List.mem_cons.1 hw with q | q
            · exact e (by rw [← q]; exact e')
            · have := (hp1 w q).1
              omega

/-- does one list stand ahead of another one? -/
def aheadL : List Int → List Int → Bool
  | x :: a, y :: b => if x = y then aheadL a b else decide (x < y)
  | _, _ => false
theorem aheadL_prefix (now a b : List Int) : aheadL (now ++ a) (now ++ b) = aheadL a b := by
  induction now with
  | nil => rfl
  | cons x now ih =>
    show (if x = x then aheadL (now ++ a) (now ++ b) else decide (x < x)) = _
    rw [if_pos rfl, ih]
theorem aheadL_asymm : ∀ a b : List Int, aheadL a b = true → aheadL b a = false
  | [], _, h => by cases h
  | _ :: _, [], h => by cases h
  | x :: a, y :: b, h => by
    have e1 : aheadL (x :: a) (y :: b) = if x = y then aheadL a b else decide (x < y) := rfl
    have e2 : aheadL (y :: b) (x :: a) = if y = x then aheadL b a else decide (y < x) := rfl
    rw [e1] at h
    rw [e2]
    by_cases q : x = y
    · rw [if_pos q] at h
      rw [if_pos q.symm]
      exact aheadL_asymm a b h
    · rw [if_neg q] at h
      rw [if_neg (Ne.symm q)]
      have := of_decide_eq_true h
      exact decide_eq_false (by omega)
theorem exts_order {M : List Nat} {n : Nat} (hn : n ≤ 16) (hM : Low M) : ∀ (k left : Nat) (now : List Int), k ≤ n → (exts M n k left now).Pairwise fun a b => a.length = b.length → aheadL a b = true := by
  intro k
  induction k with
  | zero => intro left now _; exact List.Pairwise.nil
  | succ k ih =>
    intro left now hk
    have m1 := fun left now l => mem_exts (n := n) hn hM k left now l (by omega)
    unfold exts
    obtain ⟨v, hv⟩ : ∃ v, n - (k + 1) = v := ⟨_, rfl⟩
    have hv1 : n - k = v + 1 := by omega
    rw [hv]
    by_cases hb : (left / 2 ^ v) % 2 = 0
    · rw [if_pos hb]
      exact ih left now (by omega)
    · rw [if_neg hb]
      have cross : ∀ (t1 : List Nat) (l2 : List Int), l2 ∈ exts M n k left now → aheadL (now ++ ((v : Int) :: toI t1)) l2 = true := fun t1 l2 h2 => by
        obtain ⟨t, h0, rfl, h⟩ := (m1 left now l2).1 h2
        cases t with
        | nil => exact absurd rfl h0
        | cons u t =>
          have hu := (h.mem u (List.mem_cons_self ..)).2.1
          rw [hv1] at hu
          rw [aheadL_prefix]
          show (if (v : Int) = (u : Int) then _ else decide ((v : Int) < (u : Int))) = true
          rw [if_neg (by omega)]
          exact decide_eq_true (by omega)
      refine List.pairwise_cons.2 ⟨fun b hb' => ?_, List.pairwise_append.2 ⟨ih _ _ (by omega), ih _ _ (by omega), fun a ha b hb' _ => ?_⟩⟩
      · rcases List.mem_append.1 hb' with h | h
        · intro e
          obtain ⟨t, h0, rfl, _⟩ := (m1 _ _ b).1 h
          cases t with
          | nil => exact absurd rfl h0
          | cons u t =>
            simp [toI] at e
        · intro _
          exact cross [] b h
      · obtain ⟨t, h0, rfl, _⟩ := (m1 _ _ a).1 ha
        have := cross t b hb'
        rw [List.append_assoc]
        exact this
/-- what the fold gives -/
theorem best_spec : ∀ (L : List (List Int)), (L.Pairwise fun a b => a.length = b.length → aheadL a b = true) → ∀ b : List Int,
    (best L b = b ∧ ∀ l, l ∈ L → l.length ≤ b.length) ∨ (best L b ∈ L ∧ b.length < (best L b).length ∧ ∀ l, l ∈ L → l.length < (best L b).length ∨ l = best L b ∨ (l.length = (best L b).length ∧ aheadL (best L b) l = true))
  | [], _, b => .inl ⟨rfl, fun l h => by cases h⟩
  | x :: L, hp, b => by
    obtain ⟨h1, h2⟩ := List.pairwise_cons.1 hp
    have e : best (x :: L) b = best L (upd x b) := rfl
    rw [e]
    by_cases q : b.length < x.length
    · have u : upd x b = x := by unfold upd; rw [if_pos q]
      rw [u]
      rcases best_spec L h2 x with ⟨i1, i2⟩ | ⟨i1, i2, i3⟩
      · rw [i1]
        refine .inr ⟨List.mem_cons_self .., q, fun l hl => ?_⟩
        rcases List.mem_cons.1 hl with r | r
        · exact .inr (.inl r)
        · rcases Nat.lt_or_eq_of_le (i2 l r) with s | s
          · exact .inl s
          · exact .inr (.inr ⟨s, h1 l r s.symm⟩)
      · refine .inr ⟨List.mem_cons_of_mem _ i1, by omega, fun l hl => ?_⟩
        rcases List.mem_cons.1 hl with r | r
        · exact .inl (by rw [r]; exact i2)
        · exact i3 l r
    · have u : upd x b = b := by unfold upd; rw [if_neg q]
      rw [u]
      rcases best_spec L h2 b with ⟨i1, i2⟩ | ⟨i1, i2, i3⟩
      · refine .inl ⟨i1, fun l hl => ?_⟩
        rcases List.mem_cons.1 hl with r | r
        · rw [r]; omega
        · exact i2 l r
      · refine .inr ⟨List.mem_cons_of_mem _ i1, i2, fun l hl => ?_⟩
        rcases List.mem_cons.1 hl with r | r
        · exact .inl (by rw [r]; omega)
        · exact i3 l r
/-- a set of vertices that stand alone, in order -/
structure Ind (M : List Nat) (n : Nat) (t : List Nat) : Prop where
  mem : ∀ u, u ∈ t → u < n
  pair : t.Pairwise fun u w => u < w ∧ (M.getD u 0).testBit w = false
/-- the longest one, of these the first -/
structure First (M : List Nat) (n : Nat) (r : List Int) : Prop where
  is_ : ∃ t, r = toI t ∧ Ind M n t
  first : ∀ t, Ind M n t → (toI t).length < r.length ∨ toI t = r ∨ ((toI t).length = r.length ∧ aheadL r (toI t) = true)
theorem First.same {M : List Nat} {n : Nat} {r s : List Int} (h : First M n r) (k : First M n s) : r = s := by
  obtain ⟨t, ht, it⟩ := h.is_
  obtain ⟨u, hu, iu⟩ := k.is_
  have a := h.first u iu
  have b := k.first t it
  rw [← hu] at a
  rw [← ht] at b
  rcases a with a | a | ⟨a, a'⟩
  · rcases b with b | b | ⟨b, _⟩
    · omega
    · exact b
    · omega
  · exact a.symm
  · rcases b with b | b | ⟨_, b'⟩
    · omega
    · exact b
    · have := aheadL_asymm _ _ a'
      rw [b'] at this
      cases this
theorem full_bit {n u : Nat} : (2 ^ n - 1).testBit u = decide (u < n) := Nat.testBit_two_pow_sub_one n u
theorem alone_first {n : Nat} {l : List (Int × Int)} (hn : n ≤ 16) (hM : Low (nearL n l)) : First (nearL n l) n (aloneL n l) := by
  have hf16 : 2 ^ n - 1 < 2 ^ 16 := by
    have h1 : 2 ^ n ≤ 2 ^ 16 := Nat.pow_le_pow_right (by decide) hn
    have h0 : 1 ≤ 2 ^ n := Nat.two_pow_pos n
    omega
  have e : aloneL n l = best (exts (nearL n l) n n (2 ^ n - 1) []) [] := loop_exts n _ [] [] (Nat.le_refl _) hf16
  have hm : ∀ q, q ∈ exts (nearL n l) n n (2 ^ n - 1) [] ↔ ∃ t, t ≠ [] ∧ q = toI t ∧ Ind (nearL n l) n t := fun q => by
    rw [mem_exts hn hM n (2 ^ n - 1) [] q (Nat.le_refl _), Nat.sub_self]
    constructor
    · rintro ⟨t, h0, h1, h2⟩
      exact ⟨t, h0, h1, ⟨fun u hu => (h2.mem u hu).2.2, h2.pair⟩⟩
    · rintro ⟨t, h0, h1, h2⟩
      exact ⟨t, h0, h1, ⟨fun u hu => ⟨by rw [full_bit, decide_eq_true (h2.mem u hu)], Nat.zero_le _, h2.mem u hu⟩, h2.pair⟩⟩
  rw [e]
  rcases best_spec _ (exts_order hn hM n (2 ^ n - 1) [] (Nat.le_refl _)) [] with ⟨i1, i2⟩ | ⟨i1, i2, i3⟩
  · rw [i1]
    refine ⟨⟨[], rfl, ⟨fun u h => (by cases h), List.Pairwise.nil⟩⟩, fun t ht => ?_⟩
    by_cases h0 : t = []
    · exact .inr (.inl (by rw [h0]; rfl))
    · have := i2 (toI t) ((hm _).2 ⟨t, h0, rfl, ht⟩)
      cases t with
      | nil => exact absurd rfl h0
      | cons u t => simp [toI] at this
  · obtain ⟨t, h0, h1, h2⟩ := (hm _).1 i1
    refine ⟨⟨t, h1, h2⟩, fun u hu => ?_⟩
    by_cases h0 : u = []
    · refine .inl ?_
      rw [h0]
      exact i2
    · exact i3 _ ((hm _).2 ⟨u, h0, rfl, hu⟩)
end Go.Proofs.YtehheklbibocjaaDoor

/- Products of graphs, plain: a right graph; how many of its vertices stand alone. No condition. -/
namespace Go.Proofs.YtehheklbibocjaaDoor

theorem mem_rowTo {P : Nat → Nat → Bool} {v w : Nat} {e : Int × Int} : e ∈ rowTo P v w ↔ ∃ j : Nat, e = ((v : Int), (j : Int)) ∧ v < j ∧ j < w ∧ P v j = true := by
  unfold rowTo
  rw [List.mem_map]
  constructor
  · rintro ⟨j, hj, rfl⟩
    obtain ⟨h1, h2⟩ := List.mem_filter.1 hj
    obtain ⟨h3, h4⟩ := Bool.and_eq_true_iff.1 h2
    exact ⟨j, rfl, of_decide_eq_true h3, List.mem_range.1 h1, h4⟩
  · rintro ⟨j, rfl, h1, h2, h3⟩
    exact ⟨j, List.mem_filter.2 ⟨List.mem_range.2 h2, by rw [decide_eq_true h1, h3]; rfl⟩, rfl⟩
theorem mem_allTo {P : Nat → Nat → Bool} {N v : Nat} {e : Int × Int} : e ∈ allTo P N v ↔ ∃ i j : Nat, e = ((i : Int), (j : Int)) ∧ i < v ∧ i < j ∧ j < N ∧ P i j = true := by
  unfold allTo
  rw [List.mem_flatMap]
  constructor
  · rintro ⟨i, hi, h⟩
    obtain ⟨j, h1, h2, h3, h4⟩ := mem_rowTo.1 h
    exact ⟨i, j, h1, List.mem_range.1 hi, h2, h3, h4⟩
  · rintro ⟨i, j, h1, h2, h3, h4, h5⟩
    exact ⟨i, List.mem_range.2 h2, mem_rowTo.2 ⟨j, h1, h3, h4, h5⟩⟩
/-- one edge stands ahead of another one -/
def lexE (a b : Int × Int) : Prop := a.1 < b.1 ∨ (a.1 = b.1 ∧ a.2 < b.2)
theorem rowTo_order (P : Nat → Nat → Bool) (v w : Nat) : (rowTo P v w).Pairwise lexE := by
  unfold rowTo
  refine List.Pairwise.map _ (fun a b h => ?_) (List.Pairwise.filter _ List.pairwise_lt_range)
  exact .inr ⟨rfl, by show (a : Int) < (b : Int); omega⟩
theorem allTo_order (P : Nat → Nat → Bool) (N v : Nat) : (allTo P N v).Pairwise lexE := by
  induction v with
  | zero => exact List.Pairwise.nil
  | succ v ih =>
    rw [allTo_succ]
    refine List.pairwise_append.2 ⟨ih, rowTo_order P v N, fun a ha b hb => ?_⟩
    obtain ⟨i, j, rfl, h1, _⟩ := mem_allTo.1 ha
    obtain ⟨q, rfl, _⟩ := mem_rowTo.1 hb
    exact .inl (by show (i : Int) < (v : Int); omega)
theorem allTo_right {P : Nat → Nat → Bool} {N : Nat} (hN : N ≤ 16) : gErr N (allTo P N N) = 0 := by
  refine gErr_good (Int.natCast_nonneg _) (by omega) ⟨fun j hj => ?_⟩
  have he := getD_eq (allTo P N N) j (0, 0) hj
  have hm : (allTo P N N).getD j (0, 0) ∈ allTo P N N := by rw [he]; exact List.getElem_mem hj
  obtain ⟨a, b, hab, h1, h2, h3, _⟩ := mem_allTo.1 hm
  have hlex : 0 < j → lexE ((allTo P N N).getD (j - 1) (0, 0)) ((allTo P N N).getD j (0, 0)) := fun h0 => by
    rw [he, getD_eq _ (j - 1) _ (by omega)]
    exact List.pairwise_iff_getElem.1 (allTo_order P N N) (j - 1) j (by omega) hj (by omega)
  unfold lexE at hlex
  rw [hab] at hlex
  simp only at hlex
  unfold edgeBad
  rw [hab]
  refine decide_eq_false ?_
  simp only
  rintro (c | c | c | ⟨c0, c⟩)
  · omega
  · omega
  · omega
  · have := hlex c0
    omega
theorem allTo_adj {P : Nat → Nat → Bool} {N i j : Nat} (hij : i < j) (hj : j < N) : adjL (allTo P N N) (i : Int) (j : Int) = P i j := by
  rw [Bool.eq_iff_iff]
  unfold adjL
  rw [List.any_eq_true]
  constructor
  · rintro ⟨e, he, h⟩
    obtain ⟨a, b, rfl, h1, h2, h3, h4⟩ := mem_allTo.1 he
    unfold adjAt at h
    rcases Bool.or_eq_true_iff.1 h with h | h
    · obtain ⟨q1, q2⟩ := Bool.and_eq_true_iff.1 h
      have e1 : (a : Int) = (i : Int) := by simpa using q1
      have e2 : (b : Int) = (j : Int) := by simpa using q2
      obtain rfl : a = i := by omega
      obtain rfl : b = j := by omega
      exact h4
    · obtain ⟨q1, q2⟩ := Bool.and_eq_true_iff.1 h
      have e1 : (a : Int) = (j : Int) := by simpa using q1
      have e2 : (b : Int) = (i : Int) := by simpa using q2
      omega
  · intro h
    exact ⟨_, mem_allTo.2 ⟨i, j, rfl, by omega, hij, hj, h⟩, by unfold adjAt; simp⟩
/-- a set alone, by lists of edges -/
theorem ind_adj {n : Nat} {l : List (Int × Int)} (hg : GoodE n l l.length) {t : List Nat} : Ind (nearL n l) n t ↔ (∀ u, u ∈ t → u < n) ∧ t.Pairwise fun (u w : Nat) => u < w ∧ adjL l (u : Int) (w : Int) = false := by
  constructor
  · intro h
    exact ⟨h.mem, h.pair.imp fun h => by rw [near_bit hg] at h; exact h⟩
  · rintro ⟨h1, h2⟩
    exact ⟨h1, h2.imp fun h => by rw [near_bit hg]; exact h⟩
theorem toI_length (t : List Nat) : (toI t).length = t.length := by unfold toI; rw [List.length_map]
theorem First.le {M : List Nat} {n : Nat} {r : List Int} (h : First M n r) {t : List Nat} (ht : Ind M n t) : t.length ≤ r.length := by
  have := h.first t ht
  rw [toI_length] at this
  rcases this with h | h | h
  · omega
  · have := toI_length t
    rw [h] at this
    omega
  · omega

/-- a set alone in the product -/
theorem ind_strong {N : Nat} {l k : List (Int × Int)} {m : Nat} (hN : N ≤ 16) {t : List Nat} : Ind (nearL N (allTo (strongQ l k m) N N)) N t ↔ (∀ u, u ∈ t → u < N) ∧ t.Pairwise fun (u w : Nat) => u < w ∧ strongQ l k m u w = false := by
  rw [ind_adj (gErr_zero (allTo_right hN)).2.2]
  constructor
  · rintro ⟨h1, h2⟩
    refine ⟨h1, List.Pairwise.imp_of_mem (fun {a b} ha hb h => ?_) h2⟩
    rw [allTo_adj h.1 (h1 b hb)] at h
    exact h
  · rintro ⟨h1, h2⟩
    refine ⟨h1, List.Pairwise.imp_of_mem (fun {a b} ha hb h => ?_) h2⟩
    rw [allTo_adj h.1 (h1 b hb)]
    exact h
/-- both, multiplied -/
def both (m : Nat) (t s : List Nat) : List Nat := t.flatMap fun g => s.map fun h => g * m + h
theorem both_length (m : Nat) (t s : List Nat) : (both m t s).length = t.length * s.length := by
  unfold both
  induction t with
  | nil => simp
  | cons g t ih =>
    rw [List.flatMap_cons, List.length_append, ih, List.length_map, List.length_cons, Nat.succ_mul]
    omega
theorem split_at {m g h : Nat} (hh : h < m) : (g * m + h) / m = g ∧ (g * m + h) % m = h := by
  have hm : 0 < m := by omega
  constructor
  · rw [Nat.mul_comm, Nat.mul_add_div hm, Nat.div_eq_of_lt hh, Nat.add_zero]
  · rw [Nat.mul_comm, Nat.mul_add_mod, Nat.mod_eq_of_lt hh]
theorem both_ind {n m : Nat} {l k : List (Int × Int)} (hN : n * m ≤ 16) (hg : GoodE n l l.length) (hk : GoodE m k k.length) {t s : List Nat} (ht : Ind (nearL n l) n t) (hs : Ind (nearL m k) m s) : Ind (nearL (n * m) (allTo (strongQ l k m) (n * m) (n * m))) (n * m) (both m t s) := by
  obtain ⟨t1, t2⟩ := (ind_adj hg).1 ht
  obtain ⟨s1, s2⟩ := (ind_adj hk).1 hs
  rw [ind_strong hN]
  constructor
  · intro u hu
    unfold both at hu
    obtain ⟨g, hg', hu⟩ := List.mem_flatMap.1 hu
    obtain ⟨h, hh, rfl⟩ := List.mem_map.1 hu
    have h1 := t1 g hg'
    have h2 := s1 h hh
    have h3 : (g + 1) * m ≤ n * m := Nat.mul_le_mul_right _ h1
    rw [Nat.succ_mul] at h3
    omega
  · unfold both
    refine List.pairwise_flatMap.2 ⟨fun g hg' => ?_, ?_⟩
    · refine List.pairwise_map.2 (List.Pairwise.imp_of_mem (fun {a b} ha hb h => ?_) s2)
      obtain ⟨p1, p2⟩ := split_at (g := g) (s1 a ha)
      obtain ⟨q1, q2⟩ := split_at (g := g) (s1 b hb)
      refine ⟨by omega, ?_⟩
      unfold strongQ
      rw [p1, p2, q1, q2, h.2, decide_eq_false (show a ≠ b by omega)]
      simp
    · refine List.Pairwise.imp_of_mem (fun {a b} ha hb h => ?_) t2
      intro x hx y hy
      obtain ⟨i, hi, rfl⟩ := List.mem_map.1 hx
      obtain ⟨j, hj, rfl⟩ := List.mem_map.1 hy
      obtain ⟨p1, p2⟩ := split_at (g := a) (s1 i hi)
      obtain ⟨q1, q2⟩ := split_at (g := b) (s1 j hj)
      have h3 : (a + 1) * m ≤ b * m := Nat.mul_le_mul_right _ h.1
      rw [Nat.succ_mul] at h3
      have := s1 i hi
      refine ⟨by omega, ?_⟩
      unfold strongQ
      rw [p1, q1, h.2, decide_eq_false (show a ≠ b by omega)]
      simp
/-- a list, counted by parts -/
theorem count_parts (f : Nat → Nat) (c : Nat) : ∀ (n : Nat) (t : List Nat), (∀ u, u ∈ t → f u < n) → (∀ g, g < n → (t.filter fun u => f u == g).length ≤ c) → t.length ≤ n * c := by
  intro n
  induction n with
  | zero =>
    intro t h _
    cases t with
    | nil => simp
    | cons u t => have := h u (List.mem_cons_self ..); omega
  | succ n ih =>
    intro t h hc
    have h1 := ih (t.filter fun u => !(f u == n)) (fun u hu => by
      obtain ⟨q1, q2⟩ := List.mem_filter.1 hu
      have := h u q1
      have q3 : f u ≠ n := by simpa using q2
      omega) (fun g hg => by
      rw [List.filter_filter]
      refine Nat.le_trans (filter_mono _ _ (fun u hu => ?_) _) (hc g (by omega))
      exact (Bool.and_eq_true_iff.1 hu).1)
    have h2 := hc n (by omega)
    have h3 : t.length = (t.filter fun u => f u == n).length + (t.filter fun u => !(f u == n)).length := by
      clear h hc h1 h2 ih
      induction t with
      | nil => rfl
      | cons u t ih =>
        rw [List.filter_cons, List.filter_cons]
        cases f u == n <;> simp <;> omega
    rw [Nat.succ_mul]
    omega
theorem part_first {n m : Nat} {l k : List (Int × Int)} (hN : n * m ≤ 16) (hk : GoodE m k k.length) {t : List Nat} (ht : Ind (nearL (n * m) (allTo (strongQ l k m) (n * m) (n * m))) (n * m) t) (g : Nat) : Ind (nearL m k) m ((t.filter fun u => u / m == g).map fun u => u % m) := by
  obtain ⟨t1, t2⟩ := (ind_strong hN).1 ht
  rw [ind_adj hk]
  constructor
  · intro u hu
    obtain ⟨x, hx, rfl⟩ := List.mem_map.1 hu
    have := t1 x (List.mem_filter.1 hx).1
    exact Nat.mod_lt _ (Nat.pos_of_ne_zero fun e => by rw [e, Nat.mul_zero] at this; omega)
  · refine List.pairwise_map.2 (List.Pairwise.imp_of_mem (fun {a b} ha hb h => ?_) (t2.filter _))
    have ea : a / m = g := by simpa using (List.mem_filter.1 ha).2
    have eb : b / m = g := by simpa using (List.mem_filter.1 hb).2
    have h1 := Nat.div_add_mod a m
    have h2 := Nat.div_add_mod b m
    rw [ea] at h1
    rw [eb] at h2
    have hlt : a % m < b % m := by omega
    refine ⟨hlt, ?_⟩
    have h3 := h.2
    unfold strongQ at h3
    rw [ea, eb, decide_eq_true rfl, Bool.true_or, Bool.true_and] at h3
    exact (Bool.or_eq_false_iff.1 h3).2
theorem part_second {n m : Nat} {l k : List (Int × Int)} (hN : n * m ≤ 16) (hg : GoodE n l l.length) {t : List Nat} (ht : Ind (nearL (n * m) (allTo (strongQ l k m) (n * m) (n * m))) (n * m) t) (h : Nat) : Ind (nearL n l) n ((t.filter fun u => u % m == h).map fun u => u / m) := by
  obtain ⟨t1, t2⟩ := (ind_strong hN).1 ht
  rw [ind_adj hg]
  constructor
  · intro u hu
    obtain ⟨x, hx, rfl⟩ := List.mem_map.1 hu
    have := t1 x (List.mem_filter.1 hx).1
    exact Nat.div_lt_of_lt_mul (by rw [Nat.mul_comm]; exact this)
  · refine List.pairwise_map.2 (List.Pairwise.imp_of_mem (fun {a b} ha hb q => ?_) (t2.filter _))
    have ea : a % m = h := by simpa using (List.mem_filter.1 ha).2
    have eb : b % m = h := by simpa using (List.mem_filter.1 hb).2
    have h1 := Nat.div_add_mod a m
    have h2 := Nat.div_add_mod b m
    have hlt : a / m < b / m := by
      rcases Nat.lt_or_ge (a / m) (b / m) with r | r
      · exact r
      · have := Nat.mul_le_mul_left m r
        omega
    refine ⟨hlt, ?_⟩
    have h3 := q.2
    unfold strongQ at h3
    rw [ea, eb, decide_eq_true (rfl : h = h), Bool.true_or, Bool.and_true] at h3
    exact (Bool.or_eq_false_iff.1 h3).2
/-- what Shannon's law says of the three answers -/
theorem shannon {n m : Nat} {l k : List (Int × Int)} (hN : n * m ≤ 16) (hg : GoodE n l l.length) (hk : GoodE m k k.length) {x y z : List Int} (hx : First (nearL n l) n x) (hy : First (nearL m k) m y) (hz : First (nearL (n * m) (allTo (strongQ l k m) (n * m) (n * m))) (n * m) z) :
    x.length * y.length ≤ z.length ∧ z.length ≤ n * y.length ∧ z.length ≤ x.length * m := by
  obtain ⟨tx, ex, ix⟩ := hx.is_
  obtain ⟨ty, ey, iy⟩ := hy.is_
  obtain ⟨tz, ez, iz⟩ := hz.is_
  have lz : z.length = tz.length := by rw [ez, toI_length]
  refine ⟨?_, ?_, ?_⟩
  · have h := hz.le (both_ind hN hg hk ix iy)
    rw [both_length] at h
    rw [ex, ey, toI_length, toI_length]
    exact h
  · rw [lz]
    refine count_parts (fun u => u / m) _ n tz (fun u hu => Nat.div_lt_of_lt_mul (by rw [Nat.mul_comm]; exact iz.mem u hu)) fun g _ => ?_
    have h := hy.le (part_first hN hk iz g)
    rw [List.length_map] at h
    exact h
  · rw [lz, Nat.mul_comm]
    refine count_parts (fun u => u % m) _ m tz (fun u hu => Nat.mod_lt _ (Nat.pos_of_ne_zero fun e => by have := iz.mem u hu; rw [e, Nat.mul_zero] at this; omega)) fun h _ => ?_
    have h := hx.le (part_second hN hg iz h)
    rw [List.length_map] at h
    exact h
end Go.Proofs.YtehheklbibocjaaDoor

/- AloneOf, plain: of all sets, as bits, the longest one alone, of these the first. No condition. -/
namespace Go.Proofs.YtehheklbibocjaaDoor

def bitsL (n x : Nat) : List Nat := (List.range n).filter fun v => x.testBit v
def freeB (l : List (Int × Int)) (x : Nat) : Bool := l.all fun e => !x.testBit e.1.toNat || !x.testBit e.2.toNat
def stepB (n : Nat) (l : List (Int × Int)) (best : List Int) (x : Nat) : List Int :=
  if (toI (bitsL n x)).length < best.length ∨ ((toI (bitsL n x)).length = best.length ∧ aheadL (toI (bitsL n x)) best = false) then best else if freeB l x = true then toI (bitsL n x) else best
def bestTo (n : Nat) (l : List (Int × Int)) (k : Nat) : List Int := (List.range k).foldl (stepB n l) []
theorem bestTo_succ (n : Nat) (l : List (Int × Int)) (k : Nat) : bestTo n l (k + 1) = stepB n l (bestTo n l k) k := by
  unfold bestTo
  rw [List.range_succ, List.foldl_append]
  rfl
theorem aheadL_cons (x y : Int) (a b : List Int) : aheadL (x :: a) (y :: b) = if x = y then aheadL a b else decide (x < y) := rfl
theorem aheadL_total : ∀ a b : List Int, a.length = b.length → a ≠ b → aheadL a b = false → aheadL b a = true
  | [], [], _, h, _ => absurd rfl h
  | [], _ :: _, h, _, _ => by simp at h
  | _ :: _, [], h, _, _ => by simp at h
  | x :: a, y :: b, hl, hne, h => by
    rw [aheadL_cons] at h ⊢
    by_cases q : x = y
    · subst q
      rw [if_pos rfl] at h ⊢
      exact aheadL_total a b (by simpa using hl) (fun e => hne (by rw [e])) h
    · rw [if_neg q] at h
      rw [if_neg (Ne.symm q)]
      have := of_decide_eq_false h
      exact decide_eq_true (by omega)
theorem aheadL_trans : ∀ a b c : List Int, aheadL a b = true → aheadL b c = true → aheadL a c = true
  | [], _, _, h, _ => by cases h
  | _ :: _, [], _, h, _ => by cases h
  | _ :: _, _ :: _, [], _, h => by cases h
  | x :: a, y :: b, z :: c, h, k => by
    rw [aheadL_cons] at h k ⊢
    by_cases q : x = y
    · subst q
      rw [if_pos rfl] at h
      by_cases r : x = z
      · subst r
        rw [if_pos rfl] at k ⊢
        exact aheadL_trans a b c h k
      · rw [if_neg r] at k ⊢
        exact k
    · rw [if_neg q] at h
      have h' := of_decide_eq_true h
      by_cases r : y = z
      · subst r
        rw [if_neg q]
        exact h
      · rw [if_neg r] at k
        have k' := of_decide_eq_true k
        rw [if_neg (by omega)]
        exact decide_eq_true (by omega)
theorem lt_of_asc : ∀ (a b : List Nat), a.Pairwise (fun u w => u < w) → b.Pairwise (fun u w => u < w) → (∀ u, u ∈ a ↔ u ∈ b) → a = b
  | [], [], _, _, _ => rfl
  | [], y :: b, _, _, h => absurd ((h y).2 (List.mem_cons_self ..)) (by simp)
  | x :: a, [], _, _, h => absurd ((h x).1 (List.mem_cons_self ..)) (by simp)
  | x :: a, y :: b, ha, hb, h => by
    obtain ⟨a1, a2⟩ := List.pairwise_cons.1 ha
    obtain ⟨b1, b2⟩ := List.pairwise_cons.1 hb
    have e : x = y := by
      rcases List.mem_cons.1 ((h x).1 (List.mem_cons_self ..)) with q | q
      · exact q
      · rcases List.mem_cons.1 ((h y).2 (List.mem_cons_self ..)) with r | r
        · exact r.symm
        · have := a1 y r
          have := b1 x q
          omega
    subst e
    congr 1
    refine lt_of_asc a b a2 b2 fun u => ⟨fun hu => ?_, fun hu => ?_⟩
    · rcases List.mem_cons.1 ((h u).1 (List.mem_cons_of_mem _ hu)) with q | q
      · have := a1 u hu
        omega
      · exact q
    · rcases List.mem_cons.1 ((h u).2 (List.mem_cons_of_mem _ hu)) with q | q
      · have := b1 u hu
        omega
      · exact q

structure BestI (n : Nat) (l : List (Int × Int)) (k : Nat) (b : List Int) : Prop where
  is_ : ∃ x, x < 2 ^ n ∧ freeB l x = true ∧ b = toI (bitsL n x)
  first : ∀ y, y < k → freeB l y = true → (toI (bitsL n y)).length < b.length ∨ toI (bitsL n y) = b ∨ ((toI (bitsL n y)).length = b.length ∧ aheadL b (toI (bitsL n y)) = true)
theorem free_zero (l : List (Int × Int)) : freeB l 0 = true := by
  unfold freeB
  rw [List.all_eq_true]
  intro e _
  rw [Nat.zero_testBit]
  rfl
theorem bits_zero (n : Nat) : bitsL n 0 = [] := by
  unfold bitsL
  rw [List.filter_eq_nil_iff]
  intro v _
  rw [Nat.zero_testBit]
  decide
theorem bestTo_spec (n : Nat) (l : List (Int × Int)) : ∀ k, k ≤ 2 ^ n → BestI n l k (bestTo n l k)
  | 0, _ => ⟨⟨0, Nat.two_pow_pos n, free_zero l, by rw [bits_zero]; rfl⟩, fun y h => absurd h (by omega)⟩
  | k + 1, hk => by
    have ih := bestTo_spec n l k (by omega)
    rw [bestTo_succ]
    generalize bestTo n l k = b at ih
    unfold stepB
    by_cases c : (toI (bitsL n k)).length < b.length ∨ ((toI (bitsL n k)).length = b.length ∧ aheadL (toI (bitsL n k)) b = false)
    · rw [if_pos c]
      refine ⟨ih.is_, fun y hy hf => ?_⟩
      by_cases e : y = k
      · subst e
        rcases c with c | ⟨c, d⟩
        · exact .inl c
        · by_cases q : toI (bitsL n y) = b
          · exact .inr (.inl q)
          · exact .inr (.inr ⟨c, aheadL_total _ _ c q d⟩)
      · exact ih.first y (by omega) hf
    · rw [if_neg c]
      by_cases hf : freeB l k = true
      · rw [if_pos hf]
        refine ⟨⟨k, by omega, hf, rfl⟩, fun y hy hy' => ?_⟩
        by_cases e : y = k
        · exact .inr (.inl (by rw [e]))
        · have h := ih.first y (by omega) hy'
          have c1 : ¬ (toI (bitsL n k)).length < b.length := fun q => c (.inl q)
          by_cases c2 : (toI (bitsL n k)).length = b.length
          · have c3 : aheadL (toI (bitsL n k)) b = true := by
              cases q : aheadL (toI (bitsL n k)) b
              · exact absurd (.inr ⟨c2, q⟩) c
              · rfl
            rcases h with h | h | ⟨h, h'⟩
            · exact .inl (by omega)
            · rw [h]
              exact .inr (.inr ⟨c2.symm, c3⟩)
            · exact .inr (.inr ⟨by omega, aheadL_trans _ _ _ c3 h'⟩)
          · rcases h with h | h | ⟨h, _⟩
            · exact .inl (by omega)
            · rw [h]
              exact .inl (by omega)
            · exact .inl (by omega)
      · rw [if_neg hf]
        refine ⟨ih.is_, fun y hy hy' => ?_⟩
        by_cases e : y = k
        · subst e
          exact absurd hy' hf
        · exact ih.first y (by omega) hy'

theorem bits_asc (n x : Nat) : (bitsL n x).Pairwise fun u w => u < w := List.Pairwise.filter _ List.pairwise_lt_range
theorem mem_bits {n x u : Nat} : u ∈ bitsL n x ↔ u < n ∧ x.testBit u = true := by
  unfold bitsL
  rw [List.mem_filter, List.mem_range]
theorem free_adj {l : List (Int × Int)} {x u w : Nat} (hf : freeB l x = true) (hu : x.testBit u = true) (hw : x.testBit w = true) : adjL l (u : Int) (w : Int) = false := by
  unfold adjL
  rw [List.any_eq_false]
  intro e he h
  have := List.all_eq_true.1 hf e he
  unfold adjAt at h
  rw [Bool.or_eq_true, Bool.and_eq_true, Bool.and_eq_true, beq_iff_eq, beq_iff_eq, beq_iff_eq, beq_iff_eq] at h
  rcases h with ⟨h1, h2⟩ | ⟨h1, h2⟩ <;> rw [h1, h2, Int.toNat_natCast, Int.toNat_natCast, hu, hw] at this <;> cases this
theorem bits_ind {n : Nat} {l : List (Int × Int)} (hg : GoodE n l l.length) {x : Nat} (hf : freeB l x = true) : Ind (nearL n l) n (bitsL n x) := by
  rw [ind_adj hg]
  refine ⟨fun u hu => (mem_bits.1 hu).1, ?_⟩
  refine (List.pairwise_iff_forall_sublist.2 fun {u w} h => ?_)
  have hu := mem_bits.1 (h.subset (List.mem_cons_self ..))
  have hw := mem_bits.1 (h.subset (List.mem_cons_of_mem _ (List.mem_cons_self ..)))
  exact ⟨List.pairwise_iff_forall_sublist.1 (bits_asc n x) h, free_adj hf hu.2 hw.2⟩
def ofB (t : List Nat) : Nat := t.foldr (fun u y => 2 ^ u ||| y) 0
theorem ofB_bit (v : Nat) : ∀ t : List Nat, (ofB t).testBit v = decide (v ∈ t)
  | [] => by
    show (0 : Nat).testBit v = _
    rw [Nat.zero_testBit]
    rfl
  | u :: t => by
    show (2 ^ u ||| ofB t).testBit v = _
    rw [Nat.testBit_or, Nat.testBit_two_pow, ofB_bit v t]
    by_cases e : u = v
    · simp [e]
    · simp [e, Ne.symm e]
theorem ind_bits {n : Nat} {l : List (Int × Int)} (hg : GoodE n l l.length) {t : List Nat} (ht : Ind (nearL n l) n t) : ∃ y, y < 2 ^ n ∧ freeB l y = true ∧ bitsL n y = t := by
  obtain ⟨h1, h2⟩ := (ind_adj hg).1 ht
  refine ⟨ofB t, Nat.lt_pow_two_of_testBit _ fun i hi => ?_, ?_, ?_⟩
  · rw [ofB_bit]
    exact decide_eq_false fun h => by have := h1 i h; omega
  · unfold freeB
    rw [List.all_eq_true]
    intro e he
    obtain ⟨k, hk, rfl⟩ := List.getElem_of_mem he
    have hed := hg.edge hk
    rw [getD_eq l k _ hk] at hed
    cases ha : (ofB t).testBit l[k].1.toNat
    · rfl
    · cases hb : (ofB t).testBit l[k].2.toNat
      · rfl
      · rw [ofB_bit] at ha hb
        have ma := of_decide_eq_true ha
        have mb := of_decide_eq_true hb
        have hp : ∀ u w, u ∈ t → w ∈ t → u < w → adjL l (u : Int) (w : Int) = false := by
          intro u w hu hw huw
          obtain ⟨i, hi, rfl⟩ := List.getElem_of_mem hu
          obtain ⟨j, hj, rfl⟩ := List.getElem_of_mem hw
          have h3 := List.pairwise_iff_getElem.1 h2
          rcases Nat.lt_trichotomy i j with q | q | q
          · exact (h3 i j hi hj q).2
          · subst q
            omega
          · have := (h3 j i hj hi q).1
            omega
        have h4 := hp _ _ ma mb (by omega)
        unfold adjL at h4
        rw [List.any_eq_false] at h4
        have h5 := h4 l[k] he
        rw [Int.toNat_of_nonneg hed.1, Int.toNat_of_nonneg (by omega)] at h5
        exact absurd (by unfold adjAt; simp) h5
  · refine lt_of_asc _ _ (bits_asc _ _) (h2.imp fun h => h.1) fun u => ?_
    rw [mem_bits, ofB_bit, decide_eq_true_eq]
    exact ⟨fun h => h.2, fun h => ⟨h1 u h, h⟩⟩
theorem aloneOf_same {n : Nat} {l : List (Int × Int)} (hn : n ≤ 16) (hM : Low (nearL n l)) (hg : GoodE n l l.length) : bestTo n l (2 ^ n) = aloneL n l := by
  have h := bestTo_spec n l (2 ^ n) (Nat.le_refl _)
  have f : First (nearL n l) n (bestTo n l (2 ^ n)) := by
    obtain ⟨x, _, hx, e⟩ := h.is_
    refine ⟨⟨bitsL n x, e, bits_ind hg hx⟩, fun t ht => ?_⟩
    obtain ⟨y, hy, hf, rfl⟩ := ind_bits hg ht
    exact h.first y hy hf
  exact f.same (alone_first hn hM)
end Go.Proofs.YtehheklbibocjaaDoor

/- The walks of Ahead and AloneOf. No condition. -/
namespace Go.Proofs.YtehheklbibocjaaDoor
open Go.RowKit Go.Deep Go.Proofs.YtehheklbibocjaaDoorW.PrintWords

theorem aheadL_step {l m : List Int} {k : Nat} (h1 : k < l.length) (h2 : k < m.length) : aheadL (l.drop k) (m.drop k) = if l.getD k 0 = m.getD k 0 then aheadL (l.drop (k + 1)) (m.drop (k + 1)) else decide (l.getD k 0 < m.getD k 0) := by
  rw [List.drop_eq_getElem_cons h1, List.drop_eq_getElem_cons h2, getD_eq l k _ h1, getD_eq m k _ h2]
  rfl
theorem aheadL_end1 {l : List Int} {k : Nat} (x : List Int) (h : l.length ≤ k) : aheadL (l.drop k) x = false := by
  rw [List.drop_eq_nil_of_le h]
  cases x <;> rfl
theorem aheadL_end2 {l : List Int} {k : Nat} (x : List Int) (h : l.length ≤ k) : aheadL x (l.drop k) = false := by
  rw [List.drop_eq_nil_of_le h]
  cases x <;> rfl

set_option maxHeartbeats 2000000 in
theorem ahead_any (A B : Option Addr) (l m : List Int) (c d : Nat) (w : World) (hA : Ints w A l) (hB : Ints w B m) :
    Calls Tryd.prog 29 #[.slice A l.length c, .slice B m.length d] w fun e w' => e = .returned (.bool (aheadL l m)) ∧ Below w.heap.size w w' := by
  have hl := hA.len
  have hm := hB.len
  obtain ⟨r, hr⟩ : ∃ r, aheadL l m = r := ⟨_, rfl⟩
  have HR := hide hr
  rw [hr]
  clear hr
  go_enter Tryd.func29, Tryd.ntmps29
  go_wp2
  go_loopw [5] (fun i wr => ∃ k : Nat, k ≤ l.length ∧ k ≤ m.length ∧ i = .int .i64 k ∧ Hid (aheadL (l.drop k) (m.drop k) = r) ∧ Below w.heap.size w wr) (fun i _ => l.length - (intOf i).toNat)
  case atStart => exact ⟨0, Nat.zero_le _, Nat.zero_le _, rfl, HR, Below.refl _ _⟩
  case round =>
    obtain ⟨k, hk, hk2, rfl, HK, hb⟩ := hrel
    by_cases h1 : k < l.length
    · by_cases h2 : k < m.length
      · obtain ⟨b, o, rfl, hbl, c1⟩ := (hA.below hb).at_ k h1
        obtain ⟨b', o', rfl, hbl', c2⟩ := (hB.below hb).at_ k h2
        have h := HK.out
        rw [aheadL_step h1 h2] at h
        generalize l.getD k 0 = x at c1 h
        generalize m.getD k 0 = y at c2 h
        by_cases hx : x = y
        · subst hx
          rw [if_pos rfl] at h
          have hx' : (x != x) = false := by simp
          have HN := hide h
          clear h
          go_wp2
          go_quiet (fail)
          go_wp2
          go_roundw
          case rel => exact ⟨k + 1, by omega, by omega, by go_num, HN, below_drewN' hb _⟩
          case measure => simp [intOf]; omega
        · rw [if_neg hx] at h
          have hx' : (x != y) = true := by simpa using hx
          have HN := hide h
          clear h hx
          go_wp2
          go_quiet (fail)
          go_wp2
          go_quiet (fail)
          go_wp2
          go_ret
          exact ⟨ret_bool HN.out, below_drewN' (below_drewN' hb _) _⟩
      · obtain rfl : k = m.length := by omega
        have HN := hide (HK.out.symm.trans (aheadL_end2 _ (Nat.le_refl _)))
        go_wp2
        go_ret
        exact ⟨ret_bool HN.out.symm, hb⟩
    · obtain rfl : k = l.length := by omega
      have HN := hide (HK.out.symm.trans (aheadL_end1 _ (Nat.le_refl _)))
      go_wp2
      go_ret
      exact ⟨ret_bool HN.out.symm, hb⟩

theorem bitsL_yes {v x : Nat} (h : x.testBit v = true) : toI (bitsL (v + 1) x) = toI (bitsL v x) ++ [(v : Int)] := by
  unfold bitsL
  rw [List.range_succ, List.filter_append, show List.filter (fun v => x.testBit v) [v] = [v] by simp [h]]
  unfold toI
  rw [List.map_append]
  rfl
theorem bitsL_no {v x : Nat} (h : x.testBit v = false) : bitsL (v + 1) x = bitsL v x := by
  unfold bitsL
  rw [List.range_succ, List.filter_append, show List.filter (fun v => x.testBit v) [v] = [] by simp [h]]
  exact List.append_nil _
theorem bitsL_len (v x : Nat) : (toI (bitsL v x)).length ≤ v := by
  rw [toI_length]
  have := List.length_filter_le (fun i => x.testBit i) (List.range v)
  rw [List.length_range] at this
  exact this
theorem tbit (k v : Nat) : ((k : Int) / 2 ^ v).tmod 2 = if k.testBit v = true then 1 else 0 := by
  have e1 : ((k : Int) / 2 ^ v) = ((k / 2 ^ v : Nat) : Int) := by push_cast; rfl
  rw [e1, Int.tmod_eq_emod_of_nonneg (Int.natCast_nonneg _)]
  by_cases h : k / 2 ^ v % 2 = 1
  · rw [if_pos (by rw [bit_div]; exact decide_eq_true h)]
    omega
  · rw [if_neg (by rw [bit_div, decide_eq_false h]; decide)]
    omega
theorem pow10 (n : Nat) (h : n ≤ 10) : ∃ M : Nat, wrap64 ((2 : Int) ^ n) = (M : Int) ∧ M ≤ 1024 ∧ Hid (M = 2 ^ n) := by
  have h1 : 2 ^ n ≤ 2 ^ 10 := Nat.pow_le_pow_right (by decide) h
  have h2 : (2 : Int) ^ n = ((2 ^ n : Nat) : Int) := by rw [Int.natCast_pow]; rfl
  refine ⟨2 ^ n, ?_, h1, hide rfl⟩
  rw [h2]
  generalize 2 ^ n = x at h1
  unfold wrap64
  omega
theorem free_take {l : List (Int × Int)} {i x : Nat} (hi : i < l.length) : freeB (l.take (i + 1)) x = (freeB (l.take i) x && (!x.testBit (l.getD i (0, 0)).1.toNat || !x.testBit (l.getD i (0, 0)).2.toNat)) := by
  unfold freeB
  rw [List.take_add_one, List.getElem?_eq_getElem hi, getD_eq l i _ hi, List.all_append]
  show _ = _
  simp
theorem free_false {l : List (Int × Int)} {i x : Nat} (h : freeB (l.take i) x = false) : freeB l x = false := by
  rw [← List.take_append_drop i l]
  unfold freeB at h ⊢
  rw [List.all_append, h]
  rfl

set_option maxRecDepth 100000 in
set_option maxHeartbeats 8000000 in
theorem aloneOf_ok (n : Nat) (A : Option Addr) (l : List (Int × Int)) (c : Nat) (w : World) (hA : Pairs w A l) (hn : n ≤ 10) (hg : GoodE n l l.length) :
    Calls Tryd.prog 13 #[.agg #[.int .i64 n, .slice A l.length c]] w fun e w' => ∃ B d, e = .returned (.slice B (bestTo n l (2 ^ n)).length d) ∧ Ints w' B (bestTo n l (2 ^ n)) ∧ Below w.heap.size w w' := by
  have hl := hA.len
  obtain ⟨M, hM, hM2, HM⟩ := pow10 n hn
  have hcl : ∀ w1, Below (w.heap.size + 1) (w.alloc (gObj n A l.length c)) w1 →
      w1.cell? ⟨w.heap.size, 0, none⟩ = some (.int .i64 (n : Int)) ∧ w1.cell? ⟨w.heap.size, 1, none⟩ = some (.slice A l.length c) ∧ Below w.heap.size w w1 ∧ w.heap.size + 1 ≤ w1.heap.size := fun w1 h =>
    ⟨(h.cell (p := ⟨w.heap.size, 0, none⟩) (by show w.heap.size < _; omega)).trans (by unfold gObj; simp), (h.cell (p := ⟨w.heap.size, 1, none⟩) (by show w.heap.size < _; omega)).trans (by unfold gObj; simp), (below_alloc' (Below.refl _ _) _).trans (h.mono (Nat.le_succ _)), by have := h.size; rw [World.size_alloc] at this; omega⟩
  have HCL := hide hcl
  have HA := hide hA
  have HG := hide hg
  have n0 : (0 : Int) ≤ (n : Int) := Int.natCast_nonneg _
  have n1 : (n : Int) < 64 := by omega
  clear hcl hA hg
  go_enter Tryd.func13, Tryd.ntmps13
  go_wp2_with (fail)
  go_loopw [3, 4] (fun bv kv wr => ∃ (k : Nat) (B : Option Addr) (d : Nat), k ≤ M ∧ kv = .int .i64 k ∧ bv = .slice B (bestTo n l k).length d ∧ Hid (Ints wr B (bestTo n l k)) ∧ Hid (Below (w.heap.size + 1) (w.alloc (gObj n A l.length c)) wr)) (fun _ kv _ => M - (intOf kv).toNat)
  case atStart => exact ⟨0, none, 0, Nat.zero_le _, rfl, rfl, hide (Ints.nil _ _), hide (Below.refl _ _)⟩
  case round =>
    obtain ⟨k, B, d, hk, rfl, rfl, HI, HB⟩ := hrel
    obtain ⟨wi, rfl⟩ : ∃ wi : World, wi = wr := ⟨_, rfl⟩
    obtain ⟨y0, y1, hbw, hsz⟩ := HCL.out wi HB.out
    have k0 : (0 : Int) ≤ (k : Int) := Int.natCast_nonneg _
    have zw : w.heap.size < wi.heap.size := by omega
    by_cases hlt : k < M
    · have k1 : (k : Int) < (M : Int) := by omega
      obtain ⟨best, hbest⟩ : ∃ b, bestTo n l k = b := ⟨_, rfl⟩
      have HST := hide (bestTo_succ n l k)
      rw [hbest] at HI
      rw [hbest] at HST ⊢
      have hbl := HI.out.len
      clear hbest hbw
      go_wp2_with (fail)
      rw [hM]
      go_loopw [5, 6] (fun lv vv wr => ∃ (v : Nat) (L : Option Addr) (e : Nat), v ≤ n ∧ vv = .int .i64 v ∧ lv = .slice L (toI (bitsL v k)).length e ∧ Hid (wr.ownsRow wi.heap.size 3 1 (.slice L (toI (bitsL v k)).length e) (toI (bitsL v k)).length (intCells (toI (bitsL v k)))) ∧ Hid (Below wi.heap.size wi wr)) (fun _ vv _ => n - (intOf vv).toNat)
      case atStart => exact ⟨0, none, 0, Nat.zero_le _, rfl, rfl, hide (nil_own _ _ _ _), hide (Below.refl _ _)⟩
      case round =>
        obtain ⟨v, L, e, hv, rfl, rfl, HO, HBi⟩ := hrel
        obtain ⟨wj, rfl⟩ : ∃ wj : World, wj = wr := ⟨_, rfl⟩
        have hBj := HB.out.trans (HBi.out.mono hsz)
        obtain ⟨z0, z1, hbwj, hszj⟩ := HCL.out wj hBj
        have HBJ := hide (And.intro hBj hbwj)
        have v0 : (0 : Int) ≤ (v : Int) := Int.natCast_nonneg _
        have zj : w.heap.size < wj.heap.size := by omega
        clear hBj hbwj y0 y1
        have hTl := bitsL_len v k
        by_cases hvl : v < n
        · have v1 : (v : Int) < (n : Int) := by omega
          have v64 : v < 64 := by omega
          have HSZ := hide HBi.out.size
          cases hbit : k.testBit v with
          | false =>
            have hb2 : ((((k : Int) / 2 ^ v).tmod 2) == 1) = false := by rw [tbit, hbit]; rfl
            have HN := hide (bitsL_no hbit)
            clear hbit
            go_wp2_with (fail)
            go_roundw
            case rel => exact ⟨v + 1, L, e, by omega, by go_num, by rw [HN.out], by rw [HN.out]; exact HO, HBi⟩
            case measure => simp [intOf]; omega
          | true =>
            have hb2 : ((((k : Int) / 2 ^ v).tmod 2) == 1) = true := by rw [tbit, hbit]; rfl
            have HN := hide (bitsL_yes hbit)
            have HC3 := hide (show ((toI (bitsL v k)).length + 1) * 8 ≤ 140737488355328 by omega)
            clear hbit
            generalize toI (bitsL v k) = T at HO HN HC3 hTl ⊢
            go_wp2_with (at_builtin; refine wp_app_ints _ rfl _ _ rfl wi.heap.size (.slice L T.length e) _ rfl (HO.out.alloc _) _ 1 1 [(v : Int)] rfl rfl (ints_one (b := wj.heap.size) (by simp) (by simp)) HC3.out (by rw [World.size_alloc]; exact Nat.le_succ_of_le HSZ.out) ?_; intro A' c' w5 hc5 ho5 hg5 hob5)
            have hb5 : Below wi.heap.size wi w5 := (HBi.out.alloc HSZ.out _).grown hg5 (by rw [World.size_alloc]; exact Nat.le_succ_of_le HSZ.out) (fun j hj => (HO.out.lt j hj).1)
            rw [← HN.out] at ho5
            go_roundw
            case rel => exact ⟨v + 1, A', c', by omega, by go_num, by rw [HN.out, List.length_append]; rfl, hide ho5, hide hb5⟩
            case measure => simp [intOf]; omega
        · obtain rfl : n = v := by omega
          have HIT := hide (Ints.own HO.out)
          have HIB := hide (HI.out.below HBi.out)
          obtain ⟨T, hT⟩ : ∃ T, toI (bitsL n k) = T := ⟨_, rfl⟩
          have HS : Hid (bestTo n l (k + 1) = if T.length < best.length ∨ (T.length = best.length ∧ aheadL T best = false) then best else if freeB l k = true then T else best) := by
            have h := HST.out
            unfold stepB at h
            rw [hT] at h
            exact hide h
          rw [hT] at HIT hTl ⊢
          clear HO hT HST
          have HAH := hide (ahead_any L B T best e d wj HIT.out HIB.out)
          have HIW := hide (HIB.out.below (w' := wj) (Below.refl _ _))
          have hTl2 : T.length ≤ n := hTl
          clear hTl
          by_cases c1 : T.length < best.length
          · have HN : Hid (bestTo n l (k + 1) = best) := hide (by rw [HS.out, if_pos (.inl c1)])
            have c1' : (T.length : Int) < (best.length : Int) := by omega
            clear c1
            go_wp2_with (fail)
            go_roundw
            case rel => exact ⟨k + 1, B, d, by omega, by go_num, by rw [HN.out], by rw [HN.out]; exact HIB, hide HBJ.out.1⟩
            case measure => simp [intOf]; omega
          · by_cases c2 : T.length = best.length
            · have c2' : ((T.length : Int) == (best.length : Int)) = true := by rw [beq_iff_eq]; omega
              have c1' : ¬ ((T.length : Int) < (best.length : Int)) := by omega
              cases hah : aheadL T best with
              | false =>
                have HN : Hid (bestTo n l (k + 1) = best) := hide (by rw [HS.out, if_pos (.inr ⟨c2, hah⟩)])
                rw [hah] at HAH
                clear hah c1 c2
                go_wp2_with (go_at_call 29; refine Calls.mono HAH.out ?_; rintro e' w6 ⟨rfl, hb6⟩)
                go_roundw
                case rel => exact ⟨k + 1, B, d, by omega, by go_num, by rw [HN.out], by rw [HN.out]; exact hide (HIB.out.below hb6), hide (HBJ.out.1.trans (hb6.mono (by omega)))⟩
                case measure => simp [intOf]; omega
              | true =>
                have HN : Hid (bestTo n l (k + 1) = if freeB l k = true then T else best) := hide (by rw [HS.out, if_neg (fun h => h.elim c1 (fun h => by rw [hah] at h; exact absurd h.2 (by decide)))])
                rw [hah] at HAH
                clear hah c1 c2
                go_wp2_with (go_at_call 29; refine Calls.mono HAH.out ?_; rintro e' w6 ⟨rfl, hb6⟩)
                have HIB6 := hide (HIB.out.below hb6)
                have HIT6 := hide (HIT.out.below hb6)
                have HBB6 := hide (HBJ.out.1.trans (hb6.mono (show w.heap.size + 1 ≤ wj.heap.size by omega)))
                obtain ⟨x0, x1, hbw6, hsz6⟩ := HCL.out w6 HBB6.out
                have HBW6 := hide hbw6
                have z6 : w.heap.size < w6.heap.size := by omega
                clear hbw6 z0 z1
                have HFL := hide (show freeB l k = freeB l k from rfl)
                go_loop [7, 8] (fun fv iv => ∃ i : Nat, i ≤ l.length ∧ iv = .int .i64 i ∧ fv = .bool (freeB (l.take i) k)) (fun _ iv => l.length - (intOf iv).toNat)
                case atStart => exact ⟨0, Nat.zero_le _, rfl, rfl⟩
                case round =>
                  obtain ⟨i, hi, rfl, rfl⟩ := hrel
                  have i0 : (0 : Int) ≤ (i : Int) := Int.natCast_nonneg _
                  by_cases hil : i < l.length
                  · have i1 : (i : Int) < (l.length : Int) := by omega
                    have HTK := hide (free_take (x := k) hil)
                    have HFF := hide (fun h => free_false (l := l) (i := i) (x := k) h)
                    obtain ⟨g, off, rfl, hgb, d1, d2⟩ := (HA.out.below HBW6.out).at_ i hil
                    have hed := HG.out.edge hil
                    obtain ⟨p1, e1⟩ : ∃ p : Nat, (l.getD i (0,0)).1 = (p : Int) := ⟨(l.getD i (0,0)).1.toNat, by omega⟩
                    obtain ⟨p2, e2⟩ : ∃ p : Nat, (l.getD i (0,0)).2 = (p : Int) := ⟨(l.getD i (0,0)).2.toNat, by omega⟩
                    rw [e1] at d1
                    rw [e2] at d2
                    rw [e1, e2] at hed
                    have htk := HTK.out
                    rw [e1, e2, Int.toNat_natCast, Int.toNat_natCast] at htk
                    have hq1 : p1 < 64 := by omega
                    have hq2 : p2 < 64 := by omega
                    have b1 : ((((k : Int) / 2 ^ p1).tmod 2) == 0) = !k.testBit p1 := by rw [tbit]; cases k.testBit p1 <;> rfl
                    have b2 : ((((k : Int) / 2 ^ p2).tmod 2) == 0) = !k.testBit p2 := by rw [tbit]; cases k.testBit p2 <;> rfl
                    clear e1 e2 HTK
                    cases hf : freeB (l.take i) k with
                    | false =>
                      have HNN := hide (HN.out.trans (if_neg (by rw [HFF.out hf]; decide)))
                      clear htk
                      go_wp2_with (fail)
                      go_roundw
                      case rel => exact ⟨k + 1, B, d, by omega, by go_num, by rw [HNN.out], by rw [HNN.out]; exact HIB6, HBB6⟩
                      case measure => simp [intOf]; omega
                    | true =>
                      rw [hf, Bool.true_and] at htk
                      cases hb1 : k.testBit p1 <;> cases hb2 : k.testBit p2 <;> rw [hb1] at b1 htk <;> rw [hb2] at b2 htk
                      all_goals
                        have HTK := hide htk
                        clear htk hf hb1 hb2
                        go_wp2_with (fail)
                        go_round
                        case rel => exact ⟨i + 1, by omega, by go_num, by rw [HTK.out]; rfl⟩
                        case measure => simp [intOf]; omega
                  · obtain rfl : i = l.length := by omega
                    rw [List.take_length]
                    cases hf : freeB l k with
                    | false =>
                      have HNN := hide (HN.out.trans (if_neg (by rw [hf]; decide)))
                      go_wp2_with (fail)
                      go_roundw
                      case rel => exact ⟨k + 1, B, d, by omega, by go_num, by rw [HNN.out], by rw [HNN.out]; exact HIB6, HBB6⟩
                      case measure => simp [intOf]; omega
                    | true =>
                      have HNN := hide (HN.out.trans (if_pos hf))
                      go_wp2_with (fail)
                      go_roundw
                      case rel => exact ⟨k + 1, L, e, by omega, by go_num, by rw [HNN.out], by rw [HNN.out]; exact HIT6, HBB6⟩
                      case measure => simp [intOf]; omega
            · have c2' : ((T.length : Int) == (best.length : Int)) = false := by rw [beq_eq_false_iff_ne]; omega
              have c1' : ¬ ((T.length : Int) < (best.length : Int)) := by omega
              have HN : Hid (bestTo n l (k + 1) = if freeB l k = true then T else best) := hide (by rw [HS.out, if_neg (fun h => h.elim c1 (fun h => c2 h.1))])
              clear c1 c2
              go_wp2_with (fail)
              have HIB6 := HIB
              have HIT6 := HIT
              have HBB6 := hide HBJ.out.1
              have HBW6 := hide HBJ.out.2
              have HFL := hide (show freeB l k = freeB l k from rfl)
              go_loop [7, 8] (fun fv iv => ∃ i : Nat, i ≤ l.length ∧ iv = .int .i64 i ∧ fv = .bool (freeB (l.take i) k)) (fun _ iv => l.length - (intOf iv).toNat)
              case atStart => exact ⟨0, Nat.zero_le _, rfl, rfl⟩
              case round =>
                obtain ⟨i, hi, rfl, rfl⟩ := hrel
                have i0 : (0 : Int) ≤ (i : Int) := Int.natCast_nonneg _
                by_cases hil : i < l.length
                · have i1 : (i : Int) < (l.length : Int) := by omega
                  have HTK := hide (free_take (x := k) hil)
                  have HFF := hide (fun h => free_false (l := l) (i := i) (x := k) h)
                  obtain ⟨g, off, rfl, hgb, d1, d2⟩ := (HA.out.below HBW6.out).at_ i hil
                  have hed := HG.out.edge hil
                  obtain ⟨p1, e1⟩ : ∃ p : Nat, (l.getD i (0,0)).1 = (p : Int) := ⟨(l.getD i (0,0)).1.toNat, by omega⟩
                  obtain ⟨p2, e2⟩ : ∃ p : Nat, (l.getD i (0,0)).2 = (p : Int) := ⟨(l.getD i (0,0)).2.toNat, by omega⟩
                  rw [e1] at d1
                  rw [e2] at d2
                  rw [e1, e2] at hed
                  have htk := HTK.out
                  rw [e1, e2, Int.toNat_natCast, Int.toNat_natCast] at htk
                  have hq1 : p1 < 64 := by omega
                  have hq2 : p2 < 64 := by omega
                  have b1 : ((((k : Int) / 2 ^ p1).tmod 2) == 0) = !k.testBit p1 := by rw [tbit]; cases k.testBit p1 <;> rfl
                  have b2 : ((((k : Int) / 2 ^ p2).tmod 2) == 0) = !k.testBit p2 := by rw [tbit]; cases k.testBit p2 <;> rfl
                  clear e1 e2 HTK
                  cases hf : freeB (l.take i) k with
                  | false =>
                    have HNN := hide (HN.out.trans (if_neg (by rw [HFF.out hf]; decide)))
                    clear htk
                    go_wp2_with (fail)
                    go_roundw
                    case rel => exact ⟨k + 1, B, d, by omega, by go_num, by rw [HNN.out], by rw [HNN.out]; exact HIB6, HBB6⟩
                    case measure => simp [intOf]; omega
                  | true =>
                    rw [hf, Bool.true_and] at htk
                    cases hb1 : k.testBit p1 <;> cases hb2 : k.testBit p2 <;> rw [hb1] at b1 htk <;> rw [hb2] at b2 htk
                    all_goals
                      have HTK := hide htk
                      clear htk hf hb1 hb2
                      go_wp2_with (fail)
                      go_round
                      case rel => exact ⟨i + 1, by omega, by go_num, by rw [HTK.out]; rfl⟩
                      case measure => simp [intOf]; omega
                · obtain rfl : i = l.length := by omega
                  rw [List.take_length]
                  cases hf : freeB l k with
                  | false =>
                    have HNN := hide (HN.out.trans (if_neg (by rw [hf]; decide)))
                    go_wp2_with (fail)
                    go_roundw
                    case rel => exact ⟨k + 1, B, d, by omega, by go_num, by rw [HNN.out], by rw [HNN.out]; exact HIB6, HBB6⟩
                    case measure => simp [intOf]; omega
                  | true =>
                    have HNN := hide (HN.out.trans (if_pos hf))
                    go_wp2_with (fail)
                    go_roundw
                    case rel => exact ⟨k + 1, L, e, by omega, by go_num, by rw [HNN.out], by rw [HNN.out]; exact HIT6, HBB6⟩
                    case measure => simp [intOf]; omega
    · obtain rfl : k = M := by omega
      have HK := hide HM.out
      have HW := hide hbw
      clear hbw
      go_wp2_with (fail)
      rw [← HK.out]
      go_ret
      exact ⟨B, d, rfl, HI.out, HW.out⟩
end Go.Proofs.YtehheklbibocjaaDoor
