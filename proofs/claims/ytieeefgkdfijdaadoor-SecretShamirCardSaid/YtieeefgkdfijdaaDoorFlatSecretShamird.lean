/- Words, plain laws and walks behind the law SecretShamir, part 4. No condition. -/
import Derived.Test.YtieeefgkdfijdaaDoorFlatSecretShamirc
import Derived.Test.YtieeefgkdfijdaaDoorFlatSecretShamira
import Derived.Deep.RegionLaw
import Derived.Deep.RegionHeld3
import Derived.StillTailTactics
import Derived.LaidEql
import Derived.Stop.Asserts
import Derived.RowKitTokens

/- The walk of secret.Share. No condition. -/
namespace Go.Proofs.YtieeefgkdfijdaaDoor
open Go.RowKit Go.Deep Go.Shelf Go.Proofs.YtieeefgkdfijdaaDoorW.PrintWords

attribute [local go_sem] Oper.semAt_some

theorem fieldC_ok (p : Int) (w : World) : Calls Tryd.prog 63 #[.int .i64 p] w fun e w' => e = .returned (.bool (fieldOf p)) ∧ Below w.heap.size w w' := by
  refine (PSecretShare.secret_field.calls 41 p (fieldOf p) w (fieldP_f p)).mono ?_
  rintro e w' ⟨rfl, h⟩
  exact ⟨rfl, drawn_below h⟩

/-- y when these have come -/
def accW (p x : Int) (pre : List (Int × Int)) : Int := pre.foldl (fun y q => Int.tmod (wrap64 (wrap64 (y * x) + q.2)) p) 0
theorem accW_snoc (p x : Int) (pre : List (Int × Int)) (q : Int × Int) : accW p x (pre ++ [q]) = Int.tmod (wrap64 (wrap64 (accW p x pre * x) + q.2)) p := by
  unfold accW
  rw [List.foldl_append]
  rfl
theorem horner_range (p x : Int) (hp : 0 < p) (l : List Int) : 0 ≤ horner p x l ∧ horner p x l < p := by
  cases l with
  | nil => simp only [horner, List.foldr_nil]; omega
  | cons c cs =>
    have e : horner p x (c :: cs) = (horner p x cs * x + c) % p := rfl
    rw [e]
    exact ⟨Int.emod_nonneg _ (by omega), Int.emod_lt_of_pos _ hp⟩
theorem accW_horner (p x : Int) (hp : 2 ≤ p ∧ p ≤ 997) (hx : 0 ≤ x ∧ x ≤ 1000) (l : List Int) (hin : inside l p 0 = true) : ∀ k, k ≤ l.length → accW p x (backTo l k) = horner p x (l.drop (l.length - k)) := by
  intro k
  induction k with
  | zero => intro _; simp [accW, backTo, horner]
  | succ k ih =>
    intro hk
    have hil : l.length - (k + 1) < l.length := by omega
    obtain ⟨g0, g1⟩ := inside_get hin _ hil
    have ed : l.drop (l.length - (k + 1)) = l.getD (l.length - (k + 1)) 0 :: l.drop (l.length - k) := by
      rw [List.drop_eq_getElem_cons hil, getD_eq l _ 0 hil, show l.length - (k + 1) + 1 = l.length - k by omega]
    rw [backTo_succ, accW_snoc, ih (by omega), ed]
    have e2 : (backAt l k).2 = l.getD (l.length - (k + 1)) 0 := by
      unfold backAt
      rw [show l.length - 1 - k = l.length - (k + 1) by omega]
    have e : ∀ (c : Int) (cs : List Int), horner p x (c :: cs) = (horner p x cs * x + c) % p := fun _ _ => rfl
    obtain ⟨h0, h1⟩ := horner_range p x (by omega) (l.drop (l.length - k))
    rw [e2, e]
    generalize l.getD (l.length - (k + 1)) 0 = c at g0 g1 ⊢
    generalize horner p x (l.drop (l.length - k)) = y at h0 h1 ⊢
    have m1 := mul_le_997 (x := y) (y := x) ⟨h0, by omega⟩ hx
    have w1 : wrap64 (y * x) = y * x := by unfold wrap64; omega
    have w2 : wrap64 (y * x + c) = y * x + c := by unfold wrap64; omega
    rw [w1, w2, tmod_small _ _ (by omega)]
theorem accW_all (p x : Int) (hp : 2 ≤ p ∧ p ≤ 997) (hx : 0 ≤ x ∧ x ≤ 1000) (l : List Int) (hin : inside l p 0 = true) : accW p x (backTo l l.length) = horner p x l := by
  rw [accW_horner p x hp hx l hin l.length (Nat.le_refl _), Nat.sub_self, List.drop_zero]
theorem grown_of_below {w w' : World} (h : Below w.heap.size w w') : w.grownBy w' none := ⟨h.os, h.tape, h.output, h.size, fun k hk _ => h.block k hk⟩
theorem own_isCells {w : World} {base e size n : Nat} {v : Value} {xs : List Value} (h : w.ownsRow base e size v n xs) (j : Nat) (o : Obj) (hj : v.ownBlock = some j) (ho : w.heap[j]? = some o) : o.isCells = true := by
  rcases h.2 with ⟨rfl, _⟩ | ⟨g, cap, cur, rfl, _, hg, _⟩
  · simp [Value.ownBlock] at hj
  · simp [Value.ownBlock] at hj
    subst hj
    rw [hg] at ho
    cases ho
    rfl
theorem own_list {w : World} {base e : Nat} {v : Value} {n : Nat} {l : List Int} (h : w.ownsRow base e 1 v n (intCells l)) : w.ownsRow base e 1 v l.length (intCells l) := by
  have : n = l.length := by have := h.1; rw [intCells_length] at this; omega
  rw [← this]; exact h
theorem ints_one {w : World} {b : Nat} {y : Int} (hb : b < w.heap.size) (h : w.cell? ⟨b, 0, none⟩ = some (.int .i64 y)) : Ints w (some ⟨b, 0, none⟩) [y] :=
  ⟨by simp, fun i hi => by
    obtain rfl : i = 0 := by simp at hi; omega
    exact ⟨b, 0, rfl, hb, h⟩⟩
/-- what Share gives at good arguments -/
def RetShare (p n : Int) (l : List Int) (w : World) (e : Ending) (w' : World) : Prop := ∃ B d, e = .returned (.tuple #[.slice B n.toNat d, .nilIface]) ∧ Ints w' B ((List.range n.toNat).map fun x => horner p ((x + 1 : Nat) : Int) l) ∧ n.toNat ≤ d ∧ Below w.heap.size w w'
/-- what holds at the head of Share's outer loop -/
def ShRel (p n : Int) (l : List Int) (b0 off0 c B0 : Nat) (w2 : World) (act : Act) (W : World) : Prop := ∃ (u8 u9 u10 u11 u12 u13 u14 u15 u16 u17 u18 u19 u20 u21 u22 u23 u24 u25 u26 u27 u28 u29 u30 u31 u32 u33 u34 u35 u36 u37 u38 u39 u40 u41 u42 u43 u44 u45 u46 u47 u48 u49 u50 u51 u52 u53 u54 u55 u56 u57 u58 u59 u60 u61 u62 u63 u64 u65 u66 : Value) (dd : List Deferred) (Ds : List Nat) (x bx : Nat), act = { tmps := ((Value.int .i64 p) :: (Value.slice (some ⟨b0, off0, none⟩) l.length c) :: (Value.int .i64 n) :: (Value.pointer (some ⟨B0, 0, none⟩)) :: undef :: undef :: (Value.slice none 0 0) :: (Value.nilIface) :: u8 :: u9 :: u10 :: u11 :: u12 :: u13 :: u14 :: u15 :: u16 :: u17 :: u18 :: u19 :: u20 :: u21 :: u22 :: u23 :: u24 :: u25 :: u26 :: u27 :: u28 :: u29 :: u30 :: u31 :: u32 :: u33 :: u34 :: u35 :: u36 :: u37 :: u38 :: u39 :: u40 :: u41 :: u42 :: u43 :: u44 :: u45 :: u46 :: u47 :: u48 :: u49 :: u50 :: u51 :: u52 :: u53 :: u54 :: u55 :: u56 :: u57 :: u58 :: u59 :: u60 :: u61 :: u62 :: u63 :: u64 :: u65 :: u66 :: []).toArray, defers := dd } ∧ dd = Ds.map markOf ∧ 1 ≤ x ∧ (x : Int) ≤ n + 1 ∧ u9 = .pointer (some ⟨bx, 0, none⟩) ∧ W.cell? ⟨bx, 0, none⟩ = some (.int .i64 x) ∧ W.frozen? ⟨bx, 0, none⟩ = false ∧ w2.heap.size ≤ bx ∧ Below w2.heap.size w2 W ∧
      (Ds.Nodup ∧ ∀ D, D ∈ Ds → w2.heap.size ≤ D ∧ W.heap[D]? = some (.deferred (some []))) ∧ u8.ownBlock ≠ some bx ∧ W.ownsRow w2.heap.size 3 1 u8 (x - 1) (intCells ((List.range (x - 1)).map fun y => horner p ((y + 1 : Nat) : Int) l))
/-- the number in a box -/
def boxInt (W : World) (v : Value) : Int := match v with | .pointer (some ad) => (match W.cell? ad with | some (.int _ n) => n | _ => 0) | _ => 0
set_option maxRecDepth 100000 in
set_option maxHeartbeats 4000000 in
theorem share_ok (A : Option Addr) (l : List Int) (c : Nat) (p n : Int) (w : World) (a : Nat → Addr) (hE : Env [2, 3] w a) (hA : Ints w A l) (he : shErr p l n = 0) :
    Calls Tryd.prog 35 #[.int .i64 p, .slice A l.length c, .int .i64 n] w fun e w' => RetShare p n l w e w' := by
  have hlen := hA.len
  have hf : fieldOf p = true := by
    cases h : fieldOf p
    · unfold shErr at he; rw [if_pos h] at he; cases he
    · rfl
  have hr : ¬ (n < 1 ∨ n > p - 1 ∨ n > 24 ∨ l.length = 0 ∨ 12 < l.length) := fun h => by
    unfold shErr at he; rw [if_neg (by rw [hf]; decide), if_pos h] at he; cases he
  have hin : inside l p 0 = true := by
    cases h : inside l p 0
    · unfold shErr at he; rw [if_neg (by rw [hf]; decide), if_neg hr, h] at he; cases he
    · rfl
  obtain ⟨p2, p997⟩ := fieldOf_range hf
  have hw0 : Below w.heap.size w (w.alloc (.cells #[.int .i64 p] 3)) := below_alloc' (Below.refl _ _) _
  have HW0 := hide hw0
  have HPX := hide (fun w' (hb : Below (w.alloc (.cells #[.int .i64 p] 3)).heap.size (w.alloc (.cells #[.int .i64 p] 3)) w') => show w'.cell? ⟨w.heap.size, 0, none⟩ = some (.int .i64 p) by
    rw [hb.cell (p := ⟨w.heap.size, 0, none⟩) (by simp)]; simp)
  obtain ⟨b0, off0, rfl, hb0, _⟩ := hA.at_ 0 (by omega)
  have hcA : ∀ j, j < l.length → w.cell? ⟨b0, off0 + j, none⟩ = some (.int .i64 (l.getD j 0)) := fun j hj => by
    obtain ⟨b1, off1, e, _, h⟩ := hA.at_ j hj
    injection e with e
    injection e with e1 e2 _
    subst e1 e2
    exact h
  have HCA := hide hcA
  clear hcA
  have HF := hide (fun w' => fieldC_ok p w')
  rw [hf] at HF
  have HEL := hide (fun w' (hb : Below (w.alloc (.cells #[.int .i64 p] 3)).heap.size (w.alloc (.cells #[.int .i64 p] 3)) w') => elements_any (some ⟨b0, off0, none⟩) l c p 0 w' (hA.below (below_trans hw0 hb)))
  rw [hin] at HEL
  have n1 : 1 ≤ n := by omega
  have n24 : n ≤ 24 := by omega
  have np : n ≤ p - 1 := by omega
  have l0 : 0 < (l.length : Int) := by omega
  have l12 : (l.length : Int) ≤ 12 := by omega
  clear hf he hr hw0
  refine callsIn_wide (n := 3) |>.1 ?_
  refine callsIn_of_wp_marks Tryd.func35 rfl trivial ?_ rfl
  refine wpIn_wide.2 ?_
  simp only [Tryd.ntmps35, List.size_toArray, List.length_cons, List.length_nil, Nat.reduceAdd, Nat.reduceSub, Array.replicate_succ, Array.replicate_zero, List.push_toArray, List.append_toArray, List.nil_append, List.cons_append]
  go_wp2_with (first
    | (go_at_call 63; refine Calls.mono (HF.out _) ?_; rintro e w1 ⟨rfl, hb1⟩; have y1 := HPX.out w1 hb1)
    | (go_at_call 64; refine Calls.mono (HEL.out w1 hb1) ?_; rintro e w2 ⟨rfl, hb2⟩; have hB2 := below_trans hb1 hb2; have y2 := HPX.out w2 hB2))
  have HW2 := hide (below_trans HW0.out hB2)
  refine wp_loop (ShRel p n l b0 off0 c w.heap.size w2)
    (fun act W => (n + 1 - boxInt W (act.tmps.getD 9 undef)).toNat) ?_ ?_
  · unfold ShRel
    (repeat apply Exists.intro)
    refine ⟨rfl, (rfl : _ = List.map markOf []), (by omega : 1 ≤ 1), by omega, rfl, by simp, by simp, Nat.le_refl _, below_alloc' (Below.refl _ _) _, ⟨List.nodup_nil, fun D h => absurd h (List.not_mem_nil)⟩, by simp [Value.ownBlock], nil_own _ _ _ _⟩
  · rintro act W ⟨u8, u9, u10, u11, u12, u13, u14, u15, u16, u17, u18, u19, u20, u21, u22, u23, u24, u25, u26, u27, u28, u29, u30, u31, u32, u33, u34, u35, u36, u37, u38, u39, u40, u41, u42, u43, u44, u45, u46, u47, u48, u49, u50, u51, u52, u53, u54, u55, u56, u57, u58, u59, u60, u61, u62, u63, u64, u65, u66, dd, Ds, x, bx, rfl, rfl, x1, xn, rfl, hx, hfx, hbx, hBW, hDs, hne8, hown⟩
    have HDS := hide hDs
    obtain ⟨A8, c8, rfl, hc8, _⟩ := own_shape hown
    have HO8 := hide hown
    have HNE := hide (show some bx ≠ (Value.slice A8 (x - 1) c8).ownBlock from fun e => hne8 e.symm)
    have HC8 := hide hc8
    clear hDs hown hne8 hc8
    have yW := HPX.out W (below_trans hB2 hBW)
    by_cases hxn : (x : Int) ≤ n
    · have HACC := hide (accW_all p x ⟨p2, p997⟩ ⟨by omega, by omega⟩ l hin)
      go_wp2_with (go_at_call 65; refine Calls.mono (callsIn_wide (n := 3) |>.1 (back_in Fence.wide 3 trivial rfl (some ⟨b0, off0, none⟩) l.length c _)) ?_; rintro e w4 ⟨rfl, rfl⟩)
      have hWB : Below w.heap.size w W := below_trans HW2.out hBW
      have hbW : b0 < W.heap.size := Nat.lt_of_lt_of_le hb0 hWB.size
      have hcW := fun j hj => (hWB.cell (p := ⟨b0, off0 + j, none⟩) hb0).trans (HCA.out j hj)
      refine wpIn_wide (n := 3) |>.1 ?_
      refine wpIn_rangeFunc_ownF (F := Fence.wide) (n := 3) rfl (by decide) (gf := 83) (lb := #[.pointer (some ⟨W.heap.size + 1, 0, none⟩)]) (by rfl) trivial (enters_of Tryd.func83 (by kernel_rfl) rfl)
        (back_stops Fence.wide 2 trivial rfl (by decide) (W.heap.size + 1) W.heap.size b0 c off0 l hlen _ (by simp) (by simp; omega) (by simp) hbW (fun j hj => by rw [World.cell?_alloc_lt _ _ _ (by simp; omega), World.cell?_alloc_lt _ _ _ hbW]; exact hcW j hj))
        (fun h k => KpB.trans h k) ?hKb (Below.refl _ _) (fun _ => rfl)
        (fun pre V => (V.cell? ⟨W.heap.size, 0, none⟩ = some (.int .i64 (accW p x pre)) ∧ V.frozen? ⟨W.heap.size, 0, none⟩ = false) ∧ Below W.heap.size W V) (fun _ _ _ => False) ?hI ?hIx ?h0
        (fun q => { tmps := ((Value.int .i64 p) :: (Value.slice (some ⟨b0, off0, none⟩) l.length c) :: (Value.int .i64 n) :: (Value.pointer (some ⟨w.heap.size, 0, none⟩)) :: undef :: undef :: (Value.slice none 0 0) :: (Value.nilIface) :: (Value.slice A8 (x - 1) c8) :: (Value.pointer (some ⟨bx, 0, none⟩)) :: (Value.pointer (some ⟨W.heap.size, 0, none⟩)) :: u11 :: (Value.int .i64 q.2) :: u13 :: u14 :: u15 :: u16 :: u17 :: u18 :: u19 :: u20 :: u21 :: u22 :: u23 :: u24 :: u25 :: u26 :: u27 :: u28 :: u29 :: u30 :: u31 :: u32 :: u33 :: u34 :: u35 :: u36 :: u37 :: u38 :: u39 :: u40 :: u41 :: u42 :: u43 :: u44 :: (Value.int .i64 x) :: (Value.int .i64 n) :: (Value.bool true) :: u48 :: u49 :: (Value.slice (some ⟨b0, off0, none⟩) l.length c) :: (Value.func (.func 83) #[] #[.pointer (some ⟨W.heap.size + 1, 0, none⟩)]) :: (Value.int .i64 q.1) :: (Value.int .i64 q.2) :: u54 :: u55 :: u56 :: u57 :: u58 :: u59 :: u60 :: u61 :: u62 :: u63 :: u64 :: u65 :: u66 :: []).toArray, defers := [] }) ?assign ?body ?done ?stop
      case hKb =>
        intro V r o o' hr h1 h2 h3
        exact ⟨belowK_b (w := W) (Nat.le_refl _) V r o o' (by simp at hr; omega) h1 h2 h3, fun v hv => cell_kept hv (grownBy_putObj' V r o') (fun r' e => by cases e; exact ⟨_, h1, h2⟩)⟩
      case hI => exact OwnFrom.and (Own.from (fun s A B row hs hg hr => ⟨cell_kept hs.1 hg hr, (frozen_kept hs.1 hg hr).trans hs.2⟩) _) (ownFrom_below (Nat.le_refl _) (by simp; omega))
      case hIx => exact fun _ _ _ _ _ hs _ _ => hs.elim
      case h0 => exact ⟨⟨by simp [accW], by simp⟩, below_alloc' (below_alloc' (Below.refl _ _) _) _⟩
      case assign =>
        intro r q V K hK
        gi_wp2
        exact hK
      case stop =>
        rintro D c pre V _ _ h _
        exact h.elim
      case body =>
        rintro r pre q V ⟨⟨hy, hfy⟩, hWV⟩ _
        have yV := HPX.out V (below_trans (below_trans hB2 hBW) hWV)
        have hxl := World.block_lt_of_cell? W _ hx
        have hxV := (hWV.cell (p := ⟨bx, 0, none⟩) hxl).trans hx
        have pne : p ≠ 0 := by omega
        have hac := accW_snoc p x pre q
        have HAC := hide hac
        clear hac
        gi_wp2
        refine ⟨KeepsOthers.setCell _ _ _, ⟨(Below.refl W.heap.size V).setCell (p := ⟨W.heap.size, 0, none⟩) (Nat.le_refl _) _, fun v hv => (World.cell?_setCell_other _ _ _ _ (by simp)).trans hv⟩, ⟨?_, ?_⟩, hWV.setCell (p := ⟨W.heap.size, 0, none⟩) (Nat.le_refl _) _⟩
        · rw [HAC.out]; exact World.cell?_setCell_same' _ _ _ (by rw [hy]; rfl)
        · rw [World.frozen?_setCell]; exact hfy
      case done =>
        rintro D ys V hD rfl ⟨⟨hy, hfy⟩, hWV⟩ hK
        have hxl := World.block_lt_of_cell? W _ hx
        have hxV := (hWV.cell (p := ⟨bx, 0, none⟩) hxl).trans hx
        have hyl := World.block_lt_of_cell? V _ hy
        simp only [] at hyl
        have HOA := hide (HO8.out.kept (grown_of_below hWV) (by cases (Value.slice A8 (x - 1) c8).ownBlock <;> simp))
        rw [HACC.out] at hy
        generalize hyy : horner p x l = yy at hy
        have HY := hide hyy
        have HK := hide hK
        clear hyy hK
        have HXA := hide (show (V.alloc (.cells #[.int .i64 yy] 3)).cell? ⟨bx, 0, none⟩ = some (.int .i64 x) from (World.cell?_alloc_lt _ _ _ (World.block_lt_of_cell? V _ hxV)).trans hxV)
        have hszV : w2.heap.size ≤ V.heap.size + 1 := Nat.le_succ_of_le (Nat.le_trans hBW.size hWV.size)
        have HSZ := hide (show w2.heap.size ≤ (V.alloc (.cells #[.int .i64 yy] 3)).heap.size by simp; omega)
        have HC3 := hide (show (((List.range (x - 1)).map fun y => horner p ((y + 1 : Nat) : Int) l).length + 1) * 8 ≤ 140737488355328 by simp only [List.length_map, List.length_range]; omega)
        go_wp2_with (at_builtin; refine wp_app_ints _ rfl (.tmp 61) (.tmp 63) rfl w2.heap.size (.slice A8 (x - 1) c8) _ rfl (own_list (HOA.out.alloc _)) _ 1 1 [yy] rfl rfl (ints_one (b := V.heap.size) (by simp) (by simp)) HC3.out HSZ.out ?_; intro A' c' w5 hc5 ho5 hg5 hob5; have hx5 := hg5.cell HXA.out HNE.out)
        have e0 : ((List.range (x - 1)).map fun y => horner p ((y + 1 : Nat) : Int) l) ++ [yy] = (List.range x).map fun y => horner p ((y + 1 : Nat) : Int) l := by
          obtain ⟨m, rfl⟩ : ∃ m, x = m + 1 := ⟨x - 1, by omega⟩
          rw [← HY.out, List.range_succ, List.map_append, Nat.add_sub_cancel]
          rfl
        have hlx : ((List.range x).map fun y => horner p ((y + 1 : Nat) : Int) l).length = x := by simp
        rw [e0, hlx] at ho5
        have b1 : Below w2.heap.size w2 V := hBW.trans (hWV.mono hBW.size)
        have b2 := b1.alloc b1.size (.cells #[.int .i64 yy] 3)
        have b3 := b2.grown hg5 b2.size (fun k hk => (HOA.out.lt k hk).1)
        have kk : KeepsOthers V (w5.alloc (.cells #[.int .i64 ((x : Int) + 1)] 3)) := ((KeepsOthers.alloc _ _).trans (KeepsOthers.of_grownBy hg5 (own_isCells (HOA.out.alloc _)))).trans (KeepsOthers.alloc _ _)
        refine ⟨?_, ?_⟩
        · unfold ShRel
          (repeat apply Exists.intro)
          refine ⟨rfl, (rfl : _ = List.map markOf (D :: Ds)), (by omega : 1 ≤ x + 1), by push_cast; omega, rfl, by simp, by simp, b3.size, b3.alloc b3.size _, ⟨List.nodup_cons.2 ⟨fun hm => ?_, HDS.out.1⟩, fun D' hD' => ?_⟩, fun e => absurd (ho5.lt _ e).2 (Nat.lt_irrefl _), ?_⟩
          · have h1 := (Array.getElem?_eq_some_iff.1 (HDS.out.2 D hm).2).1
            simp at hD
            omega
          · rcases List.mem_cons.1 hD' with rfl | hm
            · exact ⟨by simp at hD; have := hBW.size; omega, kk.same _ _ HK.out rfl⟩
            · have h1 := (HDS.out.2 D' hm).2
              exact ⟨(HDS.out.2 D' hm).1, kk.same _ _ ((hWV.block D' (Array.getElem?_eq_some_iff.1 h1).1).trans h1) rfl⟩
          · have h1 := ho5.alloc (.cells #[.int .i64 ((x : Int) + 1)] 3)
            simpa [Nat.sub_add_cancel x1] using h1
        · have e1 : boxInt W (.pointer (some ⟨bx, 0, none⟩)) = x := by simp only [boxInt, hx]
          have e2 : boxInt (w5.alloc (.cells #[.int .i64 ((x : Int) + 1)] 3)) (.pointer (some ⟨w5.heap.size, 0, none⟩)) = (x : Int) + 1 := by
            have h1 : (w5.alloc (.cells #[.int .i64 ((x : Int) + 1)] 3)).cell? ⟨w5.heap.size, 0, none⟩ = some (.int .i64 ((x : Int) + 1)) := by simp
            simp only [boxInt, h1]
          rw [e1, e2]
          omega
    · have hx1 : x - 1 = n.toNat := by omega
      have ho := HO8.out
      rw [hx1] at ho
      have hc8 := HC8.out
      rw [hx1] at hc8
      have hI : Ints W A8 ((List.range n.toNat).map fun y => horner p ((y + 1 : Nat) : Int) l) := Ints.own (c := c8) (e := 3) (base := w2.heap.size) (by simpa using ho)
      have HI := hide hI
      have HC := hide hc8
      clear hI ho hc8 HO8
      go_wp2_with (fail)
      exact leaves_marks w2 Ds W HDS.out.1 HDS.out.2 (fun w' hm => ⟨_, results_tmp2 rfl _ _ _, A8, c8, rfl, HI.out.marked hm, HC.out, below_trans HW2.out (Below.trans hBW hm.1)⟩)
end Go.Proofs.YtieeefgkdfijdaaDoor

/- The walk of secret.Valid. No condition. -/
namespace Go.Proofs.YtieeefgkdfijdaaDoor
open Go.RowKit Go.Deep

theorem errC_pos (a : Nat → Addr) (c : Int) (h : c ≠ 0) : errC a c = .iface 161 (.pointer (some (a c.toNat))) := by unfold errC; rw [if_neg h]; rfl

theorem alloc_block (w : World) (o : Obj) : (w.alloc o).heap[w.heap.size]? = some o := by
  show (w.heap.push o)[w.heap.size]? = some o
  rw [Array.getElem?_push_size]
theorem seen_new (w : World) : (w.alloc (.cells #[.bool false, .bool false, .bool false, .bool false, .bool false, .bool false, .bool false, .bool false, .bool false, .bool false, .bool false, .bool false, .bool false, .bool false, .bool false, .bool false] 87)).rowIs w.heap.size 87 16 (fun _ => .bool false) := by
  refine ⟨_, alloc_block _ _, rfl, fun i hi => ?_⟩
  have h : ∀ i : Fin 16, (#[.bool false, .bool false, .bool false, .bool false, .bool false, .bool false, .bool false, .bool false, .bool false, .bool false, .bool false, .bool false, .bool false, .bool false, .bool false, .bool false] : Array Value)[i.1]? = some (.bool false) := by
    intro i
    match i with
    | ⟨0, _⟩ | ⟨1, _⟩ | ⟨2, _⟩ | ⟨3, _⟩ | ⟨4, _⟩ | ⟨5, _⟩ | ⟨6, _⟩ | ⟨7, _⟩ | ⟨8, _⟩ | ⟨9, _⟩ | ⟨10, _⟩ | ⟨11, _⟩ | ⟨12, _⟩ | ⟨13, _⟩ | ⟨14, _⟩ | ⟨15, _⟩ => rfl
    | ⟨n + 16, h⟩ => exact absurd h (by omega)
  exact h ⟨i, hi⟩
theorem seen_step (r : List Int) (j : Nat) (hj : j < r.length) (s : Int) : (r.take (j + 1)).contains s = ((r.take j).contains s || decide (s = r.getD j 0)) := by
  rw [take_at r j hj]
  simp [List.contains_eq_mem, List.mem_append]

set_option maxRecDepth 100000 in
set_option maxHeartbeats 4000000 in
theorem secValid_any (Ka La : Option Addr) (K : List Int) (L : List (List Int)) (kc lc : Nat) (w : World) (a : Nat → Addr) (hE : Env [2, 3] w a) (hK : Ints w Ka K) (hL : Lists w La L) :
    Calls Tryd.prog 25 #[.agg #[.slice Ka K.length kc, .slice La L.length lc]] w fun e w' => e = .returned (errC a (ccode K L)) ∧ Below w.heap.size w w' := by
  have hKl := hK.len
  have hLl := hL.len
  have x3 : w.cell? ⟨1, 0, none⟩ = some (.iface 161 (.pointer (some (a 3)))) := hE.cell 3 (by simp)
  have hg3 : 1 < w.heap.size := hE.lt (c := 3) (by simp)
  have HWE := hide (distValid_any Ka K kc (w.alloc (.cells #[.slice Ka K.length kc, .slice La L.length lc] 46)) a (hE.below (below_alloc' (Below.refl _ _) _)) (hK.below (below_alloc' (Below.refl _ _) _)))
  by_cases hk0 : wErr K = 0
  · rw [hk0, errC_zero] at HWE
    by_cases hll : L.length = K.length
    · have hll' : K.length = L.length := hll.symm
      rw [hll'] at HWE ⊢
      have HLL := hide hll
      clear hll hll'
      go_enter Tryd.func25, Tryd.ntmps25
      go_wp2_with (go_at_call 56; refine Calls.mono HWE.out ?_; rintro e w1 ⟨rfl, hb1⟩; obtain ⟨k1, k2⟩ := below_cells hb1; have hz1 : w.heap.size < w1.heap.size := by (have := hb1.size; simp at this; omega)
                   have y0 : w1.cell? ⟨w.heap.size, 0, none⟩ = some (.slice Ka L.length kc) := by rw [k1 _ _ (by simp)]; simp
                   have y1 : w1.cell? ⟨w.heap.size, 1, none⟩ = some (.slice La L.length lc) := by rw [k1 _ _ (by simp)]; simp
                   have y3 : w1.cell? ⟨1, 0, none⟩ = some (.iface 161 (.pointer (some (a 3)))) := by rw [k1 _ _ (by simp; omega)]; exact (World.cell?_alloc_lt _ _ ⟨1, 0, none⟩ hg3).trans x3
                   clear k1 k2)
      have hB1 : Below w.heap.size w w1 := below_trans (below_alloc' (Below.refl _ _) _) hb1
      go_loopw [26] (fun i wr => ∃ k : Nat, k ≤ L.length ∧ i = .int .i64 k ∧ Hid (RowsOk L k) ∧ Below w1.heap.size w1 wr) (fun i _ => L.length - (intOf i).toNat)
      case atStart => exact ⟨0, Nat.zero_le _, rfl, hide (RowsOk.zero L), Below.refl _ _⟩
      case round =>
        obtain ⟨i, hi, rfl, HR, hBi⟩ := hrel
        obtain ⟨wi, rfl⟩ : ∃ wi : World, wi = wr := ⟨_, rfl⟩
        have z1 : wi.cell? ⟨w.heap.size, 1, none⟩ = some (.slice La L.length lc) := (hBi.cell (p := ⟨w.heap.size, 1, none⟩) hz1).trans y1
        have z3 : wi.cell? ⟨1, 0, none⟩ = some (.iface 161 (.pointer (some (a 3)))) := (hBi.cell (p := ⟨1, 0, none⟩) (by show 1 < _; omega)).trans y3
        have hz2 : w.heap.size < wi.heap.size := Nat.lt_of_lt_of_le hz1 hBi.size
        have hz3 : 1 < wi.heap.size := by omega
        by_cases hil : i < L.length
        · have hLi := hL.below (below_trans hB1 hBi)
          obtain ⟨b, off, A', c', rfl, hb, d1, hle, hI⟩ := hLi.at_ i hil
          obtain ⟨b0, off0, A0, c0, e0, _, d0, _, _⟩ := hLi.at_ 0 (by omega)
          injection e0 with e0
          injection e0 with e1 e2 _
          subst e1 e2
          have d0' : wi.cell? ⟨b, off, none⟩ = some (.slice A0 (L.getD 0 []).length c0) := d0
          have hbad := fun h => ccode_bad hk0 HLL.out hil h
          have hnext := fun h => HR.out.succ (i := i) h
          clear d0 hLi
          generalize L.getD i [] = r at d1 hle hI hbad hnext
          generalize (L.getD 0 []).length = n at d0' hbad hnext
          have HBAD := hide hbad
          have HNEXT := hide hnext
          clear hbad hnext
          have i0 : (0 : Int) ≤ (i : Int) := Int.natCast_nonneg _
          have i1 : (i : Int) < (L.length : Int) := by omega
          have i2 : (0 : Int) < (L.length : Int) := by omega
          have hBw := below_trans hB1 hBi
          by_cases h0 : r.length = 0
          · have hb0 := badRow_of (n := n) (.inl h0)
            have q0 : ((r.length : Int) == 0) = true := by rw [h0]; rfl
            go_wp2_with (fail)
            go_ret
            exact ⟨by rw [HBAD.out hb0]; rfl, below_alloc' hBw _⟩
          · have q0 : ((r.length : Int) == 0) = false := by rw [beq_eq_false_iff_ne]; omega
            by_cases h1 : 16 < r.length
            · have q1 : decide (16 < (r.length : Int)) = true := decide_eq_true (by omega)
              have hb0 := badRow_of (n := n) (.inr (.inl h1))
              go_wp2_with (fail)
              go_ret
              exact ⟨by rw [HBAD.out hb0]; rfl, below_alloc' hBw _⟩
            · have q1 : decide (16 < (r.length : Int)) = false := decide_eq_false (by omega)
              by_cases h2 : r.length ≠ n
              · have hb0 := badRow_of (n := n) (.inr (.inr h2))
                have h2' : ((r.length : Int) == (n : Int)) = false := by simpa using fun h => h2 (by omega)
                have h2'' : ((r.length : Int) != (n : Int)) = true := by simpa using fun h => h2 (by omega)
                go_wp2_with (fail)
                go_ret
                exact ⟨by rw [HBAD.out hb0]; rfl, below_alloc' hBw _⟩
              · have h2' : n = r.length := by omega
                subst h2'
                have h2'' : ((r.length : Int) != (r.length : Int)) = false := by simp
                go_wp2_with (fail)
                have hlen16 : r.length ≤ 16 := by omega
                have hrow0 := seen_new wi
                have hBs : Below wi.heap.size wi (wi.alloc (.cells #[.bool false, .bool false, .bool false, .bool false, .bool false, .bool false, .bool false, .bool false, .bool false, .bool false, .bool false, .bool false, .bool false, .bool false, .bool false, .bool false] 87)) := below_alloc' (Below.refl _ _) _
                generalize wi.alloc (.cells #[.bool false, .bool false, .bool false, .bool false, .bool false, .bool false, .bool false, .bool false, .bool false, .bool false, .bool false, .bool false, .bool false, .bool false, .bool false, .bool false] 87) = ws at hrow0 hBs ⊢
                have HI := hide hI
                clear hI
                go_loopw [51] (fun v wr => ∃ j : Nat, j ≤ r.length ∧ v = .int .i64 j ∧ Hid (SignsOk r j) ∧ Below wi.heap.size wi wr ∧ wr.rowIs wi.heap.size 87 16 (fun s => .bool ((r.take j).contains (s : Int)))) (fun v _ => r.length - (intOf v).toNat)
                case atStart => exact ⟨0, Nat.zero_le _, rfl, hide (SignsOk.zero r), hBs, hrow0.congr fun s _ => by simp⟩
                case round =>
                  obtain ⟨j, hj, rfl, HSG, hBj, hrow⟩ := hrel
                  obtain ⟨wj, rfl⟩ : ∃ wj : World, wj = wr := ⟨_, rfl⟩
                  have g3 : wj.cell? ⟨1, 0, none⟩ = some (.iface 161 (.pointer (some (a 3)))) := (hBj.cell (p := ⟨1, 0, none⟩) hz3).trans z3
                  have hlt := hrow.lt
                  have j0 : (0 : Int) ≤ (j : Int) := Int.natCast_nonneg _
                  by_cases hjl : j < r.length
                  · obtain ⟨b', off', rfl, _, dj⟩ := (HI.out.below hBj).at_ j hjl
                    have j1 : (j : Int) < (r.length : Int) := by omega
                    have hsg : ∀ x, x = badSign r j → x = ((r.take j).contains (r.getD j 0) || decide (r.getD j 0 < 0) || decide (15 < r.getD j 0)) := fun x h => h
                    have hbs := fun h => badRow_sign (n := r.length) hjl h
                    have hns := fun h => HSG.out.succ (k := j) h
                    have hst := seen_step r j hjl
                    generalize r.getD j 0 = x at dj hsg hst
                    have HSB := hide hsg
                    have HBS := hide hbs
                    have HNS := hide hns
                    have HST := hide hst
                    clear hsg hbs hns hst
                    by_cases x0 : x < 0
                    · go_wp2_with (fail)
                      go_ret
                      exact ⟨by rw [HBAD.out (HBS.out (by rw [HSB.out _ rfl, decide_eq_true x0]; simp))]; rfl, hBw.trans (hBj.mono (by omega))⟩
                    · by_cases x15 : 15 < x
                      · have x16 : 16 ≤ x := by omega
                        go_wp2_with (fail)
                        go_ret
                        exact ⟨by rw [HBAD.out (HBS.out (by rw [HSB.out _ rfl, decide_eq_true x15]; simp))]; rfl, hBw.trans (hBj.mono (by omega))⟩
                      · obtain ⟨x, rfl⟩ := Int.eq_ofNat_of_zero_le (show 0 ≤ x by omega)
                        have x16 : x < 16 := by omega
                        have s1 : wj.cell? ⟨wi.heap.size, x, none⟩ = some (.bool ((r.take j).contains (x : Int))) := hrow.cell x16
                        have s2 : wj.frozen? ⟨wi.heap.size, x, none⟩ = false := hrow.frozen x
                        have s3 : (x : Int) < 16 := by omega
                        have s4 : ¬ (16 ≤ (x : Int)) := by omega
                        have hset := hrow.set x (.bool true)
                        have HSET := hide hset
                        clear hset
                        by_cases hc : (r.take j).contains (x : Int) = true
                        · rw [hc] at s1
                          go_wp2_with (fail)
                          go_ret
                          exact ⟨by rw [HBAD.out (HBS.out (by rw [HSB.out _ rfl, hc]; simp))]; rfl, hBw.trans (hBj.mono (by omega))⟩
                        · have hc' : (r.take j).contains (x : Int) = false := by simpa using hc
                          rw [hc'] at s1
                          have HC := hide hc'
                          clear hc hc'
                          go_wp2_with (fail)
                          go_roundw
                          case rel => exact ⟨j + 1, by omega, by go_num, hide (HNS.out (by rw [HSB.out _ rfl, HC.out, decide_eq_false x0, decide_eq_false x15]; rfl)), hBj.setCell (p := ⟨wi.heap.size, x, none⟩) (Nat.le_refl _) _, HSET.out.congr fun s _ => by
                            rw [HST.out]
                            by_cases e : s = x
                            · subst e; simp
                            · rw [if_neg e, decide_eq_false (by omega), Bool.or_false]⟩
                          case measure => simp [intOf]; omega
                  · obtain rfl : j = r.length := by omega
                    have hgood := badRow_good (n := r.length) h0 hlen16 rfl HSG.out
                    have HG := hide hgood
                    clear hgood
                    go_wp2_with (fail)
                    go_roundw
                    case rel => exact ⟨i + 1, by omega, by go_num, hide (HNEXT.out HG.out), hBi.trans (hBj.mono hBi.size)⟩
                    case measure => simp [intOf]; omega
        · obtain rfl : i = L.length := by omega
          go_wp2_with (fail)
          go_ret
          exact ⟨by rw [ccode_good hk0 HLL.out HR.out]; rfl, below_trans hB1 hBi⟩
    · rw [ccode_len hk0 hll]
      go_enter Tryd.func25, Tryd.ntmps25
      go_wp2_with (go_at_call 56; refine Calls.mono HWE.out ?_; rintro e w1 ⟨rfl, hb1⟩; obtain ⟨k1, k2⟩ := below_cells hb1; have hz1 : w.heap.size < w1.heap.size := by (have := hb1.size; simp at this; omega)
                   have y0 : w1.cell? ⟨w.heap.size, 0, none⟩ = some (.slice Ka K.length kc) := by rw [k1 _ _ (by simp)]; simp
                   have y1 : w1.cell? ⟨w.heap.size, 1, none⟩ = some (.slice La L.length lc) := by rw [k1 _ _ (by simp)]; simp
                   have y3 : w1.cell? ⟨1, 0, none⟩ = some (.iface 161 (.pointer (some (a 3)))) := by rw [k1 _ _ (by simp; omega)]; exact (World.cell?_alloc_lt _ _ ⟨1, 0, none⟩ hg3).trans x3
                   clear k1 k2)
      go_ret
      exact ⟨rfl, below_trans (below_alloc' (Below.refl _ _) _) hb1⟩
  · rw [ccode_keys hk0]
    rw [errC_pos a _ hk0] at HWE ⊢
    generalize a (wErr K).toNat = a0 at HWE ⊢
    clear hk0
    go_enter Tryd.func25, Tryd.ntmps25
    go_wp2_with (go_at_call 56; refine Calls.mono HWE.out ?_; rintro e w1 ⟨rfl, hb1⟩)
    go_ret
    exact ⟨rfl, below_trans (below_alloc' (Below.refl _ _) _) hb1⟩
end Go.Proofs.YtieeefgkdfijdaaDoor

/- Tables of whole numbers in memory: a row of rows, made block after block; make([][]int, n). No condition. -/
namespace Go.Proofs.YtieeefgkdfijdaaDoor
open Go.RowKit Go.Deep

theorem list_info : (Tryd.prog.info? 33).map (fun i => (i.zero, i.size, i.bytes)) = some (some (.slice none 0 0), 1, 24) := by kernel_rfl
/-- make([][]int, n) -/
theorem wp_make_lists (w : World) {ops : Array Oper} {rest : List Oper} {o : Oper} {a : Act} {Q : Exit → Act → World → Prop}
    (hg : o.guard = none) (l c : Operand) (hop : o.op = Op.makeSlice 37 l c) (kl kc : IntKind) (n : Nat) (hl : a.eval l = .int kl (n : Int)) (hc : a.eval c = .int kc (n : Int)) (hn : n ≤ 1000000)
    (hK : ∀ w', w'.rowIs w.heap.size 33 n (fun _ => .slice none 0 0) → Below w.heap.size w w' → Hid (w'.heap.size = w.heap.size + 1) → wpList Tryd.prog ops Q rest (a.put o.dst (.slice (some ⟨w.heap.size, 0, none⟩) n n)) w') :
    wpList Tryd.prog ops Q (o :: rest) a w := by
  obtain ⟨i0, hi0, hz0, hz1, hz2⟩ := info_parts list_info
  refine wpList_make_row w hg l c _ hop 33 i0 _ Tryd.underlying37 hi0 hz0 hz1 rfl kl kc n hl hc (by rw [hz2]; omega) (by omega) ?_
  exact hK _ (World.rowIs_made w _ n _) ((Below.refl _ _).alloc (Nat.le_refl _) _) (hide (by simp))
/-- make([]int, n), with the heap's size behind it -/
theorem wp_make_ints' (w : World) {ops : Array Oper} {rest : List Oper} {o : Oper} {a : Act} {Q : Exit → Act → World → Prop}
    (hg : o.guard = none) (l c : Operand) (hop : o.op = Op.makeSlice 33 l c) (kl kc : IntKind) (n : Nat) (hl : a.eval l = .int kl (n : Int)) (hc : a.eval c = .int kc (n : Int)) (hn : n ≤ 1000000)
    (hK : ∀ w', w'.rowIs w.heap.size 3 n (fun _ => .int .i64 0) → Below w.heap.size w w' → Hid (w'.heap.size = w.heap.size + 1) → wpList Tryd.prog ops Q rest (a.put o.dst (.slice (some ⟨w.heap.size, 0, none⟩) n n)) w') :
    wpList Tryd.prog ops Q (o :: rest) a w := by
  obtain ⟨i0, hi0, hz0, hz1, hz2⟩ := info_parts int_info
  refine wpList_make_row w hg l c _ hop 3 i0 _ Tryd.underlying33 hi0 hz0 hz1 rfl kl kc n hl hc (by rw [hz2]; omega) (by omega) ?_
  exact hK _ (World.rowIs_made w _ n _) ((Below.refl _ _).alloc (Nat.le_refl _) _) (hide (by simp))

/-- a slice over a whole block of c whole numbers -/
def sl (b c : Nat) : Value := .slice (some ⟨b, 0, none⟩) c c
/-- the first k rows of a table of M rows of c whole numbers: the outer block is B, row j lies in block B + 1 + j -/
structure TabTo (w : World) (B M c k : Nat) (f : Nat → Nat → Int) : Prop where
  outer : w.rowIs B 33 M (fun j => if j < k then .slice (some ⟨B + 1 + j, 0, none⟩) c c else .slice none 0 0)
  inner : ∀ j, j < k → w.rowIs (B + 1 + j) 3 c (fun i => .int .i64 (f j i))
  size : w.heap.size = B + 1 + k
/-- a whole table -/
structure Tab (w : World) (B M c : Nat) (f : Nat → Nat → Int) : Prop where
  outer : w.rowIs B 33 M (fun j => .slice (some ⟨B + 1 + j, 0, none⟩) c c)
  inner : ∀ j, j < M → w.rowIs (B + 1 + j) 3 c (fun i => .int .i64 (f j i))
theorem TabTo.zero {w : World} {B M c : Nat} {f : Nat → Nat → Int} (h : w.rowIs B 33 M (fun _ => .slice none 0 0)) (hs : w.heap.size = B + 1) : TabTo w B M c 0 f :=
  ⟨h.congr (fun j _ => by simp), fun j hj => absurd hj (by omega), hs⟩
/-- one row more: it lies in a new block, its slice is stored -/
theorem TabTo.succ {w w1 : World} {B M c k : Nat} {f : Nat → Nat → Int} (h : TabTo w B M c k f) (hk : k < M) (hb : Below w.heap.size w w1) (hr : w1.rowIs (B + 1 + k) 3 c (fun i => .int .i64 (f k i))) (hs : w1.heap.size = w.heap.size + 1) :
    TabTo (w1.setCell ⟨B, k, none⟩ (.slice (some ⟨B + 1 + k, 0, none⟩) c c)) B M c (k + 1) f := by
  have hB : B < w.heap.size := by rw [h.size]; omega
  refine ⟨((h.outer.of_block (hb.block B hB)).set k _).congr fun j hj => ?_, fun j hj => ?_, by simp [World.setCell]; rw [hs, h.size]; omega⟩
  · by_cases e : j = k
    · subst e; simp
    · rw [if_neg e]
      by_cases h1 : j < k
      · rw [if_pos h1, if_pos (by omega)]
      · rw [if_neg h1, if_neg (by omega)]
  · by_cases e : j = k
    · subst e; exact hr.setOther (by show B + 1 + j ≠ B; omega) _
    · exact ((h.inner j (by omega)).of_block (hb.block _ (by rw [h.size]; omega))).setOther (by show B + 1 + j ≠ B; omega) _
theorem TabTo.whole {w : World} {B M c : Nat} {f : Nat → Nat → Int} (h : TabTo w B M c M f) : Tab w B M c f :=
  ⟨h.outer.congr fun j hj => by rw [if_pos hj], h.inner⟩
theorem Tab.below {w w1 : World} {B M c : Nat} {f : Nat → Nat → Int} {C : Nat} (h : Tab w B M c f) (hb : Below C w w1) (hC : B + M < C) : Tab w1 B M c f :=
  ⟨h.outer.of_block (hb.block B (by omega)), fun j hj => (h.inner j hj).of_block (hb.block _ (by omega))⟩
theorem Tab.lt {w : World} {B M c : Nat} {f : Nat → Nat → Int} (h : Tab w B M c f) : B + M < w.heap.size := by
  rcases Nat.eq_zero_or_pos M with e | e
  · subst e; have := h.outer.lt; omega
  · have := (h.inner (M - 1) (by omega)).lt; omega
theorem Tab.congr {w : World} {B M c : Nat} {f g : Nat → Nat → Int} (h : Tab w B M c f) (e : ∀ j, j < M → ∀ i, i < c → f j i = g j i) : Tab w B M c g :=
  ⟨h.outer, fun j hj => (h.inner j hj).congr fun i hi => by rw [e j hj i hi]⟩
/-- a number of the table is written -/
theorem Tab.set {w : World} {B M c : Nat} {f : Nat → Nat → Int} (h : Tab w B M c f) (j i : Nat) (hj : j < M) (v : Int) :
    Tab (w.setCell ⟨B + 1 + j, i, none⟩ (.int .i64 v)) B M c (fun x y => if x = j ∧ y = i then v else f x y) := by
  refine ⟨h.outer.setOther (by show B ≠ B + 1 + j; omega) _, fun x hx => ?_⟩
  by_cases e : x = j
  · subst e
    refine ((h.inner x hx).set i _).congr fun y hy => ?_
    by_cases e2 : y = i
    · subst e2; simp
    · simp [e2]
  · refine ((h.inner x hx).setOther (by show B + 1 + x ≠ B + 1 + j; omega) _).congr fun y hy => ?_
    simp [e]
/-- a number in one of the rows so far is written -/
theorem TabTo.set {w : World} {B M c k : Nat} {f : Nat → Nat → Int} (h : TabTo w B M c k f) (j i : Nat) (hj : j < k) (v : Int) :
    TabTo (w.setCell ⟨B + 1 + j, i, none⟩ (.int .i64 v)) B M c k (fun x y => if x = j ∧ y = i then v else f x y) := by
  refine ⟨h.outer.setOther (by show B ≠ B + 1 + j; omega) _, fun x hx => ?_, by simp [World.setCell]; exact h.size⟩
  by_cases e : x = j
  · subst e
    refine ((h.inner x hx).set i _).congr fun y hy => ?_
    by_cases e2 : y = i
    · subst e2; simp
    · simp [e2]
  · refine ((h.inner x hx).setOther (by show B + 1 + x ≠ B + 1 + j; omega) _).congr fun y hy => ?_
    simp [e]
theorem TabTo.congr {w : World} {B M c k : Nat} {f g : Nat → Nat → Int} (h : TabTo w B M c k f) (e : ∀ j, j < k → ∀ i, i < c → f j i = g j i) : TabTo w B M c k g :=
  ⟨h.outer, fun j hj => (h.inner j hj).congr fun i hi => by rw [e j hj i hi], h.size⟩
/-- a table reads as the list of its rows -/
theorem Lists.ofTab {w : World} {B M c : Nat} {f : Nat → Nat → Int} (h : Tab w B M c f) (hM : M ≤ 9223372036854775807) (hc : c ≤ 9223372036854775807) : Lists w (some ⟨B, 0, none⟩) ((List.range M).map fun j => (List.range c).map fun i => f j i) :=
  ⟨by simpa using hM, fun j hj => by
    have hj' : j < M := by simpa using hj
    have e : ((List.range M).map fun j => (List.range c).map fun i => f j i).getD j [] = (List.range c).map fun i => f j i := by
      simp [List.getD_eq_getElem?_getD, List.getElem?_map, List.getElem?_range hj']
    rw [e]
    have h1 := h.outer.cell hj'
    exact ⟨B, 0, some ⟨B + 1 + j, 0, none⟩, c, rfl, h.outer.lt, by rw [Nat.zero_add, h1]; simp, by simp, Ints.ofRow (h.inner j hj') hc⟩⟩
end Go.Proofs.YtieeefgkdfijdaaDoor

/- The walk of secret.signs at right ciphers. No condition. -/
namespace Go.Proofs.YtieeefgkdfijdaaDoor
open Go.RowKit Go.Deep Go.Proofs.YtieeefgkdfijdaaDoorW.PrintMore
attribute [local go_sem] max2_int min2_int max_two min_two

/-- a table of the call's own that reads as signs -/
def RetTab (M c : Nat) (f : Nat → Nat → Int) (w : World) (e : Ending) (w' : World) : Prop :=
  ∃ B, e = .returned (.slice (some ⟨B, 0, none⟩) M M) ∧ w.heap.size ≤ B ∧ Tab w' B M c f ∧ Below w.heap.size w w'
theorem sgn_step (K : List Int) (L : List (List Int)) (m : Nat) (s : Int) (n : Nat) : sgn K L m s (n + 1) = sgn K L m s n + if (L.getD n []).getD m 0 = s then K.getD n 0 else 0 := rfl
theorem topOf_flat_step (L : List (List Int)) (i : Nat) (hi : i < L.length) (hr : 0 < (L.getD i []).length) : topOf (L.take (i + 1)).flatten 0 = if topOf (L.take i).flatten 0 < greatest (L.getD i []) then greatest (L.getD i []) else topOf (L.take i).flatten 0 := by
  rw [flat_take L i hi, topOf_append, greatest_top _ hr]
theorem topOf_mono (l : List Int) : ∀ t, t ≤ topOf l t := by
  induction l with
  | nil => intro t; exact Int.le_refl _
  | cons x r ih =>
    intro t
    have h := ih (if x > t then x else t)
    show t ≤ topOf r (if x > t then x else t)
    have h2 : t ≤ if x > t then x else t := by split <;> omega
    omega
theorem topOf_mem (l : List Int) (x : Int) (h : x ∈ l) : ∀ t, x ≤ topOf l t := by
  induction l with
  | nil => cases h
  | cons y r ih =>
    intro t
    show x ≤ topOf r (if y > t then y else t)
    rcases List.mem_cons.1 h with e | e
    · subst e
      have h := topOf_mono r (if x > t then x else t)
      have h2 : x ≤ if x > t then x else t := by split <;> omega
      omega
    · exact ih e _
theorem sign_le_top (L : List (List Int)) (i m : Nat) (hi : i < L.length) (hm : m < (L.getD i []).length) : (L.getD i []).getD m 0 ≤ topOf L.flatten 0 := by
  refine topOf_mem _ _ ?_ _
  rw [getD_eq L i [] hi] at hm ⊢
  rw [getD_eq _ m 0 hm]
  exact List.mem_flatten.2 ⟨L[i], List.getElem_mem hi, List.getElem_mem hm⟩

set_option maxRecDepth 100000 in
set_option maxHeartbeats 4000000 in
theorem signs_ok (Ka La : Option Addr) (K : List Int) (L : List (List Int)) (kc lc : Nat) (w : World) (hK : Ints w Ka K) (hL : Lists w La L) (hg : GoodCipher K L) (N : Nat) (hN : (N : Int) = topOf L.flatten 0) :
    Calls Tryd.prog 53 #[.agg #[.slice Ka K.length kc, .slice La L.length lc]] w (RetTab (L.getD 0 []).length (N + 1) (fun m s => sgn K L m (s : Nat) L.length) w) := by
  obtain ⟨hK16, hKn, hKs, hK0⟩ := keys_good hg.keys
  have hlen := hg.len
  have hN15 : N ≤ 15 := by have := hg.top; omega
  have hrow := fun i (hi : i < L.length) => hg.row i hi
  have HROW := hide hrow
  have HG := hide hg
  have hKL : K.length = L.length := hlen.symm
  rw [hKL] at hK16 hK0 ⊢
  have HLEN := hide hlen
  clear hrow hg hlen hKL
  go_enter Tryd.func53, Tryd.ntmps53
  go_wp2_with (fail)
  go_loopw [3, 13] (fun t i wr => ∃ k : Nat, k ≤ L.length ∧ i = .int .i64 k ∧ t = .int .i64 (topOf (L.take k).flatten 0) ∧ Below (w.heap.size + 1) (w.alloc (.cells #[.slice Ka L.length kc, .slice La L.length lc] 46)) wr) (fun _ i _ => L.length - (intOf i).toNat)
  case atStart => exact ⟨0, Nat.zero_le _, rfl, rfl, Below.refl _ _⟩
  case round =>
    obtain ⟨i, hi, rfl, rfl, hBi⟩ := hrel
    obtain ⟨wi, rfl⟩ : ∃ wi : World, wi = wr := ⟨_, rfl⟩
    have hz : w.heap.size < wi.heap.size := by have := hBi.size; simp at this; omega
    have hBw : Below w.heap.size w wi := (below_alloc' (Below.refl _ _) _).trans (hBi.mono (by omega))
    by_cases hil : i < L.length
    · obtain ⟨b, off, A', c', rfl, hb, d1, hle, hI⟩ := (hL.below hBw).at_ i hil
      have hgr := HROW.out i hil
      have hst := topOf_flat_step L i hil hgr.pos
      have i0 : (0 : Int) ≤ (i : Int) := Int.natCast_nonneg _
      have i1 : (i : Int) < (L.length : Int) := by omega
      have hmx := max_ok A' (L.getD i []) c' wi hI hgr.pos
      have HST := hide hst
      have HMX := hide hmx
      clear hst hmx hgr hI
      change Hid (_ = if topOf (L.take i).flatten 0 < greatest (L.getD i []) then greatest (L.getD i []) else topOf (L.take i).flatten 0) at HST
      generalize greatest (L.getD i []) = g at HST HMX
      generalize topOf (L.take i).flatten 0 = t at HST ⊢
      generalize L.getD i [] = r at d1 hle HMX
      by_cases hgt : t < g
      · go_wp2_with (go_at_call 75; refine Calls.mono HMX.out ?_; rintro e w2 ⟨rfl, hb2⟩)
        go_roundw
        case rel => exact ⟨i + 1, by omega, by go_num, by rw [HST.out, if_pos hgt], hBi.trans (hb2.mono (by omega))⟩
        case measure => simp [intOf]; omega
      · go_wp2_with (go_at_call 75; refine Calls.mono HMX.out ?_; rintro e w2 ⟨rfl, hb2⟩)
        go_roundw
        case rel => exact ⟨i + 1, by omega, by go_num, by rw [HST.out, if_neg (by omega)], hBi.trans (hb2.mono (by omega))⟩
        case measure => simp [intOf]; omega
    · obtain rfl : i = L.length := by omega
      rw [List.take_length, ← hN]
      have HN := hide hN
      clear hN
      have y0 : wi.cell? ⟨w.heap.size, 0, none⟩ = some (.slice Ka L.length kc) := by rw [hBi.cell (p := ⟨w.heap.size, 0, none⟩) (by show w.heap.size < w.heap.size + 1; omega)]; simp
      have y1 : wi.cell? ⟨w.heap.size, 1, none⟩ = some (.slice La L.length lc) := by rw [hBi.cell (p := ⟨w.heap.size, 1, none⟩) (by show w.heap.size < w.heap.size + 1; omega)]; simp
      have hL0 : 0 < L.length := hK0
      obtain ⟨b, off, A0, c0, rfl, hb, d0, hle, hI0⟩ := (hL.below hBw).at_ 0 hL0
      have d0' : wi.cell? ⟨b, off, none⟩ = some (.slice A0 (L.getD 0 []).length c0) := d0
      have hM := (HROW.out 0 hL0).most
      have hM0 := (HROW.out 0 hL0).pos
      clear d0 hI0
      generalize hMM : (L.getD 0 []).length = M at d0' hM hM0 hle ⊢
      have HMM := hide hMM
      clear hMM
      have i2 : (0 : Int) < (L.length : Int) := by omega
      go_wp2_with (at_make; refine wp_make_lists _ rfl (.tmp 26) (.tmp 26) rfl .i64 .i64 M rfl rfl (by omega) ?_; intro w3 hrow3 hb3 hs3; obtain ⟨k3, k4⟩ := below_cells hb3)
      clear k3 k4
      have hB0 : w.heap.size < wi.heap.size := hz
      have hBo : Below w.heap.size w w3 := hBw.trans (hb3.mono (by omega))
      have v0 : w3.cell? ⟨w.heap.size, 0, none⟩ = some (.slice Ka L.length kc) := (hb3.cell (p := ⟨w.heap.size, 0, none⟩) hz).trans y0
      have v1 : w3.cell? ⟨w.heap.size, 1, none⟩ = some (.slice (some ⟨b, off, none⟩) L.length lc) := (hb3.cell (p := ⟨w.heap.size, 1, none⟩) hz).trans y1
      generalize hBB : wi.heap.size = B at *
      clear hBB
      go_loopw [30] (fun i wr => ∃ m : Nat, m ≤ M ∧ i = .int .i64 m ∧ Below B w3 wr ∧ TabTo wr B M (N + 1) m (fun m s => sgn K L m (s : Nat) L.length)) (fun i _ => M - (intOf i).toNat)
      case atStart => exact ⟨0, Nat.zero_le _, rfl, Below.refl _ _, TabTo.zero hrow3 hs3.out⟩
      case round =>
        obtain ⟨m, hm, rfl, hBm, hTm⟩ := hrel
        obtain ⟨wm, rfl⟩ : ∃ wm : World, wm = wr := ⟨_, rfl⟩
        by_cases hmM : m < M
        · have c1 := hTm.outer.frozen m
          have c2 : wm.cell? ⟨B, m, none⟩ = some (.slice none 0 0) := by
            have := hTm.outer.cell (i := m) hmM
            rw [if_neg (by omega)] at this
            exact this
          have hBl := hTm.outer.lt
          have u0 : wm.cell? ⟨w.heap.size, 0, none⟩ = some (.slice Ka L.length kc) := (hBm.cell (p := ⟨w.heap.size, 0, none⟩) hB0).trans v0
          have u1 : wm.cell? ⟨w.heap.size, 1, none⟩ = some (.slice (some ⟨b, off, none⟩) L.length lc) := (hBm.cell (p := ⟨w.heap.size, 1, none⟩) hB0).trans v1
          have hwm : B ≤ wm.heap.size := by omega
          have hne1 : B ≠ w.heap.size := by omega
          have hne2 : w.heap.size ≠ B := by omega
          go_wp2_with (at_make; refine wp_make_ints' _ rfl (.tmp 36) (.tmp 36) rfl .i64 .i64 (N + 1) rfl rfl (by omega) ?_; intro w4 hrow4 hb4 hs4; obtain ⟨k5, k6⟩ := below_cells hb4
                       have u4 : w4.cell? ⟨w.heap.size, 1, none⟩ = some (.slice (some ⟨b, off, none⟩) L.length lc) := (hb4.cell (p := ⟨w.heap.size, 1, none⟩) (by show w.heap.size < wm.heap.size; omega)).trans u1)
          have hszm := hTm.size
          have hT4 := TabTo.succ (f := fun x s => if x = m then sgn K L m (s : Nat) 0 else sgn K L x (s : Nat) L.length) (w1 := w4) ⟨hTm.outer, fun x hx => (hTm.inner x hx).congr fun i _ => by rw [if_neg (by omega)], hTm.size⟩ hmM hb4 (by rw [hszm] at hrow4; exact hrow4.congr fun i _ => by rw [if_pos rfl]; rfl) hs4.out
          have hB4 : Below B w3 (w4.setCell ⟨B, m, none⟩ (.slice (some ⟨B + 1 + m, 0, none⟩) (N + 1) (N + 1))) := (hBm.trans (hb4.mono (by omega))).setCell (by show B ≤ B; omega) _
          have e1 : (w4.setCell ⟨B, m, none⟩ (.slice (some ⟨B + 1 + m, 0, none⟩) (N + 1) (N + 1))).cell? ⟨w.heap.size, 1, none⟩ = some (.slice (some ⟨b, off, none⟩) L.length lc) := (hB4.cell (p := ⟨w.heap.size, 1, none⟩) hB0).trans v1
          clear k5 k6 hrow4 hs4 hb4 hTm hBm c1 c2 hBl u0 u1 u4
          try rw [hszm]
          generalize w4.setCell ⟨B, m, none⟩ (.slice (some ⟨B + 1 + m, 0, none⟩) (N + 1) (N + 1)) = w5 at hT4 hB4 e1 ⊢
          go_wp2_with (fail)
          go_loopw [42] (fun v wr => ∃ k : Nat, k ≤ L.length ∧ v = .int .i64 k ∧ Below B w3 wr ∧ TabTo wr B M (N + 1) (m + 1) (fun x s => if x = m then sgn K L m (s : Nat) k else sgn K L x (s : Nat) L.length)) (fun v _ => L.length - (intOf v).toNat)
          case atStart => exact ⟨0, Nat.zero_le _, rfl, hB4, hT4⟩
          case round =>
            obtain ⟨k, hk, rfl, hBk, hTk⟩ := hrel
            obtain ⟨wk, rfl⟩ : ∃ wk : World, wk = wr := ⟨_, rfl⟩
            by_cases hkL : k < L.length
            · have hLk := hL.below (hBo.trans (hBk.mono (by omega)))
              obtain ⟨b1, off1, A', c', e, hb1, d1, hle1, hI1⟩ := hLk.at_ k hkL
              injection e with e
              injection e with e1' e2' _
              subst e1' e2'
              have hgr := HROW.out k hkL
              have hmr : m < (L.getD k []).length := by rw [hgr.len, HMM.out]; exact hmM
              obtain ⟨b2, off2, rfl, _, d2⟩ := hI1.at_ m hmr
              obtain ⟨b3, off3, rfl, _, d3⟩ := (hK.below (hBo.trans (hBk.mono (by omega)))).at_ k (by rw [← HLEN.out]; exact hkL)
              have hsg := hgr.sign m hmr
              have hst := fun s => sgn_step K L m s k
              have htop := sign_le_top L k m hkL hmr
              rw [← HN.out] at htop
              have hbk := sgn_le HG.out m ((L.getD k []).getD m 0) k (by rw [← HLEN.out]; omega)
              have hbk1 := sgn_le HG.out m ((L.getD k []).getD m 0) (k + 1) (by rw [← HLEN.out]; omega)
              rw [hst, if_pos rfl] at hbk1
              generalize (L.getD k []).getD m 0 = x at d2 hsg hst htop hbk hbk1
              obtain ⟨x, rfl⟩ := Int.eq_ofNat_of_zero_le hsg.1
              have hxN : x < N + 1 := by omega
              have t1 : wk.cell? ⟨B, m, none⟩ = some (.slice (some ⟨B + 1 + m, 0, none⟩) (N + 1) (N + 1)) := by
                have := hTk.outer.cell (i := m) hmM
                rw [if_pos (by omega)] at this
                exact this
              have t2 : wk.cell? ⟨B + 1 + m, x, none⟩ = some (.int .i64 (sgn K L m (x : Nat) k)) := by
                have := (hTk.inner m (by omega)).cell (i := x) hxN
                rw [if_pos rfl] at this
                exact this
              have t3 : wk.frozen? ⟨B + 1 + m, x, none⟩ = false := (hTk.inner m (by omega)).frozen _
              have t0 : wk.cell? ⟨w.heap.size, 0, none⟩ = some (.slice (some ⟨b3, off3, none⟩) L.length kc) := (hBk.cell (p := ⟨w.heap.size, 0, none⟩) hB0).trans v0
              have hset := hTk.set m x (by omega) (sgn K L m (x : Nat) k + K.getD k 0)
              have hT' := hset.congr (g := fun y s => if y = m then sgn K L m (s : Nat) (k + 1) else sgn K L y (s : Nat) L.length) (fun y _ s _ => by
                by_cases e : y = m
                · rw [if_pos e, if_pos e, hst]
                  by_cases e2 : s = x
                  · rw [if_pos ⟨e, e2⟩, e2, if_pos rfl]
                  · rw [if_neg (fun h => e2 h.2), if_neg (by omega), Int.add_zero]
                · rw [if_neg (fun h => e h.1), if_neg e, if_neg e])
              clear hset hst hLk hI1 hgr
              generalize sgn K L m (x : Nat) k = s0 at *
              generalize K.getD k 0 = kk at *
              have HT := hide hT'
              clear hT' hTk
              have k0 : (0 : Int) ≤ (k : Int) := Int.natCast_nonneg _
              have k1 : (k : Int) < (L.length : Int) := by omega
              have m0 : (0 : Int) ≤ (m : Int) := Int.natCast_nonneg _
              have m1 : (m : Int) < (M : Int) := by omega
              have m2 : (m : Int) < ((L.getD k []).length : Int) := by omega
              have x0 : (0 : Int) ≤ (x : Int) := Int.natCast_nonneg _
              have x1 : (x : Int) < (N : Int) + 1 := by omega
              have hw : IntKind.i64.wrap (s0 + kk) = s0 + kk := by rw [IntKind.wrap_i64]; omega
              generalize (L.getD k []).length = rl at d1 hle1 hmr m2
              go_wp2_with (fail)
              go_still_tail 17, (by kernel_rfl)
              go_wp2_with (fail)
              go_roundw
              case rel =>
                refine ⟨k + 1, by omega, by go_num, ?_, ⟨HT.out.outer, HT.out.inner, HT.out.size⟩⟩
                have hbb := hBk.setCell (p := ⟨B + 1 + m, x, none⟩) (by show B ≤ B + 1 + m; omega) (.int .i64 (s0 + kk))
                exact ⟨hbb.os, hbb.tape, hbb.output, hbb.size, hbb.block⟩
              case measure => simp [intOf]; omega
            · obtain rfl : k = L.length := by omega
              go_wp2_with (fail)
              go_roundw
              case rel => exact ⟨m + 1, by omega, by go_num, hBk, hTk.congr fun x _ s _ => by
                by_cases e : x = m
                · rw [if_pos e, e]
                · rw [if_neg e]⟩
              case measure => simp [intOf]; omega
        · obtain rfl : m = M := by omega
          go_wp2_with (fail)
          go_ret
          unfold RetTab
          rw [HMM.out]
          exact ⟨B, rfl, by omega, hTm.whole, hBo.trans (hBm.mono (by omega))⟩
end Go.Proofs.YtieeefgkdfijdaaDoor

/- The walks of errors.Is and errors.As at the errors of this program: a sentinel (a pointer to an errors.errorString) and a *api.Fault (after the kit's worked Sentry and Toyas). Condition: the variables read as laid. -/
namespace Go.Proofs.YtieeefgkdfijdaaDoor
open Go.RowKit Go.Deep Go.Extern.Stop Go.Stop Go.Extern

/-- the sentinels of the codes S: their cells, their blocks, none twice -/
structure Sent (S : List Nat) (w : World) (a : Nat → Addr) : Prop extends Env S w a where
  blk : ∀ c, c ∈ S → ∃ ca ta, w.heap[(a c).block]? = some (.cells ca ta (0, 0))
  inj : ∀ c, c ∈ S → ∀ d, d ∈ S → a c = a d → c = d
theorem Sent.lt {S : List Nat} {w : World} {a : Nat → Addr} (h : Sent S w a) {c : Nat} (hc : c ∈ S) : (a c).block < w.heap.size := by
  obtain ⟨ca, ta, hb⟩ := h.blk c hc
  exact (Array.getElem?_eq_some_iff.1 hb).1
theorem Sent.below {S : List Nat} {w w' : World} {a : Nat → Addr} (h : Sent S w a) (hb : Below w.heap.size w w') : Sent S w' a :=
  ⟨h.toEnv.below hb, fun c hc => by
    obtain ⟨ca, ta, hx⟩ := h.blk c hc
    exact ⟨ca, ta, (hb.block _ (h.lt hc)).trans hx⟩, h.inj⟩
/-- the handle of the type error -/
def Handle (w : World) : Prop := w.cell? ⟨8, 0, none⟩ = some (.iface 139 (.agg #[.pointer (some ⟨9, 29, none⟩)]))
theorem Handle.below {w w' : World} (h : Handle w) (hb : Below w.heap.size w w') : Handle w' :=
  (hb.cell (p := ⟨8, 0, none⟩) (World.block_lt_of_cell? w _ h)).trans h

/-! ### errors.Is -/
theorem is_typeOf (v : Value) (w : World) : (Extern.ReflectliteType.typeOf #[.iface 161 v]).run Tryd.prog w = .ok (.iface 139 (.agg #[.pointer (some ⟨9, 161, none⟩)])) w := by kernel_rfl
/-- the model's own entry for (rtype).Comparable, behind a name -/
def compExt : TypeId → Sem Value := fun t => do Rtype.noPackHeld "Comparable" t; pure (.bool (← typeInfo t).comparable)
theorem is_comparable (w : World) : (Extern.ReflectliteType.method compExt #[.agg #[.pointer (some ⟨9, 161, none⟩)]]).run Tryd.prog w = .ok (.bool true) w := by kernel_rfl
theorem is_methodComparable (v : Value) (w : World) : (Go.method 300 139 v "Comparable").run Tryd.prog w = .ok (139, v) w := by kernel_rfl
theorem is_comp : (Tryd.prog.info? 161).map (·.comparable) = some true := by kernel_rfl
theorem is_size : (Tryd.prog.info? 184).map (·.size) = some 1 := by kernel_rfl
theorem no_is_E (v : Value) (xT : TypeId) (w : World) : (Instr.typeAssert (.iface 161 v) xT 150 true).run Tryd.prog w = .ok (.tuple #[.nilIface, .bool false]) w := run_typeAssert_lacksB Tryd.underlying150 (by kernel_rfl) (by kernel_rfl) v xT w
theorem no_unwrap_E (v : Value) (xT : TypeId) (w : World) : (Instr.typeAssert (.iface 161 v) xT 146 true).run Tryd.prog w = .ok (.tuple #[.nilIface, .bool false]) w := run_typeAssert_lacksB Tryd.underlying146 (by kernel_rfl) (by kernel_rfl) v xT w
theorem no_unwraps_E (v : Value) (xT : TypeId) (w : World) : (Instr.typeAssert (.iface 161 v) xT 148 true).run Tryd.prog w = .ok (.tuple #[.nilIface, .bool false]) w := run_typeAssert_lacksB Tryd.underlying148 (by kernel_rfl) (by kernel_rfl) v xT w
theorem no_is_F (v : Value) (xT : TypeId) (w : World) : (Instr.typeAssert (.iface 105 v) xT 150 true).run Tryd.prog w = .ok (.tuple #[.nilIface, .bool false]) w := run_typeAssert_lacksB Tryd.underlying150 (by kernel_rfl) (by kernel_rfl) v xT w
theorem has_unwrap_F (v : Value) (xT : TypeId) (w : World) : (Instr.typeAssert (.iface 105 v) xT 146 true).run Tryd.prog w = .ok (.tuple #[.iface 105 v, .bool true]) w := run_typeAssert_hasB Tryd.underlying146 (by kernel_rfl) v xT w
theorem method_unwrap_F (v : Value) (w : World) : (Go.method 300 105 v "Unwrap").run Tryd.prog w = .ok (133, v) w := by kernel_rfl

set_option maxHeartbeats 1000000 in
theorem is_same (a : Addr) (w : World) :
    Calls Tryd.prog 77 #[.iface 161 (.pointer (some a)), .iface 161 (.pointer (some a))] w fun e w' => e = .returned (.bool true) ∧ w' = w := by
  obtain ⟨i, hi, hcmp⟩ := Option.map_eq_some_iff.1 is_comp
  obtain ⟨j, hj, hjs⟩ := Option.map_eq_some_iff.1 is_size
  have h8 := @run_callFunc_extern Tryd.prog 92 _ Extern.ReflectliteType.typeOf Tryd.func92 (by kernel_rfl) (by kernel_rfl) (by kernel_rfl) (by kernel_rfl)
  have h32 := @run_callFunc_extern Tryd.prog 139 _ (Extern.ReflectliteType.method compExt) Tryd.func139 (by kernel_rfl) (by kernel_rfl) (by kernel_rfl) (by kernel_rfl)
  have tT := is_typeOf
  have cT := is_comparable
  have mR := is_methodComparable
  have heq := run_eql_iface_ptr_same (P := Tryd.prog) w a Tryd.underlying29 Tryd.underlying161 hi hcmp hj
  clear hi hcmp hj hjs
  go_enter Tryd.func77, Tryd.ntmps77
  go_wp2
  refine wp_loop_rounds 1 ?_
  rw [rounds_succ]
  go_wp2
  go_ret
  exact ⟨rfl, rfl⟩

set_option maxHeartbeats 1000000 in
theorem is_other (a b : Addr) (ca cb : Array Value) (ta tb : TypeId) (w : World) (hne : a ≠ b) (ha : w.heap[a.block]? = some (.cells ca ta (0, 0))) (hb : w.heap[b.block]? = some (.cells cb tb (0, 0))) :
    Calls Tryd.prog 77 #[.iface 161 (.pointer (some a)), .iface 161 (.pointer (some b))] w fun e w' => e = .returned (.bool false) ∧ w' = w := by
  obtain ⟨i, hi, hcmp⟩ := Option.map_eq_some_iff.1 is_comp
  obtain ⟨j, hj, hjs⟩ := Option.map_eq_some_iff.1 is_size
  have h8 := @run_callFunc_extern Tryd.prog 92 _ Extern.ReflectliteType.typeOf Tryd.func92 (by kernel_rfl) (by kernel_rfl) (by kernel_rfl) (by kernel_rfl)
  have h32 := @run_callFunc_extern Tryd.prog 139 _ (Extern.ReflectliteType.method compExt) Tryd.func139 (by kernel_rfl) (by kernel_rfl) (by kernel_rfl) (by kernel_rfl)
  have tT := is_typeOf
  have cT := is_comparable
  have mR := is_methodComparable
  have nE := no_is_E
  have uE := no_unwrap_E
  have vE := no_unwraps_E
  have heq := run_eql_iface_ptr_other (P := Tryd.prog) w Tryd.underlying29 Tryd.underlying161 hi hcmp hj (by rw [hjs]; decide) hne ha hb
  clear hi hcmp hj hjs
  go_enter Tryd.func77, Tryd.ntmps77
  go_wp2
  refine wp_loop_rounds 1 ?_
  rw [rounds_succ]
  go_wp2
  go_ret
  exact ⟨rfl, rfl⟩

/-- errors.Is between sentinels -/
theorem is_sent {S : List Nat} (w : World) (a : Nat → Addr) (h : Sent S w a) (c d : Nat) (hc : c ∈ S) (hd : d ∈ S) :
    Calls Tryd.prog 77 #[.iface 161 (.pointer (some (a c))), .iface 161 (.pointer (some (a d)))] w fun e w' => e = .returned (.bool (decide (c = d))) ∧ w' = w := by
  by_cases e : c = d
  · subst e
    rw [decide_eq_true rfl]
    exact is_same (a c) w
  · rw [decide_eq_false e]
    obtain ⟨ca, ta, ha⟩ := h.blk c hc
    obtain ⟨cb, tb, hb⟩ := h.blk d hd
    exact is_other (a c) (a d) ca cb ta tb w (fun x => e (h.inj c hc d hd x)) ha hb

set_option maxHeartbeats 1000000 in
theorem is_fault_same (pb po : Nat) (b : Addr) (w : World) (h1 : w.cell? ⟨pb, po + 1, none⟩ = some (.iface 161 (.pointer (some b)))) :
    Calls Tryd.prog 77 #[.iface 105 (.pointer (some ⟨pb, po, none⟩)), .iface 161 (.pointer (some b))] w fun e w' => e = .returned (.bool true) ∧ w' = w := by
  obtain ⟨i, hi, hcmp⟩ := Option.map_eq_some_iff.1 is_comp
  obtain ⟨j, hj, hjs⟩ := Option.map_eq_some_iff.1 is_size
  have h8 := @run_callFunc_extern Tryd.prog 92 _ Extern.ReflectliteType.typeOf Tryd.func92 (by kernel_rfl) (by kernel_rfl) (by kernel_rfl) (by kernel_rfl)
  have h32 := @run_callFunc_extern Tryd.prog 139 _ (Extern.ReflectliteType.method compExt) Tryd.func139 (by kernel_rfl) (by kernel_rfl) (by kernel_rfl) (by kernel_rfl)
  have tT := is_typeOf
  have cT := is_comparable
  have mR := is_methodComparable
  have nE := no_is_E
  have uE := no_unwrap_E
  have vE := no_unwraps_E
  have nW := no_is_F
  have uW := has_unwrap_F
  have mU := method_unwrap_F
  have heq := run_eql_iface_ptr_same (P := Tryd.prog) w b Tryd.underlying29 Tryd.underlying161 hi hcmp hj
  have hty := run_eql_iface_types (P := Tryd.prog) 105 161 (.pointer (some ⟨pb, po, none⟩)) (.pointer (some b)) Tryd.underlying29 (by decide) w
  clear hi hcmp hj hjs
  go_enter Tryd.func77, Tryd.ntmps77
  go_wp2
  refine wp_loop_rounds 2 ?_
  rw [rounds_succ]
  go_wp2
  rw [rounds_succ]
  go_wp2
  go_ret
  exact ⟨rfl, rfl⟩

set_option maxHeartbeats 1000000 in
theorem is_fault_other (pb po : Nat) (b a : Addr) (ca cb : Array Value) (ta tb : TypeId) (w : World) (h1 : w.cell? ⟨pb, po + 1, none⟩ = some (.iface 161 (.pointer (some a)))) (hne : a ≠ b) (ha : w.heap[a.block]? = some (.cells ca ta (0, 0))) (hb : w.heap[b.block]? = some (.cells cb tb (0, 0))) :
    Calls Tryd.prog 77 #[.iface 105 (.pointer (some ⟨pb, po, none⟩)), .iface 161 (.pointer (some b))] w fun e w' => e = .returned (.bool false) ∧ w' = w := by
  obtain ⟨i, hi, hcmp⟩ := Option.map_eq_some_iff.1 is_comp
  obtain ⟨j, hj, hjs⟩ := Option.map_eq_some_iff.1 is_size
  have h8 := @run_callFunc_extern Tryd.prog 92 _ Extern.ReflectliteType.typeOf Tryd.func92 (by kernel_rfl) (by kernel_rfl) (by kernel_rfl) (by kernel_rfl)
  have h32 := @run_callFunc_extern Tryd.prog 139 _ (Extern.ReflectliteType.method compExt) Tryd.func139 (by kernel_rfl) (by kernel_rfl) (by kernel_rfl) (by kernel_rfl)
  have tT := is_typeOf
  have cT := is_comparable
  have mR := is_methodComparable
  have nE := no_is_E
  have uE := no_unwrap_E
  have vE := no_unwraps_E
  have nW := no_is_F
  have uW := has_unwrap_F
  have mU := method_unwrap_F
  have heq := run_eql_iface_ptr_other (P := Tryd.prog) w Tryd.underlying29 Tryd.underlying161 hi hcmp hj (by rw [hjs]; decide) hne ha hb
  have hty := run_eql_iface_types (P := Tryd.prog) 105 161 (.pointer (some ⟨pb, po, none⟩)) (.pointer (some b)) Tryd.underlying29 (by decide) w
  clear hi hcmp hj hjs
  go_enter Tryd.func77, Tryd.ntmps77
  go_wp2
  refine wp_loop_rounds 2 ?_
  rw [rounds_succ]
  go_wp2
  rw [rounds_succ]
  go_wp2
  go_ret
  exact ⟨rfl, rfl⟩

/-- errors.Is of a fault whose error is a sentinel -/
theorem is_fault {S : List Nat} (w : World) (a : Nat → Addr) (h : Sent S w a) (pb po : Nat) (c d : Nat) (hc : c ∈ S) (hd : d ∈ S) (h1 : w.cell? ⟨pb, po + 1, none⟩ = some (.iface 161 (.pointer (some (a c))))) :
    Calls Tryd.prog 77 #[.iface 105 (.pointer (some ⟨pb, po, none⟩)), .iface 161 (.pointer (some (a d)))] w fun e w' => e = .returned (.bool (decide (c = d))) ∧ w' = w := by
  by_cases e : c = d
  · subst e
    rw [decide_eq_true rfl]
    exact is_fault_same pb po (a c) w h1
  · rw [decide_eq_false e]
    obtain ⟨ca, ta, ha⟩ := h.blk c hc
    obtain ⟨cb, tb, hb⟩ := h.blk d hd
    exact is_fault_other pb po (a d) (a c) ca cb ta tb w h1 (fun x => e (h.inj c hc d hd x)) ha hb
end Go.Proofs.YtieeefgkdfijdaaDoor

/- The walks of errors.As with a target of the type **api.Fault: at a sentinel it is false, at a fault true (after the kit's worked Toyas). Condition: the handle of the type error is laid. -/
namespace Go.Proofs.YtieeefgkdfijdaaDoor
open Go.RowKit Go.Deep Go.Extern.Stop Go.Stop Go.Extern

/-! ### closed facts on the model's entries for internal/reflectlite, at this program's types -/
def kindExt : TypeId → Sem Value := fun t => do pure (.int .u8 (← Rtype.kind t))
def vTypeExt : TypeId → Addr → Nat → Nat → Sem Value := fun t _ _ _ => ReflectliteType.toType t
def unpackExt : Array Value → Sem Value := fun args => ReflectliteValue.unpack (args.getD 0 (.tuple #[]))
theorem as_valueOfT (t : Addr) (w : World) : (unpackExt #[.iface 107 (.pointer (some t))]).run Tryd.prog w
    = .ok (.agg #[.pointer (some ⟨9, 107, none⟩), .pointer (some ⟨w.heap.size, 0, none⟩), .int .u64 150]) (w.alloc (.cells #[.pointer (some t)] 107)) := by kernel_rfl
theorem as_typeT (a : Addr) (w : World) : (ReflectliteValue.methodAny (ReflectliteValue.valueError "reflectlite.Value.Type" 0) vTypeExt #[.agg #[.pointer (some ⟨9, 107, none⟩), .pointer (some a), .int .u64 150]]).run Tryd.prog w
    = .ok (.iface 139 (.agg #[.pointer (some ⟨9, 107, none⟩)])) w := by kernel_rfl
theorem as_methodKind (h : Value) (w : World) : (Go.method 300 139 (.agg #[h]) "Kind").run Tryd.prog w = .ok (129, h) w := by kernel_rfl
theorem as_kindT (w : World) : (ReflectliteType.abiMethod kindExt #[.pointer (some ⟨9, 107, none⟩)]).run Tryd.prog w = .ok (.int .u8 22) w := by kernel_rfl
theorem as_kindF (w : World) : (ReflectliteType.abiMethod kindExt #[.pointer (some ⟨9, 105, none⟩)]).run Tryd.prog w = .ok (.int .u8 22) w := by kernel_rfl
theorem rlm (z : Sem Value) (f : TypeId → Addr → Nat → Nat → Sem Value) (v : Value) :
    ReflectliteValue.method z f #[v] = (do match ← ReflectliteValue.parts v with | none => z | some (t, a, fl) => f t a fl (fl % 32)) := rfl
theorem as_partsT (a : Addr) (w : World) : (ReflectliteValue.parts (.agg #[.pointer (some ⟨9, 107, none⟩), .pointer (some a), .int .u64 150])).run Tryd.prog w = .ok (some (107, a, 150)) w := by kernel_rfl
theorem as_isNilT (a p : Addr) (W : World) (ha : W.cell? a = some (.pointer (some p))) :
    (ReflectliteValue.method (ReflectliteValue.valueError "reflectlite.Value.IsNil" 0) ReflectliteValue.isNil #[.agg #[.pointer (some ⟨9, 107, none⟩), .pointer (some a), .int .u64 150]]).run Tryd.prog W = .ok (.bool false) W := by
  rw [rlm]
  simp only [Sem.run_bind, as_partsT, Result.andThen]
  simp [ReflectliteValue.isNil, loadVar, isAgg, underlying, Tryd.underlying107, ha, Result.andThen]
theorem as_methodElem (h : Value) (w : World) : (Go.method 300 139 (.agg #[h]) "Elem").run Tryd.prog w = .ok (140, .agg #[h]) w := by kernel_rfl
theorem as_methodImplements (h : Value) (w : World) : (Go.method 300 139 (.agg #[h]) "Implements").run Tryd.prog w = .ok (141, .agg #[h]) w := by kernel_rfl
theorem as_methodAssignableTo (h : Value) (w : World) : (Go.method 300 139 (.agg #[h]) "AssignableTo").run Tryd.prog w = .ok (138, .agg #[h]) w := by kernel_rfl
theorem as_elemT (w : World) : (ReflectliteType.method ReflectliteType.elem #[.agg #[.pointer (some ⟨9, 107, none⟩)]]).run Tryd.prog w = .ok (.iface 139 (.agg #[.pointer (some ⟨9, 105, none⟩)])) w := by kernel_rfl
theorem as_implementsF (w : World) : (ReflectliteType.relation "Implements" ReflectliteType.implements_ #[.agg #[.pointer (some ⟨9, 105, none⟩)], .iface 139 (.agg #[.pointer (some ⟨9, 29, none⟩)])]).run Tryd.prog w = .ok (.bool true) w := by kernel_rfl
theorem as_typeOfF (v : Value) (w : World) : (ReflectliteType.typeOf #[.iface 105 v]).run Tryd.prog w = .ok (.iface 139 (.agg #[.pointer (some ⟨9, 105, none⟩)])) w := by kernel_rfl
theorem as_assignF (w : World) : (ReflectliteType.relation "AssignableTo" ReflectliteType.assignableTo #[.agg #[.pointer (some ⟨9, 105, none⟩)], .iface 139 (.agg #[.pointer (some ⟨9, 105, none⟩)])]).run Tryd.prog w = .ok (.bool true) w := by kernel_rfl
theorem as_assignE (w : World) : (ReflectliteType.relation "AssignableTo" ReflectliteType.assignableTo #[.agg #[.pointer (some ⟨9, 161, none⟩)], .iface 139 (.agg #[.pointer (some ⟨9, 105, none⟩)])]).run Tryd.prog w = .ok (.bool false) w := by kernel_rfl
theorem as_valueOfF (e : Addr) (w : World) : (unpackExt #[.iface 105 (.pointer (some e))]).run Tryd.prog w
    = .ok (.agg #[.pointer (some ⟨9, 105, none⟩), .pointer (some ⟨w.heap.size, 0, none⟩), .int .u64 150]) (w.alloc (.cells #[.pointer (some e)] 105)) := by kernel_rfl
theorem as_elemOfT (w : World) : (Rtype.elem? 107).run Tryd.prog w = .ok (some 105) w := by kernel_rfl
theorem as_mkF (p : Addr) (w : World) : (ReflectliteValue.mk 105 p ReflectliteValue.flagAddr).run Tryd.prog w = .ok (.agg #[.pointer (some ⟨9, 105, none⟩), .pointer (some p), .int .u64 406]) w := by kernel_rfl
theorem as_elemVT (a p : Addr) (W : World) (ha : W.cell? a = some (.pointer (some p))) :
    (ReflectliteValue.method (ReflectliteValue.valueError "reflectlite.Value.Elem" 0) ReflectliteValue.elem #[.agg #[.pointer (some ⟨9, 107, none⟩), .pointer (some a), .int .u64 150]]).run Tryd.prog W
      = .ok (.agg #[.pointer (some ⟨9, 105, none⟩), .pointer (some p), .int .u64 406]) W := by
  rw [rlm]
  simp only [Sem.run_bind, as_partsT, Result.andThen]
  simp [ReflectliteValue.elem, loadVar, isAgg, underlying, Tryd.underlying107, ha, Result.andThen, as_elemOfT, as_mkF]
theorem rls (v x : Value) : ReflectliteValue.set #[v, x] = (do
    let (some (dst, a, fl), some (src, b, _)) := (← ReflectliteValue.parts v, ← ReflectliteValue.parts x)
      | unsupported (.noEntry "extern/(internal/reflectlite.Value).Set.zeroValue")
    if fl / ReflectliteValue.flagAddr % 2 == 0 then unsupported (.noEntry "extern/(internal/reflectlite.Value).Set.unaddressable")
    let val ← loadVar src b
    if ← Rtype.directlyAssignable dst src then storeVar dst a val
    else if ← Rtype.implements dst src then
      if (← Rtype.kind src) == 20 then
        match val with
        | .nilIface => unsupported (.noEntry "extern/reflectlite: a nil value of one interface type handed on as a value of another")
        | _ => storeVar dst a val
      else storeVar dst a (.iface src val)
    else panicString ("reflectlite.Set: value of type " ++ (← Rtype.spelt src) ++ " is not assignable to type " ++ (← Rtype.spelt dst))
    pure (.tuple #[])) := rfl
theorem as_partsFa (a : Addr) (w : World) : (ReflectliteValue.parts (.agg #[.pointer (some ⟨9, 105, none⟩), .pointer (some a), .int .u64 406])).run Tryd.prog w = .ok (some (105, a, 406)) w := by kernel_rfl
theorem as_partsF (a : Addr) (w : World) : (ReflectliteValue.parts (.agg #[.pointer (some ⟨9, 105, none⟩), .pointer (some a), .int .u64 150])).run Tryd.prog w = .ok (some (105, a, 150)) w := by kernel_rfl
theorem as_directF (w : World) : (Rtype.directlyAssignable 105 105).run Tryd.prog w = .ok true w := by kernel_rfl
theorem as_setF (ta b e : Addr) (old : Value) (W : World) (hb : W.cell? b = some (.pointer (some e))) (ht : W.cell? ta = some old) (hf : W.frozen? ta = false) :
    (ReflectliteValue.set #[.agg #[.pointer (some ⟨9, 105, none⟩), .pointer (some ta), .int .u64 406], .agg #[.pointer (some ⟨9, 105, none⟩), .pointer (some b), .int .u64 150]]).run Tryd.prog W
      = .ok (.tuple #[]) (W.setCell ta (.pointer (some e))) := by
  rw [rls]
  simp only [Sem.run_bind, as_partsFa, as_partsF, Result.andThen]
  simp [ReflectliteValue.flagAddr, loadVar, isAgg, underlying, Tryd.underlying105, hb, Result.andThen, as_directF, storeVar, Value.cells, storeCells, Addr.add]
  rw [run_store Tryd.prog W ta _ _ (by rfl)]
  simp [ht, hf]

theorem no_as_E (v : Value) (xT : TypeId) (w : World) : (Instr.typeAssert (.iface 161 v) xT 143 true).run Tryd.prog w = .ok (.tuple #[.nilIface, .bool false]) w := run_typeAssert_lacksB Tryd.underlying143 (by kernel_rfl) (by kernel_rfl) v xT w

set_option maxHeartbeats 4000000 in
/-- errors.As at a sentinel: false; what was there is as it was -/
theorem as_sent (e t : Addr) (w : World) (hg : Handle w) :
    Calls Tryd.prog 76 #[.iface 161 (.pointer (some e)), .iface 107 (.pointer (some t))] w fun ev w' => ev = .returned (.bool false) ∧ Below w.heap.size w w' := by
  have h6 := @run_callFunc_extern Tryd.prog 88 _ unpackExt Tryd.func88 (by kernel_rfl) (by kernel_rfl) (by kernel_rfl) (by kernel_rfl)
  have h7 := @run_callFunc_extern Tryd.prog 89 _ (ReflectliteValue.methodAny (ReflectliteValue.valueError "reflectlite.Value.Type" 0) vTypeExt) Tryd.func89 (by kernel_rfl) (by kernel_rfl) (by kernel_rfl) (by kernel_rfl)
  have h8 := @run_callFunc_extern Tryd.prog 90 _ (ReflectliteValue.method (ReflectliteValue.valueError "reflectlite.Value.IsNil" 0) ReflectliteValue.isNil) Tryd.func90 (by kernel_rfl) (by kernel_rfl) (by kernel_rfl) (by kernel_rfl)
  have h27 := @run_callFunc_extern Tryd.prog 129 _ (ReflectliteType.abiMethod kindExt) Tryd.func129 (by kernel_rfl) (by kernel_rfl) (by kernel_rfl) (by kernel_rfl)
  have h37 := @run_callFunc_extern Tryd.prog 140 _ (ReflectliteType.method ReflectliteType.elem) Tryd.func140 (by kernel_rfl) (by kernel_rfl) (by kernel_rfl) (by kernel_rfl)
  have h38 := @run_callFunc_extern Tryd.prog 141 _ (ReflectliteType.relation "Implements" ReflectliteType.implements_) Tryd.func141 (by kernel_rfl) (by kernel_rfl) (by kernel_rfl) (by kernel_rfl)
  have h10 := @run_callFunc_extern Tryd.prog 92 _ ReflectliteType.typeOf Tryd.func92 (by kernel_rfl) (by kernel_rfl) (by kernel_rfl) (by kernel_rfl)
  have h35 := @run_callFunc_extern Tryd.prog 138 _ (ReflectliteType.relation "AssignableTo" ReflectliteType.assignableTo) Tryd.func138 (by kernel_rfl) (by kernel_rfl) (by kernel_rfl) (by kernel_rfl)
  have tO := is_typeOf
  have mA := as_methodAssignableTo
  have aE := as_assignE
  have f6 := as_valueOfT
  have f7 := as_typeT
  have mK := as_methodKind
  have mE := as_methodElem
  have mI := as_methodImplements
  have kT := as_kindT
  have kF := as_kindF
  have eT := as_elemT
  have iF := as_implementsF
  have nA := no_as_E
  have uE := no_unwrap_E
  have vE := no_unwraps_E
  have n8 := as_isNilT ⟨w.heap.size, 0, none⟩ t ((w.alloc (.cells #[.pointer (some t)] 107)).alloc (.cells #[.pointer (some ⟨9, 107, none⟩), .pointer (some ⟨w.heap.size, 0, none⟩), .int .u64 150] 119)) (by simp)
  have hlt : 8 < w.heap.size := World.block_lt_of_cell? w _ hg
  have hg2 : ((w.alloc (.cells #[.pointer (some t)] 107)).alloc (.cells #[.pointer (some ⟨9, 107, none⟩), .pointer (some ⟨w.heap.size, 0, none⟩), .int .u64 150] 119)).cell? ⟨8, 0, none⟩ = some (.iface 139 (.agg #[.pointer (some ⟨9, 29, none⟩)])) := by
    rw [World.cell?_alloc_lt _ _ ⟨8, 0, none⟩ (by simp; omega), World.cell?_alloc_lt _ _ ⟨8, 0, none⟩ hlt]; exact hg
  go_enter Tryd.func76, Tryd.ntmps76
  go_wp2
  refine wp_loop_rounds 1 ?_
  rw [rounds_succ]
  go_wp2
  go_ret
  exact ⟨rfl, below_alloc' (below_alloc' (below_alloc' (Below.refl _ _) _) _) _⟩

set_option maxHeartbeats 4000000 in
/-- errors.As at a fault: true; the target points to it -/
theorem as_fault (e t : Addr) (old : Value) (w : World) (hg : Handle w) (ht0 : w.cell? t = some old) (hf0 : w.frozen? t = false) :
    Calls Tryd.prog 76 #[.iface 105 (.pointer (some e)), .iface 107 (.pointer (some t))] w fun ev w' => ev = .returned (.bool true) ∧ w' = ((((w.alloc (.cells #[.pointer (some t)] 107)).alloc (.cells #[.pointer (some ⟨9, 107, none⟩), .pointer (some ⟨w.heap.size, 0, none⟩), .int .u64 150] 119)).alloc (.cells #[.pointer (some ⟨9, 107, none⟩), .pointer (some ⟨w.heap.size, 0, none⟩), .int .u64 150] 119)).alloc (.cells #[.pointer (some e)] 105)).setCell t (.pointer (some e)) := by
  have h6 := @run_callFunc_extern Tryd.prog 88 _ unpackExt Tryd.func88 (by kernel_rfl) (by kernel_rfl) (by kernel_rfl) (by kernel_rfl)
  have h7 := @run_callFunc_extern Tryd.prog 89 _ (ReflectliteValue.methodAny (ReflectliteValue.valueError "reflectlite.Value.Type" 0) vTypeExt) Tryd.func89 (by kernel_rfl) (by kernel_rfl) (by kernel_rfl) (by kernel_rfl)
  have h8 := @run_callFunc_extern Tryd.prog 90 _ (ReflectliteValue.method (ReflectliteValue.valueError "reflectlite.Value.IsNil" 0) ReflectliteValue.isNil) Tryd.func90 (by kernel_rfl) (by kernel_rfl) (by kernel_rfl) (by kernel_rfl)
  have h27 := @run_callFunc_extern Tryd.prog 129 _ (ReflectliteType.abiMethod kindExt) Tryd.func129 (by kernel_rfl) (by kernel_rfl) (by kernel_rfl) (by kernel_rfl)
  have h37 := @run_callFunc_extern Tryd.prog 140 _ (ReflectliteType.method ReflectliteType.elem) Tryd.func140 (by kernel_rfl) (by kernel_rfl) (by kernel_rfl) (by kernel_rfl)
  have h38 := @run_callFunc_extern Tryd.prog 141 _ (ReflectliteType.relation "Implements" ReflectliteType.implements_) Tryd.func141 (by kernel_rfl) (by kernel_rfl) (by kernel_rfl) (by kernel_rfl)
  have h10 := @run_callFunc_extern Tryd.prog 92 _ ReflectliteType.typeOf Tryd.func92 (by kernel_rfl) (by kernel_rfl) (by kernel_rfl) (by kernel_rfl)
  have h35 := @run_callFunc_extern Tryd.prog 138 _ (ReflectliteType.relation "AssignableTo" ReflectliteType.assignableTo) Tryd.func138 (by kernel_rfl) (by kernel_rfl) (by kernel_rfl) (by kernel_rfl)
  have h11 := @run_callFunc_extern Tryd.prog 107 _ (ReflectliteValue.method (ReflectliteValue.valueError "reflectlite.Value.Elem" 0) ReflectliteValue.elem) Tryd.func107 (by kernel_rfl) (by kernel_rfl) (by kernel_rfl) (by kernel_rfl)
  have h12 := @run_callFunc_extern Tryd.prog 108 _ ReflectliteValue.set Tryd.func108 (by kernel_rfl) (by kernel_rfl) (by kernel_rfl) (by kernel_rfl)
  have tO := as_typeOfF
  have mA := as_methodAssignableTo
  have aE := as_assignF
  have vF := as_valueOfF
  have f6 := as_valueOfT
  have f7 := as_typeT
  have mK := as_methodKind
  have mE := as_methodElem
  have mI := as_methodImplements
  have kT := as_kindT
  have kF := as_kindF
  have eT := as_elemT
  have iF := as_implementsF
  have n8 := as_isNilT ⟨w.heap.size, 0, none⟩ t ((w.alloc (.cells #[.pointer (some t)] 107)).alloc (.cells #[.pointer (some ⟨9, 107, none⟩), .pointer (some ⟨w.heap.size, 0, none⟩), .int .u64 150] 119)) (by simp)
  have hlt : 8 < w.heap.size := World.block_lt_of_cell? w _ hg
  have hg2 : ((w.alloc (.cells #[.pointer (some t)] 107)).alloc (.cells #[.pointer (some ⟨9, 107, none⟩), .pointer (some ⟨w.heap.size, 0, none⟩), .int .u64 150] 119)).cell? ⟨8, 0, none⟩ = some (.iface 139 (.agg #[.pointer (some ⟨9, 29, none⟩)])) := by
    rw [World.cell?_alloc_lt _ _ ⟨8, 0, none⟩ (by simp; omega), World.cell?_alloc_lt _ _ ⟨8, 0, none⟩ hlt]; exact hg
  have htl : t.block < w.heap.size := World.block_lt_of_cell? w _ ht0
  have el := as_elemVT ⟨w.heap.size, 0, none⟩ t (((w.alloc (.cells #[.pointer (some t)] 107)).alloc (.cells #[.pointer (some ⟨9, 107, none⟩), .pointer (some ⟨w.heap.size, 0, none⟩), .int .u64 150] 119)).alloc (.cells #[.pointer (some ⟨9, 107, none⟩), .pointer (some ⟨w.heap.size, 0, none⟩), .int .u64 150] 119)) (by rw [World.cell?_alloc_lt _ _ ⟨w.heap.size, 0, none⟩ (by simp; omega)]; simp)
  have st := as_setF t ⟨w.heap.size + 1 + 1 + 1, 0, none⟩ e old ((((w.alloc (.cells #[.pointer (some t)] 107)).alloc (.cells #[.pointer (some ⟨9, 107, none⟩), .pointer (some ⟨w.heap.size, 0, none⟩), .int .u64 150] 119)).alloc (.cells #[.pointer (some ⟨9, 107, none⟩), .pointer (some ⟨w.heap.size, 0, none⟩), .int .u64 150] 119)).alloc (.cells #[.pointer (some e)] 105))
    (by rw [World.cell?_alloc_at _ _ _ _ (by simp)]; rfl)
    (by rw [World.cell?_alloc_lt _ _ t (by simp; omega), World.cell?_alloc_lt _ _ t (by simp; omega), World.cell?_alloc_lt _ _ t (by simp; omega), World.cell?_alloc_lt _ _ t htl]; exact ht0)
    (by rw [World.frozen?_alloc_old _ _ t (by simp; omega), World.frozen?_alloc_old _ _ t (by simp; omega), World.frozen?_alloc_old _ _ t (by simp; omega), World.frozen?_alloc_old _ _ t (Nat.ne_of_lt htl)]; exact hf0)
  go_enter Tryd.func76, Tryd.ntmps76
  go_wp2
  refine wp_loop_rounds 1 ?_
  rw [rounds_succ]
  go_wp2
  go_ret
  exact ⟨rfl, rfl⟩
end Go.Proofs.YtieeefgkdfijdaaDoor

/- The walks of plain.Code and coded. Condition: the variables read as laid. -/
namespace Go.Proofs.YtieeefgkdfijdaaDoor
open Go.RowKit Go.Deep

def codes : List Nat := [1, 2, 3, 4, 5, 6, 7, 8]
theorem mem_codes {c : Nat} (h1 : 1 ≤ c) (h8 : c ≤ 8) : c ∈ codes := by
  unfold codes
  simp
  omega

theorem code_nil (w : World) : Calls Tryd.prog 55 #[.nilIface] w fun e w' => e = .returned (.tuple #[.int .i64 0, .int .i64 (-1)]) ∧ w = w' := by
  go_enter Tryd.func55, Tryd.ntmps55
  go_wp2
  go_ret2
  exact ⟨rfl, rfl⟩

set_option maxHeartbeats 4000000 in
theorem code_sent (w : World) (a : Nat → Addr) (hS : Sent codes w a) (hH : Handle w) (c : Nat) (h1 : 1 ≤ c) (h8 : c ≤ 8) :
    Calls Tryd.prog 55 #[.iface 161 (.pointer (some (a c)))] w fun e w' => e = .returned (.tuple #[.int .i64 c, .int .i64 (-1)]) ∧ Below w.heap.size w w' := by
  have has := as_sent (a c) ⟨w.heap.size, 0, none⟩ (w.alloc (.cells #[.pointer none] 105)) (hH.below (below_alloc' (Below.refl _ _) _))
  have HAS := hide has
  clear has
  have hn := fun X => run_eql_iface_nil_left (P := Tryd.prog) X 161 (.pointer (some (a c))) Tryd.underlying29
  go_enter Tryd.func55, Tryd.ntmps55
  go_wp2_with
    (go_at_call 76
     refine HAS.out.mono ?_
     rintro e w1 ⟨rfl, hb1⟩
     have hS1 := hS.below (below_trans (below_alloc' (Below.refl _ _) (.cells #[.pointer none] 105)) hb1)
     have e1 := hS1.cell 1 (by decide)
     have e2 := hS1.cell 2 (by decide)
     have e3 := hS1.cell 3 (by decide)
     have e4 := hS1.cell 4 (by decide)
     have e5 := hS1.cell 5 (by decide)
     have e6 := hS1.cell 6 (by decide)
     have e7 := hS1.cell 7 (by decide)
     have e8 := hS1.cell 8 (by decide)
     simp only [glob] at e1 e2 e3 e4 e5 e6 e7 e8)
  clear e1 e2 e3 e4 e5 e6 e7 e8
  have hB0 : Below w.heap.size w w1 := below_trans (below_alloc' (Below.refl _ _) (.cells #[.pointer none] 105)) hb1
  clear hb1
  go_loopw [3, 26] (fun at3 i wr => ∃ k : Nat, k < c ∧ i = .int .i64 k ∧ at3 = .int .i64 (-1) ∧ Below (w1.heap.size + 1) (w1.alloc (.cells #[.iface 161 (.pointer (some (a 1))), .iface 161 (.pointer (some (a 2))), .iface 161 (.pointer (some (a 3))), .iface 161 (.pointer (some (a 4))), .iface 161 (.pointer (some (a 5))), .iface 161 (.pointer (some (a 6))), .iface 161 (.pointer (some (a 7))), .iface 161 (.pointer (some (a 8)))] 29)) wr) (fun _ i _ => 8 - (intOf i).toNat)
  case atStart => exact ⟨0, by omega, rfl, rfl, Below.refl _ _⟩
  case round =>
    obtain ⟨k, hk, rfl, rfl, hB⟩ := hrel
    have hcell : wr.cell? ⟨w1.heap.size, k, none⟩ = some (.iface 161 (.pointer (some (a (k + 1))))) := by
      rw [hB.cell (p := ⟨w1.heap.size, k, none⟩) (by show w1.heap.size < _; omega), World.cell?_alloc_at _ _ _ _ rfl]
      have hk8 : k < 8 := by omega
      clear hk hB
      match k, hk8 with
      | 0, _ => rfl
      | 1, _ => rfl
      | 2, _ => rfl
      | 3, _ => rfl
      | 4, _ => rfl
      | 5, _ => rfl
      | 6, _ => rfl
      | 7, _ => rfl
    have hSr : Sent codes wr a := hS.below (below_trans (below_alloc' hB0 _) (hB.mono (by simp)))
    have his := is_sent wr a hSr c (k + 1) (mem_codes h1 h8) (mem_codes (by omega) (by omega))
    by_cases e : c = k + 1
    · rw [decide_eq_true e] at his
      have HIS := hide his
      clear his
      have HE := hide e
      clear e
      go_wp2_with (go_at_call 77; refine HIS.out.mono ?_; rintro e w2 ⟨rfl, rfl⟩)
      go_ret2
      refine ⟨?_, ?_⟩
      · have := HE.out
        subst this
        rfl
      · exact (below_alloc' hB0 _).trans (hB.mono (by have := hB0.size; omega))
    · rw [decide_eq_false e] at his
      have HIS := hide his
      clear his
      have hk2 : k + 1 < c := by omega
      clear e
      go_wp2_with (go_at_call 77; refine HIS.out.mono ?_; rintro e w2 ⟨rfl, rfl⟩)
      go_roundw
      case rel => exact ⟨k + 1, hk2, by go_num, rfl, hB⟩
      case measure => simp [intOf]; omega

set_option maxHeartbeats 4000000 in
theorem code_fault (w : World) (a : Nat → Addr) (hS : Sent codes w a) (hH : Handle w) (c : Nat) (h1 : 1 ≤ c) (h8 : c ≤ 8) (pb po : Nat) (at_ : Int) (hpb : pb < w.heap.size) (hat : w.cell? ⟨pb, po, none⟩ = some (.int .i64 at_)) (herr : w.cell? ⟨pb, po + 1, none⟩ = some (.iface 161 (.pointer (some (a c))))) :
    Calls Tryd.prog 55 #[.iface 105 (.pointer (some ⟨pb, po, none⟩))] w fun e w' => e = .returned (.tuple #[.int .i64 c, .int .i64 at_]) ∧ Below w.heap.size w w' := by
  have has := as_fault ⟨pb, po, none⟩ ⟨w.heap.size, 0, none⟩ (.pointer none) (w.alloc (.cells #[.pointer none] 105)) (hH.below (below_alloc' (Below.refl _ _) _)) (by simp) (by simp)
  have HAS := hide has
  clear has
  have hn := fun X => run_eql_iface_nil_left (P := Tryd.prog) X 105 (.pointer (some ⟨pb, po, none⟩)) Tryd.underlying29
  go_enter Tryd.func55, Tryd.ntmps55
  go_wp2_with
    (go_at_call 76
     refine HAS.out.mono ?_
     rintro e w1 ⟨rfl, hw1⟩
     have hB0 : Below w.heap.size w w1 := by
       rw [hw1]
       refine Below.setCell ?_ (by simp) _
       exact below_alloc' (below_alloc' (below_alloc' (below_alloc' (below_alloc' (Below.refl _ _) _) _) _) _) _
     have hf1 : w1.cell? ⟨w.heap.size, 0, none⟩ = some (.pointer (some ⟨pb, po, none⟩)) := by
       rw [hw1, World.cell?_setCell_same (u := .pointer none)]
       rw [World.cell?_alloc_lt _ _ ⟨w.heap.size, 0, none⟩ (by simp; omega), World.cell?_alloc_lt _ _ ⟨w.heap.size, 0, none⟩ (by simp; omega), World.cell?_alloc_lt _ _ ⟨w.heap.size, 0, none⟩ (by simp; omega), World.cell?_alloc_lt _ _ ⟨w.heap.size, 0, none⟩ (by simp)]
       simp
     clear hw1
     have hat1 : w1.cell? ⟨pb, po, none⟩ = some (.int .i64 at_) := (hB0.cell (p := ⟨pb, po, none⟩) hpb).trans hat
     have hS1 := hS.below hB0
     have e1 := hS1.cell 1 (by decide)
     have e2 := hS1.cell 2 (by decide)
     have e3 := hS1.cell 3 (by decide)
     have e4 := hS1.cell 4 (by decide)
     have e5 := hS1.cell 5 (by decide)
     have e6 := hS1.cell 6 (by decide)
     have e7 := hS1.cell 7 (by decide)
     have e8 := hS1.cell 8 (by decide)
     simp only [glob] at e1 e2 e3 e4 e5 e6 e7 e8)
  clear e1 e2 e3 e4 e5 e6 e7 e8
  go_loopw [3, 26] (fun at3 i wr => ∃ k : Nat, k < c ∧ i = .int .i64 k ∧ at3 = .int .i64 at_ ∧ Below (w1.heap.size + 1) (w1.alloc (.cells #[.iface 161 (.pointer (some (a 1))), .iface 161 (.pointer (some (a 2))), .iface 161 (.pointer (some (a 3))), .iface 161 (.pointer (some (a 4))), .iface 161 (.pointer (some (a 5))), .iface 161 (.pointer (some (a 6))), .iface 161 (.pointer (some (a 7))), .iface 161 (.pointer (some (a 8)))] 29)) wr) (fun _ i _ => 8 - (intOf i).toNat)
  case atStart => exact ⟨0, by omega, rfl, rfl, Below.refl _ _⟩
  case round =>
    obtain ⟨k, hk, rfl, rfl, hB⟩ := hrel
    have hcell : wr.cell? ⟨w1.heap.size, k, none⟩ = some (.iface 161 (.pointer (some (a (k + 1))))) := by
      rw [hB.cell (p := ⟨w1.heap.size, k, none⟩) (by show w1.heap.size < _; omega), World.cell?_alloc_at _ _ _ _ rfl]
      have hk8 : k < 8 := by omega
      clear hk hB
      match k, hk8 with
      | 0, _ => rfl
      | 1, _ => rfl
      | 2, _ => rfl
      | 3, _ => rfl
      | 4, _ => rfl
      | 5, _ => rfl
      | 6, _ => rfl
      | 7, _ => rfl
    have hSr : Sent codes wr a := hS.below (below_trans (below_alloc' hB0 _) (hB.mono (by simp)))
    have herr1 : wr.cell? ⟨pb, po + 1, none⟩ = some (.iface 161 (.pointer (some (a c)))) := ((below_trans (below_alloc' hB0 _) (hB.mono (by simp))).cell (p := ⟨pb, po + 1, none⟩) hpb).trans herr
    have his := is_fault wr a hSr pb po c (k + 1) (mem_codes h1 h8) (mem_codes (by omega) (by omega)) herr1
    clear herr1
    by_cases e : c = k + 1
    · rw [decide_eq_true e] at his
      have HIS := hide his
      clear his
      have HE := hide e
      clear e
      go_wp2_with (go_at_call 77; refine HIS.out.mono ?_; rintro e w2 ⟨rfl, rfl⟩)
      go_ret2
      refine ⟨?_, ?_⟩
      · have := HE.out
        subst this
        rfl
      · exact (below_alloc' hB0 _).trans (hB.mono (by have := hB0.size; omega))
    · rw [decide_eq_false e] at his
      have HIS := hide his
      clear his
      have hk2 : k + 1 < c := by omega
      clear e
      go_wp2_with (go_at_call 77; refine HIS.out.mono ?_; rintro e w2 ⟨rfl, rfl⟩)
      go_roundw
      case rel => exact ⟨k + 1, hk2, by go_num, rfl, hB⟩
      case measure => simp [intOf]; omega

set_option maxHeartbeats 1000000 in
/-- coded: is the error's code this one? -/
theorem coded_any (w : World) (a : Nat → Addr) (hS : Sent codes w a) (hH : Handle w) (c : Nat) (hc : c ≤ 8) (x : Int) :
    Calls Tryd.prog 24 #[errC a c, .int .i64 x] w fun e w' => e = .returned (.bool (decide ((c : Int) = x))) ∧ Below w.heap.size w w' := by
  by_cases h0 : c = 0
  · subst h0
    have e0 : errC a ((0 : Nat) : Int) = .nilIface := rfl
    rw [e0]
    by_cases hx : x = 0
    · subst hx
      go_enter Tryd.func24, Tryd.ntmps24
      go_wp2_with (go_at_call 55; refine (code_nil _).mono ?_; rintro e w' ⟨rfl, rfl⟩)
      go_ret
      exact ⟨rfl, Below.refl _ _⟩
    · have h1 : (0 == x) = false := by simpa using fun h : 0 = x => hx h.symm
      have h2 : decide (((0 : Nat) : Int) = x) = false := decide_eq_false (fun h => hx h.symm)
      rw [h2]
      clear hx h2
      go_enter Tryd.func24, Tryd.ntmps24
      go_wp2_with (go_at_call 55; refine (code_nil _).mono ?_; rintro e w' ⟨rfl, rfl⟩)
      go_ret
      exact ⟨rfl, Below.refl _ _⟩
  · have e0 : errC a (c : Int) = .iface 161 (.pointer (some (a c))) := by unfold errC; rw [if_neg (by omega)]; rfl
    rw [e0]
    have hcode := code_sent w a hS hH c (by omega) hc
    have HC := hide hcode
    clear hcode e0 h0
    generalize a c = a0 at HC ⊢
    have hcc : ∃ y : Int, y = (c : Int) := ⟨_, rfl⟩
    obtain ⟨y, hy⟩ := hcc
    rw [← hy] at HC ⊢
    clear hy hc
    by_cases hx : y = x
    · subst hx
      rw [decide_eq_true rfl]
      go_enter Tryd.func24, Tryd.ntmps24
      go_wp2_with (go_at_call 55; refine HC.out.mono ?_; rintro e w' ⟨rfl, hb⟩)
      go_ret
      exact ⟨rfl, hb⟩
    · have h1 : (y == x) = false := by simpa using hx
      rw [decide_eq_false hx]
      clear hx
      go_enter Tryd.func24, Tryd.ntmps24
      go_wp2_with (go_at_call 55; refine HC.out.mono ?_; rintro e w' ⟨rfl, hb⟩)
      go_ret
      exact ⟨rfl, hb⟩
end Go.Proofs.YtieeefgkdfijdaaDoor

/- The walks of secret.Perfect and the closed fact pad. No condition. -/
namespace Go.Proofs.YtieeefgkdfijdaaDoor
open Go.RowKit Go.Deep

/-- are all rows like the first one? -/
def isPerfect (t : List (List Int)) : Bool := t.all fun r => decide (r = t.getD 0 [])
theorem top_nat {K : List Int} {L : List (List Int)} (hg : GoodCipher K L) : ∃ N : Nat, (N : Int) = topOf L.flatten 0 := ⟨(topOf L.flatten 0).toNat, by have := hg.top; omega⟩
theorem signs_lists {K : List Int} {L : List (List Int)} (N : Nat) (hN : (N : Int) = topOf L.flatten 0) :
    ((List.range (L.getD 0 []).length).map fun j => (List.range (N + 1)).map fun i => sgn K L j (i : Nat) L.length) = signsOf K L := by
  unfold signsOf signTab signRow
  rw [← hN]
  rfl
theorem signs_row (K : List Int) (L : List (List Int)) (N : Nat) (hN : (N : Int) = topOf L.flatten 0) (m : Nat) (hm : m < (L.getD 0 []).length) : (signsOf K L).getD m [] = (List.range (N + 1)).map fun i => sgn K L m (i : Nat) L.length := by
  rw [← signs_lists N hN, getD_eq _ _ _ (by simpa using hm), List.getElem_map, List.getElem_range]
theorem signsOf_len (K : List Int) (L : List (List Int)) : (signsOf K L).length = (L.getD 0 []).length := by simp [signsOf, signTab]

set_option maxRecDepth 100000 in
set_option maxHeartbeats 4000000 in
theorem perfect_err (Ka La : Option Addr) (K : List Int) (L : List (List Int)) (kc lc : Nat) (w : World) (a : Nat → Addr) (hE : Env [2, 3] w a) (hK : Ints w Ka K) (hL : Lists w La L) (h : ccode K L ≠ 0) :
    Calls Tryd.prog 22 #[.agg #[.slice Ka K.length kc, .slice La L.length lc]] w fun e w' => e = .returned (.tuple #[.bool false, errC a (ccode K L)]) ∧ Below w.heap.size w w' := by
  have hv := fun w' (hb : Below w.heap.size w w') => secValid_any Ka La K L kc lc w' a (hE.below hb) (hK.below hb) (hL.below hb)
  rw [errC_pos a _ h] at hv ⊢
  have HV := hide hv
  clear hv h
  generalize a (ccode K L).toNat = a0 at HV ⊢
  go_enter Tryd.func22, Tryd.ntmps22
  go_wp2_with (go_at_call 25; refine Calls.mono (HV.out _ (by first | exact Below.refl _ _ | exact below_alloc' (Below.refl _ _) _)) ?_; rintro e w1 ⟨rfl, hb1⟩)
  go_ret2
  exact ⟨rfl, below_trans (below_alloc' (Below.refl _ _) _) hb1⟩

set_option maxRecDepth 100000 in
set_option maxHeartbeats 4000000 in
theorem perfect_ok (Ka La : Option Addr) (K : List Int) (L : List (List Int)) (kc lc : Nat) (w : World) (a : Nat → Addr) (hE : Env [2, 3] w a) (hK : Ints w Ka K) (hL : Lists w La L) (hg : GoodCipher K L) (h0 : ccode K L = 0) :
    Calls Tryd.prog 22 #[.agg #[.slice Ka K.length kc, .slice La L.length lc]] w fun e w' => e = .returned (.tuple #[.bool (isPerfect (signsOf K L)), .nilIface]) ∧ Below w.heap.size w w' := by
  obtain ⟨N, hN⟩ := top_nat hg
  have hv := fun w' (hb : Below w.heap.size w w') => secValid_any Ka La K L kc lc w' a (hE.below hb) (hK.below hb) (hL.below hb)
  rw [h0, errC_zero] at hv
  have HV := hide hv
  have hsi := fun w' (hb : Below w.heap.size w w') => signs_ok Ka La K L kc lc w' (hK.below hb) (hL.below hb) hg N hN
  have hM0 := (hg.row 0 (by have := (keys_good hg.keys).2.2.2; have := hg.len; omega)).pos
  have hM16 := (hg.row 0 (by have := (keys_good hg.keys).2.2.2; have := hg.len; omega)).most
  have hT15 := hg.top
  rw [← hN] at hT15
  have hrows := fun m hm => signs_row K L N hN m hm
  have htl := signsOf_len K L
  generalize (L.getD 0 []).length = M at hsi hM0 hM16 hrows htl
  have HSI := hide hsi
  have HROWS := hide hrows
  have HTL := hide htl
  clear hv hsi hrows htl
  have HN := hide hN
  clear h0 hg hN
  go_enter Tryd.func22, Tryd.ntmps22
  go_wp2_with (first
    | (go_at_call 25; refine Calls.mono (HV.out _ (by first | exact Below.refl _ _ | exact below_alloc' (Below.refl _ _) _)) ?_; rintro e w1 ⟨rfl, hb1⟩; obtain ⟨k1, k2⟩ := below_cells hb1
       have hz1 : w.heap.size < w1.heap.size := by (have := hb1.size; simp at this; omega)
       have y0 : w1.cell? ⟨w.heap.size, 0, none⟩ = some (.slice Ka K.length kc) := by rw [k1 _ _ (by simp)]; simp
       have y1 : w1.cell? ⟨w.heap.size, 1, none⟩ = some (.slice La L.length lc) := by rw [k1 _ _ (by simp)]; simp
       have hB1 : Below w.heap.size w w1 := below_trans (below_alloc' (Below.refl _ _) _) hb1
       clear k1 k2)
    | (go_at_call 53; refine Calls.mono (HSI.out w1 hB1) ?_; intro e w2 hpost; obtain ⟨B, rfl, hB, hT, hb2⟩ := hpost))
  have hB2 : Below w.heap.size w w2 := below_trans hB1 hb2
  have hc0 : w2.cell? ⟨B, 0, none⟩ = some (.slice (some ⟨B + 1, 0, none⟩) (N + 1) (N + 1)) := hT.outer.cell hM0
  go_loopw [17] (fun v wr => ∃ i : Nat, i ≤ M ∧ v = .int .i64 i ∧ Hid (∀ j, j < i → (signsOf K L).getD j [] = (signsOf K L).getD 0 []) ∧ Below w2.heap.size w2 wr) (fun v _ => M - (intOf v).toNat)
  case atStart => exact ⟨0, Nat.zero_le _, rfl, hide (fun j h => absurd h (by omega)), Below.refl _ _⟩
  case round =>
    obtain ⟨i, hi, rfl, HE, hBi⟩ := hrel
    obtain ⟨wi, rfl⟩ : ∃ wi : World, wi = wr := ⟨_, rfl⟩
    have i0 : (0 : Int) ≤ (i : Int) := Int.natCast_nonneg _
    have hTi : Tab wi B M (N + 1) (fun m s => sgn K L m (s : Nat) L.length) := hT.below hBi hT.lt
    by_cases hiM : i < M
    · have c1 : wi.cell? ⟨B, i, none⟩ = some (.slice (some ⟨B + 1 + i, 0, none⟩) (N + 1) (N + 1)) := hTi.outer.cell hiM
      have c2 : wi.cell? ⟨B, 0, none⟩ = some (.slice (some ⟨B + 1, 0, none⟩) (N + 1) (N + 1)) := hTi.outer.cell hM0
      have hIi := Ints.ofRow (f := fun s => sgn K L i (s : Nat) L.length) (hTi.inner i hiM) (by omega)
      have hI0 := Ints.ofRow (f := fun s => sgn K L 0 (s : Nat) L.length) (hTi.inner 0 hM0) (by omega)
      have hRi := HROWS.out i hiM
      have hR0 := HROWS.out 0 hM0
      have hli : ((List.range (N + 1)).map fun s => sgn K L i (s : Nat) L.length).length = N + 1 := by simp
      have hl0 : ((List.range (N + 1)).map fun s => sgn K L 0 (s : Nat) L.length).length = N + 1 := by simp
      have hcall := PSecretTable.slices_Equal_int_int.calls (N + 1 + 1) (some ⟨B + 1 + i, 0, none⟩) (N + 1) ((List.range (N + 1)).map fun s => sgn K L i (s : Nat) L.length) (some ⟨B + 1, 0, none⟩) (N + 1) ((List.range (N + 1)).map fun s => sgn K L 0 (s : Nat) L.length) _ wi hIi.toC (by rw [hli]; exact Nat.le_refl _) (by simpa using hI0.toC) (by rw [hl0]; exact Nat.le_refl _) (by have := equal_f ((List.range (N + 1)).map fun s => sgn K L i (s : Nat) L.length) ((List.range (N + 1)).map fun s => sgn K L 0 (s : Nat) L.length) (by rw [hli]; omega); rw [hli] at this; exact this)
      rw [hli, hl0, ← hRi, ← hR0] at hcall
      have HCALL := hide hcall
      clear hcall hIi hI0 hRi hR0 hli hl0
      have i1 : (i : Int) < (M : Int) := by omega
      have m0 : (0 : Int) < (M : Int) := by omega
      by_cases he : (signsOf K L).getD i [] = (signsOf K L).getD 0 []
      · rw [decide_eq_true he] at HCALL
        have HEQ := hide he
        clear he
        go_wp2_with (go_at_call 54; refine Calls.mono HCALL.out ?_; rintro e w4 ⟨rfl, hd4⟩; have hb4 := drawn_below hd4)
        go_roundw
        case rel => exact ⟨i + 1, by omega, by go_num, hide (fun j hj => by
          by_cases e : j = i
          · rw [e]; exact HEQ.out
          · exact HE.out j (by omega)), hBi.trans (hb4.mono hBi.size)⟩
        case measure => simp [intOf]; omega
      · rw [decide_eq_false he] at HCALL
        have hnot : isPerfect (signsOf K L) = false := by
          unfold isPerfect
          rw [Bool.eq_false_iff]
          intro h
          rw [List.all_eq_true] at h
          have hlt : i < (signsOf K L).length := by rw [HTL.out]; exact hiM
          have h2 := h _ (List.getElem_mem hlt)
          rw [decide_eq_true_eq] at h2
          exact he (by rw [getD_eq _ i _ hlt]; exact h2)
        have HNOT := hide hnot
        clear he hnot
        go_wp2_with (go_at_call 54; refine Calls.mono HCALL.out ?_; rintro e w4 ⟨rfl, hd4⟩; have hb4 := drawn_below hd4)
        go_ret2
        exact ⟨by rw [HNOT.out]; rfl, hB2.trans ((hBi.trans (hb4.mono hBi.size)).mono hB2.size)⟩
    · obtain rfl : i = M := by omega
      have hyes : isPerfect (signsOf K L) = true := by
        unfold isPerfect
        rw [List.all_eq_true]
        intro r hr
        obtain ⟨j, hj, rfl⟩ := List.getElem_of_mem hr
        rw [decide_eq_true_eq, ← HE.out j (by rw [← HTL.out]; exact hj), getD_eq _ j _ hj]
      have HYES := hide hyes
      clear hyes
      go_wp2_with (fail)
      go_ret2
      exact ⟨by rw [HYES.out]; rfl, hB2.trans (hBi.mono hB2.size)⟩
end Go.Proofs.YtieeefgkdfijdaaDoor
