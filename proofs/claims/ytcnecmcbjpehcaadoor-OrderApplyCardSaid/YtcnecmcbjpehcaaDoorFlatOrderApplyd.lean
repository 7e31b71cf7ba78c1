/- Words, plain laws and walks behind the law OrderApply, part 4. No condition. -/
import Derived.Test.YtcnecmcbjpehcaaDoorFlatOrderApplyc
import Derived.Test.YtcnecmcbjpehcaaDoorFlatOrderApplyb
import Derived.StillTailTactics

/- The walk of order.Spread. Condition: the variables read as laid. -/
namespace Go.Proofs.YtcnecmcbjpehcaaDoor
open Go.RowKit Go.Deep Go.Proofs.YtcnecmcbjpehcaaDoorW.PrintWords

theorem sqErr_zero {m : List (List Int)} (h : sqErr m = 0) : m.length ≤ 8 ∧ 0 < m.length ∧ m.all (goodRow m.length) = true ∧ (List.range m.length).all (goodAt m) = true := by
  unfold sqErr at h
  by_cases c1 : 8 < m.length
  · rw [if_pos c1] at h; cases h
  rw [if_neg c1] at h
  by_cases c2 : m.length = 0
  · rw [if_pos c2] at h; cases h
  rw [if_neg c2] at h
  by_cases c3 : (m.all (goodRow m.length) && (List.range m.length).all (goodAt m)) = true
  · rw [Bool.and_eq_true] at c3
    exact ⟨by omega, by omega, c3.1, c3.2⟩
  · rw [if_neg c3] at h; cases h
theorem sqErr_nat (m : List (List Int)) : ∃ c : Nat, sqErr m = (c : Int) ∧ c ≤ 8 := by
  unfold sqErr
  split
  · exact ⟨2, rfl, by omega⟩
  split
  · exact ⟨3, rfl, by omega⟩
  split
  · exact ⟨0, rfl, by omega⟩
  · exact ⟨3, rfl, by omega⟩
theorem spread_len (m : List (List Int)) (w : List Int) : (spreadOf m w).length = m.length := by unfold spreadOf; rw [List.length_map]
theorem spread_succ {m : List (List Int)} (w : List Int) {i : Nat} (h : i < m.length) : spreadOf (m.take (i + 1)) w = spreadOf (m.take i) w ++ [dotTo (m.getD i []) w w.length] := by
  unfold spreadOf
  rw [takeL_at m i h, List.map_append]
  rfl
theorem spread_takelen {m : List (List Int)} (w : List Int) {i : Nat} (h : i ≤ m.length) : (spreadOf (m.take i) w).length = i := by rw [spread_len, List.length_take]; omega

set_option maxHeartbeats 2000000 in
theorem spread_err1 (A B : Option Addr) (m : List (List Int)) (W : List Int) (c d : Nat) (w : World) (a : Nat → Addr) (hE : Env [2, 3] w a) (hA : Lists w A m) (h : sqErr m ≠ 0) :
    Calls Tryd.prog 29 #[.slice A m.length c, .slice B W.length d] w fun e w' => e = .returned (.tuple #[.slice none 0 0, errC a (sqErr m)]) ∧ Below w.heap.size w w' := by
  have hs := square_any A m c w a hE hA
  have he := errC_pos' a h
  rw [he] at hs ⊢
  generalize a (sqErr m).toNat = x at hs
  have HS := hide hs
  clear hs he h
  go_enter Tryd.func29, Tryd.ntmps29
  go_wp2_with (go_at_call 39; refine Calls.mono HS.out ?_; rintro e w1 ⟨rfl, hb1⟩)
  go_ret2
  exact ⟨rfl, hb1⟩
set_option maxHeartbeats 2000000 in
theorem spread_err3 (A B : Option Addr) (m : List (List Int)) (W : List Int) (c d : Nat) (w : World) (a : Nat → Addr) (hE : Env [2, 3] w a) (hA : Lists w A m) (hB : Ints w B W) (h : sqErr m = 0) (hbad : ¬ (W.length = m.length ∧ numb W = true)) :
    Calls Tryd.prog 29 #[.slice A m.length c, .slice B W.length d] w fun e w' => e = .returned (.tuple #[.slice none 0 0, errC a 3]) ∧ Below w.heap.size w w' := by
  have hs := square_any A m c w a hE hA
  rw [h, errC_zero] at hs
  have HS := hide hs
  have HEN := hide (fun w' (hb : Below w.heap.size w w') => ((hE.below hb).cell 3 (by decide) : w'.cell? ⟨glob 3, 0, none⟩ = _))
  simp only [glob] at HEN
  have hlen := hB.len
  have hlena := hA.len
  by_cases hl : (W.length : Int) = m.length
  · have hne : ((W.length : Int) != (m.length : Int)) = false := by rw [hl]; simp
    have hn : numb W = false := by
      cases hq : numb W with
      | false => rfl
      | true => exact absurd ⟨by omega, hq⟩ hbad
    have hnum := fun w' (hb : Below w.heap.size w w') => numbers_any B W d w' (hB.below hb)
    rw [hn] at hnum
    have HN := hide hnum
    clear hs hnum hn h hbad
    go_enter Tryd.func29, Tryd.ntmps29
    go_wp2_with (first
      | (go_at_call 39; refine Calls.mono HS.out ?_; rintro e w1 ⟨rfl, hb1⟩)
      | (go_at_call 46; refine Calls.mono (HN.out _ hb1) ?_; rintro e w2 ⟨rfl, b2⟩; have hB2 := below_trans hb1 b2))
    have z3 := HEN.out w2 hB2
    go_quiet (fail)
    go_wp2_with (fail)
    go_ret2
    exact ⟨rfl, below_drewN' hB2 _⟩
  · have hne : ((W.length : Int) != (m.length : Int)) = true := by rw [bne_iff_ne]; exact hl
    clear hs h hbad
    go_enter Tryd.func29, Tryd.ntmps29
    go_wp2_with (go_at_call 39; refine Calls.mono HS.out ?_; rintro e w1 ⟨rfl, hb1⟩)
    have z3 := HEN.out w1 hb1
    go_quiet (fail)
    go_wp2_with (fail)
    go_ret2
    exact ⟨rfl, below_drewN' hb1 _⟩

set_option maxRecDepth 100000 in
set_option maxHeartbeats 4000000 in
theorem spread_ok (A B : Option Addr) (m : List (List Int)) (W : List Int) (c d : Nat) (w : World) (a : Nat → Addr) (hE : Env [2, 3] w a) (hA : Lists w A m) (hB : Ints w B W) (h : sqErr m = 0) (hl : W.length = m.length) (hn : numb W = true) :
    Calls Tryd.prog 29 #[.slice A m.length c, .slice B W.length d] w fun e w' => ∃ X x, e = .returned (.tuple #[.slice X (spreadOf m W).length x, .nilIface]) ∧ Ints w' X (spreadOf m W) ∧ (spreadOf m W).length ≤ x ∧ Below w.heap.size w w' := by
  have hs := square_any A m c w a hE hA
  rw [h, errC_zero] at hs
  have HS := hide hs
  have hnum := fun w' (hb : Below w.heap.size w w') => numbers_any B W d w' (hB.below hb)
  rw [hn] at hnum
  have HN := hide hnum
  obtain ⟨h8, h0, hall, _⟩ := sqErr_zero h
  have hne : ((m.length : Int) != (m.length : Int)) = false := by simp
  have HLW := hide hl
  have HNW := hide hn
  have HALL := hide hall
  rw [hl] at HN ⊢
  clear hs hnum hn h hall hl
  go_enter Tryd.func29, Tryd.ntmps29
  go_wp2_with (first
    | (go_at_call 39; refine Calls.mono HS.out ?_; rintro e w1 ⟨rfl, hb1⟩)
    | (go_at_call 46; refine Calls.mono (HN.out _ hb1) ?_; rintro e w2 ⟨rfl, b2⟩; have hB2 := below_trans hb1 b2))
  go_loopw [7, 31] (fun ov iv wr => ∃ i : Nat, i ≤ m.length ∧ iv = .int .i64 i ∧ wr.ownsRow w2.heap.size 3 1 ov i (intCells (spreadOf (m.take i) W)) ∧ Below w2.heap.size w2 wr) (fun _ iv _ => m.length - (intOf iv).toNat)
  case atStart => exact ⟨0, Nat.zero_le _, rfl, nil_own _ _ _ _, Below.refl _ _⟩
  case round =>
    obtain ⟨i, hi, rfl, hown, hBk⟩ := hrel
    obtain ⟨wi, rfl⟩ : ∃ wi : World, wi = wr := ⟨_, rfl⟩
    obtain ⟨A9, c9, rfl, hc9, _⟩ := own_shape hown
    have hBi := below_trans hB2 hBk
    have HO := hide hown
    clear hown
    have i0 : (0 : Int) ≤ (i : Int) := Int.natCast_nonneg _
    by_cases hil : i < m.length
    · have i1 : (i : Int) < (m.length : Int) := by omega
      obtain ⟨b, off, A1, c1', rfl, hb, d1, hle1, hI1⟩ := (hA.below hBi).at_ i hil
      obtain ⟨g1, g2⟩ := goodRow_get HALL.out i hil
      rw [g2] at d1
      go_wp2_with (fail)
      go_loop [10, 37] (fun dv jv => ∃ j : Nat, j ≤ m.length ∧ jv = .int .i64 j ∧ dv = .int .i64 (dotTo (m.getD i []) W j)) (fun _ jv => m.length - (intOf jv).toNat)
      case atStart => exact ⟨0, Nat.zero_le _, rfl, rfl⟩
      case round =>
        obtain ⟨j, hj, rfl, rfl⟩ := hrel
        have j0 : (0 : Int) ≤ (j : Int) := Int.natCast_nonneg _
        have hdb := dotTo_bound g1 HNW.out (by rw [g2, HLW.out]) j (by rw [HLW.out]; exact hj)
        by_cases hjl : j < m.length
        · have j1 : (j : Int) < (m.length : Int) := by omega
          obtain ⟨b1, o1, rfl, hb1', e1⟩ := hI1.at_ j (by omega)
          obtain ⟨b2', o2, rfl, hb2', e2⟩ := (hB.below hBi).at_ j (by rw [HLW.out]; exact hjl)
          have hx := mul_bound (numb_get g1 j (by omega)) (numb_get HNW.out j (by rw [HLW.out]; exact hjl))
          have hds := dotTo_succ (m.getD i []) W j
          generalize hpp : (m.getD i []).getD j 0 * W.getD j 0 = p at hx hds
          have w1' : IntKind.i64.wrap ((m.getD i []).getD j 0 * W.getD j 0) = p := by rw [hpp]; exact IntWalk.i64_in _ (by omega)
          have w2' : IntKind.i64.wrap (dotTo (m.getD i []) W j + p) = dotTo (m.getD i []) W (j + 1) := by rw [hds]; exact IntWalk.i64_in _ (by omega)
          clear hpp hds hx
          generalize (m.getD i []).getD j 0 = x at e1 w1'
          generalize W.getD j 0 = y at e2 w1'
          generalize hq : dotTo (m.getD i []) W (j + 1) = s1 at w2'
          have HQ := hide hq
          clear hq
          generalize dotTo (m.getD i []) W j = s at w2' hdb ⊢
          go_wp2_with (fail)
          go_round
          case rel => exact ⟨j + 1, by omega, by go_num, by rw [HQ.out]⟩
          case measure => simp [intOf]; omega
        · obtain rfl : j = m.length := by omega
          have hss := spread_succ W hil
          rw [HLW.out] at hss
          have hfit : dotTo (m.getD i []) W m.length ≤ 134217728 := by omega
          generalize dotTo (m.getD i []) W m.length = s at hss hfit hdb
          have HSS := hide hss
          have HC3 := hide (show ((spreadOf (m.take i) W).length + 1) * 8 ≤ 140737488355328 by rw [spread_takelen W (by omega)]; omega)
          have HSZ := hide hBk.size
          have HO1 := hide (own_list HO.out)
          clear hss hdb g1 g2 hle1 hI1
          go_wp2_with (at_builtin; refine wp_app_ints _ rfl _ _ rfl w2.heap.size (.slice A9 i c9) _ rfl (HO1.out.alloc _) _ 1 1 [s] rfl rfl (ints_one (b := wi.heap.size) (by simp) (by simp)) HC3.out (by rw [World.size_alloc]; exact Nat.le_succ_of_le HSZ.out) ?_; intro A' c' w5 hc5 ho5 hg5 hob5)
          have hb5 : Below w2.heap.size w2 w5 := (hBk.alloc hBk.size _).grown hg5 (by rw [World.size_alloc]; exact Nat.le_succ_of_le HSZ.out) (fun j hj => (HO.out.lt j hj).1)
          rw [← HSS.out, spread_takelen W (by omega)] at ho5
          go_roundw
          case rel => exact ⟨i + 1, by omega, by go_num, by rw [spread_takelen W (show i ≤ m.length by omega)]; exact ho5, hb5⟩
          case measure => simp [intOf]; omega
    · obtain rfl : i = m.length := by omega
      have hoo := HO.out
      rw [List.take_length] at hoo
      have HIW := hide (show Ints wi A9 (spreadOf m W) from Ints.own (c := c9) (e := 3) (base := w2.heap.size) (by rw [spread_len]; exact hoo))
      clear hoo
      go_wp2_with (fail)
      go_ret2
      exact ⟨A9, c9, by rw [spread_len]; rfl, HIW.out, by rw [spread_len]; exact hc9, hBi⟩
end Go.Proofs.YtcnecmcbjpehcaaDoor

/- What a table whose rows and columns have one sum makes of weights is majorized by the weights, times that sum. No condition. -/
namespace Go.Proofs.YtcnecmcbjpehcaaDoor
open Go Go.RowKit

/-- the sum of the first n values -/
def sumN (n : Nat) (f : Nat → Int) : Int := ((List.range n).map f).sum
theorem sumN_succ (n : Nat) (f : Nat → Int) : sumN (n + 1) f = sumN n f + f n := by
  unfold sumN
  rw [List.range_succ, List.map_append, List.sum_append]
  simp
theorem sumN_congr {n : Nat} {f g : Nat → Int} (h : ∀ i, i < n → f i = g i) : sumN n f = sumN n g := by
  induction n with
  | zero => rfl
  | succ n ih => rw [sumN_succ, sumN_succ, ih (fun i hi => h i (by omega)), h n (by omega)]
theorem sumN_le {n : Nat} {f g : Nat → Int} (h : ∀ i, i < n → f i ≤ g i) : sumN n f ≤ sumN n g := by
  induction n with
  | zero => exact Int.le_refl _
  | succ n ih =>
    rw [sumN_succ, sumN_succ]
    have := ih (fun i hi => h i (by omega))
    have := h n (by omega)
    omega
theorem sumN_add (n : Nat) (f g : Nat → Int) : sumN n (fun i => f i + g i) = sumN n f + sumN n g := by
  induction n with
  | zero => rfl
  | succ n ih => rw [sumN_succ, sumN_succ, sumN_succ, ih]; omega
theorem sumN_zero (n : Nat) : sumN n (fun _ => 0) = 0 := by
  induction n with
  | zero => rfl
  | succ n ih => rw [sumN_succ, ih]; rfl
theorem sumN_mulR (n : Nat) (f : Nat → Int) (c : Int) : sumN n (fun i => f i * c) = sumN n f * c := by
  induction n with
  | zero => simp [sumN]
  | succ n ih => rw [sumN_succ, sumN_succ, ih, Int.add_mul]
theorem sumN_swap (n k : Nat) (f : Nat → Nat → Int) : sumN n (fun i => sumN k fun j => f i j) = sumN k (fun j => sumN n fun i => f i j) := by
  induction n with
  | zero => rw [show (fun j => sumN 0 fun i => f i j) = fun _ => (0 : Int) from rfl, sumN_zero]; rfl
  | succ n ih =>
    rw [sumN_succ, ih, show (fun j => sumN (n + 1) fun i => f i j) = fun j => sumN n (fun i => f i j) + f n j from funext fun j => sumN_succ n _, sumN_add]
theorem map_sumN {α : Type} (l : List α) (d : α) (f : α → Int) : (l.map f).sum = sumN l.length fun i => f (l.getD i d) := by
  induction l with
  | nil => rfl
  | cons x l ih =>
    unfold sumN at *
    rw [List.map_cons, List.sum_cons, ih, List.length_cons, List.range_succ_eq_map, List.map_cons, List.sum_cons, List.map_map]
    rfl
theorem perm_sum {a b : List Int} (h : a.Perm b) : a.sum = b.sum := by
  induction h with
  | nil => rfl
  | cons x _ ih => simp only [List.sum_cons, ih]
  | swap x y l => simp only [List.sum_cons]; omega
  | trans _ _ h1 h2 => exact h1.trans h2

/-- how much the numbers exceed t, together -/
def over (t : Int) (l : List Int) : Int := (l.map fun x => max (x - t) 0).sum
theorem over_cons (t x : Int) (l : List Int) : over t (x :: l) = max (x - t) 0 + over t l := rfl
theorem over_append (t : Int) (a b : List Int) : over t (a ++ b) = over t a + over t b := by unfold over; rw [List.map_append, List.sum_append]
theorem over_nonneg (t : Int) : ∀ l, 0 ≤ over t l
  | [] => Int.le_refl _
  | x :: l => by
    have := over_nonneg t l
    rw [over_cons]
    omega
theorem over_perm (t : Int) {a b : List Int} (h : a.Perm b) : over t a = over t b := perm_sum (h.map _)
theorem take_le_over (t : Int) : ∀ (l : List Int) (k : Nat), k ≤ l.length → (l.take k).sum ≤ (k : Int) * t + over t l
  | l, 0, _ => by have := over_nonneg t l; simp; omega
  | [], k + 1, h => by simp at h
  | x :: l, k + 1, h => by
    have := take_le_over t l k (by simp at h; omega)
    rw [List.take_succ_cons, List.sum_cons, over_cons, Int.natCast_add, Int.add_mul]
    simp only [Int.natCast_one, Int.one_mul]
    omega
theorem over_ge (t : Int) : ∀ l : List Int, (∀ x, x ∈ l → t ≤ x) → l.sum = (l.length : Int) * t + over t l
  | [], _ => by simp [over]
  | x :: l, h => by
    have h1 := over_ge t l (fun y hy => h y (List.mem_cons_of_mem _ hy))
    have h2 := h x (List.mem_cons_self ..)
    rw [List.sum_cons, h1, over_cons, List.length_cons, Int.natCast_add, Int.add_mul]
    simp only [Int.natCast_one, Int.one_mul]
    omega
theorem over_le (t : Int) : ∀ l : List Int, (∀ x, x ∈ l → x ≤ t) → over t l = 0
  | [], _ => rfl
  | x :: l, h => by
    have h1 := over_le t l (fun y hy => h y (List.mem_cons_of_mem _ hy))
    have h2 := h x (List.mem_cons_self ..)
    rw [over_cons, h1]
    omega
theorem take_eq_over {l : List Int} (hd : l.Pairwise fun a b => b ≤ a) (k : Nat) (hk : k < l.length) : (l.take (k + 1)).sum = ((k + 1 : Nat) : Int) * (l.getD k 0) + over (l.getD k 0) l := by
  have hg : l.getD k 0 = l[k] := by simp [List.getD_eq_getElem?_getD, hk]
  rw [hg]
  rw [List.pairwise_iff_getElem] at hd
  have h1 : over l[k] l = over l[k] (l.take (k + 1)) + over l[k] (l.drop (k + 1)) := by rw [← over_append, List.take_append_drop]
  have h2 : over l[k] (l.drop (k + 1)) = 0 := over_le _ _ (fun x hx => by
    obtain ⟨j, hj, rfl⟩ := List.getElem_of_mem hx
    rw [List.length_drop] at hj
    rw [List.getElem_drop]
    exact hd k (k + 1 + j) hk (by omega) (by omega))
  have h3 := over_ge l[k] (l.take (k + 1)) (fun x hx => by
    obtain ⟨j, hj, rfl⟩ := List.getElem_of_mem hx
    rw [List.length_take] at hj
    rw [List.getElem_take]
    by_cases e : j = k
    · subst e; exact Int.le_refl _
    · exact hd j k (by omega) hk (by omega))
  rw [List.length_take, Nat.min_eq_left (by omega)] at h3
  rw [h3, h1, h2]
  omega
theorem above_of_over {p q : List Int} (hl : q.length = p.length) (h : ∀ t, t ∈ p → over t q ≤ over t p) : aboveB p q = true := by
  unfold aboveB aboveTo
  rw [List.all_eq_true]
  intro k hk
  rw [List.mem_range] at hk
  rw [decide_eq_true_iff]
  cases k with
  | zero => simp
  | succ j =>
    have hj : j < (falls p).length := by rw [falls_length]; omega
    have e1 := take_eq_over (falls_desc p) j hj
    have e2 := take_le_over ((falls p).getD j 0) (falls q) (j + 1) (by rw [falls_length]; omega)
    rw [over_perm _ (falls_perm p)] at e1
    rw [over_perm _ (falls_perm q)] at e2
    have e3 := h ((falls p).getD j 0) ((falls_perm p).mem_iff.1 (by
      rw [show (falls p).getD j 0 = (falls p)[j] by simp [List.getD_eq_getElem?_getD, hj]]
      exact List.getElem_mem hj))
    omega

theorem getD_mapI {α : Type} (l : List α) (d : α) (f : α → Int) (i : Nat) (h : i < l.length) : (l.map f).getD i 0 = f (l.getD i d) := by
  simp [List.getD_eq_getElem?_getD, h]
theorem max_mul {a s : Int} (hs : 0 ≤ s) : max (a * s) 0 = max a 0 * s := by
  by_cases h : 0 ≤ a
  · have := Int.mul_nonneg h hs
    rw [Int.max_eq_left this, Int.max_eq_left h]
  · have h1 : a * s ≤ 0 := Int.mul_nonpos_of_nonpos_of_nonneg (by omega) hs
    rw [Int.max_eq_right h1, Int.max_eq_right (by omega), Int.zero_mul]
theorem above_spread {m : List (List Int)} {w : List Int} (h : m.all (goodRow m.length) = true) (hg : (List.range m.length).all (goodAt m) = true) (hl : w.length = m.length) (h0 : 0 < m.length) :
    aboveB (w.map fun x => x * (m.getD 0 []).sum) (spreadOf m w) = true := by
  have row : ∀ i, i < m.length → (m.getD i []).sum = (m.getD 0 []).sum ∧ colSum m i = (m.getD 0 []).sum := fun i hi => by
    have := List.all_eq_true.1 hg i (List.mem_range.2 hi)
    simpa [goodAt] using this
  have s0 : 0 ≤ (m.getD 0 []).sum := by
    have := colTo_bound h 0 h0 m.length (Nat.le_refl _)
    have r := (row 0 h0).2
    unfold colSum at r
    omega
  generalize (m.getD 0 []).sum = S at row s0 ⊢
  refine above_of_over (by unfold spreadOf; rw [List.length_map, List.length_map, hl]) (fun t ht => ?_)
  rw [List.mem_map] at ht
  obtain ⟨u, _, rfl⟩ := ht
  have cell : ∀ i k, i < m.length → k < m.length → 0 ≤ (m.getD i []).getD k 0 := fun i k hi hk => by
    obtain ⟨g1, g2⟩ := goodRow_get h i hi
    exact (numb_get g1 k (by omega)).1
  have rows : ∀ i, i < m.length → sumN m.length (fun k => (m.getD i []).getD k 0) = S := fun i hi => by
    have e := map_sumN (m.getD i []) 0 id
    rw [List.map_id, (row i hi).1, (goodRow_get h i hi).2] at e
    exact e.symm
  have cols : ∀ k, k < m.length → sumN m.length (fun i => (m.getD i []).getD k 0) = S := fun k hk => by
    have e := map_sumN m [] (fun r => r.getD k 0)
    have r := (row k hk).2
    unfold colSum colTo at r
    rw [List.take_length] at r
    rw [r] at e
    exact e.symm
  have lhs : over (u * S) (spreadOf m w) = sumN m.length fun i => max (sumN m.length (fun k => (m.getD i []).getD k 0 * w.getD k 0) - u * S) 0 := by
    unfold over spreadOf
    rw [List.map_map, map_sumN m []]
    refine sumN_congr (fun i _ => ?_)
    show max (dotTo (m.getD i []) w w.length - u * S) 0 = _
    rw [hl]
    rfl
  have rhs : over (u * S) (w.map fun x => x * S) = sumN m.length fun k => S * max (w.getD k 0 - u) 0 := by
    unfold over
    rw [List.map_map, map_sumN w 0, hl]
    refine sumN_congr (fun i _ => ?_)
    show max (w.getD i 0 * S - u * S) 0 = _
    rw [← Int.sub_mul, max_mul s0, Int.mul_comm]
  have each : ∀ i, i < m.length → max (sumN m.length (fun k => (m.getD i []).getD k 0 * w.getD k 0) - u * S) 0 ≤ sumN m.length fun k => (m.getD i []).getD k 0 * max (w.getD k 0 - u) 0 := fun i hi => by
    have e1 : u * S = sumN m.length fun k => (m.getD i []).getD k 0 * u := by rw [sumN_mulR, rows i hi, Int.mul_comm]
    have e2 : sumN m.length (fun k => (m.getD i []).getD k 0 * w.getD k 0) = sumN m.length (fun k => (m.getD i []).getD k 0 * (w.getD k 0 - u)) + u * S := by
      rw [e1, ← sumN_add]
      refine sumN_congr (fun k _ => ?_)
      rw [Int.mul_sub]
      omega
    have e3 : sumN m.length (fun k => (m.getD i []).getD k 0 * (w.getD k 0 - u)) ≤ sumN m.length fun k => (m.getD i []).getD k 0 * max (w.getD k 0 - u) 0 :=
      sumN_le (fun k hk => Int.mul_le_mul_of_nonneg_left (Int.le_max_left _ _) (cell i k hi hk))
    have e4 : 0 ≤ sumN m.length fun k => (m.getD i []).getD k 0 * max (w.getD k 0 - u) 0 := by
      have := sumN_le (n := m.length) (f := fun _ => 0) (g := fun k => (m.getD i []).getD k 0 * max (w.getD k 0 - u) 0) (fun k hk => Int.mul_nonneg (cell i k hi hk) (Int.le_max_right _ _))
      rw [sumN_zero] at this
      exact this
    rw [e2]
    omega
  rw [lhs, rhs]
  refine Int.le_trans (sumN_le each) (Int.le_of_eq ?_)
  rw [sumN_swap]
  refine sumN_congr (fun k hk => ?_)
  rw [sumN_mulR, cols k hk]
end Go.Proofs.YtcnecmcbjpehcaaDoor

/- The walk of the law OrderSpread, and what few and lists answer. Condition: the variables read as laid; the arguments are of modest bulk. -/
namespace Go.Proofs.YtcnecmcbjpehcaaDoor
open Go.RowKit Go.Deep Go.Proofs.YtcnecmcbjpehcaaDoorW.PrintWords

theorem row_le (l : List (List Int)) (i : Nat) : (l.getD i []).length ≤ l.flatten.length := by
  rcases Nat.lt_or_ge i l.length with h | h
  · rw [getDL_eq l i h]
    have : l[i] ∈ l := List.getElem_mem h
    exact List.Sublist.length_le (List.sublist_flatten_of_mem this)
  · rw [List.getD_eq_getElem?_getD, List.getElem?_eq_none h]
    simp
theorem flat_take (l : List (List Int)) (i : Nat) (h : i < l.length) : (l.take (i + 1)).flatten = (l.take i).flatten ++ l.getD i [] := by
  rw [takeL_at l i h, List.flatten_append]
  simp
theorem flat_take_le (l : List (List Int)) (i : Nat) : (l.take i).flatten.length ≤ l.flatten.length := by
  have : l.flatten = (l.take i).flatten ++ (l.drop i).flatten := by rw [← List.flatten_append, List.take_append_drop]
  rw [this, List.length_append]
  omega
theorem flat_l0 (l : List (List Int)) (hl : l.length ≤ 2000000) (hf : l.flatten.length ≤ 2000000) : ∀ (d i k : Nat), i + d = l.length → d < k → POrderSpread.demonref1_Flat.l0 k l (l.take i).flatten (i : Int) = some l.flatten := by
  intro d
  induction d with
  | zero =>
    intro i k hi hk
    obtain ⟨k, rfl⟩ : ∃ m, k = m + 1 := ⟨k - 1, by omega⟩
    obtain rfl : i = l.length := by omega
    simp only [POrderSpread.demonref1_Flat.l0]
    rw [if_neg (by omega), List.take_length]
  | succ d ih =>
    intro i k hi hk
    obtain ⟨k, rfl⟩ : ∃ m, k = m + 1 := ⟨k - 1, by omega⟩
    have hil : i < l.length := by omega
    have h1 := flat_take_le l i
    have h2 := row_le l i
    simp only [POrderSpread.demonref1_Flat.l0]
    rw [if_pos (by omega), if_pos (by omega), rdL_nat, if_pos (by omega), wrap_up i (by omega), ← flat_take l i hil]
    exact ih (i + 1) k (by omega) (by omega)
theorem flat_f (l : List (List Int)) (hl : l.length ≤ 2000000) (hf : l.flatten.length ≤ 2000000) (k : Nat) (hk : l.length < k) : POrderSpread.demonref1_Flat.f k l = some l.flatten :=
  flat_l0 l hl hf l.length 0 k (by omega) hk
/-- is a table of few rows and few numbers? -/
def fewS (l : List (List Int)) : Bool := decide (l.length ≤ 70) && decide (l.flatten.length ≤ 600)
theorem few_f (l : List (List Int)) (hl : l.length ≤ 2000000) (hf : l.flatten.length ≤ 2000000) (k : Nat) (hk : l.length < k) : POrderSpread.demonlaw4_few.f k l = some (fewS l) := by
  unfold POrderSpread.demonlaw4_few.f fewS
  by_cases h : l.length ≤ 70
  · rw [if_pos (by omega), flat_f l hl hf k hk]
    have e : decide ((l.flatten.length : Int) ≤ 600) = decide (l.flatten.length ≤ 600) := by
      by_cases h2 : l.flatten.length ≤ 600
      · rw [decide_eq_true h2, decide_eq_true (by omega)]
      · rw [decide_eq_false h2, decide_eq_false (by omega)]
    show some (decide ((l.flatten.length : Int) ≤ 600)) = _
    rw [e, decide_eq_true h, Bool.true_and]
  · rw [if_neg (by omega), decide_eq_false h, Bool.false_and]
theorem intsS_f (l : List Int) (hl : l.length ≤ 2000000) : POrderSpread.demonlaw4_ints.f l = some l := by
  unfold POrderSpread.demonlaw4_ints.f
  rw [if_pos (by simp; omega)]
  rfl
theorem lists_l0 (l : List (List Int)) (hl : l.length ≤ 2000000) (hf : l.flatten.length ≤ 2000000) : ∀ (d i k : Nat), i + d = l.length → d < k → POrderSpread.demonlaw4_lists.l0 k l (l.take i) (i : Int) = some l := by
  intro d
  induction d with
  | zero =>
    intro i k hi hk
    obtain ⟨k, rfl⟩ : ∃ m, k = m + 1 := ⟨k - 1, by omega⟩
    obtain rfl : i = l.length := by omega
    simp only [POrderSpread.demonlaw4_lists.l0]
    rw [if_neg (by omega), List.take_length]
  | succ d ih =>
    intro i k hi hk
    obtain ⟨k, rfl⟩ : ∃ m, k = m + 1 := ⟨k - 1, by omega⟩
    have hil : i < l.length := by omega
    have h2 := row_le l i
    have h3 : (l.take i).length ≤ i := by simp; omega
    simp only [POrderSpread.demonlaw4_lists.l0]
    rw [if_pos (by omega), if_pos (by omega), rdL_nat, intsS_f _ (by omega), Option.bind_some, if_pos (by omega), wrap_up i (by omega), ← takeL_at l i hil]
    exact ih (i + 1) k (by omega) (by omega)
theorem lists_f (l : List (List Int)) (hl : l.length ≤ 2000000) (hf : l.flatten.length ≤ 2000000) (k : Nat) (hk : l.length < k) : POrderSpread.demonlaw4_lists.f k l = some l :=
  lists_l0 l hl hf l.length 0 k (by omega) hk
theorem fewS_ok (A : Option Addr) (m : List (List Int)) (c : Nat) (w : World) (hA : Lists w A m) (hc : m.length ≤ c) (hl : m.length ≤ 2000000) (hf : m.flatten.length ≤ 2000000) :
    Calls Tryd.prog 11 #[.slice A m.length c] w fun e w' => e = .returned (.bool (fewS m)) ∧ Below w.heap.size w w' :=
  POrderSpread.demonlaw4_few.calls (m.length + 1) A c m (fewS m) w hA.toC hc (few_f m hl hf _ (by omega))
theorem listsS_ok (A : Option Addr) (m : List (List Int)) (c : Nat) (w : World) (hA : Lists w A m) (hc : m.length ≤ c) (hl : m.length ≤ 2000000) (hf : m.flatten.length ≤ 2000000) :
    Calls Tryd.prog 13 #[.slice A m.length c] w fun e w' => ∃ B d, e = .returned (.slice B m.length d) ∧ Lists w' B m ∧ m.length ≤ d ∧ Below w.heap.size w w' := by
  refine (POrderSpread.demonlaw4_lists.calls (m.length + 1) A c m m w hA.toC hc (lists_f m hl hf _ (by omega))).mono ?_
  rintro e w' ⟨v, rfl, hS, hb⟩
  obtain ⟨B, d, rfl, hI, hd⟩ := Lists.ofR (Kd.S_R hS)
  exact ⟨B, d, rfl, hI, hd, hb⟩
theorem spreadOf_ok (A B : Option Addr) (m : List (List Int)) (W : List Int) (c d : Nat) (w : World) (hA : Lists w A m) (hB : Ints w B W) (hc : m.length ≤ c) (hd : W.length ≤ d) (h : sqErr m = 0) (hl : W.length = m.length) (hn : numb W = true) :
    Calls Tryd.prog 28 #[.slice A m.length c, .slice B W.length d] w fun e w' => RetInts (spreadOf m W) w e w' := by
  obtain ⟨h8, _, hall, _⟩ := sqErr_zero h
  obtain ⟨k, hk⟩ := (spreadOf_f hall h8 hn hl).rounds
  refine (POrderSpread.demonref4_SpreadOf.calls k A c m B d W (spreadOf m W) w hA.toC hc hB.toC hd hk).mono ?_
  rintro e w' ⟨v, rfl, hR, hb⟩
  obtain ⟨B, d, rfl, hI, hd⟩ := Ints.ofR hR
  exact ⟨B, d, rfl, hI, hd, hb⟩
theorem same_nil (w : World) : Calls Tryd.prog 25 #[.slice none 0 0, .slice none 0 0] w fun e w' => e = .returned (.bool true) ∧ Below w.heap.size w w' := by
  have h := same_any none none [] [] 0 0 w (Ints.nil w _) (Ints.nil w _)
  rw [decide_eq_true rfl] at h
  exact h
theorem step_app_ints (w : World) {ops : Array Oper} {o : Oper} {a : Act} {K : Act → World → Prop} {Q : Exit → Act → World → Prop} {E : Prop} (hgd : o.guard = none) (s x : Operand)
    (ho : o.op = .call { callee := .builtin .append, args := #[s, x], argTypes := #[25, 25] })
    (base : Nat) (v : Value) (l0 : List Int) (hs : a.eval s = v) (hown : w.ownsRow base 3 1 v l0.length (intCells l0))
    (A : Option Addr) (m c : Nat) (l : List Int) (hx : a.eval x = .slice A m c) (hm : m = l.length) (hr : Ints w A l)
    (hbytes : (l0.length + m) * 8 ≤ 140737488355328) (hbase : base ≤ w.heap.size)
    (h : ∀ A' c' w', (l0 ++ l).length ≤ c' → w'.ownsRow base 3 1 (.slice A' (l0 ++ l).length c') (l0 ++ l).length (intCells (l0 ++ l)) → w.grownBy w' v.ownBlock → ((Value.slice A' (l0 ++ l).length c').ownBlock = v.ownBlock ∨ (Value.slice A' (l0 ++ l).length c').ownBlock = some w.heap.size) →
      K (a.put o.dst (.slice A' (l0 ++ l).length c')) w') :
    if Region.wanted o (yielded ops a.tmps) = true then Oper.wp Tryd.prog o a w K Q else E := by
  obtain ⟨i0, hi0, hz0, hz1, hz2⟩ := info_parts int_info
  subst hm
  refine step_append_any w hgd s x _ ho base 3 i0 _ 1 8 Tryd.underlying25 hi0 hz0 hz1 hz2 rfl (by omega) v l0.length (intCells l0) hs hown w.heap.size A l.length c (intCells l) hx hr.reads (intCells_one l) (by simp only [maxLen]; omega) hbytes hbase ?_
  intro v' w' h1 h2 h3
  rw [← intCells_append, ← List.length_append] at h1
  obtain ⟨A', c', rfl, hc, _⟩ := own_shape h1
  exact h A' c' w' hc h1 h2 h3

set_option maxRecDepth 100000 in
set_option maxHeartbeats 4000000 in
theorem law_spread_many (A B : Option Addr) (m : List (List Int)) (W : List Int) (c d : Nat) (w : World) (a : Nat → Addr) (hS : Sent codes w a) (hA : Lists w A m) (hB : Ints w B W) (hc : m.length ≤ c) (hm : m.length ≤ 2000000) (hf : m.flatten.length ≤ 2000000) (hbad : ¬ (fewS m = true ∧ W.length ≤ 200)) :
    Calls Tryd.prog 6 #[.slice A m.length c, .slice B W.length d] w fun e w' => e = .returned (.bool true) ∧ Below w.heap.size w w' := by
  have HE : Hid (∀ w', Below w.heap.size w w' → Env [2, 3] w' a) := hide fun w' hb => (hS.toEnv.sub (fun c h => sub23 h)).below hb
  have HUN := hide (fun w' (hb : Below w.heap.size w w') => unlike_any w' a (HE.out w' hb))
  have hfw := fun w' (hb : Below w.heap.size w w') => fewS_ok A m c w' (hA.below hb) hc hm hf
  have hlen := hB.len
  by_cases h1 : fewS m = true
  · have h2 : 200 < (W.length : Int) := by
      have : ¬ W.length ≤ 200 := fun h => hbad ⟨h1, h⟩
      omega
    rw [h1] at hfw
    have HF := hide hfw
    clear hfw hbad
    go_enter Tryd.func6, Tryd.ntmps6
    go_wp2_with (first
      | (go_at_call 10; refine Calls.mono (HUN.out _ (Below.refl _ _)) ?_; rintro e w1 ⟨rfl, hB1⟩)
      | (go_at_call 11; refine Calls.mono (HF.out w1 hB1) ?_; rintro e w2 ⟨rfl, b2⟩; have hB2 := below_trans hB1 b2))
    go_ret
    exact ⟨rfl, hB2⟩
  · rw [show fewS m = false by simpa using h1] at hfw
    have HF := hide hfw
    clear hfw hbad h1
    go_enter Tryd.func6, Tryd.ntmps6
    go_wp2_with (first
      | (go_at_call 10; refine Calls.mono (HUN.out _ (Below.refl _ _)) ?_; rintro e w1 ⟨rfl, hB1⟩)
      | (go_at_call 11; refine Calls.mono (HF.out w1 hB1) ?_; rintro e w2 ⟨rfl, b2⟩; have hB2 := below_trans hB1 b2))
    go_ret
    exact ⟨rfl, hB2⟩

set_option maxRecDepth 100000 in
set_option maxHeartbeats 4000000 in
theorem law_spread_bad (A B : Option Addr) (m : List (List Int)) (W : List Int) (c d : Nat) (w : World) (a : Nat → Addr) (hS : Sent codes w a) (hH : Handle w) (hA : Lists w A m) (hB : Ints w B W) (hc : m.length ≤ c) (hd : W.length ≤ d) (hm : m.length ≤ 2000000) (hf : m.flatten.length ≤ 2000000)
    (h1 : fewS m = true) (h2 : W.length ≤ 200) (hbad : ¬ (sqErr m = 0 ∧ W.length = m.length ∧ numb W = true)) :
    Calls Tryd.prog 6 #[.slice A m.length c, .slice B W.length d] w fun e w' => e = .returned (.bool true) ∧ Below w.heap.size w w' := by
  have HE : Hid (∀ w', Below w.heap.size w w' → Env [2, 3] w' a) := hide fun w' hb => (hS.toEnv.sub (fun c h => sub23 h)).below hb
  have HUN := hide (fun w' (hb : Below w.heap.size w w') => unlike_any w' a (HE.out w' hb))
  have hfw := fun w' (hb : Below w.heap.size w w') => fewS_ok A m c w' (hA.below hb) hc hm hf
  rw [h1] at hfw
  have HF := hide hfw
  have hlen := hB.len
  have hlena := hA.len
  have h2' : (W.length : Int) ≤ 200 := by omega
  have hrows : ∀ r, r ∈ m → r.length ≤ 2000000 := fun r hr => Nat.le_trans (List.Sublist.length_le (List.sublist_flatten_of_mem hr)) hf
  have hse := fun w' (hb : Below w.heap.size w w') => squareError_ok A m c w' (hA.below hb) hc hrows
  have HCL := hide (fun w' (hb : Below w.heap.size w w') => listsS_ok A m c w' (hA.below hb) hc hm hf)
  have HCI := hide (fun w' (hb : Below w.heap.size w w') => ints_ok B W d w' (hB.below hb) hd (by omega))
  have HNIL := hide (fun w' => same_nil w')
  by_cases h0 : sqErr m = 0
  · rw [h0] at hse
    have HSE := hide hse
    have hsp := fun (A' B' : Option Addr) (x y : Nat) w' (g1 : Lists w' A' m) (g2 : Ints w' B' W) (hb : Below w.heap.size w w') => spread_err3 A' B' m W x y w' a (HE.out w' hb) g1 g2 h0 (fun g => hbad ⟨h0, g⟩)
    have hcd := fun w' (hb : Below w.heap.size w w') => coded_any w' a (hS.below hb) (hH.below hb) 3 (by decide) 3
    rw [decide_eq_true (by rfl)] at hcd
    have HSP := hide hsp
    have HCD := hide hcd
    have HNU := hide (fun w' (hb : Below w.heap.size w w') => numbersS_ok B W d w' (hB.below hb) hd (by omega))
    by_cases hl : (W.length : Int) = m.length
    · have hne : ((W.length : Int) != (m.length : Int)) = false := by rw [hl]; simp
      have hn : numb W = false := by
        cases hq : numb W with
        | false => rfl
        | true => exact absurd ⟨h0, by omega, hq⟩ hbad
      have hnu := HNU.out
      rw [hn] at hnu
      have HN := hide hnu
      clear hse hsp hcd hnu HNU hfw h0 h1 hbad hn
      go_enter Tryd.func6, Tryd.ntmps6
      go_wp2_with (first
        | (go_at_call 10; refine Calls.mono (HUN.out _ (Below.refl _ _)) ?_; rintro e w1 ⟨rfl, hB1⟩)
        | (go_at_call 11; refine Calls.mono (HF.out w1 hB1) ?_; rintro e w2 ⟨rfl, b2⟩; have hB2 := below_trans hB1 b2)
        | (go_at_call 26; refine Calls.mono (HSE.out w2 hB2) ?_; rintro e w3 ⟨rfl, b3⟩; have hB3 := below_trans hB2 b3)
        | (go_at_call 27; refine Calls.mono (HN.out w3 hB3) ?_; rintro e w4 ⟨rfl, b4⟩; have hB4 := below_trans hB3 (drawn_below b4))
        | (go_at_call 13; refine Calls.mono (HCL.out w4 hB4) ?_; rintro e w5 ⟨A5, c5, rfl, hI5, hc5, b5⟩; have hB5 := below_trans hB4 b5)
        | (go_at_call 18; refine Calls.mono (HCI.out w5 hB5) ?_; rintro e w6 ⟨A6, c6, rfl, hI6, hc6, b6⟩; have hB6 := below_trans hB5 b6)
        | (go_at_call 29; refine Calls.mono (HSP.out A5 A6 c5 c6 w6 (hI5.below b6) hI6 hB6) ?_; rintro e w7 ⟨rfl, b7⟩; have hB7 := below_trans hB6 b7)
        | (go_at_call 19; refine Calls.mono (HCD.out w7 hB7) ?_; rintro e w8 ⟨rfl, b8⟩; have hB8 := below_trans hB7 b8)
        | (go_at_call 25; refine Calls.mono (HNIL.out w8) ?_; rintro e w9 ⟨rfl, b9⟩; have hB9 := below_trans hB8 b9))
      go_ret
      exact ⟨rfl, hB9⟩
    · have hne : ((W.length : Int) != (m.length : Int)) = true := by rw [bne_iff_ne]; exact hl
      clear hse hsp hcd HNU hfw h0 h1 hbad hl
      go_enter Tryd.func6, Tryd.ntmps6
      go_wp2_with (first
        | (go_at_call 10; refine Calls.mono (HUN.out _ (Below.refl _ _)) ?_; rintro e w1 ⟨rfl, hB1⟩)
        | (go_at_call 11; refine Calls.mono (HF.out w1 hB1) ?_; rintro e w2 ⟨rfl, b2⟩; have hB2 := below_trans hB1 b2)
        | (go_at_call 26; refine Calls.mono (HSE.out w2 hB2) ?_; rintro e w4 ⟨rfl, b3⟩; have hB4 := below_trans hB2 b3)
        | (go_at_call 13; refine Calls.mono (HCL.out w4 hB4) ?_; rintro e w5 ⟨A5, c5, rfl, hI5, hc5, b5⟩; have hB5 := below_trans hB4 b5)
        | (go_at_call 18; refine Calls.mono (HCI.out w5 hB5) ?_; rintro e w6 ⟨A6, c6, rfl, hI6, hc6, b6⟩; have hB6 := below_trans hB5 b6)
        | (go_at_call 29; refine Calls.mono (HSP.out A5 A6 c5 c6 w6 (hI5.below b6) hI6 hB6) ?_; rintro e w7 ⟨rfl, b7⟩; have hB7 := below_trans hB6 b7)
        | (go_at_call 19; refine Calls.mono (HCD.out w7 hB7) ?_; rintro e w8 ⟨rfl, b8⟩; have hB8 := below_trans hB7 b8)
        | (go_at_call 25; refine Calls.mono (HNIL.out w8) ?_; rintro e w9 ⟨rfl, b9⟩; have hB9 := below_trans hB8 b9))
      go_ret
      exact ⟨rfl, hB9⟩
  · obtain ⟨cc, hc', hc8⟩ := sqErr_nat m
    have hc0 : 0 < cc := by
      rcases Nat.eq_zero_or_pos cc with h | h
      · subst h; exact absurd hc' h0
      · exact h
    have hsp := fun (A' B' : Option Addr) (x y : Nat) w' (g1 : Lists w' A' m) (hb : Below w.heap.size w w') => spread_err1 A' B' m W x y w' a (HE.out w' hb) g1 h0
    have hcd := fun w' (hb : Below w.heap.size w w') => coded_any w' a (hS.below hb) (hH.below hb) cc hc8 cc
    rw [hc'] at hsp hse
    rw [decide_eq_true rfl] at hcd
    have he : errC a (cc : Int) = .iface 155 (.pointer (some (a cc))) := errC_pos' a (by omega)
    rw [he] at hsp hcd
    have HSE := hide hse
    have HSP := hide hsp
    have HCD := hide hcd
    have hci : 0 < (cc : Int) := by omega
    have hcn : ((cc : Int) == 0) = false := by rw [beq_eq_false_iff_ne]; omega
    clear hse hsp hcd he hc' h0 hfw h1 hbad
    go_enter Tryd.func6, Tryd.ntmps6
    go_wp2_with (first
      | (go_at_call 10; refine Calls.mono (HUN.out _ (Below.refl _ _)) ?_; rintro e w1 ⟨rfl, hB1⟩)
      | (go_at_call 11; refine Calls.mono (HF.out w1 hB1) ?_; rintro e w2 ⟨rfl, b2⟩; have hB2 := below_trans hB1 b2)
      | (go_at_call 26; refine Calls.mono (HSE.out w2 hB2) ?_; rintro e w4 ⟨rfl, b3⟩; have hB4 := below_trans hB2 b3)
      | (go_at_call 13; refine Calls.mono (HCL.out w4 hB4) ?_; rintro e w5 ⟨A5, c5, rfl, hI5, hc5, b5⟩; have hB5 := below_trans hB4 b5)
      | (go_at_call 18; refine Calls.mono (HCI.out w5 hB5) ?_; rintro e w6 ⟨A6, c6, rfl, hI6, hc6, b6⟩; have hB6 := below_trans hB5 b6)
      | (go_at_call 29; refine Calls.mono (HSP.out A5 A6 c5 c6 w6 (hI5.below b6) hB6) ?_; rintro e w7 ⟨rfl, b7⟩; have hB7 := below_trans hB6 b7)
      | (go_at_call 19; refine Calls.mono (HCD.out w7 hB7) ?_; rintro e w8 ⟨rfl, b8⟩; have hB8 := below_trans hB7 b8)
      | (go_at_call 25; refine Calls.mono (HNIL.out w8) ?_; rintro e w9 ⟨rfl, b9⟩; have hB9 := below_trans hB8 b9))
    go_ret
    exact ⟨rfl, hB9⟩
end Go.Proofs.YtcnecmcbjpehcaaDoor

/- The walk of the law OrderSpread: tables that are right, weights that are right. Condition: the variables read as laid; the arguments are of modest bulk. -/
namespace Go.Proofs.YtcnecmcbjpehcaaDoor
open Go.RowKit Go.Deep Go.Proofs.YtcnecmcbjpehcaaDoorW.PrintWords

/-- the weights, times S: the first i -/
def ownTo (W : List Int) (S : Int) (i : Nat) : List Int := (W.take i).map fun x => x * S
theorem ownTo_len {W : List Int} (S : Int) {i : Nat} (h : i ≤ W.length) : (ownTo W S i).length = i := by unfold ownTo; rw [List.length_map, List.length_take]; omega
theorem ownTo_succ {W : List Int} (S : Int) {i : Nat} (h : i < W.length) : ownTo W S (i + 1) = ownTo W S i ++ [W.getD i 0 * S] := by
  unfold ownTo
  rw [take_at W i h, List.map_append]
  rfl
theorem ownTo_all (W : List Int) (S : Int) : ownTo W S W.length = W.map fun x => x * S := by unfold ownTo; rw [List.take_length]
theorem own_bound {x S : Int} (hx : 0 ≤ x ∧ x ≤ 4096) (hs : 0 ≤ S ∧ S ≤ 32768) : 0 ≤ x * S ∧ x * S ≤ 134217728 := by
  obtain ⟨a, rfl⟩ := Int.eq_ofNat_of_zero_le hx.1
  obtain ⟨b, rfl⟩ := Int.eq_ofNat_of_zero_le hs.1
  have h : a * b ≤ 4096 * 32768 := Nat.mul_le_mul (by omega) (by omega)
  have e : ((a : Int) * (b : Int)) = ((a * b : Nat) : Int) := by push_cast; rfl
  rw [e]
  omega
theorem ints_new (w : World) (n : Nat) (y : Int) (t : TypeId) : Ints ((w.drewN n).alloc (.cells #[.int .i64 y] t)) (some ⟨w.heap.size, 0, none⟩) [y] := Ints.lit (w.drewN n) [y] t (by simp)

set_option maxRecDepth 100000 in
set_option maxHeartbeats 4000000 in
theorem law_spread_good (A B : Option Addr) (m : List (List Int)) (W : List Int) (c d : Nat) (w : World) (a : Nat → Addr) (hS : Sent codes w a) (hH : Handle w) (hA : Lists w A m) (hB : Ints w B W) (hc : m.length ≤ c) (hd : W.length ≤ d) (hm : m.length ≤ 2000000) (hf : m.flatten.length ≤ 2000000)
    (h1 : fewS m = true) (h2 : W.length ≤ 200) (h0 : sqErr m = 0) (hl : W.length = m.length) (hn : numb W = true) :
    Calls Tryd.prog 6 #[.slice A m.length c, .slice B W.length d] w fun e w' => e = .returned (.bool true) ∧ Below w.heap.size w w' := by
  have HE : Hid (∀ w', Below w.heap.size w w' → Env [2, 3] w' a) := hide fun w' hb => (hS.toEnv.sub (fun c h => sub23 h)).below hb
  have HUN := hide (fun w' (hb : Below w.heap.size w w') => unlike_any w' a (HE.out w' hb))
  have hfw := fun w' (hb : Below w.heap.size w w') => fewS_ok A m c w' (hA.below hb) hc hm hf
  rw [h1] at hfw
  have HF := hide hfw
  have hrows : ∀ r, r ∈ m → r.length ≤ 2000000 := fun r hr => Nat.le_trans (List.Sublist.length_le (List.sublist_flatten_of_mem hr)) hf
  have hse := fun w' (hb : Below w.heap.size w w') => squareError_ok A m c w' (hA.below hb) hc hrows
  rw [h0] at hse
  have HSE := hide hse
  have HCL := hide (fun w' (hb : Below w.heap.size w w') => listsS_ok A m c w' (hA.below hb) hc hm hf)
  have hci := fun w' (hb : Below w.heap.size w w') => ints_ok B W d w' (hB.below hb) hd (by omega)
  have hnu := fun w' (hb : Below w.heap.size w w') => numbersS_ok B W d w' (hB.below hb) hd (by omega)
  rw [hn] at hnu
  have hso := fun w' (hb : Below w.heap.size w w') => spreadOf_ok A B m W c d w' (hA.below hb) (hB.below hb) hc hd h0 hl hn
  have hsp := fun (A' B' : Option Addr) (x y : Nat) w' (g1 : Lists w' A' m) (g2 : Ints w' B' W) (hb : Below w.heap.size w w') => spread_ok A' B' m W x y w' a (HE.out w' hb) g1 g2 h0 hl hn
  have HCD := hide (fun w' (hb : Below w.heap.size w w') => coded_any w' a (hS.below hb) (hH.below hb) 0 (by decide) 0)
  obtain ⟨h8, hp, hall, hgood⟩ := sqErr_zero h0
  have hab := above_spread (w := W) hall hgood hl hp
  obtain ⟨g3, g4⟩ := goodRow_get hall 0 hp
  have hsum : 0 ≤ (m.getD 0 []).sum ∧ (m.getD 0 []).sum ≤ 32768 := by
    have r0 := List.all_eq_true.1 hgood 0 (List.mem_range.2 hp)
    have r1 : colSum m 0 = (m.getD 0 []).sum := by
      unfold goodAt at r0
      rw [Bool.and_eq_true] at r0
      exact of_decide_eq_true r0.2
    have r2 := colTo_bound hall 0 hp m.length (Nat.le_refl _)
    unfold colSum at r1
    omega
  obtain ⟨b, off, A0, c0, rfl, hb0, d0, hle0, hI0⟩ := hA.at_ 0 hp
  have hsm : Small (m.getD 0 []) := numb_small g3 (by omega)
  have HS0 := hide (fun w' (hb : Below w.heap.size w w') => sumS_ok A0 (m.getD 0 []) c0 w' (hI0.below hb) hle0 hsm)
  have hd0 := fun w' (hb : Below w.heap.size w w') => show w'.cell? ⟨b, off, none⟩ = some (.slice A0 (m.getD 0 []).length c0) from (hb.cell (p := ⟨b, off, none⟩) hb0).trans d0
  have hs0 := HS0.out
  rw [g4] at hs0 hd0
  have hwl := fun i (hi : i < W.length) => numb_get hn i hi
  have hlen := spread_len m W
  have hin := fun (A' : Option Addr) (x : Nat) w' (g : Ints w' A' (spreadOf m W)) (gx : (spreadOf m W).length ≤ x) => ints_ok A' (spreadOf m W) x w' g gx (by rw [spread_len]; exact hm)
  have hsame := fun (A' B' : Option Addr) (x y : Nat) w' (g1 : Ints w' A' (spreadOf m W)) (g2 : Ints w' B' (spreadOf m W)) => same_any A' B' (spreadOf m W) (spreadOf m W) x y w' g1 g2
  rw [decide_eq_true rfl] at hsame
  have habove : ∀ (A' B' : Option Addr) (x y : Nat) w', Ints w' A' (ownTo W (m.getD 0 []).sum W.length) → Ints w' B' (spreadOf m W) → m.length ≤ x → (spreadOf m W).length ≤ y → Below w.heap.size w w' →
      Calls Tryd.prog 17 #[.slice A' m.length x, .slice B' (spreadOf m W).length y] w' fun e w'' => (e = .returned (.tuple #[.bool true, .nilIface]) ∨ ∃ q, e = .returned (.tuple #[.bool false, .iface 155 (.pointer (some q))])) ∧ Below w'.heap.size w' w'' := by
    intro A' B' x y w' k1 k2 k3 k4 k5
    have ol : (ownTo W (m.getD 0 []).sum W.length).length = m.length := by rw [ownTo_len _ (Nat.le_refl _), hl]
    rw [← ol]
    rw [ownTo_all] at k1 ol ⊢
    by_cases g : lErr (W.map fun x => x * (m.getD 0 []).sum) (spreadOf m W) = 0
    · refine (aboveP_ok A' B' _ _ x y w' a (HE.out w' k5) k1 k2 (by rw [ol]; exact k3) k4 g).mono ?_
      rintro e w'' ⟨he, hb⟩
      rw [hab] at he
      exact ⟨.inl he, hb⟩
    · refine (aboveP_err A' B' _ _ x y w' a (HE.out w' k5) k1 k2 (by rw [ol]; exact k3) k4 g).mono ?_
      rintro e w'' ⟨he, hb⟩
      rw [errC_pos' a g] at he
      exact ⟨.inr ⟨_, he⟩, hb⟩
  rw [hl] at hci hnu hso h2
  rw [hl] at hwl habove
  have hown0 : ∀ i, i < m.length → ownTo W (m.getD 0 []).sum (i + 1) = ownTo W (m.getD 0 []).sum i ++ [W.getD i 0 * (m.getD 0 []).sum] := fun i hi => ownTo_succ _ (by omega)
  have hownl : ∀ i, i ≤ m.length → (ownTo W (m.getD 0 []).sum i).length = i := fun i hi => ownTo_len _ (by omega)
  have h2' : (m.length : Int) ≤ 200 := by omega
  have hne : ((m.length : Int) != (m.length : Int)) = false := by simp
  have hp' : (0 : Int) < (m.length : Int) := by omega
  have HWL := hide hl
  rw [hl]
  have HOWN0 := hide hown0
  have HOWNL := hide hownl
  have HWI := hide hwl
  have HAB := hide habove
  generalize (m.getD 0 []).sum = S at hs0 hsum HOWN0 HOWNL HAB
  generalize spreadOf m W = Z at hso hsp hin hsame HAB hlen
  have HCI := hide hci
  have HNU := hide hnu
  have HSO := hide hso
  have HSP := hide hsp
  have HIN := hide hin
  have HSAME := hide hsame
  have HS1 := hide hs0
  have HD0 := hide hd0
  have HZL := hide hlen
  clear hse hfw h0 h1 hci hnu hso hsp hin hsame hs0 hd0 hwl hown0 hownl habove hab hn hall hgood g3 g4 hle0 hI0 HS0 hsm hl hlen d0
  go_enter Tryd.func6, Tryd.ntmps6
  go_wp2_with (first
    | (go_at_call 10; refine Calls.mono (HUN.out _ (Below.refl _ _)) ?_; rintro e w1 ⟨rfl, hB1⟩)
    | (go_at_call 11; refine Calls.mono (HF.out w1 hB1) ?_; rintro e w2 ⟨rfl, b2⟩; have hB2 := below_trans hB1 b2)
    | (go_at_call 26; refine Calls.mono (HSE.out w2 hB2) ?_; rintro e w3 ⟨rfl, b3⟩; have hB3 := below_trans hB2 b3)
    | (go_at_call 27; refine Calls.mono (HNU.out w3 hB3) ?_; rintro e w4 ⟨rfl, b4⟩; have hB4 := below_trans hB3 (drawn_below b4))
    | (go_at_call 28; refine Calls.mono (HSO.out w4 hB4) ?_; rintro e w5 ⟨A5, c5, rfl, hI5, hc5, b5⟩; have hB5 := below_trans hB4 b5)
    | (go_at_call 13; refine Calls.mono (HCL.out w5 hB5) ?_; rintro e w6 ⟨A6, c6, rfl, hI6, hc6, b6⟩; have hB6 := below_trans hB5 b6)
    | (go_at_call 18; refine Calls.mono (HCI.out w6 hB6) ?_; rintro e w7 ⟨A7, c7, rfl, hI7, hc7, b7⟩; have hB7 := below_trans hB6 b7)
    | (go_at_call 29; refine Calls.mono (HSP.out A6 A7 c6 c7 w7 (hI6.below b7) hI7 hB7) ?_; rintro e w8 ⟨A8, c8, rfl, hI8, hc8, b8⟩; have hB8 := below_trans hB7 b8)
    | (go_at_call 19; refine Calls.mono (HCD.out w8 hB8) ?_; rintro e w9 ⟨rfl, b9⟩; have hB9 := below_trans hB8 b9)
    | (go_at_call 25; refine Calls.mono (HSAME.out A8 A5 c8 c5 w9 (hI8.below b9) (hI5.below (below_trans b6 (below_trans b7 (below_trans b8 b9))))) ?_; rintro e w10 ⟨rfl, b10⟩; have hB10 := below_trans hB9 b10))
  have HI8 := hide (hI8.below (below_trans b9 b10))
  go_loopw [10, 11] (fun ov iv wr => ∃ i : Nat, i ≤ m.length ∧ iv = .int .i64 i ∧ wr.ownsRow w10.heap.size 3 1 ov i (intCells (ownTo W S i)) ∧ Below w10.heap.size w10 wr) (fun _ iv _ => m.length - (intOf iv).toNat)
  case atStart => exact ⟨0, Nat.zero_le _, rfl, nil_own _ _ _ _, Below.refl _ _⟩
  case round =>
    obtain ⟨i, hi, rfl, hown, hBk⟩ := hrel
    obtain ⟨wi, rfl⟩ : ∃ wi : World, wi = wr := ⟨_, rfl⟩
    obtain ⟨A9, c9', rfl, hc9, _⟩ := own_shape hown
    have hBi := below_trans hB10 hBk
    have HO := hide hown
    clear hown
    have i0 : (0 : Int) ≤ (i : Int) := Int.natCast_nonneg _
    by_cases hil : i < m.length
    · have i1 : (i : Int) < (m.length : Int) := by omega
      obtain ⟨b1, o1, rfl, hb1', e1w⟩ := hB.at_ i (by rw [HWL.out]; exact hil)
      have e1c := fun w' (hb : Below w.heap.size w w') => (hb.cell (p := ⟨b1, o1 + i, none⟩) hb1').trans e1w
      have e2 := HD0.out wi hBi
      have hx := HWI.out i hil
      have hss := HOWN0.out i hil
      have hpb := own_bound hx hsum
      generalize W.getD i 0 = x at e1c e1w hx hss hpb
      have hw : IntKind.i64.wrap (x * S) = x * S := IntWalk.i64_in _ (by omega)
      have HE1 := hide e1c
      have e1 := HE1.out wi hBi
      clear e1c e1w
      have HSS := hide hss
      have HC3 := hide (show ((ownTo W S i).length + 1) * 8 ≤ 140737488355328 by rw [HOWNL.out i (by omega)]; omega)
      have HSZ := hide hBk.size
      have HO1 := hide (own_list HO.out)
      have HO2 := hide (fun n => (show (wi.drewN n).ownsRow w10.heap.size 3 1 (.slice A9 i c9') (ownTo W S i).length (intCells (ownTo W S i)) from HO1.out))
      have HDR := hide hBi.drew
      have HSZ3 := hide (fun n => (HSZ.out : w10.heap.size ≤ (wi.drewN n).heap.size))
      have HSZ2 := hide (fun n o => (by rw [World.size_alloc]; exact Nat.le_succ_of_le HSZ.out : w10.heap.size ≤ ((wi.drewN n).alloc o).heap.size))
      have hgr := fun n o w' (hg : ((wi.drewN n).alloc o).grownBy w' (Value.slice A9 i c9').ownBlock) => (show Below w10.heap.size w10 w' from (((below_drewN' hBk n).alloc (HSZ3.out n) o).grown hg (HSZ2.out n o) (fun j hj => (HO.out.lt j hj).1)))
      have HG := hide hgr
      clear hgr
      have hBd : ∀ n, Below w10.heap.size w10 (wi.drewN n) := fun n => below_drewN' hBk n
      have HBD := hide hBd
      clear hBd
      clear hss hpb
      go_wp2_with (fail)
      go_region_held3 (fun w' => w'.cell? ⟨b1, o1 + i, none⟩ = some (.int .i64 x) ∧ w'.cell? ⟨b, off, none⟩ = some (.slice A0 m.length c0))
        (first | go_keep | exact ⟨‹_›, ‹_›⟩ | trivial)
        ((first
          | (go_at_call 30
             (with_reducible refine Calls.mono (HS1.out _ HDR.out) ?_)
             rintro e w11 ⟨rfl, hd11⟩
             obtain ⟨⟨n11, rfl⟩⟩ := hd11)
          | (refine step_app_ints _ rfl _ _ rfl w10.heap.size (.slice A9 i c9') _ rfl ((HO2.out _).alloc _) _ 1 1 [x * S] rfl rfl (ints_new wi _ (x * S) _) HC3.out (HSZ2.out _ _) ?_
             intro A' c' w12 hc12 ho12 hg12 hob12
             have hb12 := HG.out _ _ _ hg12
             have q1 := HE1.out w12 (below_trans hB10 hb12)
             have q2 := HD0.out w12 (below_trans hB10 hb12))
          | fail))
      rw [← HSS.out, HOWNL.out (i + 1) (by omega)] at ho12
      go_wp2_with (fail)
      go_roundw
      case rel => exact ⟨i + 1, by omega, by go_num, by rw [HOWNL.out i (by omega)]; exact ho12, hb12⟩
      case measure => simp [intOf]; omega
    · obtain rfl : i = m.length := by omega
      have HIW := hide (show Ints wi A9 (ownTo W S m.length) from Ints.own (c := c9') (e := 3) (base := w10.heap.size) (by rw [HOWNL.out _ (Nat.le_refl _)]; exact HO.out))
      go_wp2_with (first
        | (go_at_call 18; refine Calls.mono (HIN.out A8 c8 wi (HI8.out.below hBk) hc8) ?_; rintro e w12 ⟨A12, c12, rfl, hI12, hc12, b12⟩; have hB12 := below_trans hBi b12)
        | (go_at_call 17; refine Calls.mono (HAB.out A9 A12 c9' c12 w12 (HIW.out.below b12) hI12 hc9 hc12 hB12) ?_; rintro e w13 ⟨hor, b13⟩; have hB13 := below_trans hB12 b13; rcases hor with rfl | ⟨q, rfl⟩))
      all_goals
        go_wp2_with (fail)
        go_ret
        exact ⟨rfl, hB13⟩
theorem law_spread (A B : Option Addr) (m : List (List Int)) (W : List Int) (c d : Nat) (w : World) (a : Nat → Addr) (hS : Sent codes w a) (hH : Handle w) (hA : Lists w A m) (hB : Ints w B W) (hc : m.length ≤ c) (hd : W.length ≤ d) (hm : m.length ≤ 2000000) (hf : m.flatten.length ≤ 2000000) :
    Calls Tryd.prog 6 #[.slice A m.length c, .slice B W.length d] w fun e w' => e = .returned (.bool true) ∧ Below w.heap.size w w' := by
  by_cases h : fewS m = true ∧ W.length ≤ 200
  · by_cases g : sqErr m = 0 ∧ W.length = m.length ∧ numb W = true
    · exact law_spread_good A B m W c d w a hS hH hA hB hc hd hm hf h.1 h.2 g.1 g.2.1 g.2.2
    · exact law_spread_bad A B m W c d w a hS hH hA hB hc hd hm hf h.1 h.2 g
  · exact law_spread_many A B m W c d w a hS hA hB hc hm hf h
end Go.Proofs.YtcnecmcbjpehcaaDoor

/- The walk of movesOf: the same moves, in a row of one's own. No condition. -/
namespace Go.Proofs.YtcnecmcbjpehcaaDoor
open Go.RowKit Go.Deep Go.Proofs.YtcnecmcbjpehcaaDoorW.PrintWords

theorem step_app_trips (w : World) {ops : Array Oper} {o : Oper} {a : Act} {K : Act → World → Prop} {Q : Exit → Act → World → Prop} {E : Prop} (hgd : o.guard = none) (s x : Operand)
    (ho : o.op = .call { callee := .builtin .append, args := #[s, x], argTypes := #[46, 46] })
    (base : Nat) (v : Value) (l0 : List Mv) (hs : a.eval s = v) (hown : w.ownsRow base 62 3 v l0.length (tripCells l0))
    (A : Option Addr) (m c : Nat) (l : List Mv) (hx : a.eval x = .slice A m c) (hm : m = l.length) (hr : Trips w A l)
    (hbytes : (l0.length + m) * 24 ≤ 140737488355328) (hbase : base ≤ w.heap.size)
    (h : ∀ A' c' w', (l0 ++ l).length ≤ c' → w'.ownsRow base 62 3 (.slice A' (l0 ++ l).length c') (l0 ++ l).length (tripCells (l0 ++ l)) → w.grownBy w' v.ownBlock → ((Value.slice A' (l0 ++ l).length c').ownBlock = v.ownBlock ∨ (Value.slice A' (l0 ++ l).length c').ownBlock = some w.heap.size) →
      K (a.put o.dst (.slice A' (l0 ++ l).length c')) w') :
    if Region.wanted o (yielded ops a.tmps) = true then Oper.wp Tryd.prog o a w K Q else E := by
  obtain ⟨i0, hi0, hz0, hz1, hz2⟩ := info_parts trip_info
  subst hm
  refine step_append_any w hgd s x _ ho base 62 i0 _ 3 24 Tryd.underlying46 hi0 hz0 hz1 hz2 rfl (by omega) v l0.length (tripCells l0) hs hown w.heap.size A l.length c (tripCells l) hx hr.reads (tripCells_one l) (by simp only [maxLen]; omega) hbytes hbase ?_
  intro v' w' h1 h2 h3
  rw [← tripCells_append, ← List.length_append] at h1
  obtain ⟨A', c', rfl, hc, _⟩ := own_shape h1
  exact h A' c' w' hc h1 h2 h3
theorem trips_new (w : World) (f t s : Int) (ty : TypeId) : Trips (w.drew.alloc (.cells #[.int .i64 f, .int .i64 t, .int .i64 s] ty)) (some ⟨w.heap.size, 0, none⟩) [(f, t, s)] :=
  ⟨by simp, fun i hi => by
    obtain rfl : i = 0 := by simp at hi; omega
    refine ⟨w.heap.size, 0, rfl, by simp, ?_, ?_, ?_⟩
    · show (w.drew.alloc _).cell? ⟨w.drew.heap.size, 0, none⟩ = _; rw [World.cell?_alloc_at _ _ _ _ rfl]; rfl
    · show (w.drew.alloc _).cell? ⟨w.drew.heap.size, 1, none⟩ = _; rw [World.cell?_alloc_at _ _ _ _ rfl]; rfl
    · show (w.drew.alloc _).cell? ⟨w.drew.heap.size, 2, none⟩ = _; rw [World.cell?_alloc_at _ _ _ _ rfl]; rfl⟩
theorem take_trip (l : List Mv) (i : Nat) (h : i < l.length) : l.take (i + 1) = l.take i ++ [l.getD i (0, 0, 0)] := by
  rw [List.take_succ_eq_append_getElem h]
  simp [List.getD_eq_getElem?_getD, h]
theorem trip_own_list {w : World} {base e : Nat} {v : Value} {n : Nat} {l : List Mv} (h : w.ownsRow base e 3 v n (tripCells l)) : w.ownsRow base e 3 v l.length (tripCells l) := by
  have : n = l.length := by have := h.1; rw [tripCells_length] at this; omega
  rw [← this]; exact h

set_option maxRecDepth 100000 in
set_option maxHeartbeats 4000000 in
theorem movesOf_ok (B : Option Addr) (l : List Mv) (d : Nat) (w : World) (hB : Trips w B l) (hl : l.length ≤ 2000000) :
    Calls Tryd.prog 23 #[.slice B l.length d] w fun e w' => ∃ A c, e = .returned (.slice A l.length c) ∧ Trips w' A l ∧ l.length ≤ c ∧ Below w.heap.size w w' := by
  have hlen := hB.len
  go_enter Tryd.func23, Tryd.ntmps23
  go_wp2_with (fail)
  go_loopw [3, 4] (fun ov iv wr => ∃ i : Nat, i ≤ l.length ∧ iv = .int .i64 i ∧ wr.ownsRow w.heap.size 62 3 ov i (tripCells (l.take i)) ∧ Below w.heap.size w wr) (fun _ iv _ => l.length - (intOf iv).toNat)
  case atStart => exact ⟨0, Nat.zero_le _, rfl, nil_own _ _ _ _, Below.refl _ _⟩
  case round =>
    obtain ⟨i, hi, rfl, hown, hBk⟩ := hrel
    obtain ⟨wi, rfl⟩ : ∃ wi : World, wi = wr := ⟨_, rfl⟩
    obtain ⟨A9, c9, rfl, hc9, _⟩ := own_shape hown
    have HO := hide hown
    clear hown
    have i0 : (0 : Int) ≤ (i : Int) := Int.natCast_nonneg _
    by_cases hil : i < l.length
    · have i1 : (i : Int) < (l.length : Int) := by omega
      obtain ⟨b, off, rfl, hb, e1w, e2w, e3w⟩ := hB.at_ i hil
      have hss := take_trip l i hil
      generalize l.getD i (0, 0, 0) = m at e1w e2w e3w hss
      obtain ⟨f, t, s⟩ := m
      dsimp only at e1w e2w e3w
      have HE := hide (fun w' (h : Below w.heap.size w w') => (⟨(h.cell (p := ⟨b, off + i * 3, none⟩) hb).trans e1w, (h.cell (p := ⟨b, off + i * 3 + 1, none⟩) hb).trans e2w, (h.cell (p := ⟨b, off + i * 3 + 2, none⟩) hb).trans e3w⟩ :
        w'.cell? ⟨b, off + i * 3, none⟩ = some (.int .i64 f) ∧ w'.cell? ⟨b, off + i * 3 + 1, none⟩ = some (.int .i64 t) ∧ w'.cell? ⟨b, off + i * 3 + 2, none⟩ = some (.int .i64 s)))
      clear e1w e2w e3w
      obtain ⟨e1, e2, e3⟩ := HE.out wi hBk
      have HSS := hide hss
      have HC3 := hide (show ((l.take i).length + 1) * 24 ≤ 140737488355328 by rw [List.length_take]; omega)
      have HSZ := hide hBk.size
      have hgr := fun o w' (hg : (wi.drew.alloc o).grownBy w' (Value.slice A9 i c9).ownBlock) => (show Below w.heap.size w w' from ((hBk.drew.alloc HSZ.out o).grown hg (by rw [World.size_alloc]; exact Nat.le_succ_of_le HSZ.out) (fun j hj => (HO.out.lt j hj).1)))
      have HG := hide hgr
      have HO2 := hide (show wi.drew.ownsRow w.heap.size 62 3 (.slice A9 i c9) (l.take i).length (tripCells (l.take i)) from trip_own_list HO.out)
      have HSZ2 := hide (fun o => (by rw [World.size_alloc]; exact Nat.le_succ_of_le HSZ.out : w.heap.size ≤ (wi.drew.alloc o).heap.size))
      clear hgr hss
      go_wp2_with (fail)
      go_region_held3 (fun w' => w'.cell? ⟨b, off + i * 3, none⟩ = some (.int .i64 f) ∧ w'.cell? ⟨b, off + i * 3 + 1, none⟩ = some (.int .i64 t) ∧ w'.cell? ⟨b, off + i * 3 + 2, none⟩ = some (.int .i64 s))
        (first | go_keep | exact ⟨‹_›, ‹_›, ‹_›⟩ | trivial)
        ((first
          | (refine step_app_trips _ rfl _ _ rfl w.heap.size (.slice A9 i c9) _ rfl (HO2.out.alloc _) _ 1 1 [(f, t, s)] rfl rfl (trips_new wi f t s _) HC3.out (HSZ2.out _) ?_
             intro A' c' w12 hc12 ho12 hg12 hob12
             have hb12 := HG.out _ _ hg12
             obtain ⟨q1, q2, q3⟩ := HE.out w12 hb12)
          | fail))
      rw [← HSS.out] at ho12
      rw [show (l.take (i + 1)).length = i + 1 by rw [List.length_take]; omega] at ho12
      go_wp2_with (fail)
      go_roundw
      case rel => exact ⟨i + 1, by omega, by go_num, by first | exact ho12 | (rw [show (l.take i).length = i by rw [List.length_take]; omega]; exact ho12), hb12⟩
      case measure => simp [intOf]; omega
    · obtain rfl : i = l.length := by omega
      have hoo := HO.out
      rw [List.take_length] at hoo
      have HTR := hide (Trips.own hoo)
      clear hoo
      go_wp2_with (fail)
      go_ret
      exact ⟨A9, c9, rfl, HTR.out, hc9, hBk⟩
end Go.Proofs.YtcnecmcbjpehcaaDoor

/- The walk of demonref4.ApplyFault. No condition. -/
namespace Go.Proofs.YtcnecmcbjpehcaaDoor
open Go.RowKit Go.Deep Go.Proofs.YtcnecmcbjpehcaaDoorW.PrintWords

/-- what ApplyFault hands back -/
def RetApF (r : List Int × Int × Int) (w : World) (e : Ending) (w' : World) : Prop :=
  ∃ G d, e = .returned (.tuple #[.slice G r.1.length d, .agg #[.int .i64 r.2.1, .int .i64 r.2.2]]) ∧ Ints w' G r.1 ∧ r.1.length ≤ d ∧ Below w.heap.size w w'
theorem alloc_at (w : World) (o : Obj) : (w.alloc o).heap[w.heap.size]? = some o := by
  show (w.heap.push o)[w.heap.size]? = some o
  simp
theorem alloc_old (w : World) (o : Obj) (g : Nat) (h : g < w.heap.size) : (w.alloc o).heap[g]? = w.heap[g]? := by
  show (w.heap.push o)[g]? = _
  rw [Array.getElem?_push_lt h, Array.getElem?_eq_getElem h]
theorem rows_same (W : World) (g i : Nat) (cs : Array Value) (t : TypeId) (v : Value) (h : W.heap[g]? = some (.cells cs t (0, 0))) : (W.setCell ⟨g, i, none⟩ v).heap[g]? = some (.cells (cs.setIfInBounds i v) t (0, 0)) := by
  simp [World.setCell, Array.getElem?_modify, h]
theorem put_two (W : World) (g : Nat) (t : TypeId) (a b x y : Value) (h : W.heap[g]? = some (.cells #[a, b] t (0, 0))) : ((W.setCell ⟨g, 0, none⟩ x).setCell ⟨g, 1, none⟩ y).heap[g]? = some (.cells #[x, y] t (0, 0)) := by
  have h1 := rows_same W g 0 _ t x h
  have h2 := rows_same _ g 1 _ t y h1
  exact h2
theorem cell_of (W : World) (g i : Nat) (t : TypeId) (cs : Array Value) (u : Value) (h : W.heap[g]? = some (.cells cs t (0, 0))) (hu : cs[i]? = some u) : W.cell? ⟨g, i, none⟩ = some u ∧ W.frozen? ⟨g, i, none⟩ = false := by
  constructor
  · simp [World.cell?, h, hu]
  · simp [World.frozen?, h]
theorem fault_info : (Tryd.prog.info? 41).map (·.size) = some 2 := by kernel_rfl
theorem apF_ret {tmps : Array Value} {w' : World} {g : Nat} {G : Option Addr} {n d : Nat} {x y : Int} {R : Ending → World → Prop} (h4 : tmps.getD 4 undef = .slice G n d) (h5 : tmps.getD 5 undef = .pointer (some ⟨g, 0, none⟩))
    (hg : w'.heap[g]? = some (.cells #[.int .i64 x, .int .i64 y] 41 (0, 0))) (hR : R (.returned (.tuple #[.slice G n d, .agg #[.int .i64 x, .int .i64 y]])) w') :
    bodyPost Tryd.prog Tryd.f21 R .ret ⟨tmps, []⟩ w' := by
  have hv : Vals Tryd.prog tmps w' [.tmp 4, .cell 5 41] [tmps.getD 4 undef, .agg #[.int .i64 x, .int .i64 y]] := .tmp (.cell g 41 _ (0, 0) _ h5 hg Tryd.underlying41 rfl (by rw [fault_info]; rfl) .nil)
  rw [h4] at hv
  exact bodyPost_ret (results_list (rs := [.tmp 4, .cell 5 41]) rfl (by simp) hv) rfl hR

set_option maxRecDepth 100000 in
set_option maxHeartbeats 4000000 in
theorem applyFault_ok (A B : Option Addr) (p : List Int) (l : List Mv) (c d : Nat) (w : World) (hA : Ints w A p) (hB : Trips w B l) (hc : p.length ≤ c) (hp : p.length ≤ 2000000) :
    Calls Tryd.prog 21 #[.slice A p.length c, .slice B l.length d] w fun e w' => RetApF (apRes p l) w e w' := by
  have hlen := hA.len
  have hlenb := hB.len
  obtain ⟨r, hr⟩ : ∃ r, apRes p l = r := ⟨_, rfl⟩
  rw [hr]
  unfold apRes at hr
  by_cases c1 : 16 < (p.length : Int)
  · rw [if_pos (.inl (by omega))] at hr
    subst hr
    go_enter Tryd.func21, Tryd.ntmps21
    go_wp2_with (fail)
    refine apF_ret (g := w.heap.size) rfl rfl (alloc_at _ _) ?_
    exact ⟨none, 0, rfl, Ints.nil _ _, Nat.le_refl _, below_alloc' (Below.refl _ _) _⟩
  by_cases c2 : 4000 < (l.length : Int)
  · rw [if_pos (.inr (by omega))] at hr
    subst hr
    go_enter Tryd.func21, Tryd.ntmps21
    go_wp2_with (fail)
    refine apF_ret (g := w.heap.size) rfl rfl (alloc_at _ _) ?_
    exact ⟨none, 0, rfl, Ints.nil _ _, Nat.le_refl _, below_alloc' (Below.refl _ _) _⟩
  rw [if_neg (by omega)] at hr
  have hb0 : Below w.heap.size w (w.alloc (.cells #[.int .i64 0, .int .i64 0] 41)) := below_alloc' (Below.refl _ _) _
  have hnu := fun w' (hb : Below w.heap.size w w') => numbersS_ok A p c w' (hA.below hb) hc hp
  have HB0 := hide hb0
  have HFB := hide (fun w' (h : Below (w.heap.size + 1) (w.alloc (.cells #[.int .i64 0, .int .i64 0] 41)) w') => (h.block w.heap.size (Nat.lt_succ_self _)).trans (show (w.alloc (.cells #[.int .i64 0, .int .i64 0] 41)).heap[w.heap.size]? = some (.cells #[.int .i64 0, .int .i64 0] 41 (0, 0)) from alloc_at _ _))
  by_cases hn : numb p = true
  · rw [if_pos hn] at hr
    rw [hn] at hnu
    have HNU := hide hnu
    have HN := hide hn
    have HC3 := hide (show (([] : List Int).length + p.length) * 8 ≤ 140737488355328 by simp; omega)
    have HAI := hide (fun w' (hb : Below w.heap.size w w') => hA.below hb)
    have HR := hide hr
    clear hnu hn hr
    go_enter Tryd.func21, Tryd.ntmps21
    go_wp2_with (first
      | (go_at_call 27; refine Calls.mono (HNU.out _ HB0.out) ?_; rintro e w2 ⟨rfl, b2⟩; have hB2 := below_trans HB0.out (drawn_below b2))
      | (at_builtin; refine wp_app_ints _ rfl _ _ rfl w2.heap.size (.slice none 0 0) [] rfl (nil_own _ _ _ _) A p.length c p rfl rfl (HAI.out w2 hB2) HC3.out (Nat.le_refl _) ?_; intro G D w5 hc5 ho5 hg5 hob5))
    simp only [List.nil_append] at hc5 ho5 hob5 ⊢
    have hs2 : w.heap.size + 1 ≤ w2.heap.size := by have := (drawn_below b2).size; simp at this; omega
    have hb25 : Below w2.heap.size w2 w5 := below_of_grown hg5 rfl
    have hF2 := fun w' (h : Below w2.heap.size w2 w') => HFB.out w' (((drawn_below b2).mono (by simp)).trans (h.mono hs2))
    have HF2 := hide hF2
    clear hF2 hob5
    go_loopw [8] (fun v wr => ∃ i : Nat, i ≤ l.length ∧ v = .int .i64 i ∧ Hid (∀ j, j < i → okAt p l j = true) ∧ Hid (wr.ownsRow w2.heap.size 3 1 (.slice G p.length D) p.length (intCells (nowAt p l i))) ∧ Below w2.heap.size w2 wr) (fun v _ => l.length - (intOf v).toNat)
    case atStart => exact ⟨0, Nat.zero_le _, rfl, hide (fun j hj => absurd hj (Nat.not_lt_zero _)), hide ho5, hb25⟩
    case round =>
      obtain ⟨i, hi, rfl, HOK, HO, hBk⟩ := hrel
      obtain ⟨wi, rfl⟩ : ∃ wi : World, wi = wr := ⟨_, rfl⟩
      have hBi := below_trans hB2 hBk
      have i0 : (0 : Int) ≤ (i : Int) := Int.natCast_nonneg _
      obtain ⟨y0, q0⟩ := cell_of _ _ 0 _ _ (.int .i64 0) (HF2.out wi hBk) rfl
      obtain ⟨y1, q1⟩ := cell_of _ _ 1 _ _ (.int .i64 0) (HF2.out wi hBk) rfl
      have hlw : w.heap.size < wi.heap.size := by have := hBk.size; omega
      have Y0 := fun o => (World.cell?_alloc_lt wi o ⟨w.heap.size, 0, none⟩ hlw).trans y0
      have Y1 := fun o => (World.cell?_alloc_lt wi o ⟨w.heap.size, 1, none⟩ hlw).trans y1
      have Q0 := fun o => (World.frozen?_alloc_old wi o ⟨w.heap.size, 0, none⟩ (Nat.ne_of_lt hlw)).trans q0
      have Q1 := fun o => (World.frozen?_alloc_old wi o ⟨w.heap.size, 1, none⟩ (Nat.ne_of_lt hlw)).trans q1
      have hwn : w.heap.size ≠ wi.heap.size := Nat.ne_of_lt hlw
      by_cases hil : i < l.length
      · have i1 : (i : Int) < (l.length : Int) := by omega
        obtain ⟨b, off, rfl, hb, e1, e2, e3⟩ := (hB.below hBi).at_ i hil
        have hnn := nowAt_numb HN.out i hi HOK.out
        have hnl := nowAt_len p l i hi
        have hbad : okAt p l i = false → r = ([], 7, (i : Int)) := fun h => by rw [← HR.out, firstBad_at hil HOK.out h]
        have hgo : okAt p l i = true → ∀ j, j < i + 1 → okAt p l j = true := fun h j hj => by
          rcases Nat.lt_or_eq_of_le (Nat.le_of_lt_succ hj) with h1 | h1
          · exact HOK.out j h1
          · subst h1; exact h
        have hsu := nowAt_succ p l i hil
        unfold okAt at hbad hgo
        generalize nowAt p l i = now at HO hnn hnl hbad hgo hsu
        generalize l.getD i (0, 0, 0) = m at e1 e2 e3 hbad hgo hsu
        obtain ⟨f, t, s⟩ := m
        dsimp only at e1 e2 e3
        have HBAD := hide hbad
        have HGO := hide hgo
        have HSU := hide hsu
        clear hbad hgo hsu
        have hfin := fun o => (⟨(alloc_old _ o _ (by simpa using hlw)).trans (put_two _ _ _ (.int .i64 0) (.int .i64 0) (.int .i64 7) (.int .i64 i) (HF2.out wi hBk)), ((hBi.setCell (p := ⟨w.heap.size, 0, none⟩) (Nat.le_refl _) _).setCell (p := ⟨w.heap.size, 1, none⟩) (Nat.le_refl _) _).alloc (by simpa using hBi.size) o⟩ :
          (((wi.setCell ⟨w.heap.size, 0, none⟩ (.int .i64 7)).setCell ⟨w.heap.size, 1, none⟩ (.int .i64 i)).alloc o).heap[w.heap.size]? = some (.cells #[.int .i64 7, .int .i64 i] 41 (0, 0)) ∧ Below w.heap.size w (((wi.setCell ⟨w.heap.size, 0, none⟩ (.int .i64 7)).setCell ⟨w.heap.size, 1, none⟩ (.int .i64 i)).alloc o))
        have HFIN := hide hfin
        clear hfin
        have hfi2 := fun o n => (⟨put_two _ _ _ (.int .i64 0) (.int .i64 0) (.int .i64 7) (.int .i64 i) ((alloc_old wi o _ hlw).trans (HF2.out wi hBk)), (((below_drewN' (hBi.alloc hBi.size o) n).setCell (p := ⟨w.heap.size, 0, none⟩) (Nat.le_refl _) _).setCell (p := ⟨w.heap.size, 1, none⟩) (Nat.le_refl _) _)⟩ :
          (((((wi.alloc o).drewN n).setCell ⟨w.heap.size, 0, none⟩ (.int .i64 7)).setCell ⟨w.heap.size, 1, none⟩ (.int .i64 i))).heap[w.heap.size]? = some (.cells #[.int .i64 7, .int .i64 i] 41 (0, 0)) ∧ Below w.heap.size w (((((wi.alloc o).drewN n).setCell ⟨w.heap.size, 0, none⟩ (.int .i64 7)).setCell ⟨w.heap.size, 1, none⟩ (.int .i64 i))))
        have HFI2 := hide hfi2
        clear hfi2
        by_cases c1 : f < 0
        · have hr := HBAD.out (by unfold mvOk; simp [c1])
          subst hr
          go_wp2_with (fail)
          refine apF_ret (g := w.heap.size) rfl rfl (HFIN.out _).1 ?_
          exact ⟨none, 0, rfl, Ints.nil _ _, Nat.le_refl _, (HFIN.out _).2⟩
        have d1 : decide (f < 0) = false := decide_eq_false c1
        have f0 : 0 ≤ f := by omega
        by_cases c2 : t < 0
        · have hr := HBAD.out (by unfold mvOk; simp [c2])
          subst hr
          go_wp2_with (fail)
          refine apF_ret (g := w.heap.size) rfl rfl (HFIN.out _).1 ?_
          exact ⟨none, 0, rfl, Ints.nil _ _, Nat.le_refl _, (HFIN.out _).2⟩
        have d2 : decide (t < 0) = false := decide_eq_false c2
        have t0 : 0 ≤ t := by omega
        by_cases c3 : (now.length : Int) ≤ f
        · have hr := HBAD.out (by unfold mvOk; simp [c3])
          subst hr
          go_wp2_with (fail)
          refine apF_ret (g := w.heap.size) rfl rfl (HFIN.out _).1 ?_
          exact ⟨none, 0, rfl, Ints.nil _ _, Nat.le_refl _, (HFIN.out _).2⟩
        have d3 : decide ((now.length : Int) ≤ f) = false := decide_eq_false c3
        by_cases c4 : (now.length : Int) ≤ t
        · have hr := HBAD.out (by unfold mvOk; simp [c4])
          subst hr
          go_wp2_with (fail)
          refine apF_ret (g := w.heap.size) rfl rfl (HFIN.out _).1 ?_
          exact ⟨none, 0, rfl, Ints.nil _ _, Nat.le_refl _, (HFIN.out _).2⟩
        have d4 : decide ((now.length : Int) ≤ t) = false := decide_eq_false c4
        by_cases c5 : f = t
        · have hr := HBAD.out (by unfold mvOk; simp [c5])
          subst hr
          have b5 : (f == t) = true := by rw [beq_iff_eq]; exact c5
          go_wp2_with (fail)
          refine apF_ret (g := w.heap.size) rfl rfl (HFIN.out _).1 ?_
          exact ⟨none, 0, rfl, Ints.nil _ _, Nat.le_refl _, (HFIN.out _).2⟩
        have b5 : (f == t) = false := by rw [beq_eq_false_iff_ne]; exact c5
        have f1 : f < (p.length : Int) := by omega
        have t1 : t < (p.length : Int) := by omega
        obtain ⟨g, cap, eg, hgb, hgl⟩ := HO.out.form (by omega)
        injection eg with eg1 eg2 eg3
        subst eg1 eg3
        obtain ⟨x1, x2⟩ := own_at (k := .i64) HO.out f f0 (by omega)
        obtain ⟨y1', y2⟩ := own_at (k := .i64) HO.out t t0 (by omega)
        have hx := numb_get hnn f.toNat (by omega)
        have hy := numb_get hnn t.toNat (by omega)
        change wi.cell? _ = some (.int .i64 (now.getD f.toNat 0)) at x1
        change wi.cell? _ = some (.int .i64 (now.getD t.toNat 0)) at y1'
        generalize hxx : now.getD f.toNat 0 = x at x1 hx
        generalize hyy : now.getD t.toNat 0 = y at y1' hy
        have hw : IntKind.i64.wrap (x - y) = x - y := IntWalk.i64_in _ (by omega)
        have X1 := fun o => (World.cell?_alloc_lt wi o ⟨g, f.toNat, none⟩ hgl).trans x1
        have X2 := fun o => (World.cell?_alloc_lt wi o ⟨g, t.toNat, none⟩ hgl).trans y1'
        by_cases c6 : s < 0
        · have hr := HBAD.out (by unfold mvOk; simp [c6])
          subst hr
          go_wp2_with (fail)
          go_quiet (fail)
          go_wp2_with (fail)
          refine apF_ret (g := w.heap.size) rfl rfl (HFI2.out _ _).1 ?_
          exact ⟨none, 0, rfl, Ints.nil _ _, Nat.le_refl _, (HFI2.out _ _).2⟩
        have d6 : decide (s < 0) = false := decide_eq_false c6
        have s0 : 0 ≤ s := by omega
        by_cases c7 : x - y < s
        · have hr := HBAD.out (by show (!(_ || decide (now.getD f.toNat 0 - now.getD t.toNat 0 < s))) = false; rw [hxx, hyy, decide_eq_true c7, Bool.or_true]; rfl)
          subst hr
          go_wp2_with (fail)
          go_quiet (fail)
          go_wp2_with (fail)
          refine apF_ret (g := w.heap.size) rfl rfl (HFI2.out _ _).1 ?_
          exact ⟨none, 0, rfl, Ints.nil _ _, Nat.le_refl _, (HFI2.out _ _).2⟩
        have d7 : decide (x - y < s) = false := decide_eq_false c7
        go_wp2_with (fail)
        go_quiet (fail)
        go_wp2_with (fail)
        have hw1 : IntKind.i64.wrap (x - s) = x - s := IntWalk.i64_in _ (by omega)
        have hw2 : IntKind.i64.wrap (y + s) = y + s := IntWalk.i64_in _ (by omega)
        generalize hw3 : World.drewN (wi.alloc _) nq = w3
        have hk3 : Below wi.heap.size wi w3 := by rw [← hw3]; exact below_drewN' (below_alloc' (Below.refl _ _) _) nq
        have mc : w3.cell? ⟨wi.heap.size, 0, none⟩ = some (.int .i64 f) ∧ w3.cell? ⟨wi.heap.size, 1, none⟩ = some (.int .i64 t) ∧ w3.cell? ⟨wi.heap.size, 2, none⟩ = some (.int .i64 s) := by rw [← hw3]; exact ⟨by simp, by simp, by simp⟩
        obtain ⟨m0, m1, m2⟩ := mc
        have r1 : w3.cell? ⟨g, f.toNat, none⟩ = some (.int .i64 x) := (hk3.cell (p := ⟨g, f.toNat, none⟩) hgl).trans x1
        have r2 : w3.frozen? ⟨g, f.toNat, none⟩ = false := (hk3.frozen (p := ⟨g, f.toNat, none⟩) hgl).trans x2
        go_region
        have ho3 := own_below HO.out hk3
        obtain ⟨ho4, _⟩ := own_store (k := .i64) ho3 f (x - s)
        generalize hw4 : World.drew (w3.setCell _ _) = w4
        have hsz3 : wi.heap.size ≤ w3.heap.size := hk3.size
        have hb4 : Below w2.heap.size w2 w4 := by rw [← hw4]; exact ((hBk.trans (hk3.mono hBk.size)).setCell (p := ⟨g, f.toNat, none⟩) hgb _).drew
        have ho4' : w4.ownsRow w2.heap.size 3 1 (.slice (some ⟨g, 0, none⟩) p.length D) p.length (nums .i64 (now.set f.toNat (x - s))) := by rw [← hw4]; exact ho4
        have hgn : g ≠ wi.heap.size := Nat.ne_of_lt hgl
        have n1 : w4.cell? ⟨wi.heap.size, 1, none⟩ = some (.int .i64 t) := by rw [← hw4]; exact (World.cell?_setCell_other _ _ _ _ (by simp)).trans m1
        have n2 : w4.cell? ⟨wi.heap.size, 2, none⟩ = some (.int .i64 s) := by rw [← hw4]; exact (World.cell?_setCell_other _ _ _ _ (by simp)).trans m2
        obtain ⟨z1, z2⟩ := own_at (k := .i64) ho4' t t0 (by omega)
        have hz : rd (now.set f.toNat (x - s)) t = y := by
          have hne : f.toNat ≠ t.toNat := by omega
          show (now.set f.toNat (x - s)).getD t.toNat 0 = y
          rw [← hyy, List.getD_eq_getElem?_getD, List.getElem?_set_ne hne, ← List.getD_eq_getElem?_getD]
        rw [hz] at z1
        have hgl4 : g < w4.heap.size := World.block_lt_of_cell? w4 _ z1
        obtain ⟨ho5', _⟩ := own_store (k := .i64) ho4' t (y + s)
        clear hw4 hw3 ho3 ho4 r1 r2 m0 m1 m2 x1 x2 y1' y2 hz HFIN HFI2
        go_wp2_with (fail)
        go_region
        have hb6 := (hb4.setCell (p := ⟨g, t.toNat, none⟩) hgb (.int .i64 (y + s))).drew
        have hnx := HSU.out
        unfold mvDo at hnx
        dsimp only at hnx
        rw [hxx, hyy] at hnx
        have hgo := HGO.out (by unfold mvOk; simp only [hxx, hyy, d1, d2, d3, d4, d6, d7, decide_eq_false c5, Bool.or_false, Bool.not_false])
        have HNX := hide hnx
        have HG2 := hide hgo
        clear hnx hgo hxx hyy
        go_wp2_with (fail)
        go_roundw
        case rel => exact ⟨i + 1, by omega, by go_num, HG2, hide (by rw [HNX.out]; exact ho5'), hb6⟩
        case measure => simp [intOf]; omega
      · obtain rfl : i = l.length := by omega
        have hr := HR.out
        rw [firstBad_none HOK.out] at hr
        subst hr
        have hnl := nowAt_len p l l.length (Nat.le_refl _)
        have HIN := hide (own_ints (ownsRow_setCell_below (ownsRow_setCell_below HO.out (a := ⟨w.heap.size, 0, none⟩) (by show w.heap.size < _; omega) (.int .i64 0)) (a := ⟨w.heap.size, 1, none⟩) (by show w.heap.size < _; omega) (.int .i64 (-1))) hnl)
        go_wp2_with (fail)
        refine apF_ret (g := w.heap.size) rfl rfl (put_two _ _ _ (.int .i64 0) (.int .i64 0) _ _ (HF2.out wi hBk)) ?_
        exact ⟨G, D, by rw [hnl], HIN.out, by rw [hnl]; exact hc5, (hBi.setCell (p := ⟨w.heap.size, 0, none⟩) (Nat.le_refl _) _).setCell (p := ⟨w.heap.size, 1, none⟩) (Nat.le_refl _) _⟩
  · have hn' : numb p = false := by simpa using hn
    rw [if_neg hn] at hr
    subst hr
    rw [hn'] at hnu
    have HNU := hide hnu
    clear hnu hn hn'
    go_enter Tryd.func21, Tryd.ntmps21
    go_wp2_with (go_at_call 27; refine Calls.mono (HNU.out _ HB0.out) ?_; rintro e w2 ⟨rfl, b2⟩; obtain ⟨⟨n2, rfl⟩⟩ := b2)
    refine apF_ret (g := w.heap.size) rfl rfl (put_two _ _ _ (.int .i64 0) (.int .i64 0) _ _ (alloc_at _ _)) ?_
    exact ⟨none, 0, rfl, Ints.nil _ _, Nat.le_refl _, ((below_drewN' HB0.out n2).setCell (p := ⟨w.heap.size, 0, none⟩) (Nat.le_refl _) _).setCell (p := ⟨w.heap.size, 1, none⟩) (Nat.le_refl _) _⟩
end Go.Proofs.YtcnecmcbjpehcaaDoor

/- The walk of order.Apply. Condition: the variables read as laid. -/
namespace Go.Proofs.YtcnecmcbjpehcaaDoor
open Go.RowKit Go.Deep Go.Proofs.YtcnecmcbjpehcaaDoorW.PrintWords

/-- the error value tells this code and this place -/
def FaultErr (w : World) (a : Nat → Addr) (err : Value) (c p : Int) : Prop :=
  (c = 0 ∧ err = .nilIface) ∨ (∃ k : Nat, 1 ≤ k ∧ k ≤ 8 ∧ c = (k : Int) ∧ p = -1 ∧ err = .iface 155 (.pointer (some (a k)))) ∨
  (∃ (k g : Nat), 1 ≤ k ∧ k ≤ 8 ∧ c = (k : Int) ∧ err = .iface 75 (.pointer (some ⟨g, 0, none⟩)) ∧ g < w.heap.size ∧ w.cell? ⟨g, 0, none⟩ = some (.int .i64 p) ∧ w.cell? ⟨g, 1, none⟩ = some (.iface 155 (.pointer (some (a k)))))
/-- what Apply hands back -/
def RetAp (a : Nat → Addr) (r : List Int × Int × Int) (w : World) (e : Ending) (w' : World) : Prop :=
  ∃ G d err, e = .returned (.tuple #[.slice G r.1.length d, err]) ∧ Ints w' G r.1 ∧ r.1.length ≤ d ∧ FaultErr w' a err r.2.1 r.2.2 ∧ Below w.heap.size w w'
theorem clone_any (A : Option Addr) (l : List Int) (c : Nat) (w : World) (hA : Ints w A l) (hl : l.length ≤ 2000000) :
    Calls Tryd.prog 40 #[.slice A l.length c] w fun e w' => ∃ G d, e = .returned (.slice G l.length d) ∧ l.length ≤ d ∧ w'.ownsRow w.heap.size 3 1 (.slice G l.length d) l.length (intCells l) ∧ Below w.heap.size w w' := by
  by_cases h0 : 0 < l.length
  · refine (clone_ok A l c w hA h0 hl).mono ?_
    rintro e w' ⟨g, d, rfl, _, hd, ho, hb⟩
    exact ⟨_, d, rfl, hd, ho, hb⟩
  · obtain rfl : l = [] := by cases l with | nil => rfl | cons => simp at h0
    cases A with
    | none =>
      refine (Tryd.slices_Clone_int_nil 0 c w).mono ?_
      rintro e w' ⟨rfl, rfl⟩
      exact ⟨none, 0, rfl, Nat.le_refl _, nil_own _ _ _ _, Below.refl _ _⟩
    | some ad =>
      refine (Tryd.slices_Clone_int_zero ad c w).mono ?_
      rintro e w' ⟨v', rfl, ho, _, hb⟩
      obtain ⟨A', c', rfl, hc, _⟩ := own_shape ho
      exact ⟨A', c', rfl, hc, ho, hb⟩

set_option maxRecDepth 100000 in
set_option maxHeartbeats 2000000 in
theorem apply_few (A B : Option Addr) (p : List Int) (l : List Mv) (c d : Nat) (w : World) (a : Nat → Addr) (hE : Env [2, 3, 7] w a) (hA : Ints w A p) (hB : Trips w B l) (hp : p.length ≤ 2000000)
    (hbad : 16 < p.length ∨ 4000 < l.length ∨ numb p = false) :
    Calls Tryd.prog 22 #[.slice A p.length c, .slice B l.length d] w fun e w' => RetAp a (apRes p l) w e w' := by
  have hlen := hA.len
  have hlenb := hB.len
  have HEN := hide (fun w' (hb : Below w.heap.size w w') => (⟨(hE.below hb).cell 2 (by decide), (hE.below hb).cell 3 (by decide)⟩ : w'.cell? ⟨glob 2, 0, none⟩ = _ ∧ w'.cell? ⟨glob 3, 0, none⟩ = _))
  simp only [glob] at HEN
  obtain ⟨y2, y3⟩ := HEN.out w (Below.refl _ _)
  obtain ⟨r, hr⟩ : ∃ r, apRes p l = r := ⟨_, rfl⟩
  rw [hr]
  unfold apRes at hr
  by_cases c1 : 16 < (p.length : Int)
  · rw [if_pos (.inl (by omega))] at hr
    subst hr
    go_enter Tryd.func22, Tryd.ntmps22
    go_wp2_with (fail)
    go_quiet (fail)
    go_wp2_with (fail)
    go_ret2
    exact ⟨none, 0, _, rfl, Ints.nil _ _, Nat.le_refl _, .inr (.inl ⟨2, by decide, by decide, rfl, rfl, rfl⟩), below_drewN' (Below.refl _ _) _⟩
  by_cases c2 : 4000 < (l.length : Int)
  · rw [if_pos (.inr (by omega))] at hr
    subst hr
    go_enter Tryd.func22, Tryd.ntmps22
    go_wp2_with (fail)
    go_quiet (fail)
    go_wp2_with (fail)
    go_ret2
    exact ⟨none, 0, _, rfl, Ints.nil _ _, Nat.le_refl _, .inr (.inl ⟨2, by decide, by decide, rfl, rfl, rfl⟩), below_drewN' (Below.refl _ _) _⟩
  rw [if_neg (by omega)] at hr
  have hn : numb p = false := by
    rcases hbad with h | h | h
    · omega
    · omega
    · exact h
  rw [if_neg (by rw [hn]; decide)] at hr
  subst hr
  have hnu := numbers_any A p c w hA
  rw [hn] at hnu
  have HNU := hide hnu
  clear hnu hn hbad
  go_enter Tryd.func22, Tryd.ntmps22
  go_wp2_with (go_at_call 46; refine Calls.mono HNU.out ?_; rintro e w1 ⟨rfl, b1⟩)
  obtain ⟨z2, z3⟩ := HEN.out w1 b1
  go_quiet (fail)
  go_wp2_with (fail)
  go_ret2
  exact ⟨none, 0, _, rfl, Ints.nil _ _, Nat.le_refl _, .inr (.inl ⟨3, by decide, by decide, rfl, rfl, rfl⟩), below_drewN' b1 _⟩

set_option maxRecDepth 100000 in
set_option maxHeartbeats 8000000 in
theorem apply_good (A B : Option Addr) (p : List Int) (l : List Mv) (c d : Nat) (w : World) (a : Nat → Addr) (hE : Env [2, 3, 7] w a) (hA : Ints w A p) (hB : Trips w B l) (hp : p.length ≤ 16) (hl : l.length ≤ 4000) (hn : numb p = true) :
    Calls Tryd.prog 22 #[.slice A p.length c, .slice B l.length d] w fun e w' => RetAp a (apRes p l) w e w' := by
  have hlen := hA.len
  have hlenb := hB.len
  have HEN := hide (fun w' (hb : Below w.heap.size w w') => ((hE.below hb).cell 7 (by decide) : w'.cell? ⟨glob 7, 0, none⟩ = _))
  simp only [glob] at HEN
  obtain ⟨r, hr⟩ : ∃ r, apRes p l = r := ⟨_, rfl⟩
  rw [hr]
  unfold apRes at hr
  rw [if_neg (by omega), if_pos hn] at hr
  have hnu := numbers_any A p c w hA
  rw [hn] at hnu
  have HNU := hide hnu
  have HN := hide hn
  have HCL := hide (fun w' (hb : Below w.heap.size w w') => clone_any A p c w' (hA.below hb) (by omega))
  have HR := hide hr
  have hp' : (p.length : Int) ≤ 16 := by omega
  have hl' : (l.length : Int) ≤ 4000 := by omega
  clear hnu hn hr hp hl
  go_enter Tryd.func22, Tryd.ntmps22
  go_wp2_with (first
    | (go_at_call 46; refine Calls.mono HNU.out ?_; rintro e w1 ⟨rfl, hB1⟩)
    | (go_at_call 40; refine Calls.mono (HCL.out _ hB1) ?_; rintro e w5 ⟨G, D, rfl, hc5, ho5, b5⟩; have hB5 := below_trans hB1 b5))
  go_loopw [26] (fun v wr => ∃ i : Nat, i ≤ l.length ∧ v = .int .i64 i ∧ Hid (∀ j, j < i → okAt p l j = true) ∧ Hid (wr.ownsRow w1.heap.size 3 1 (.slice G p.length D) p.length (intCells (nowAt p l i))) ∧ Below w1.heap.size w1 wr) (fun v _ => l.length - (intOf v).toNat)
  case atStart => exact ⟨0, Nat.zero_le _, rfl, hide (fun j hj => absurd hj (Nat.not_lt_zero _)), hide ho5, b5⟩
  case round =>
    obtain ⟨i, hi, rfl, HOK, HO, hBk⟩ := hrel
    obtain ⟨wi, rfl⟩ : ∃ wi : World, wi = wr := ⟨_, rfl⟩
    have hBi := below_trans hB1 hBk
    have i0 : (0 : Int) ≤ (i : Int) := Int.natCast_nonneg _
    by_cases hil : i < l.length
    · have i1 : (i : Int) < (l.length : Int) := by omega
      obtain ⟨b, off, rfl, hb, e1, e2, e3⟩ := (hB.below hBi).at_ i hil
      have hnn := nowAt_numb HN.out i hi HOK.out
      have hnl := nowAt_len p l i hi
      have hbad : okAt p l i = false → r = ([], 7, (i : Int)) := fun h => by rw [← HR.out, firstBad_at hil HOK.out h]
      have hgo : okAt p l i = true → ∀ j, j < i + 1 → okAt p l j = true := fun h j hj => by
        rcases Nat.lt_or_eq_of_le (Nat.le_of_lt_succ hj) with h1 | h1
        · exact HOK.out j h1
        · subst h1; exact h
      have hsu := nowAt_succ p l i hil
      unfold okAt at hbad hgo
      generalize nowAt p l i = now at HO hnn hnl hbad hgo hsu
      generalize l.getD i (0, 0, 0) = m at e1 e2 e3 hbad hgo hsu
      obtain ⟨f, t, s⟩ := m
      dsimp only at e1 e2 e3
      have HBAD := hide hbad
      have HGO := hide hgo
      have HSU := hide hsu
      clear hbad hgo hsu
      by_cases c1 : f < 0
      · have hr := HBAD.out (by unfold mvOk; simp [c1])
        subst hr
        go_wp2_with (fail)
        go_quiet (fail)
        generalize hw3 : World.drewN (wi.alloc _) nq = w3
        have hb3 : Below w.heap.size w w3 := by rw [← hw3]; exact below_drewN' (hBi.alloc hBi.size _) nq
        have z7 := HEN.out w3 hb3
        clear hw3
        go_wp2_with (fail)
        go_region
        go_wp2_with (fail)
        go_ret2
        exact ⟨none, 0, _, rfl, Ints.nil _ _, Nat.le_refl _, .inr (.inr ⟨7, w3.heap.size, by decide, by decide, rfl, rfl, by simp, by simp, by simp⟩), by first | exact (hb3.alloc hb3.size _).drew | exact (hb3.drew.alloc hb3.size _) | exact below_drewN' (hb3.alloc hb3.size _) _⟩
      have d1 : decide (f < 0) = false := decide_eq_false c1
      have f0 : 0 ≤ f := by omega
      by_cases c2 : t < 0
      · have hr := HBAD.out (by unfold mvOk; simp [c2])
        subst hr
        go_wp2_with (fail)
        go_quiet (fail)
        generalize hw3 : World.drewN (wi.alloc _) nq = w3
        have hb3 : Below w.heap.size w w3 := by rw [← hw3]; exact below_drewN' (hBi.alloc hBi.size _) nq
        have z7 := HEN.out w3 hb3
        clear hw3
        go_wp2_with (fail)
        go_region
        go_wp2_with (fail)
        go_ret2
        exact ⟨none, 0, _, rfl, Ints.nil _ _, Nat.le_refl _, .inr (.inr ⟨7, w3.heap.size, by decide, by decide, rfl, rfl, by simp, by simp, by simp⟩), by first | exact (hb3.alloc hb3.size _).drew | exact (hb3.drew.alloc hb3.size _) | exact below_drewN' (hb3.alloc hb3.size _) _⟩
      have d2 : decide (t < 0) = false := decide_eq_false c2
      have t0 : 0 ≤ t := by omega
      by_cases c3 : (now.length : Int) ≤ f
      · have hr := HBAD.out (by unfold mvOk; simp [c3])
        rw [hnl] at c3
        subst hr
        go_wp2_with (fail)
        go_quiet (fail)
        generalize hw3 : World.drewN (wi.alloc _) nq = w3
        have hb3 : Below w.heap.size w w3 := by rw [← hw3]; exact below_drewN' (hBi.alloc hBi.size _) nq
        have z7 := HEN.out w3 hb3
        clear hw3
        go_wp2_with (fail)
        go_region
        go_wp2_with (fail)
        go_ret2
        exact ⟨none, 0, _, rfl, Ints.nil _ _, Nat.le_refl _, .inr (.inr ⟨7, w3.heap.size, by decide, by decide, rfl, rfl, by simp, by simp, by simp⟩), by first | exact (hb3.alloc hb3.size _).drew | exact (hb3.drew.alloc hb3.size _) | exact below_drewN' (hb3.alloc hb3.size _) _⟩
      have d3 : decide ((now.length : Int) ≤ f) = false := decide_eq_false c3
      have d3' : decide ((p.length : Int) ≤ f) = false := by rw [← hnl]; exact d3
      by_cases c4 : (now.length : Int) ≤ t
      · have hr := HBAD.out (by unfold mvOk; simp [c4])
        rw [hnl] at c4
        subst hr
        go_wp2_with (fail)
        go_quiet (fail)
        generalize hw3 : World.drewN (wi.alloc _) nq = w3
        have hb3 : Below w.heap.size w w3 := by rw [← hw3]; exact below_drewN' (hBi.alloc hBi.size _) nq
        have z7 := HEN.out w3 hb3
        clear hw3
        go_wp2_with (fail)
        go_region
        go_wp2_with (fail)
        go_ret2
        exact ⟨none, 0, _, rfl, Ints.nil _ _, Nat.le_refl _, .inr (.inr ⟨7, w3.heap.size, by decide, by decide, rfl, rfl, by simp, by simp, by simp⟩), by first | exact (hb3.alloc hb3.size _).drew | exact (hb3.drew.alloc hb3.size _) | exact below_drewN' (hb3.alloc hb3.size _) _⟩
      have d4 : decide ((now.length : Int) ≤ t) = false := decide_eq_false c4
      have d4' : decide ((p.length : Int) ≤ t) = false := by rw [← hnl]; exact d4
      by_cases c5 : f = t
      · have hr := HBAD.out (by unfold mvOk; simp [c5])
        have b5 : (f == t) = true := by rw [beq_iff_eq]; exact c5
        subst hr
        go_wp2_with (fail)
        go_quiet (fail)
        generalize hw3 : World.drewN (wi.alloc _) nq = w3
        have hb3 : Below w.heap.size w w3 := by rw [← hw3]; exact below_drewN' (hBi.alloc hBi.size _) nq
        have z7 := HEN.out w3 hb3
        clear hw3
        go_wp2_with (fail)
        go_region
        go_wp2_with (fail)
        go_ret2
        exact ⟨none, 0, _, rfl, Ints.nil _ _, Nat.le_refl _, .inr (.inr ⟨7, w3.heap.size, by decide, by decide, rfl, rfl, by simp, by simp, by simp⟩), by first | exact (hb3.alloc hb3.size _).drew | exact (hb3.drew.alloc hb3.size _) | exact below_drewN' (hb3.alloc hb3.size _) _⟩
      have b5 : (f == t) = false := by rw [beq_eq_false_iff_ne]; exact c5
      have f1 : f < (p.length : Int) := by omega
      have t1 : t < (p.length : Int) := by omega
      obtain ⟨g, cap, eg, hgb, hgl⟩ := HO.out.form (by omega)
      injection eg with eg1 eg2 eg3
      subst eg1 eg3
      obtain ⟨x1, x2⟩ := own_at (k := .i64) HO.out f f0 (by omega)
      obtain ⟨y1', y2⟩ := own_at (k := .i64) HO.out t t0 (by omega)
      have hx := numb_get hnn f.toNat (by omega)
      have hy := numb_get hnn t.toNat (by omega)
      change wi.cell? _ = some (.int .i64 (now.getD f.toNat 0)) at x1
      change wi.cell? _ = some (.int .i64 (now.getD t.toNat 0)) at y1'
      generalize hxx : now.getD f.toNat 0 = x at x1 hx
      generalize hyy : now.getD t.toNat 0 = y at y1' hy
      have hw : IntKind.i64.wrap (x - y) = x - y := IntWalk.i64_in _ (by omega)
      have X1 := fun o => (World.cell?_alloc_lt wi o ⟨g, f.toNat, none⟩ hgl).trans x1
      have X2 := fun o => (World.cell?_alloc_lt wi o ⟨g, t.toNat, none⟩ hgl).trans y1'
      by_cases c6 : s < 0
      · have hr := HBAD.out (by unfold mvOk; simp [c6])
        subst hr
        go_wp2_with (fail)
        go_quiet (fail)
        generalize hw3 : World.drewN (wi.alloc _) nq = w3
        have hb3 : Below w.heap.size w w3 := by rw [← hw3]; exact below_drewN' (hBi.alloc hBi.size _) nq
        have z7 := HEN.out w3 hb3
        clear hw3
        go_wp2_with (fail)
        go_region
        go_wp2_with (fail)
        go_ret2
        exact ⟨none, 0, _, rfl, Ints.nil _ _, Nat.le_refl _, .inr (.inr ⟨7, w3.heap.size, by decide, by decide, rfl, rfl, by simp, by simp, by simp⟩), by first | exact (hb3.alloc hb3.size _).drew | exact (hb3.drew.alloc hb3.size _) | exact below_drewN' (hb3.alloc hb3.size _) _⟩
      have d6 : decide (s < 0) = false := decide_eq_false c6
      have s0 : 0 ≤ s := by omega
      by_cases c7 : x - y < s
      · have hr := HBAD.out (by show (!(_ || decide (now.getD f.toNat 0 - now.getD t.toNat 0 < s))) = false; rw [hxx, hyy, decide_eq_true c7, Bool.or_true]; rfl)
        subst hr
        go_wp2_with (fail)
        go_quiet (fail)
        generalize hw3 : World.drewN (wi.alloc _) nq = w3
        have hb3 : Below w.heap.size w w3 := by rw [← hw3]; exact below_drewN' (hBi.alloc hBi.size _) nq
        have z7 := HEN.out w3 hb3
        clear hw3
        go_wp2_with (fail)
        go_region
        go_wp2_with (fail)
        go_ret2
        exact ⟨none, 0, _, rfl, Ints.nil _ _, Nat.le_refl _, .inr (.inr ⟨7, w3.heap.size, by decide, by decide, rfl, rfl, by simp, by simp, by simp⟩), by first | exact (hb3.alloc hb3.size _).drew | exact (hb3.drew.alloc hb3.size _) | exact below_drewN' (hb3.alloc hb3.size _) _⟩
      have d7 : decide (x - y < s) = false := decide_eq_false c7
      go_wp2_with (fail)
      go_quiet (fail)
      go_wp2_with (fail)
      have hw1 : IntKind.i64.wrap (x - s) = x - s := IntWalk.i64_in _ (by omega)
      have hw2 : IntKind.i64.wrap (y + s) = y + s := IntWalk.i64_in _ (by omega)
      generalize hw3 : World.drewN (wi.alloc _) nq = w3
      have hk3 : Below wi.heap.size wi w3 := by rw [← hw3]; exact below_drewN' (below_alloc' (Below.refl _ _) _) nq
      have mc : w3.cell? ⟨wi.heap.size, 0, none⟩ = some (.int .i64 f) ∧ w3.cell? ⟨wi.heap.size, 1, none⟩ = some (.int .i64 t) ∧ w3.cell? ⟨wi.heap.size, 2, none⟩ = some (.int .i64 s) := by rw [← hw3]; exact ⟨by simp, by simp, by simp⟩
      obtain ⟨m0, m1, m2⟩ := mc
      have r1 : w3.cell? ⟨g, f.toNat, none⟩ = some (.int .i64 x) := (hk3.cell (p := ⟨g, f.toNat, none⟩) hgl).trans x1
      have r2 : w3.frozen? ⟨g, f.toNat, none⟩ = false := (hk3.frozen (p := ⟨g, f.toNat, none⟩) hgl).trans x2
      go_region
      have ho3 := own_below HO.out hk3
      obtain ⟨ho4, _⟩ := own_store (k := .i64) ho3 f (x - s)
      generalize hw4 : World.drew (w3.setCell _ _) = w4
      have hsz3 : wi.heap.size ≤ w3.heap.size := hk3.size
      have hb4 : Below w1.heap.size w1 w4 := by rw [← hw4]; exact ((hBk.trans (hk3.mono hBk.size)).setCell (p := ⟨g, f.toNat, none⟩) hgb _).drew
      have ho4' : w4.ownsRow w1.heap.size 3 1 (.slice (some ⟨g, 0, none⟩) p.length D) p.length (nums .i64 (now.set f.toNat (x - s))) := by rw [← hw4]; exact ho4
      have hgn : g ≠ wi.heap.size := Nat.ne_of_lt hgl
      have n1 : w4.cell? ⟨wi.heap.size, 1, none⟩ = some (.int .i64 t) := by rw [← hw4]; exact (World.cell?_setCell_other _ _ _ _ (by simp)).trans m1
      have n2 : w4.cell? ⟨wi.heap.size, 2, none⟩ = some (.int .i64 s) := by rw [← hw4]; exact (World.cell?_setCell_other _ _ _ _ (by simp)).trans m2
      obtain ⟨z1, z2⟩ := own_at (k := .i64) ho4' t t0 (by omega)
      have hz : rd (now.set f.toNat (x - s)) t = y := by
        have hne : f.toNat ≠ t.toNat := by omega
        show (now.set f.toNat (x - s)).getD t.toNat 0 = y
        rw [← hyy, List.getD_eq_getElem?_getD, List.getElem?_set_ne hne, ← List.getD_eq_getElem?_getD]
      rw [hz] at z1
      have hgl4 : g < w4.heap.size := World.block_lt_of_cell? w4 _ z1
      obtain ⟨ho5', _⟩ := own_store (k := .i64) ho4' t (y + s)
      clear hw4 hw3 ho3 ho4 r1 r2 m0 m1 m2 x1 x2 y1' y2 hz
      go_wp2_with (fail)
      go_region
      have hb6 := (hb4.setCell (p := ⟨g, t.toNat, none⟩) hgb (.int .i64 (y + s))).drew
      have hnx := HSU.out
      unfold mvDo at hnx
      dsimp only at hnx
      rw [hxx, hyy] at hnx
      have hgo := HGO.out (by unfold mvOk; simp only [hxx, hyy, d1, d2, d3, d4, d6, d7, decide_eq_false c5, Bool.or_false, Bool.not_false])
      have HNX := hide hnx
      have HG2 := hide hgo
      clear hnx hgo hxx hyy
      go_wp2_with (fail)
      go_roundw
      case rel => exact ⟨i + 1, by omega, by go_num, HG2, hide (by rw [HNX.out]; exact ho5'), hb6⟩
      case measure => simp [intOf]; omega
    · obtain rfl : i = l.length := by omega
      have hr := HR.out
      rw [firstBad_none HOK.out] at hr
      subst hr
      have hnl := nowAt_len p l l.length (Nat.le_refl _)
      have HIN := hide (own_ints HO.out hnl)
      go_wp2_with (fail)
      go_ret2
      exact ⟨G, D, _, by rw [hnl]; rfl, HIN.out, by rw [hnl]; exact hc5, .inl ⟨rfl, rfl⟩, hBi⟩
theorem apply_ok (A B : Option Addr) (p : List Int) (l : List Mv) (c d : Nat) (w : World) (a : Nat → Addr) (hE : Env [2, 3, 7] w a) (hA : Ints w A p) (hB : Trips w B l) (hp : p.length ≤ 2000000) :
    Calls Tryd.prog 22 #[.slice A p.length c, .slice B l.length d] w fun e w' => RetAp a (apRes p l) w e w' := by
  by_cases h1 : 16 < p.length
  · exact apply_few A B p l c d w a hE hA hB hp (.inl h1)
  by_cases h2 : 4000 < l.length
  · exact apply_few A B p l c d w a hE hA hB hp (.inr (.inl h2))
  by_cases h3 : numb p = true
  · exact apply_good A B p l c d w a hE hA hB (by omega) (by omega) h3
  · exact apply_few A B p l c d w a hE hA hB hp (.inr (.inr (by simpa using h3)))
end Go.Proofs.YtcnecmcbjpehcaaDoor

/- The walks of faulted and of the law OrderApply. Condition: the variables read as laid. -/
namespace Go.Proofs.YtcnecmcbjpehcaaDoor
open Go.RowKit Go.Deep Go.Proofs.YtcnecmcbjpehcaaDoorW.PrintWords

theorem sub237 {c : Nat} (h : c ∈ [2, 3, 7]) : c ∈ codes := by
  simp at h
  rcases h with rfl | rfl | rfl <;> simp [codes]
set_option maxHeartbeats 2000000 in
theorem faulted_ok (w : World) (a : Nat → Addr) (hS : Sent codes w a) (hH : Handle w) (err : Value) (c p : Int) (h : FaultErr w a err c p) :
    Calls Tryd.prog 24 #[err, .agg #[.int .i64 c, .int .i64 p]] w fun e w' => e = .returned (.bool true) ∧ Below w.heap.size w w' := by
  have hb0 : Below w.heap.size w (w.alloc (.cells #[.int .i64 c, .int .i64 p] 41)) := below_alloc' (Below.refl _ _) _
  have HB0 := hide hb0
  have hcell := fun w' (h : Below (w.alloc (.cells #[.int .i64 c, .int .i64 p] 41)).heap.size (w.alloc (.cells #[.int .i64 c, .int .i64 p] 41)) w') => (⟨(h.cell (p := ⟨w.heap.size, 0, none⟩) (by simp)).trans (by simp), (h.cell (p := ⟨w.heap.size, 1, none⟩) (by simp)).trans (by simp)⟩ :
    w'.cell? ⟨w.heap.size, 0, none⟩ = some (.int .i64 c) ∧ w'.cell? ⟨w.heap.size, 1, none⟩ = some (.int .i64 p))
  have HCE := hide hcell
  clear hcell
  rcases h with ⟨rfl, rfl⟩ | ⟨k, h1, h8, hc, rfl, rfl⟩ | ⟨k, g, h1, h8, hc, rfl, hg, hp, he⟩
  · have e0 : ((0 : Int) == 0) = true := by decide
    go_enter Tryd.func24, Tryd.ntmps24
    go_wp2_with (go_at_call 45; refine Calls.mono (code_nil _) ?_; rintro e w1 ⟨rfl, hw1⟩; have hB1 := Below.refl (w.alloc (.cells #[.int .i64 0, .int .i64 p] 41)).heap.size (w.alloc (.cells #[.int .i64 0, .int .i64 p] 41)); rw [hw1] at hB1; obtain ⟨z0, z1⟩ := HCE.out w1 (by rw [hw1]; exact Below.refl _ _))
    go_ret
    exact ⟨rfl, by rw [← hw1]; exact HB0.out⟩
  · have hcd := code_sent (w.alloc (.cells #[.int .i64 c, .int .i64 (-1)] 41)) a (hS.below hb0) (hH.below hb0) k h1 h8
    rw [← hc] at hcd
    have HCD := hide hcd
    have b1 : (c == 0) = false := by rw [beq_eq_false_iff_ne]; omega
    have b2 : ((-1 : Int) == -1) = true := by decide
    have b3 : (c == c) = true := by simp
    clear hcd hc
    generalize a k = ak at HCD
    go_enter Tryd.func24, Tryd.ntmps24
    go_wp2_with (go_at_call 45; refine Calls.mono HCD.out ?_; rintro e w1 ⟨rfl, hb1⟩; obtain ⟨z0, z1⟩ := HCE.out w1 hb1)
    go_ret
    exact ⟨rfl, below_trans HB0.out hb1⟩
  · have hcd := code_fault (w.alloc (.cells #[.int .i64 c, .int .i64 p] 41)) a (hS.below hb0) (hH.below hb0) k h1 h8 g 0 p (Nat.lt_of_lt_of_le hg hb0.size) ((hb0.cell (p := ⟨g, 0, none⟩) hg).trans hp) ((hb0.cell (p := ⟨g, 1, none⟩) hg).trans he)
    rw [← hc] at hcd
    have HCD := hide hcd
    have b1 : (c == 0) = false := by rw [beq_eq_false_iff_ne]; omega
    have b2 : (p == p) = true := by simp
    have b3 : (c == c) = true := by simp
    clear hcd hc
    go_enter Tryd.func24, Tryd.ntmps24
    go_wp2_with (go_at_call 45; refine Calls.mono HCD.out ?_; rintro e w1 ⟨rfl, hb1⟩; obtain ⟨z0, z1⟩ := HCE.out w1 hb1)
    go_ret
    exact ⟨rfl, below_trans HB0.out hb1⟩

set_option maxRecDepth 100000 in
set_option maxHeartbeats 4000000 in
theorem law_apply (A B : Option Addr) (p : List Int) (l : List Mv) (c d : Nat) (w : World) (a : Nat → Addr) (hS : Sent codes w a) (hH : Handle w) (hA : Ints w A p) (hB : Trips w B l) (hc : p.length ≤ c) :
    Calls Tryd.prog 5 #[.slice A p.length c, .slice B l.length d] w fun e w' => e = .returned (.bool true) ∧ Below w.heap.size w w' := by
  have hlen := hA.len
  have hlenb := hB.len
  have HE : Hid (∀ w', Below w.heap.size w w' → Env [2, 3] w' a) := hide fun w' hb => (hS.toEnv.sub (fun c h => sub23 h)).below hb
  have HUN := hide (fun w' (hb : Below w.heap.size w w') => unlike_any w' a (HE.out w' hb))
  by_cases hl1 : 200 < (p.length : Int)
  · go_enter Tryd.func5, Tryd.ntmps5
    go_wp2_with (go_at_call 10; refine Calls.mono (HUN.out _ (Below.refl _ _)) ?_; rintro e w1 ⟨rfl, hB1⟩)
    go_ret
    exact ⟨rfl, hB1⟩
  by_cases hl2 : 200 < (l.length : Int) ∧ (l.length : Int) ≤ 4000
  · obtain ⟨hl2a, hl2b⟩ := hl2
    go_enter Tryd.func5, Tryd.ntmps5
    go_wp2_with (go_at_call 10; refine Calls.mono (HUN.out _ (Below.refl _ _)) ?_; rintro e w1 ⟨rfl, hB1⟩)
    go_ret
    exact ⟨rfl, hB1⟩
  by_cases hl3 : 5000 < (l.length : Int)
  · have q1 : 200 < (l.length : Int) := by omega
    have q2 : decide ((l.length : Int) ≤ 4000) = false := decide_eq_false (by omega)
    clear hl2
    go_enter Tryd.func5, Tryd.ntmps5
    go_wp2_with (go_at_call 10; refine Calls.mono (HUN.out _ (Below.refl _ _)) ?_; rintro e w1 ⟨rfl, hB1⟩)
    go_ret
    exact ⟨rfl, hB1⟩
  have HAF := hide (fun w' (hb : Below w.heap.size w w') => applyFault_ok A B p l c d w' (hA.below hb) (hB.below hb) hc (by omega))
  have HMV := hide (fun w' (hb : Below w.heap.size w w') => movesOf_ok B l d w' (hB.below hb) (by omega))
  have HIN := hide (fun w' (hb : Below w.heap.size w w') => ints_ok A p c w' (hA.below hb) hc (by omega))
  have HAP := hide (fun (A' B' : Option Addr) (x y : Nat) w' (g1 : Ints w' A' p) (g2 : Trips w' B' l) (hb : Below w.heap.size w w') => apply_ok A' B' p l x y w' a ((hS.toEnv.sub (fun c h => sub237 h)).below hb) g1 g2 (by omega))
  have hfa := fun w' (hb : Below w.heap.size w w') err c p h => faulted_ok w' a (hS.below hb) (hH.below hb) err c p h
  have HFA := hide hfa
  have hsame := fun (A' B' : Option Addr) (l : List Int) (x y : Nat) w' (g1 : Ints w' A' l) (g2 : Ints w' B' l) => (same_any A' B' l l x y w' g1 g2)
  simp only [decide_true] at hsame
  have HSAME := hide hsame
  have hnum : decide (200 < (l.length : Int)) = false ∨ (200 < (l.length : Int) ∧ decide ((l.length : Int) ≤ 4000) = false) := by
    by_cases h : 200 < (l.length : Int)
    · exact .inr ⟨h, decide_eq_false (fun h' => hl2 ⟨h, h'⟩)⟩
    · exact .inl (decide_eq_false h)
  clear hfa hsame hl2
  generalize apRes p l = r at HAF HAP
  obtain ⟨rl, rc, rp⟩ := r
  rcases hnum with q1 | ⟨q1, q2⟩
  all_goals
    go_enter Tryd.func5, Tryd.ntmps5
    go_wp2_with (first
      | (go_at_call 10; refine Calls.mono (HUN.out _ (Below.refl _ _)) ?_; rintro e w1 ⟨rfl, hB1⟩)
      | (go_at_call 21; refine Calls.mono (HAF.out w1 hB1) ?_; rintro e w2 ⟨G, x, rfl, hI2, hx, b2⟩; have hB2 := below_trans hB1 b2)
      | (go_at_call 18; refine Calls.mono (HIN.out _ (below_alloc' hB2 _)) ?_; rintro e w3 ⟨A3, c3, rfl, hI3, hc3, b3⟩; have hB3 := below_trans (below_alloc' hB2 (.cells #[.int .i64 rc, .int .i64 rp] 41)) b3)
      | (go_at_call 23; refine Calls.mono (HMV.out w3 hB3) ?_; rintro e w4 ⟨A4, c4, rfl, hI4, hc4, b4⟩; have hB4 := below_trans hB3 b4)
      | (go_at_call 22; refine Calls.mono (HAP.out A3 A4 c3 c4 w4 (hI3.below b4) hI4 hB4) ?_; rintro e w5 ⟨G5, d5, err, rfl, hI5, hd5, hF5, b5⟩; have hB5 := below_trans hB4 b5
         have hBX : Below (w2.alloc (.cells #[.int .i64 rc, .int .i64 rp] 41)).heap.size (w2.alloc (.cells #[.int .i64 rc, .int .i64 rp] 41)) w5 := below_trans b3 (below_trans b4 b5)
         have z0 : w5.heap[w2.heap.size]? = some (.cells #[.int .i64 rc, .int .i64 rp] 41 (0, 0)) := (hBX.block w2.heap.size (by simp)).trans (alloc_at _ _)
         obtain ⟨y0, q0⟩ := cell_of _ _ 0 _ _ (.int .i64 rc) z0 rfl
         obtain ⟨y1, q1'⟩ := cell_of _ _ 1 _ _ (.int .i64 rp) z0 rfl)
      | (go_at_call 24; refine Calls.mono (HFA.out w5 hB5 err rc rp hF5) ?_; rintro e w6 ⟨rfl, b6⟩; have hB6 := below_trans hB5 b6)
      | (go_at_call 25; refine Calls.mono (HSAME.out G5 G rl d5 x w6 (hI5.below b6) (hI2.below (below_trans (below_alloc' (Below.refl _ _) _) (below_trans hBX b6)))) ?_; rintro e w7 ⟨rfl, b7⟩; have hB7 := below_trans hB6 b7))
    go_ret
    exact ⟨rfl, hB7⟩
end Go.Proofs.YtcnecmcbjpehcaaDoor
