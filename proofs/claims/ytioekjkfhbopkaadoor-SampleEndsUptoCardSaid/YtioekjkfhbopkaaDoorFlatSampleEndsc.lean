/- Words, plain laws and walks behind the law SampleEnds, part 3. No condition. -/
import Derived.Test.YtioekjkfhbopkaaDoorFlatSampleEndsb
import Derived.Test.YtioekjkfhbopkaaDoorWMore
import Derived.Deep.RegionHeld3
import Derived.Test.YtioekjkfhbopkaaDoorFlatSampleEndsa
import Derived.LaidEql
import Derived.Stop.Asserts
import Derived.RowKitTokens

/- slices.Backward as an iterator again: the rounds by number (so that what comes is one of the list's numbers). No condition. -/
namespace Go.Proofs.YtioekjkfhbopkaaDoor
open Go.RowKit Go.Shelf Go.Proofs

attribute [local go_sem] Oper.semAt_some

set_option maxRecDepth 100000 in
set_option maxHeartbeats 2000000 in
theorem back1N_in (F : Fence) (n : Nat) (h8 : F.fn 76) (hro : F.round = none) (hn : 1 ≤ n) (r Bs n₀ b cap : Nat) (off : Nat) (l : List Int) (hlen : l.length ≤ 9223372036854775807) (hb : b < n₀) (J Jx : List Nat → World → Prop)
    (hY : ∀ pre (x : Nat) W, J pre W → pre.length < l.length → YieldAt F (n - 1) Tryd.prog r #[.int .i64 (backAt l x).1, .int .i64 (backAt l x).2] W fun e W' =>
      (e = .returned (.bool true) ∧ J (pre ++ [x]) W' ∧ KpB n₀ Bs W W') ∨ (e = .returned (.bool false) ∧ Jx (pre ++ [x]) W'))
    (W : World) (hBs : W.cell? ⟨Bs, 0, none⟩ = some (.slice (some ⟨b, off, none⟩) l.length cap)) (hc : ∀ j, j < l.length → W.cell? ⟨b, off + j, none⟩ = some (.int .i64 (l.getD j 0))) (h0 : J [] W) :
    CallsIn F n Tryd.prog 76 #[.func (.yield r) #[] #[], .pointer (some ⟨Bs, 0, none⟩)] W fun e W' => (∃ v, e = .returned v) ∧
      (J (List.range l.length) W' ∨ (∃ pre, (∃ k, k ≤ l.length ∧ pre = List.range k) ∧ Jx pre W')) := by
  refine callsIn_of_wp Tryd.func76 rfl h8 ?_ hro
  simp only [Tryd.ntmps76, List.size_toArray, List.length_cons, List.length_nil, Nat.reduceAdd, Nat.reduceSub, Array.replicate_succ, Array.replicate_zero, List.push_toArray, List.append_toArray, List.nil_append, List.cons_append]
  gi_wp2
  gi_loopw [3] (fun v wr => ∃ (k : Nat) (i : Int), k ≤ l.length ∧ i = (l.length : Int) - 1 - k ∧ v = .int .i64 i ∧ J (List.range k) wr ∧ KpB n₀ Bs W wr)
    (fun v _ => (intOf v + 1).toNat)
  case atStart => exact ⟨0, _, Nat.zero_le _, by omega, rfl, h0, KpB.refl _ _ _⟩
  case round =>
    obtain ⟨k, i, hk, hi, rfl, hJs, hnx⟩ := hrel
    have hs : wr.cell? ⟨Bs, 0, none⟩ = some (.slice (some ⟨b, off, none⟩) l.length cap) := hnx.2 _ hBs
    by_cases hlt : k < l.length
    · obtain ⟨j, rfl⟩ : ∃ j : Nat, i = (j : Int) := ⟨l.length - 1 - k, by omega⟩
      have hj : j = l.length - 1 - k := by omega
      have hjl : j < l.length := by omega
      have hcx := (hnx.1.cell (p := ⟨b, off + j, none⟩) hb).trans (hc j hjl)
      have hba : backAt l k = ((j : Int), l.getD j 0) := by unfold backAt; rw [← hj]
      have hbs : List.range (k + 1) = List.range k ++ [k] := List.range_succ
      have hYk := hY (List.range k) k wr hJs (by rw [List.length_range]; exact hlt)
      rw [hba, ← hbs] at hYk
      obtain ⟨fn, tmps, assign, body, hy, hR⟩ := hYk
      dsimp only at hy
      have j0 : (0 : Int) ≤ (j : Int) := Int.natCast_nonneg _
      have j1 : (j : Int) < (l.length : Int) := by omega
      generalize l.getD j 0 = x at hcx hy hR
      have HI := hide hi
      clear hj hi hbs hba
      gi_wp2
      refine hR.mono ?_
      rintro e W3 (⟨rfl, hJ3, hk3⟩ | ⟨rfl, hJx3⟩)
      · gi_wp2
        go_roundw
        case rel => exact ⟨k + 1, (j : Int) - 1, by omega, by have := HI.out; omega, by go_num, hJ3, hnx.trans hk3⟩
        case measure => simp [intOf]
      · gi_wp2
        refine bodyPost_ret (results_none rfl _ _ _) rfl ?_
        exact ⟨⟨_, rfl⟩, .inr ⟨_, ⟨k + 1, by omega, rfl⟩, hJx3⟩⟩
    · obtain rfl : k = l.length := by omega
      obtain rfl : i = -1 := by omega
      gi_wp2
      go_end0
      exact ⟨⟨_, rfl⟩, .inl hJs⟩

/-- slices.Backward(s) at a list that is not empty hands back a value that 'SeqStopsK', at 'Kp := KpB n₀ Bs'. -/
theorem backN_stops (F : Fence) (n : Nat) (h8 : F.fn 76) (hro : F.round = none) (hn : 1 ≤ n) (Bs n₀ b cap off : Nat) (l : List Int) (hlen : l.length ≤ 9223372036854775807) (w : World) (hBs : Bs < w.heap.size) (hn₀ : n₀ ≤ w.heap.size)
    (hcell : w.cell? ⟨Bs, 0, none⟩ = some (.slice (some ⟨b, off, none⟩) l.length cap)) (hb : b < n₀) (hc : ∀ j, j < l.length → w.cell? ⟨b, off + j, none⟩ = some (.int .i64 (l.getD j 0))) :
    SeqStopsK F n Tryd.prog 76 #[.pointer (some ⟨Bs, 0, none⟩)] (fun x : Nat => #[.int .i64 (backAt l x).1, .int .i64 (backAt l x).2]) (KpB n₀ Bs) (fun ys => ys = List.range l.length) (fun pre => ∃ k, k ≤ l.length ∧ pre = List.range k) l.length w := fun r J Jx W hW _ _ hY h0 => by
  have hW' := hW.mono hn₀
  refine (back1N_in F n h8 hro hn r Bs n₀ b cap off l hlen hb J Jx hY W ((hW.cell (p := ⟨Bs, 0, none⟩) hBs).trans hcell) (fun j hj => (hW'.cell (p := ⟨b, off + j, none⟩) hb).trans (hc j hj)) h0).mono ?_
  rintro e W' ⟨he, hj | ⟨pre, hk, hj⟩⟩
  · exact ⟨he, .inl ⟨_, rfl, hj⟩⟩
  · exact ⟨he, .inr ⟨_, hk, hj⟩⟩
end Go.Proofs.YtioekjkfhbopkaaDoor

/- The walks of dist.list, dist.Valid, dist.Total; strings.Trim at the digits 0 and 1. No condition. -/
namespace Go.Proofs.YtioekjkfhbopkaaDoor
open Go.RowKit Go.Deep Go.Proofs.YtioekjkfhbopkaaDoorW.PrintWords Go.Proofs.YtioekjkfhbopkaaDoorW.PrintMore
attribute [local go_sem] max2_int min2_int max_two min_two

/-- a sum that stands still beyond a bound -/
def sat (most t : Int) : Int := if most + 1 < t then most + 1 else t

set_option maxHeartbeats 2000000 in
theorem list_any (A : Option Addr) (l : List Int) (c : Nat) (most : Int) (hm : 0 ≤ most) (hm2 : most ≤ 1000000) (w : World) (a : Nat → Addr) (hE : Env [2, 3] w a) (hA : Ints w A l) :
    Calls Tryd.prog 55 #[.slice A l.length c, .int .i64 most] w fun e w' => e = .returned (errC a (wcode most l)) ∧ Below w.heap.size w w' := by
  have hlen := hA.len
  have x3 : w.cell? ⟨1, 0, none⟩ = some (.iface 160 (.pointer (some (a 3)))) := hE.cell 3 (by simp)
  have x2 : w.cell? ⟨0, 0, none⟩ = some (.iface 160 (.pointer (some (a 2)))) := hE.cell 2 (by simp)
  go_enter Tryd.func55, Tryd.ntmps55
  go_wp2_with (fail)
  go_loopw [5, 6, 11] (fun s t i wr => ∃ k : Nat, k ≤ l.length ∧ i = .int .i64 k ∧ s = .bool (anyPos (l.take k)) ∧ t = .int .i64 (sat most (l.take k).sum) ∧ Hid (anyNeg (l.take k) = false) ∧ Below w.heap.size w wr) (fun _ _ i _ => l.length - (intOf i).toNat)
  case atStart => exact ⟨0, Nat.zero_le _, rfl, rfl, by unfold sat; rw [List.take_zero, List.sum_nil, if_neg (by omega)], hide rfl, Below.refl _ _⟩
  case round =>
    obtain ⟨k, hk, rfl, rfl, rfl, HN, hB⟩ := hrel
    have y3 : wr.cell? ⟨1, 0, none⟩ = some (.iface 160 (.pointer (some (a 3)))) := (hB.cell (p := ⟨1, 0, none⟩) (hE.lt (c := 3) (by simp))).trans x3
    have y2 : wr.cell? ⟨0, 0, none⟩ = some (.iface 160 (.pointer (some (a 2)))) := (hB.cell (p := ⟨0, 0, none⟩) (hE.lt (c := 2) (by simp))).trans x2
    have h0 := sum_nonneg _ HN.out
    by_cases hlt : k < l.length
    · obtain ⟨b, off, rfl, _, dk⟩ := (hA.below hB).at_ k hlt
      have k0 : (0 : Int) ≤ (k : Int) := Int.natCast_nonneg _
      have k1 : (k : Int) < (l.length : Int) := by omega
      have hneg := fun h => wcode_neg most l k hlt h
      have hp' : anyPos (l.take (k + 1)) = (anyPos (l.take k) || decide (0 < l.getD k 0)) := any_take _ l k hlt
      have hn' : anyNeg (l.take (k + 1)) = (anyNeg (l.take k) || decide (l.getD k 0 < 0)) := any_take _ l k hlt
      have hs' := sum_take l k hlt
      rw [HN.out, Bool.false_or] at hn'
      generalize l.getD k 0 = x at dk hneg hp' hn' hs'
      have HNEG := hide hneg
      have HP := hide hp'
      have HN' := hide hn'
      have HS := hide hs'
      clear hneg hp' hn' hs'
      by_cases hx : x < 0
      · go_wp2_with (fail)
        go_ret
        exact ⟨by rw [HNEG.out hx]; rfl, hB⟩
      · have hsat : 0 ≤ sat most (l.take k).sum ∧ sat most (l.take k).sum ≤ most + 1 := by unfold sat; split <;> omega
        have hst : sat most ((l.take k).sum + x) = if most + 1 < sat most (l.take k).sum + (if most + 1 < x then most + 1 else x) then most + 1 else sat most (l.take k).sum + (if most + 1 < x then most + 1 else x) := by
          unfold sat
          by_cases e1 : most + 1 < (l.take k).sum <;> by_cases e2 : most + 1 < x <;> simp only [e1, e2, if_true, if_false] <;> (split <;> split <;> omega)
        have HST := hide hst
        clear hst
        generalize sat most (l.take k).sum = t0 at hsat HST ⊢
        generalize anyPos (l.take k) = s0 at HP ⊢
        have hsl := hsat.1
        have hsr := hsat.2
        clear hsat h0
        by_cases hpos : 0 < x
        · by_cases e2 : most + 1 < x
          · by_cases e3 : most + 1 < t0 + (most + 1)
            · cases s0
              all_goals
                go_wp2_with (fail)
                go_roundw
                case rel => exact ⟨k + 1, by omega, by go_num, by rw [HP.out, decide_eq_true hpos]; rfl, by rw [HS.out, HST.out, if_pos e2, if_pos e3], hide (by rw [HN'.out, decide_eq_false hx]), hB⟩
                case measure => simp [intOf]; omega
            · cases s0
              all_goals
                go_wp2_with (fail)
                go_roundw
                case rel => exact ⟨k + 1, by omega, by go_num, by rw [HP.out, decide_eq_true hpos]; rfl, by rw [HS.out, HST.out, if_pos e2, if_neg e3], hide (by rw [HN'.out, decide_eq_false hx]), hB⟩
                case measure => simp [intOf]; omega
          · by_cases e3 : most + 1 < t0 + x
            · cases s0
              all_goals
                go_wp2_with (fail)
                go_roundw
                case rel => exact ⟨k + 1, by omega, by go_num, by rw [HP.out, decide_eq_true hpos]; rfl, by rw [HS.out, HST.out, if_neg e2, if_pos e3], hide (by rw [HN'.out, decide_eq_false hx]), hB⟩
                case measure => simp [intOf]; omega
            · cases s0
              all_goals
                go_wp2_with (fail)
                go_roundw
                case rel => exact ⟨k + 1, by omega, by go_num, by rw [HP.out, decide_eq_true hpos]; rfl, by rw [HS.out, HST.out, if_neg e2, if_neg e3], hide (by rw [HN'.out, decide_eq_false hx]), hB⟩
                case measure => simp [intOf]; omega
        · obtain rfl : x = 0 := by omega
          have e2 : ¬ most + 1 < 0 := by omega
          have e3 : ¬ most + 1 < t0 + 0 := by omega
          have e4 : ¬ most + 1 < t0 := by omega
          cases s0
          all_goals
            go_wp2_with (fail)
            go_roundw
            case rel => exact ⟨k + 1, by omega, by go_num, by rw [HP.out]; rfl, by rw [HS.out, HST.out, if_neg e2, if_neg e3]; first | rfl | rw [Int.add_zero], hide (by rw [HN'.out]; rfl), hB⟩
            case measure => simp [intOf]; omega
    · obtain rfl : k = l.length := by omega
      have hend := wcode_end most l (anyPos l) (decide (most < l.sum)) (anyNeg_false l HN.out) rfl rfl
      rw [List.take_length] at h0 ⊢
      have hcmp : (most < sat most l.sum) = (most < l.sum) := by
        unfold sat
        split <;> simp <;> omega
      have HC := hide hcmp
      have HE := hide hend
      clear hend hcmp
      by_cases hpos : anyPos l = true
      · by_cases hgr : most < sat most l.sum
        · go_wp2_with (fail)
          go_ret
          rw [HE.out, hpos, decide_eq_true (by rw [← HC.out]; exact hgr)]
          exact ⟨rfl, hB⟩
        · go_wp2_with (fail)
          go_ret
          rw [HE.out, hpos, decide_eq_false (by rw [← HC.out]; omega)]
          exact ⟨rfl, hB⟩
      · have hpos' : anyPos l = false := by simpa using hpos
        go_wp2_with (fail)
        go_ret
        rw [HE.out, hpos']
        exact ⟨rfl, hB⟩

theorem distValid_any (A : Option Addr) (l : List Int) (c : Nat) (w : World) (a : Nat → Addr) (hE : Env [2, 3] w a) (hA : Ints w A l) :
    Calls Tryd.prog 36 #[.slice A l.length c] w fun e w' => e = .returned (errC a (wErr l)) ∧ Below w.heap.size w w' := by
  have hlen := hA.len
  have x2 : w.cell? ⟨0, 0, none⟩ = some (.iface 160 (.pointer (some (a 2)))) := hE.cell 2 (by simp)
  unfold wErr
  by_cases h : 16 < l.length
  · rw [if_pos h]
    go_enter Tryd.func36, Tryd.ntmps36
    go_wp2_with (fail)
    go_ret
    exact ⟨rfl, Below.refl _ _⟩
  · rw [if_neg h]
    have HL := hide (list_any A l c 4096 (by decide) (by decide) w a hE hA)
    go_enter Tryd.func36, Tryd.ntmps36
    go_wp2_with (go_at_call 55; refine HL.out.mono ?_; rintro e w1 ⟨rfl, hb1⟩)
    go_ret
    exact ⟨rfl, hb1⟩

theorem distTotal_ok (A : Option Addr) (l : List Int) (c : Nat) (w : World) (hA : Ints w A l) (hc : l.length ≤ c) (hg : GoodW l) :
    Calls Tryd.prog 63 #[.slice A l.length c] w fun e w' => e = .returned (.int .i64 l.sum) ∧ Below w.heap.size w w' := by
  obtain ⟨k, hk⟩ := (total_f hg).rounds
  refine (PSampleDraw.dist_Total.calls k A c l l.sum w hA.toC hc hk).mono ?_
  rintro e w' ⟨rfl, h⟩
  exact ⟨rfl, drawn_below h⟩
theorem dropWhile_all (p : UInt8 → Bool) (l : List UInt8) (h : l.all p = true) : l.dropWhile p = [] := by
  induction l with
  | nil => rfl
  | cons x r ih =>
    rw [List.all_cons, Bool.and_eq_true] at h
    rw [List.dropWhile_cons, if_pos h.1]
    exact ih h.2
theorem dropWhile_none {p : UInt8 → Bool} : ∀ (l : List UInt8), l.dropWhile p = [] → l.all p = true
  | [], _ => rfl
  | x :: r, h => by
    rw [List.dropWhile_cons] at h
    by_cases q : p x = true
    · rw [if_pos q] at h
      rw [List.all_cons, q, dropWhile_none r h]
      rfl
    · rw [if_neg q] at h
      cases h
theorem trimS_nil (l cs : List UInt8) : Lib.trimS l cs = [] ↔ l.all (cs.contains ·) = true := by
  unfold Lib.trimS Lib.trimLeftS Lib.trimRightS
  constructor
  · intro h
    have h1 := dropWhile_none _ h
    rw [List.all_reverse] at h1
    -- what is left of the reversed list begins with a byte that is none of them, unless it is empty
    cases hr : l.reverse.dropWhile (cs.contains ·) with
    | nil =>
      have := dropWhile_none _ hr
      rw [List.all_reverse] at this
      exact this
    | cons x r =>
      rw [hr, List.all_cons, Bool.and_eq_true] at h1
      have hx : cs.contains x = false := by
        have : ∀ (m : List UInt8), m.dropWhile (cs.contains ·) = x :: r → cs.contains x = false := by
          intro m
          induction m with
          | nil => intro e; cases e
          | cons y m ih =>
            intro e
            rw [List.dropWhile_cons] at e
            by_cases q : cs.contains y = true
            · rw [if_pos q] at e
              exact ih e
            · rw [if_neg q] at e
              injection e with e1 _
              rw [← e1]
              simpa using q
        exact this _ hr
      rw [hx] at h1
      cases h1.1
  · intro h
    rw [dropWhile_all _ l.reverse (by rw [List.all_reverse]; exact h)]
    rfl
theorem trim_bits (s : ByteArray) : (⟨(Lib.trimS s.data.toList [48, 49]).toArray⟩ : ByteArray) = ⟨#[]⟩ ↔ isBits s = true := by
  unfold isBits
  have e : s.data.toList.all ([48, 49].contains ·) = s.data.toList.all (fun b => b == 48 || b == 49) := by
    congr 1
    funext b
    simp [List.contains, List.elem]
    cases (b == 48) <;> cases (b == 49) <;> rfl
  rw [← e, ← trimS_nil]
  constructor
  · intro h
    injection h with h
    have := congrArg Array.toList h
    simpa using this
  · intro h
    rw [h]
theorem trim_ok (s : ByteArray) (w : World) (hs : s.size ≤ 9223372036854775807) :
    Calls Tryd.prog 37 #[.string s, .string ⟨#[48, 49]⟩] w fun e w' => ∃ t : ByteArray, e = .returned (.string t) ∧ (t = ⟨#[]⟩ ↔ isBits s = true) ∧ Below w.heap.size w w' := by
  refine (Any.strings_Trim_laid Tryd.lays160 (by kernel_rfl) s ⟨#[48, 49]⟩ w hs (by decide) (ascii_of_all (by decide))).mono ?_
  rintro e w' ⟨rfl, hb⟩
  exact ⟨_, rfl, trim_bits s, hb⟩
end Go.Proofs.YtioekjkfhbopkaaDoor

/- The walk of sample.leaves: the leaves of each depth. No condition. -/
namespace Go.Proofs.YtioekjkfhbopkaaDoor
open Go.RowKit Go.Deep Go.Proofs.YtioekjkfhbopkaaDoorW.PrintWords

/-- the leaves of each depth, as lists of whole numbers -/
def levels (W : List Int) : List (List Int) := (List.range (dep W + 1)).map fun d => leafTo (parts W) (dep W - d) (W.length + 1)
/-- all parts, in the program's words -/
def allI (W : List Int) : List Int := W ++ [((2 ^ dep W : Nat) : Int) - W.sum]
theorem allI_at {W : List Int} (h : GoodW W) (i : Nat) (hi : i < W.length + 1) : (allI W).getD i 0 = ((parts W).getD i 0 : Int) := by
  unfold allI
  by_cases e : i < W.length
  · rw [parts_at h i e, List.getD_eq_getElem?_getD, List.getElem?_append_left e, List.getD_eq_getElem?_getD]
  · obtain rfl : i = W.length := by omega
    rw [parts_last h, List.getD_eq_getElem?_getD, List.getElem?_append_right (Nat.le_refl _)]
    simp
theorem allI_len (W : List Int) : (allI W).length = W.length + 1 := by simp [allI]

/-- the rows, d of them whole, the next one up to the part i -/
def rowsAt (P : List Nat) (D n d i : Nat) (j : Nat) : List Int := if j < d then leafTo P (D - j) (n + 1) else if j = d then leafTo P (D - d) i else []
theorem rowsAt_start (P : List Nat) (D n j : Nat) : rowsAt P D n 0 0 j = [] := by
  unfold rowsAt
  rw [if_neg (by omega)]
  split
  · simp [leafTo]
  · rfl
theorem rowsAt_turn (P : List Nat) (D n d j : Nat) : rowsAt P D n d (n + 1) j = rowsAt P D n (d + 1) 0 j := by
  unfold rowsAt
  by_cases h1 : j < d
  · rw [if_pos h1, if_pos (by omega)]
  · rw [if_neg h1]
    by_cases h2 : j = d
    · subst h2
      rw [if_pos rfl, if_pos (by omega)]
    · rw [if_neg h2, if_neg (by omega)]
      split
      · simp [leafTo]
      · rfl
theorem rowsAt_same (P : List Nat) (D n d i : Nat) (h : ¬ bitAt (P.getD i 0) (D - d) = true) (j : Nat) : rowsAt P D n d i j = rowsAt P D n d (i + 1) j := by
  unfold rowsAt
  rw [leafTo_succ P (D - d) i, if_neg h]
theorem rowsAt_more (P : List Nat) (D n d i : Nat) (h : bitAt (P.getD i 0) (D - d) = true) (j : Nat) : (if j = d then rowsAt P D n d i d ++ [(i : Int)] else rowsAt P D n d i j) = rowsAt P D n d (i + 1) j := by
  unfold rowsAt
  rw [leafTo_succ P (D - d) i, if_pos h]
  by_cases e : j = d
  · subst e
    rw [if_pos rfl, if_neg (Nat.lt_irrefl _), if_pos rfl, if_neg (Nat.lt_irrefl _), if_pos rfl]
  · rw [if_neg e, if_neg e, if_neg e]
theorem bit_testI (x D d : Nat) : ((x : Int) / 2 ^ (D - d) % 2 == 1) = bitAt x (D - d) := by
  unfold bitAt
  rw [show (2 : Int) ^ (D - d) = ((2 ^ (D - d) : Nat) : Int) by simp, ← Int.natCast_ediv, Bool.eq_iff_iff, beq_iff_eq, decide_eq_true_iff]
  omega
theorem i64_and1 (n : Int) : bits .and .i64 n 1 = n % 2 := by
  have h1 : (BitVec.ofInt 64 1).toNat = 2 ^ 1 - 1 := by decide
  have key : (BitVec.ofInt 64 n &&& BitVec.ofInt 64 1).toNat = (n % ((2 ^ 64 : Nat) : Int)).toNat % 2 ^ 1 := by
    rw [BitVec.toNat_and, BitVec.toNat_ofInt, h1, Nat.and_two_pow_sub_one_eq_mod]
  show IntKind.i64.wrap ((BitVec.ofInt 64 n &&& BitVec.ofInt 64 1).toNat : Nat) = n % 2
  rw [key, IntKind.wrap_i64]
  omega
attribute [local go_sem] i64_and1
set_option maxRecDepth 100000 in
set_option maxHeartbeats 4000000 in
theorem leaves_ok (A : Option Addr) (W : List Int) (c : Nat) (w : World) (hA : Ints w A W) (hc : W.length ≤ c) (hg : GoodW W) :
    Calls Tryd.prog 38 #[.slice A W.length c] w fun e w' => ∃ B d, e = .returned (.slice B (levels W).length d) ∧ Lists w' B (levels W) ∧ (levels W).length ≤ d ∧ Below w.heap.size w w' := by
  have hln := hg.len
  have h0 : 0 < W.length := by
    rcases Nat.eq_zero_or_pos W.length with q | q
    · have := hg.pos
      rw [List.length_eq_zero_iff.1 q] at this
      simp at this
    · exact q
  have HT := hide (distTotal_ok A W c w hA hc hg)
  have HC := hide (fun w' (hb : Below w.heap.size w w') => clone_ok A W c w' (hA.below hb) h0 (by omega))
  have hs1 := hg.pos
  have hs2 := hg.le
  obtain ⟨hd1, hd2, hd3⟩ := dep_le hg
  have hpw : 2 ^ dep W ≤ 4096 := by
    have : (2 : Nat) ^ dep W ≤ 2 ^ 12 := Nat.pow_le_pow_right (by decide) hd3
    omega
  have hln2 : Lib.bitLen (W.sum - 1).toNat = dep W := rfl
  have HL := hide (fun w' => Tryd.bits_Len (W.sum - 1) w' (by omega) (by omega))
  rw [hln2] at HL
  have HLV := hide (show levels W = (List.range (dep W + 1)).map fun d => leafTo (parts W) (dep W - d) (W.length + 1) from rfl)
  have HALL := hide (fun i hi => allI_at hg i hi)
  have HPL := hide (fun i => parts_le hg i)
  have HAL := hide (show allI W = W ++ [((2 ^ dep W : Nat) : Int) - W.sum] from rfl)
  generalize allI W = aI at HALL HAL
  generalize dep W = D at *
  generalize levels W = LV at HLV ⊢
  generalize W.sum = S at *
  generalize parts W = P at *
  clear hln2
  go_enter Tryd.func38, Tryd.ntmps38
  go_wp2_with (first
    | (go_at_call 63; refine Calls.mono HT.out ?_; rintro e w1 ⟨rfl, hB1⟩)
    | (go_at_call 64; refine Calls.mono (HL.out w1) ?_; rintro e w2 ⟨rfl, hw2⟩; subst hw2))
  obtain ⟨q, hq⟩ : ∃ q : Int, q = ((2 ^ D : Nat) : Int) := ⟨_, rfl⟩
  obtain ⟨r, hr⟩ : ∃ r : Int, r = q - S := ⟨_, rfl⟩
  have f1 : IntKind.i64.wrap (2 ^ D) = q := by
    have e : (2 : Int) ^ D = ((2 ^ D : Nat) : Int) := by simp
    rw [e, hq]
    exact IntWalk.i64_in _ (by omega)
  have f2 : IntKind.i64.wrap (q - S) = r := by rw [hr]; exact IntWalk.i64_in _ (by omega)
  have HB1 := hide hB1
  have HR := hide hr
  have HQ := hide hq
  clear hr hq
  have HBY := hide (show (W.length + 1) * 8 ≤ 140737488355328 by omega)
  have HSZ := hide HB1.out.size
  have hn1 := HB1.out.drew
  have hn2 := fun o => (HB1.out.alloc HB1.out.size o).drew
  have HN1 := hide hn1
  have HN2 := hide hn2
  clear hn1 hn2
  go_region_held3 (fun _ => True)
    (first | go_keep | trivial)
    ((first
      | (go_at_call 65
         refine Calls.mono (HC.out _ (by first | exact HN1.out | exact HN2.out _)) ?_
         rintro e w3 ⟨gA, dA, rfl, hgA, hdA, hoA, b3⟩
         have hB3 : Below w.heap.size w w3 := below_trans (by first | exact HN1.out | exact HN2.out _) b3
         have hz3 := hB3.size
         have hx3 := own_weaken hoA (show w.heap.size ≤ _ by first | exact HN1.out.size | exact (HN2.out _).size))
      | (refine step_app_ints _ rfl _ _ rfl w.heap.size (.slice (some ⟨gA, 0, none⟩) W.length dA) W rfl (by first | exact hx3.alloc _ | exact hx3) _ 1 1 [r] rfl rfl (by first | exact ints_lit1 w3 r _ | exact (ints_lit1 w2 r _).below ((below_drewN' (Below.refl _ _) 1).trans b3)) HBY.out (by first | exact hz3 | (rw [World.size_alloc]; exact Nat.le_succ_of_le hz3)) ?_
         intro A5 c5 w5 hc5 ho5 hg5 hob5
         have hb5 : Below w.heap.size w w5 := by
           first
             | exact (hB3.alloc hz3 _).grown hg5 (by rw [World.size_alloc]; exact Nat.le_succ_of_le hz3) (fun j hj => (hx3.lt j hj).1)
             | exact hB3.grown hg5 hz3 (fun j hj => (hx3.lt j hj).1)
         clear hoA hx3 hg5 hob5 hgA hdA)
      | fail))
  all_goals
    have HI := hide (show Ints w5 A5 aI by rw [HAL.out, ← HQ.out, ← HR.out]; exact Ints.own ho5)
    have HLEN := hide (show aI.length = W.length + 1 by rw [HAL.out]; simp)
    clear ho5 f1 f2 hB3 hz3 b3
    go_wp2_with (at_make; refine wp_make_rows _ rfl _ _ rfl .i64 .i64 (D + 1) rfl rfl (by omega) w5.heap.size (Nat.le_refl _) ?_; intro w6 ho6 hg6)
    have HS0 := hide (LSt.start ho6)
    have HB6 := hide ((Below.refl w5.heap.size w5).grown hg6 (Nat.le_refl _) (fun j hj => by cases hj))
    clear ho6 hg6
    go_loopw [29] (fun iv wr => ∃ d : Nat, d ≤ D + 1 ∧ iv = .int .i64 d ∧ Hid (∃ vs, LSt wr w5.heap.size w5.heap.size (D + 1) (D + 1) vs (rowsAt P D W.length d 0)) ∧ Hid (Below w5.heap.size w5 wr)) (fun iv _ => D + 1 - (intOf iv).toNat)
    case atStart => exact ⟨0, Nat.zero_le _, rfl, hide ⟨_, HS0.out.congr (fun _ _ => rfl) (fun j hj => (rowsAt_start P D W.length j).symm)⟩, HB6⟩
    case round =>
      obtain ⟨d, hd, rfl, HS, HB⟩ := hrel
      obtain ⟨wi, rfl⟩ : ∃ wi : World, wi = wr := ⟨_, rfl⟩
      have d0 : (0 : Int) ≤ (d : Int) := Int.natCast_nonneg _
      by_cases hdl : d < D + 1
      · have d1 : (d : Int) < (D : Int) + 1 := by omega
        go_wp2_with (fail)
        go_loopw [34] (fun iv wr => ∃ i : Nat, i ≤ W.length + 1 ∧ iv = .int .i64 i ∧ Hid (∃ vs, LSt wr w5.heap.size w5.heap.size (D + 1) (D + 1) vs (rowsAt P D W.length d i)) ∧ Hid (Below w5.heap.size w5 wr)) (fun iv _ => W.length + 1 - (intOf iv).toNat)
        case atStart => exact ⟨0, Nat.zero_le _, rfl, HS, HB⟩
        case round =>
          obtain ⟨i, hi, rfl, HS9, HB9⟩ := hrel
          obtain ⟨wk, rfl⟩ : ∃ wk : World, wk = wr := ⟨_, rfl⟩
          have i0 : (0 : Int) ≤ (i : Int) := Int.natCast_nonneg _
          by_cases hil : i < W.length + 1
          · have i1 : (i : Int) < (W.length : Int) + 1 := by omega
            obtain ⟨b, off, rfl, hbl, hcell⟩ := (HI.out.below HB9.out).at_ i (by rw [HLEN.out]; exact hil)
            rw [HALL.out i hil] at hcell
            have hx4 := HPL.out i
            obtain ⟨vs, hLS⟩ := HS9.out
            obtain ⟨hc1, hf1⟩ := hLS.cell d hdl
            have hrow := hLS.row d hdl
            have hlt4 := leafTo_len P (D - d) i
            have hrd : rowsAt P D W.length d i d = leafTo P (D - d) i := by unfold rowsAt; rw [if_neg (Nat.lt_irrefl _), if_pos rfl]
            obtain ⟨A8, c8, hv8, hc8, _⟩ := own_shape hrow
            by_cases hbit : bitAt (P.getD i 0) (D - d) = true
            · have HMR := hide (rowsAt_more P D W.length d i hbit)
              have hz := bit_testI (P.getD i 0) D d
              rw [hbit] at hz
              generalize P.getD i 0 = x at hcell hx4 hz
              have HLS := hide hLS
              have hkeep := fun (o : Obj) (W' : World) (hg : (wk.alloc o).grownBy W' (vs d).ownBlock) => (show W'.heap[w5.heap.size]? = wk.heap[w5.heap.size]? from by
                have hgl := (HLS.out.spine.lt w5.heap.size rfl).2
                rw [hg.block w5.heap.size (by rw [World.size_alloc]; omega) (fun q => HLS.out.apart d hdl q.symm), alloc_old _ _ _ hgl])
              have hmore := fun (o : Obj) (W' : World) (v' : Value) (l : List Int) (g1 : W'.ownsRow w5.heap.size 3 1 v' l.length (intCells l)) (g2 : (wk.alloc o).grownBy W' (vs d).ownBlock) (g3 : v'.ownBlock = (vs d).ownBlock ∨ v'.ownBlock = some (wk.alloc o).heap.size) => HLS.out.more hdl g1 g2 g3
              have hown : ∀ o, (wk.alloc o).ownsRow w5.heap.size 3 1 (vs d) (rowsAt P D W.length d i d).length (intCells (rowsAt P D W.length d i d)) := fun o => hrow.alloc o
              have hro : (rowsAt P D W.length d i d).length ≤ 17 := by rw [hrd]; omega
              rw [hv8] at hc1 hkeep hmore hown
              generalize rowsAt P D W.length d i d = ro at hc1 hkeep hmore hown hro HMR hc8
              have hby : (ro.length + 1) * 8 ≤ 140737488355328 := by omega
              have HKEEP := hide hkeep
              have HMORE := hide hmore
              have HOWN := hide hown
              have HBY2 := hide hby
              have HC1 := hide hc1
              have HF1 := hide hf1
              have hsk : w5.heap.size ≤ wk.heap.size := HB9.out.size
              have HSK := hide (fun o => (show w5.heap.size ≤ (wk.alloc o).heap.size by rw [World.size_alloc]; exact Nat.le_succ_of_le hsk))
              have hbg := fun (o : Obj) (W' : World) (hg : (wk.alloc o).grownBy W' (Value.slice A8 ro.length c8).ownBlock) => ((HB9.out.alloc hsk o).grown hg (HSK.out o) (fun j hj => ((HOWN.out o).lt j hj).1))
              have HBG := hide hbg
              clear hLS hrow hbit hkeep hmore hown hby hsk hv8 hrd hbg hlt4
              go_wp2_with (at_builtin; refine wp_app_ints _ rfl _ _ rfl w5.heap.size (.slice A8 ro.length c8) ro rfl (HOWN.out _) _ 1 1 [(i : Int)] rfl rfl (ints_lit1 wk _ _) HBY2.out (HSK.out _) ?_; intro A12 c12 w12 hc12 ho12 hg12 hob12; have y12 := (World.cell?_of_block (a := ⟨w5.heap.size, d, none⟩) (HKEEP.out _ _ hg12)).trans HC1.out; have z12 := (World.frozen?_of_block (a := ⟨w5.heap.size, d, none⟩) (HKEEP.out _ _ hg12)).trans HF1.out)
              go_roundw
              case rel =>
                have hfin := (HMORE.out _ _ _ _ ho12 hg12 hob12).congr (fun _ _ => rfl) (fun j _ => HMR.out j)
                have hbel := (HBG.out _ _ hg12).setCell (p := ⟨w5.heap.size, d, none⟩) (Nat.le_refl _) (.slice A12 (ro ++ [(i : Int)]).length c12)
                rw [show (ro ++ [(i : Int)]).length = ro.length + 1 by simp] at hfin hbel
                exact ⟨i + 1, by omega, by go_num, hide ⟨_, hfin⟩, hide hbel⟩
              case measure => simp [intOf]; omega
            · have hz := bit_testI (P.getD i 0) D d
              rw [show bitAt (P.getD i 0) (D - d) = false by simpa using hbit] at hz
              have HSM := hide (fun j => rowsAt_same P D W.length d i hbit j)
              generalize P.getD i 0 = x at hcell hx4 hz
              have HLS := hide hLS
              clear hLS hrow hbit hc1 hf1 hv8 hc8
              go_wp2_with (fail)
              go_roundw
              case rel => exact ⟨i + 1, by omega, by go_num, hide ⟨vs, HLS.out.congr (fun _ _ => rfl) (fun j _ => HSM.out j)⟩, HB9⟩
              case measure => simp [intOf]; omega
          · obtain rfl : i = W.length + 1 := by omega
            go_wp2_with (fail)
            go_roundw
            case rel => exact ⟨d + 1, by omega, by go_num, by
              obtain ⟨vs, hLS⟩ := HS9.out
              exact hide ⟨vs, hLS.congr (fun _ _ => rfl) (fun j _ => rowsAt_turn P D W.length d j)⟩, HB9⟩
            case measure => simp [intOf]; omega
      · obtain rfl : d = D + 1 := by omega
        go_wp2_with (fail)
        go_ret
        obtain ⟨vs, hLS⟩ := HS.out
        have e : LV = (List.range (D + 1)).map (rowsAt P D W.length (D + 1) 0) := by
          rw [HLV.out]
          refine List.map_congr_left (fun j hj => ?_)
          have := List.mem_range.1 hj
          unfold rowsAt
          rw [if_pos (by omega)]
        have hl := hLS.lists (by omega)
        rw [← e] at hl
        exact ⟨some ⟨w5.heap.size, 0, none⟩, D + 1, by rw [e]; simp, hl, by rw [e]; simp, below_trans hb5 HB.out⟩
end Go.Proofs.YtioekjkfhbopkaaDoor

/- The walks of errors.Is and errors.As at the errors of this program: a sentinel (a pointer to an errors.errorString) and a *api.Fault (after the kit's worked Sentry and Toyas). Condition: the variables read as laid. -/
namespace Go.Proofs.YtioekjkfhbopkaaDoor
open Go.RowKit Go.Deep Go.Extern.Stop Go.Stop Go.Extern

/-- the sentinels of the codes S: their cells, their blocks, none twice -/
structure Sent (S : List Nat) (w : World) (a : Nat → Addr) : Prop extends Env S w a where
  blk : ∀ c, c ∈ S → ∃ ca ta, w.heap[(a c).block]? = some (.cells ca ta (0, 0))
  inj : ∀ c, c ∈ S → ∀ d, d ∈ S → a c = a d → c = d
theorem Sent.lt {S : List Nat} {w : World} {a : Nat → Addr} (h : Sent S w a) {c : Nat} (hc : c ∈ S) : (a c).block < w.heap.size := by
  obtain ⟨ca, ta, hb⟩ := h.blk c hc
  exact (Array.getElem?_eq_some_iff.1 hb).1
theorem Sent.below {S : List Nat} {w w' : World} {a : Nat → Addr} (h : Sent S w a) (hb : Below w.heap.size w w') : Sent S w' a :=
  ⟨h.toEnv.below hb, fun c hc => by
    obtain ⟨ca, ta, hx⟩ := h.blk c hc
    exact ⟨ca, ta, (hb.block _ (h.lt hc)).trans hx⟩, h.inj⟩
/-- the handle of the type error -/
def Handle (w : World) : Prop := w.cell? ⟨8, 0, none⟩ = some (.iface 138 (.agg #[.pointer (some ⟨12, 27, none⟩)]))
theorem Handle.below {w w' : World} (h : Handle w) (hb : Below w.heap.size w w') : Handle w' :=
  (hb.cell (p := ⟨8, 0, none⟩) (World.block_lt_of_cell? w _ h)).trans h

/-! ### errors.Is -/
theorem is_typeOf (v : Value) (w : World) : (Extern.ReflectliteType.typeOf #[.iface 160 v]).run Tryd.prog w = .ok (.iface 138 (.agg #[.pointer (some ⟨12, 160, none⟩)])) w := by kernel_rfl
/-- the model's own entry for (rtype).Comparable, behind a name -/
def compExt : TypeId → Sem Value := fun t => do Rtype.noPackHeld "Comparable" t; pure (.bool (← typeInfo t).comparable)
theorem is_comparable (w : World) : (Extern.ReflectliteType.method compExt #[.agg #[.pointer (some ⟨12, 160, none⟩)]]).run Tryd.prog w = .ok (.bool true) w := by kernel_rfl
theorem is_methodComparable (v : Value) (w : World) : (Go.method 299 138 v "Comparable").run Tryd.prog w = .ok (125, v) w := by kernel_rfl
theorem is_comp : (Tryd.prog.info? 160).map (·.comparable) = some true := by kernel_rfl
theorem is_size : (Tryd.prog.info? 183).map (·.size) = some 1 := by kernel_rfl
theorem no_is_E (v : Value) (xT : TypeId) (w : World) : (Instr.typeAssert (.iface 160 v) xT 149 true).run Tryd.prog w = .ok (.tuple #[.nilIface, .bool false]) w := run_typeAssert_lacksB Tryd.underlying149 (by kernel_rfl) (by kernel_rfl) v xT w
theorem no_unwrap_E (v : Value) (xT : TypeId) (w : World) : (Instr.typeAssert (.iface 160 v) xT 145 true).run Tryd.prog w = .ok (.tuple #[.nilIface, .bool false]) w := run_typeAssert_lacksB Tryd.underlying145 (by kernel_rfl) (by kernel_rfl) v xT w
theorem no_unwraps_E (v : Value) (xT : TypeId) (w : World) : (Instr.typeAssert (.iface 160 v) xT 147 true).run Tryd.prog w = .ok (.tuple #[.nilIface, .bool false]) w := run_typeAssert_lacksB Tryd.underlying147 (by kernel_rfl) (by kernel_rfl) v xT w
theorem no_is_F (v : Value) (xT : TypeId) (w : World) : (Instr.typeAssert (.iface 67 v) xT 149 true).run Tryd.prog w = .ok (.tuple #[.nilIface, .bool false]) w := run_typeAssert_lacksB Tryd.underlying149 (by kernel_rfl) (by kernel_rfl) v xT w
theorem has_unwrap_F (v : Value) (xT : TypeId) (w : World) : (Instr.typeAssert (.iface 67 v) xT 145 true).run Tryd.prog w = .ok (.tuple #[.iface 67 v, .bool true]) w := run_typeAssert_hasB Tryd.underlying145 (by kernel_rfl) v xT w
theorem method_unwrap_F (v : Value) (w : World) : (Go.method 299 67 v "Unwrap").run Tryd.prog w = .ok (119, v) w := by kernel_rfl

set_option maxHeartbeats 1000000 in
theorem is_same (a : Addr) (w : World) :
    Calls Tryd.prog 67 #[.iface 160 (.pointer (some a)), .iface 160 (.pointer (some a))] w fun e w' => e = .returned (.bool true) ∧ w' = w := by
  obtain ⟨i, hi, hcmp⟩ := Option.map_eq_some_iff.1 is_comp
  obtain ⟨j, hj, hjs⟩ := Option.map_eq_some_iff.1 is_size
  have h8 := @run_callFunc_extern Tryd.prog 87 _ Extern.ReflectliteType.typeOf Tryd.func87 (by kernel_rfl) (by kernel_rfl) (by kernel_rfl) (by kernel_rfl)
  have h32 := @run_callFunc_extern Tryd.prog 125 _ (Extern.ReflectliteType.method compExt) Tryd.func125 (by kernel_rfl) (by kernel_rfl) (by kernel_rfl) (by kernel_rfl)
  have tT := is_typeOf
  have cT := is_comparable
  have mR := is_methodComparable
  have heq := run_eql_iface_ptr_same (P := Tryd.prog) w a Tryd.underlying27 Tryd.underlying160 hi hcmp hj
  clear hi hcmp hj hjs
  go_enter Tryd.func67, Tryd.ntmps67
  go_wp2
  refine wp_loop_rounds 1 ?_
  rw [rounds_succ]
  go_wp2
  go_ret
  exact ⟨rfl, rfl⟩

set_option maxHeartbeats 1000000 in
theorem is_other (a b : Addr) (ca cb : Array Value) (ta tb : TypeId) (w : World) (hne : a ≠ b) (ha : w.heap[a.block]? = some (.cells ca ta (0, 0))) (hb : w.heap[b.block]? = some (.cells cb tb (0, 0))) :
    Calls Tryd.prog 67 #[.iface 160 (.pointer (some a)), .iface 160 (.pointer (some b))] w fun e w' => e = .returned (.bool false) ∧ w' = w := by
  obtain ⟨i, hi, hcmp⟩ := Option.map_eq_some_iff.1 is_comp
  obtain ⟨j, hj, hjs⟩ := Option.map_eq_some_iff.1 is_size
  have h8 := @run_callFunc_extern Tryd.prog 87 _ Extern.ReflectliteType.typeOf Tryd.func87 (by kernel_rfl) (by kernel_rfl) (by kernel_rfl) (by kernel_rfl)
  have h32 := @run_callFunc_extern Tryd.prog 125 _ (Extern.ReflectliteType.method compExt) Tryd.func125 (by kernel_rfl) (by kernel_rfl) (by kernel_rfl) (by kernel_rfl)
  have tT := is_typeOf
  have cT := is_comparable
  have mR := is_methodComparable
  have nE := no_is_E
  have uE := no_unwrap_E
  have vE := no_unwraps_E
  have heq := run_eql_iface_ptr_other (P := Tryd.prog) w Tryd.underlying27 Tryd.underlying160 hi hcmp hj (by rw [hjs]; decide) hne ha hb
  clear hi hcmp hj hjs
  go_enter Tryd.func67, Tryd.ntmps67
  go_wp2
  refine wp_loop_rounds 1 ?_
  rw [rounds_succ]
  go_wp2
  go_ret
  exact ⟨rfl, rfl⟩

/-- errors.Is between sentinels -/
theorem is_sent {S : List Nat} (w : World) (a : Nat → Addr) (h : Sent S w a) (c d : Nat) (hc : c ∈ S) (hd : d ∈ S) :
    Calls Tryd.prog 67 #[.iface 160 (.pointer (some (a c))), .iface 160 (.pointer (some (a d)))] w fun e w' => e = .returned (.bool (decide (c = d))) ∧ w' = w := by
  by_cases e : c = d
  · subst e
    rw [decide_eq_true rfl]
    exact is_same (a c) w
  · rw [decide_eq_false e]
    obtain ⟨ca, ta, ha⟩ := h.blk c hc
    obtain ⟨cb, tb, hb⟩ := h.blk d hd
    exact is_other (a c) (a d) ca cb ta tb w (fun x => e (h.inj c hc d hd x)) ha hb

set_option maxHeartbeats 1000000 in
theorem is_fault_same (pb po : Nat) (b : Addr) (w : World) (h1 : w.cell? ⟨pb, po + 1, none⟩ = some (.iface 160 (.pointer (some b)))) :
    Calls Tryd.prog 67 #[.iface 67 (.pointer (some ⟨pb, po, none⟩)), .iface 160 (.pointer (some b))] w fun e w' => e = .returned (.bool true) ∧ w' = w := by
  obtain ⟨i, hi, hcmp⟩ := Option.map_eq_some_iff.1 is_comp
  obtain ⟨j, hj, hjs⟩ := Option.map_eq_some_iff.1 is_size
  have h8 := @run_callFunc_extern Tryd.prog 87 _ Extern.ReflectliteType.typeOf Tryd.func87 (by kernel_rfl) (by kernel_rfl) (by kernel_rfl) (by kernel_rfl)
  have h32 := @run_callFunc_extern Tryd.prog 125 _ (Extern.ReflectliteType.method compExt) Tryd.func125 (by kernel_rfl) (by kernel_rfl) (by kernel_rfl) (by kernel_rfl)
  have tT := is_typeOf
  have cT := is_comparable
  have mR := is_methodComparable
  have nE := no_is_E
  have uE := no_unwrap_E
  have vE := no_unwraps_E
  have nW := no_is_F
  have uW := has_unwrap_F
  have mU := method_unwrap_F
  have heq := run_eql_iface_ptr_same (P := Tryd.prog) w b Tryd.underlying27 Tryd.underlying160 hi hcmp hj
  have hty := run_eql_iface_types (P := Tryd.prog) 67 160 (.pointer (some ⟨pb, po, none⟩)) (.pointer (some b)) Tryd.underlying27 (by decide) w
  clear hi hcmp hj hjs
  go_enter Tryd.func67, Tryd.ntmps67
  go_wp2
  refine wp_loop_rounds 2 ?_
  rw [rounds_succ]
  go_wp2
  rw [rounds_succ]
  go_wp2
  go_ret
  exact ⟨rfl, rfl⟩

set_option maxHeartbeats 1000000 in
theorem is_fault_other (pb po : Nat) (b a : Addr) (ca cb : Array Value) (ta tb : TypeId) (w : World) (h1 : w.cell? ⟨pb, po + 1, none⟩ = some (.iface 160 (.pointer (some a)))) (hne : a ≠ b) (ha : w.heap[a.block]? = some (.cells ca ta (0, 0))) (hb : w.heap[b.block]? = some (.cells cb tb (0, 0))) :
    Calls Tryd.prog 67 #[.iface 67 (.pointer (some ⟨pb, po, none⟩)), .iface 160 (.pointer (some b))] w fun e w' => e = .returned (.bool false) ∧ w' = w := by
  obtain ⟨i, hi, hcmp⟩ := Option.map_eq_some_iff.1 is_comp
  obtain ⟨j, hj, hjs⟩ := Option.map_eq_some_iff.1 is_size
  have h8 := @run_callFunc_extern Tryd.prog 87 _ Extern.ReflectliteType.typeOf Tryd.func87 (by kernel_rfl) (by kernel_rfl) (by kernel_rfl) (by kernel_rfl)
  have h32 := @run_callFunc_extern Tryd.prog 125 _ (Extern.ReflectliteType.method compExt) Tryd.func125 (by kernel_rfl) (by kernel_rfl) (by kernel_rfl) (by kernel_rfl)
  have tT := is_typeOf
  have cT := is_comparable
  have mR := is_methodComparable
  have nE := no_is_E
  have uE := no_unwrap_E
  have vE := no_unwraps_E
  have nW := no_is_F
  have uW := has_unwrap_F
  have mU := method_unwrap_F
  have heq := run_eql_iface_ptr_other (P := Tryd.prog) w Tryd.underlying27 Tryd.underlying160 hi hcmp hj (by rw [hjs]; decide) hne ha hb
  have hty := run_eql_iface_types (P := Tryd.prog) 67 160 (.pointer (some ⟨pb, po, none⟩)) (.pointer (some b)) Tryd.underlying27 (by decide) w
  clear hi hcmp hj hjs
  go_enter Tryd.func67, Tryd.ntmps67
  go_wp2
  refine wp_loop_rounds 2 ?_
  rw [rounds_succ]
  go_wp2
  rw [rounds_succ]
  go_wp2
  go_ret
  exact ⟨rfl, rfl⟩

/-- errors.Is of a fault whose error is a sentinel -/
theorem is_fault {S : List Nat} (w : World) (a : Nat → Addr) (h : Sent S w a) (pb po : Nat) (c d : Nat) (hc : c ∈ S) (hd : d ∈ S) (h1 : w.cell? ⟨pb, po + 1, none⟩ = some (.iface 160 (.pointer (some (a c))))) :
    Calls Tryd.prog 67 #[.iface 67 (.pointer (some ⟨pb, po, none⟩)), .iface 160 (.pointer (some (a d)))] w fun e w' => e = .returned (.bool (decide (c = d))) ∧ w' = w := by
  by_cases e : c = d
  · subst e
    rw [decide_eq_true rfl]
    exact is_fault_same pb po (a c) w h1
  · rw [decide_eq_false e]
    obtain ⟨ca, ta, ha⟩ := h.blk c hc
    obtain ⟨cb, tb, hb⟩ := h.blk d hd
    exact is_fault_other pb po (a d) (a c) ca cb ta tb w h1 (fun x => e (h.inj c hc d hd x)) ha hb
end Go.Proofs.YtioekjkfhbopkaaDoor

/- The walks of errors.As with a target of the type **api.Fault: at a sentinel it is false, at a fault true (after the kit's worked Toyas). Condition: the handle of the type error is laid. -/
namespace Go.Proofs.YtioekjkfhbopkaaDoor
open Go.RowKit Go.Deep Go.Extern.Stop Go.Stop Go.Extern

/-! ### closed facts on the model's entries for internal/reflectlite, at this program's types -/
def kindExt : TypeId → Sem Value := fun t => do pure (.int .u8 (← Rtype.kind t))
def vTypeExt : TypeId → Addr → Nat → Nat → Sem Value := fun t _ _ _ => ReflectliteType.toType t
def unpackExt : Array Value → Sem Value := fun args => ReflectliteValue.unpack (args.getD 0 (.tuple #[]))
theorem as_valueOfT (t : Addr) (w : World) : (unpackExt #[.iface 104 (.pointer (some t))]).run Tryd.prog w
    = .ok (.agg #[.pointer (some ⟨12, 104, none⟩), .pointer (some ⟨w.heap.size, 0, none⟩), .int .u64 150]) (w.alloc (.cells #[.pointer (some t)] 104)) := by kernel_rfl
theorem as_typeT (a : Addr) (w : World) : (ReflectliteValue.methodAny (ReflectliteValue.valueError "reflectlite.Value.Type" 0) vTypeExt #[.agg #[.pointer (some ⟨12, 104, none⟩), .pointer (some a), .int .u64 150]]).run Tryd.prog w
    = .ok (.iface 138 (.agg #[.pointer (some ⟨12, 104, none⟩)])) w := by kernel_rfl
theorem as_methodKind (h : Value) (w : World) : (Go.method 299 138 (.agg #[h]) "Kind").run Tryd.prog w = .ok (115, h) w := by kernel_rfl
theorem as_kindT (w : World) : (ReflectliteType.abiMethod kindExt #[.pointer (some ⟨12, 104, none⟩)]).run Tryd.prog w = .ok (.int .u8 22) w := by kernel_rfl
theorem as_kindF (w : World) : (ReflectliteType.abiMethod kindExt #[.pointer (some ⟨12, 67, none⟩)]).run Tryd.prog w = .ok (.int .u8 22) w := by kernel_rfl
theorem rlm (z : Sem Value) (f : TypeId → Addr → Nat → Nat → Sem Value) (v : Value) :
    ReflectliteValue.method z f #[v] = (do match ← ReflectliteValue.parts v with | none => z | some (t, a, fl) => f t a fl (fl % 32)) := rfl
theorem as_partsT (a : Addr) (w : World) : (ReflectliteValue.parts (.agg #[.pointer (some ⟨12, 104, none⟩), .pointer (some a), .int .u64 150])).run Tryd.prog w = .ok (some (104, a, 150)) w := by kernel_rfl
theorem as_isNilT (a p : Addr) (W : World) (ha : W.cell? a = some (.pointer (some p))) :
    (ReflectliteValue.method (ReflectliteValue.valueError "reflectlite.Value.IsNil" 0) ReflectliteValue.isNil #[.agg #[.pointer (some ⟨12, 104, none⟩), .pointer (some a), .int .u64 150]]).run Tryd.prog W = .ok (.bool false) W := by
  rw [rlm]
  simp only [Sem.run_bind, as_partsT, Result.andThen]
  simp [ReflectliteValue.isNil, loadVar, isAgg, underlying, Tryd.underlying104, ha, Result.andThen]
theorem as_methodElem (h : Value) (w : World) : (Go.method 299 138 (.agg #[h]) "Elem").run Tryd.prog w = .ok (126, .agg #[h]) w := by kernel_rfl
theorem as_methodImplements (h : Value) (w : World) : (Go.method 299 138 (.agg #[h]) "Implements").run Tryd.prog w = .ok (127, .agg #[h]) w := by kernel_rfl
theorem as_methodAssignableTo (h : Value) (w : World) : (Go.method 299 138 (.agg #[h]) "AssignableTo").run Tryd.prog w = .ok (124, .agg #[h]) w := by kernel_rfl
theorem as_elemT (w : World) : (ReflectliteType.method ReflectliteType.elem #[.agg #[.pointer (some ⟨12, 104, none⟩)]]).run Tryd.prog w = .ok (.iface 138 (.agg #[.pointer (some ⟨12, 67, none⟩)])) w := by kernel_rfl
theorem as_implementsF (w : World) : (ReflectliteType.relation "Implements" ReflectliteType.implements_ #[.agg #[.pointer (some ⟨12, 67, none⟩)], .iface 138 (.agg #[.pointer (some ⟨12, 27, none⟩)])]).run Tryd.prog w = .ok (.bool true) w := by kernel_rfl
theorem as_typeOfF (v : Value) (w : World) : (ReflectliteType.typeOf #[.iface 67 v]).run Tryd.prog w = .ok (.iface 138 (.agg #[.pointer (some ⟨12, 67, none⟩)])) w := by kernel_rfl
theorem as_assignF (w : World) : (ReflectliteType.relation "AssignableTo" ReflectliteType.assignableTo #[.agg #[.pointer (some ⟨12, 67, none⟩)], .iface 138 (.agg #[.pointer (some ⟨12, 67, none⟩)])]).run Tryd.prog w = .ok (.bool true) w := by kernel_rfl
theorem as_assignE (w : World) : (ReflectliteType.relation "AssignableTo" ReflectliteType.assignableTo #[.agg #[.pointer (some ⟨12, 160, none⟩)], .iface 138 (.agg #[.pointer (some ⟨12, 67, none⟩)])]).run Tryd.prog w = .ok (.bool false) w := by kernel_rfl
theorem as_valueOfF (e : Addr) (w : World) : (unpackExt #[.iface 67 (.pointer (some e))]).run Tryd.prog w
    = .ok (.agg #[.pointer (some ⟨12, 67, none⟩), .pointer (some ⟨w.heap.size, 0, none⟩), .int .u64 150]) (w.alloc (.cells #[.pointer (some e)] 67)) := by kernel_rfl
theorem as_elemOfT (w : World) : (Rtype.elem? 104).run Tryd.prog w = .ok (some 67) w := by kernel_rfl
theorem as_mkF (p : Addr) (w : World) : (ReflectliteValue.mk 67 p ReflectliteValue.flagAddr).run Tryd.prog w = .ok (.agg #[.pointer (some ⟨12, 67, none⟩), .pointer (some p), .int .u64 406]) w := by kernel_rfl
theorem as_elemVT (a p : Addr) (W : World) (ha : W.cell? a = some (.pointer (some p))) :
    (ReflectliteValue.method (ReflectliteValue.valueError "reflectlite.Value.Elem" 0) ReflectliteValue.elem #[.agg #[.pointer (some ⟨12, 104, none⟩), .pointer (some a), .int .u64 150]]).run Tryd.prog W
      = .ok (.agg #[.pointer (some ⟨12, 67, none⟩), .pointer (some p), .int .u64 406]) W := by
  rw [rlm]
  simp only [Sem.run_bind, as_partsT, Result.andThen]
  simp [ReflectliteValue.elem, loadVar, isAgg, underlying, Tryd.underlying104, ha, Result.andThen, as_elemOfT, as_mkF]
theorem rls (v x : Value) : ReflectliteValue.set #[v, x] = (do
    let (some (dst, a, fl), some (src, b, _)) := (← ReflectliteValue.parts v, ← ReflectliteValue.parts x)
      | unsupported (.noEntry "extern/(internal/reflectlite.Value).Set.zeroValue")
    if fl / ReflectliteValue.flagAddr % 2 == 0 then unsupported (.noEntry "extern/(internal/reflectlite.Value).Set.unaddressable")
    let val ← loadVar src b
    if ← Rtype.directlyAssignable dst src then storeVar dst a val
    else if ← Rtype.implements dst src then
      if (← Rtype.kind src) == 20 then
        match val with
        | .nilIface => unsupported (.noEntry "extern/reflectlite: a nil value of one interface type handed on as a value of another")
        | _ => storeVar dst a val
      else storeVar dst a (.iface src val)
    else panicString ("reflectlite.Set: value of type " ++ (← Rtype.spelt src) ++ " is not assignable to type " ++ (← Rtype.spelt dst))
    pure (.tuple #[])) := rfl
theorem as_partsFa (a : Addr) (w : World) : (ReflectliteValue.parts (.agg #[.pointer (some ⟨12, 67, none⟩), .pointer (some a), .int .u64 406])).run Tryd.prog w = .ok (some (67, a, 406)) w := by kernel_rfl
theorem as_partsF (a : Addr) (w : World) : (ReflectliteValue.parts (.agg #[.pointer (some ⟨12, 67, none⟩), .pointer (some a), .int .u64 150])).run Tryd.prog w = .ok (some (67, a, 150)) w := by kernel_rfl
theorem as_directF (w : World) : (Rtype.directlyAssignable 67 67).run Tryd.prog w = .ok true w := by kernel_rfl
theorem as_setF (ta b e : Addr) (old : Value) (W : World) (hb : W.cell? b = some (.pointer (some e))) (ht : W.cell? ta = some old) (hf : W.frozen? ta = false) :
    (ReflectliteValue.set #[.agg #[.pointer (some ⟨12, 67, none⟩), .pointer (some ta), .int .u64 406], .agg #[.pointer (some ⟨12, 67, none⟩), .pointer (some b), .int .u64 150]]).run Tryd.prog W
      = .ok (.tuple #[]) (W.setCell ta (.pointer (some e))) := by
  rw [rls]
  simp only [Sem.run_bind, as_partsFa, as_partsF, Result.andThen]
  simp [ReflectliteValue.flagAddr, loadVar, isAgg, underlying, Tryd.underlying67, hb, Result.andThen, as_directF, storeVar, Value.cells, storeCells, Addr.add]
  rw [run_store Tryd.prog W ta _ _ (by rfl)]
  simp [ht, hf]

theorem no_as_E (v : Value) (xT : TypeId) (w : World) : (Instr.typeAssert (.iface 160 v) xT 142 true).run Tryd.prog w = .ok (.tuple #[.nilIface, .bool false]) w := run_typeAssert_lacksB Tryd.underlying142 (by kernel_rfl) (by kernel_rfl) v xT w

set_option maxHeartbeats 4000000 in
/-- errors.As at a sentinel: false; what was there is as it was -/
theorem as_sent (e t : Addr) (w : World) (hg : Handle w) :
    Calls Tryd.prog 66 #[.iface 160 (.pointer (some e)), .iface 104 (.pointer (some t))] w fun ev w' => ev = .returned (.bool false) ∧ Below w.heap.size w w' := by
  have h6 := @run_callFunc_extern Tryd.prog 83 _ unpackExt Tryd.func83 (by kernel_rfl) (by kernel_rfl) (by kernel_rfl) (by kernel_rfl)
  have h7 := @run_callFunc_extern Tryd.prog 84 _ (ReflectliteValue.methodAny (ReflectliteValue.valueError "reflectlite.Value.Type" 0) vTypeExt) Tryd.func84 (by kernel_rfl) (by kernel_rfl) (by kernel_rfl) (by kernel_rfl)
  have h8 := @run_callFunc_extern Tryd.prog 85 _ (ReflectliteValue.method (ReflectliteValue.valueError "reflectlite.Value.IsNil" 0) ReflectliteValue.isNil) Tryd.func85 (by kernel_rfl) (by kernel_rfl) (by kernel_rfl) (by kernel_rfl)
  have h27 := @run_callFunc_extern Tryd.prog 115 _ (ReflectliteType.abiMethod kindExt) Tryd.func115 (by kernel_rfl) (by kernel_rfl) (by kernel_rfl) (by kernel_rfl)
  have h37 := @run_callFunc_extern Tryd.prog 126 _ (ReflectliteType.method ReflectliteType.elem) Tryd.func126 (by kernel_rfl) (by kernel_rfl) (by kernel_rfl) (by kernel_rfl)
  have h38 := @run_callFunc_extern Tryd.prog 127 _ (ReflectliteType.relation "Implements" ReflectliteType.implements_) Tryd.func127 (by kernel_rfl) (by kernel_rfl) (by kernel_rfl) (by kernel_rfl)
  have h10 := @run_callFunc_extern Tryd.prog 87 _ ReflectliteType.typeOf Tryd.func87 (by kernel_rfl) (by kernel_rfl) (by kernel_rfl) (by kernel_rfl)
  have h35 := @run_callFunc_extern Tryd.prog 124 _ (ReflectliteType.relation "AssignableTo" ReflectliteType.assignableTo) Tryd.func124 (by kernel_rfl) (by kernel_rfl) (by kernel_rfl) (by kernel_rfl)
  have tO := is_typeOf
  have mA := as_methodAssignableTo
  have aE := as_assignE
  have f6 := as_valueOfT
  have f7 := as_typeT
  have mK := as_methodKind
  have mE := as_methodElem
  have mI := as_methodImplements
  have kT := as_kindT
  have kF := as_kindF
  have eT := as_elemT
  have iF := as_implementsF
  have nA := no_as_E
  have uE := no_unwrap_E
  have vE := no_unwraps_E
  have n8 := as_isNilT ⟨w.heap.size, 0, none⟩ t ((w.alloc (.cells #[.pointer (some t)] 104)).alloc (.cells #[.pointer (some ⟨12, 104, none⟩), .pointer (some ⟨w.heap.size, 0, none⟩), .int .u64 150] 124)) (by simp)
  have hlt : 8 < w.heap.size := World.block_lt_of_cell? w _ hg
  have hg2 : ((w.alloc (.cells #[.pointer (some t)] 104)).alloc (.cells #[.pointer (some ⟨12, 104, none⟩), .pointer (some ⟨w.heap.size, 0, none⟩), .int .u64 150] 124)).cell? ⟨8, 0, none⟩ = some (.iface 138 (.agg #[.pointer (some ⟨12, 27, none⟩)])) := by
    rw [World.cell?_alloc_lt _ _ ⟨8, 0, none⟩ (by simp; omega), World.cell?_alloc_lt _ _ ⟨8, 0, none⟩ hlt]; exact hg
  go_enter Tryd.func66, Tryd.ntmps66
  go_wp2
  refine wp_loop_rounds 1 ?_
  rw [rounds_succ]
  go_wp2
  go_ret
  exact ⟨rfl, below_alloc' (below_alloc' (below_alloc' (Below.refl _ _) _) _) _⟩

set_option maxHeartbeats 4000000 in
/-- errors.As at a fault: true; the target points to it -/
theorem as_fault (e t : Addr) (old : Value) (w : World) (hg : Handle w) (ht0 : w.cell? t = some old) (hf0 : w.frozen? t = false) :
    Calls Tryd.prog 66 #[.iface 67 (.pointer (some e)), .iface 104 (.pointer (some t))] w fun ev w' => ev = .returned (.bool true) ∧ w' = ((((w.alloc (.cells #[.pointer (some t)] 104)).alloc (.cells #[.pointer (some ⟨12, 104, none⟩), .pointer (some ⟨w.heap.size, 0, none⟩), .int .u64 150] 124)).alloc (.cells #[.pointer (some ⟨12, 104, none⟩), .pointer (some ⟨w.heap.size, 0, none⟩), .int .u64 150] 124)).alloc (.cells #[.pointer (some e)] 67)).setCell t (.pointer (some e)) := by
  have h6 := @run_callFunc_extern Tryd.prog 83 _ unpackExt Tryd.func83 (by kernel_rfl) (by kernel_rfl) (by kernel_rfl) (by kernel_rfl)
  have h7 := @run_callFunc_extern Tryd.prog 84 _ (ReflectliteValue.methodAny (ReflectliteValue.valueError "reflectlite.Value.Type" 0) vTypeExt) Tryd.func84 (by kernel_rfl) (by kernel_rfl) (by kernel_rfl) (by kernel_rfl)
  have h8 := @run_callFunc_extern Tryd.prog 85 _ (ReflectliteValue.method (ReflectliteValue.valueError "reflectlite.Value.IsNil" 0) ReflectliteValue.isNil) Tryd.func85 (by kernel_rfl) (by kernel_rfl) (by kernel_rfl) (by kernel_rfl)
  have h27 := @run_callFunc_extern Tryd.prog 115 _ (ReflectliteType.abiMethod kindExt) Tryd.func115 (by kernel_rfl) (by kernel_rfl) (by kernel_rfl) (by kernel_rfl)
  have h37 := @run_callFunc_extern Tryd.prog 126 _ (ReflectliteType.method ReflectliteType.elem) Tryd.func126 (by kernel_rfl) (by kernel_rfl) (by kernel_rfl) (by kernel_rfl)
  have h38 := @run_callFunc_extern Tryd.prog 127 _ (ReflectliteType.relation "Implements" ReflectliteType.implements_) Tryd.func127 (by kernel_rfl) (by kernel_rfl) (by kernel_rfl) (by kernel_rfl)
  have h10 := @run_callFunc_extern Tryd.prog 87 _ ReflectliteType.typeOf Tryd.func87 (by kernel_rfl) (by kernel_rfl) (by kernel_rfl) (by kernel_rfl)
  have h35 := @run_callFunc_extern Tryd.prog 124 _ (ReflectliteType.relation "AssignableTo" ReflectliteType.assignableTo) Tryd.func124 (by kernel_rfl) (by kernel_rfl) (by kernel_rfl) (by kernel_rfl)
  have h11 := @run_callFunc_extern Tryd.prog 93 _ (ReflectliteValue.method (ReflectliteValue.valueError "reflectlite.Value.Elem" 0) ReflectliteValue.elem) Tryd.func93 (by kernel_rfl) (by kernel_rfl) (by kernel_rfl) (by kernel_rfl)
  have h12 := @run_callFunc_extern Tryd.prog 94 _ ReflectliteValue.set Tryd.func94 (by kernel_rfl) (by kernel_rfl) (by kernel_rfl) (by kernel_rfl)
  have tO := as_typeOfF
  have mA := as_methodAssignableTo
  have aE := as_assignF
  have vF := as_valueOfF
  have f6 := as_valueOfT
  have f7 := as_typeT
  have mK := as_methodKind
  have mE := as_methodElem
  have mI := as_methodImplements
  have kT := as_kindT
  have kF := as_kindF
  have eT := as_elemT
  have iF := as_implementsF
  have n8 := as_isNilT ⟨w.heap.size, 0, none⟩ t ((w.alloc (.cells #[.pointer (some t)] 104)).alloc (.cells #[.pointer (some ⟨12, 104, none⟩), .pointer (some ⟨w.heap.size, 0, none⟩), .int .u64 150] 124)) (by simp)
  have hlt : 8 < w.heap.size := World.block_lt_of_cell? w _ hg
  have hg2 : ((w.alloc (.cells #[.pointer (some t)] 104)).alloc (.cells #[.pointer (some ⟨12, 104, none⟩), .pointer (some ⟨w.heap.size, 0, none⟩), .int .u64 150] 124)).cell? ⟨8, 0, none⟩ = some (.iface 138 (.agg #[.pointer (some ⟨12, 27, none⟩)])) := by
    rw [World.cell?_alloc_lt _ _ ⟨8, 0, none⟩ (by simp; omega), World.cell?_alloc_lt _ _ ⟨8, 0, none⟩ hlt]; exact hg
  have htl : t.block < w.heap.size := World.block_lt_of_cell? w _ ht0
  have el := as_elemVT ⟨w.heap.size, 0, none⟩ t (((w.alloc (.cells #[.pointer (some t)] 104)).alloc (.cells #[.pointer (some ⟨12, 104, none⟩), .pointer (some ⟨w.heap.size, 0, none⟩), .int .u64 150] 124)).alloc (.cells #[.pointer (some ⟨12, 104, none⟩), .pointer (some ⟨w.heap.size, 0, none⟩), .int .u64 150] 124)) (by rw [World.cell?_alloc_lt _ _ ⟨w.heap.size, 0, none⟩ (by simp; omega)]; simp)
  have st := as_setF t ⟨w.heap.size + 1 + 1 + 1, 0, none⟩ e old ((((w.alloc (.cells #[.pointer (some t)] 104)).alloc (.cells #[.pointer (some ⟨12, 104, none⟩), .pointer (some ⟨w.heap.size, 0, none⟩), .int .u64 150] 124)).alloc (.cells #[.pointer (some ⟨12, 104, none⟩), .pointer (some ⟨w.heap.size, 0, none⟩), .int .u64 150] 124)).alloc (.cells #[.pointer (some e)] 67))
    (by rw [World.cell?_alloc_at _ _ _ _ (by simp)]; rfl)
    (by rw [World.cell?_alloc_lt _ _ t (by simp; omega), World.cell?_alloc_lt _ _ t (by simp; omega), World.cell?_alloc_lt _ _ t (by simp; omega), World.cell?_alloc_lt _ _ t htl]; exact ht0)
    (by rw [World.frozen?_alloc_old _ _ t (by simp; omega), World.frozen?_alloc_old _ _ t (by simp; omega), World.frozen?_alloc_old _ _ t (by simp; omega), World.frozen?_alloc_old _ _ t (Nat.ne_of_lt htl)]; exact hf0)
  go_enter Tryd.func66, Tryd.ntmps66
  go_wp2
  refine wp_loop_rounds 1 ?_
  rw [rounds_succ]
  go_wp2
  go_ret
  exact ⟨rfl, rfl⟩
end Go.Proofs.YtioekjkfhbopkaaDoor

/- The walks of plain.Code and coded. Condition: the variables read as laid. -/
namespace Go.Proofs.YtioekjkfhbopkaaDoor
open Go.RowKit Go.Deep

def codes : List Nat := [1, 2, 3, 4, 5, 6, 7, 8]
theorem mem_codes {c : Nat} (h1 : 1 ≤ c) (h8 : c ≤ 8) : c ∈ codes := by
  unfold codes
  simp
  omega

theorem code_nil (w : World) : Calls Tryd.prog 39 #[.nilIface] w fun e w' => e = .returned (.tuple #[.int .i64 0, .int .i64 (-1)]) ∧ w = w' := by
  go_enter Tryd.func39, Tryd.ntmps39
  go_wp2
  go_ret2
  exact ⟨rfl, rfl⟩

set_option maxHeartbeats 4000000 in
theorem code_sent (w : World) (a : Nat → Addr) (hS : Sent codes w a) (hH : Handle w) (c : Nat) (h1 : 1 ≤ c) (h8 : c ≤ 8) :
    Calls Tryd.prog 39 #[.iface 160 (.pointer (some (a c)))] w fun e w' => e = .returned (.tuple #[.int .i64 c, .int .i64 (-1)]) ∧ Below w.heap.size w w' := by
  have has := as_sent (a c) ⟨w.heap.size, 0, none⟩ (w.alloc (.cells #[.pointer none] 67)) (hH.below (below_alloc' (Below.refl _ _) _))
  have HAS := hide has
  clear has
  have hn := fun X => run_eql_iface_nil_left (P := Tryd.prog) X 160 (.pointer (some (a c))) Tryd.underlying27
  go_enter Tryd.func39, Tryd.ntmps39
  go_wp2_with
    (go_at_call 66
     refine HAS.out.mono ?_
     rintro e w1 ⟨rfl, hb1⟩
     have hS1 := hS.below (below_trans (below_alloc' (Below.refl _ _) (.cells #[.pointer none] 67)) hb1)
     have e1 := hS1.cell 1 (by decide)
     have e2 := hS1.cell 2 (by decide)
     have e3 := hS1.cell 3 (by decide)
     have e4 := hS1.cell 4 (by decide)
     have e5 := hS1.cell 5 (by decide)
     have e6 := hS1.cell 6 (by decide)
     have e7 := hS1.cell 7 (by decide)
     have e8 := hS1.cell 8 (by decide)
     simp only [glob] at e1 e2 e3 e4 e5 e6 e7 e8)
  clear e1 e2 e3 e4 e5 e6 e7 e8
  have hB0 : Below w.heap.size w w1 := below_trans (below_alloc' (Below.refl _ _) (.cells #[.pointer none] 67)) hb1
  clear hb1
  go_loopw [3, 26] (fun at3 i wr => ∃ k : Nat, k < c ∧ i = .int .i64 k ∧ at3 = .int .i64 (-1) ∧ Below (w1.heap.size + 1) (w1.alloc (.cells #[.iface 160 (.pointer (some (a 1))), .iface 160 (.pointer (some (a 2))), .iface 160 (.pointer (some (a 3))), .iface 160 (.pointer (some (a 4))), .iface 160 (.pointer (some (a 5))), .iface 160 (.pointer (some (a 6))), .iface 160 (.pointer (some (a 7))), .iface 160 (.pointer (some (a 8)))] 27)) wr) (fun _ i _ => 8 - (intOf i).toNat)
  case atStart => exact ⟨0, by omega, rfl, rfl, Below.refl _ _⟩
  case round =>
    obtain ⟨k, hk, rfl, rfl, hB⟩ := hrel
    have hcell : wr.cell? ⟨w1.heap.size, k, none⟩ = some (.iface 160 (.pointer (some (a (k + 1))))) := by
      rw [hB.cell (p := ⟨w1.heap.size, k, none⟩) (by show w1.heap.size < _; omega), World.cell?_alloc_at _ _ _ _ rfl]
      have hk8 : k < 8 := by omega
      clear hk hB
      match k, hk8 with
      | 0, _ => rfl
      | 1, _ => rfl
      | 2, _ => rfl
      | 3, _ => rfl
      | 4, _ => rfl
      | 5, _ => rfl
      | 6, _ => rfl
      | 7, _ => rfl
    have hSr : Sent codes wr a := hS.below (below_trans (below_alloc' hB0 _) (hB.mono (by simp)))
    have his := is_sent wr a hSr c (k + 1) (mem_codes h1 h8) (mem_codes (by omega) (by omega))
    by_cases e : c = k + 1
    · rw [decide_eq_true e] at his
      have HIS := hide his
      clear his
      have HE := hide e
      clear e
      go_wp2_with (go_at_call 67; refine HIS.out.mono ?_; rintro e w2 ⟨rfl, rfl⟩)
      go_ret2
      refine ⟨?_, ?_⟩
      · have := HE.out
        subst this
        rfl
      · exact (below_alloc' hB0 _).trans (hB.mono (by have := hB0.size; omega))
    · rw [decide_eq_false e] at his
      have HIS := hide his
      clear his
      have hk2 : k + 1 < c := by omega
      clear e
      go_wp2_with (go_at_call 67; refine HIS.out.mono ?_; rintro e w2 ⟨rfl, rfl⟩)
      go_roundw
      case rel => exact ⟨k + 1, hk2, by go_num, rfl, hB⟩
      case measure => simp [intOf]; omega

set_option maxHeartbeats 4000000 in
theorem code_fault (w : World) (a : Nat → Addr) (hS : Sent codes w a) (hH : Handle w) (c : Nat) (h1 : 1 ≤ c) (h8 : c ≤ 8) (pb po : Nat) (at_ : Int) (hpb : pb < w.heap.size) (hat : w.cell? ⟨pb, po, none⟩ = some (.int .i64 at_)) (herr : w.cell? ⟨pb, po + 1, none⟩ = some (.iface 160 (.pointer (some (a c))))) :
    Calls Tryd.prog 39 #[.iface 67 (.pointer (some ⟨pb, po, none⟩))] w fun e w' => e = .returned (.tuple #[.int .i64 c, .int .i64 at_]) ∧ Below w.heap.size w w' := by
  have has := as_fault ⟨pb, po, none⟩ ⟨w.heap.size, 0, none⟩ (.pointer none) (w.alloc (.cells #[.pointer none] 67)) (hH.below (below_alloc' (Below.refl _ _) _)) (by simp) (by simp)
  have HAS := hide has
  clear has
  have hn := fun X => run_eql_iface_nil_left (P := Tryd.prog) X 67 (.pointer (some ⟨pb, po, none⟩)) Tryd.underlying27
  go_enter Tryd.func39, Tryd.ntmps39
  go_wp2_with
    (go_at_call 66
     refine HAS.out.mono ?_
     rintro e w1 ⟨rfl, hw1⟩
     have hB0 : Below w.heap.size w w1 := by
       rw [hw1]
       refine Below.setCell ?_ (by simp) _
       exact below_alloc' (below_alloc' (below_alloc' (below_alloc' (below_alloc' (Below.refl _ _) _) _) _) _) _
     have hf1 : w1.cell? ⟨w.heap.size, 0, none⟩ = some (.pointer (some ⟨pb, po, none⟩)) := by
       rw [hw1, World.cell?_setCell_same (u := .pointer none)]
       rw [World.cell?_alloc_lt _ _ ⟨w.heap.size, 0, none⟩ (by simp; omega), World.cell?_alloc_lt _ _ ⟨w.heap.size, 0, none⟩ (by simp; omega), World.cell?_alloc_lt _ _ ⟨w.heap.size, 0, none⟩ (by simp; omega), World.cell?_alloc_lt _ _ ⟨w.heap.size, 0, none⟩ (by simp)]
       simp
     clear hw1
     have hat1 : w1.cell? ⟨pb, po, none⟩ = some (.int .i64 at_) := (hB0.cell (p := ⟨pb, po, none⟩) hpb).trans hat
     have hS1 := hS.below hB0
     have e1 := hS1.cell 1 (by decide)
     have e2 := hS1.cell 2 (by decide)
     have e3 := hS1.cell 3 (by decide)
     have e4 := hS1.cell 4 (by decide)
     have e5 := hS1.cell 5 (by decide)
     have e6 := hS1.cell 6 (by decide)
     have e7 := hS1.cell 7 (by decide)
     have e8 := hS1.cell 8 (by decide)
     simp only [glob] at e1 e2 e3 e4 e5 e6 e7 e8)
  clear e1 e2 e3 e4 e5 e6 e7 e8
  go_loopw [3, 26] (fun at3 i wr => ∃ k : Nat, k < c ∧ i = .int .i64 k ∧ at3 = .int .i64 at_ ∧ Below (w1.heap.size + 1) (w1.alloc (.cells #[.iface 160 (.pointer (some (a 1))), .iface 160 (.pointer (some (a 2))), .iface 160 (.pointer (some (a 3))), .iface 160 (.pointer (some (a 4))), .iface 160 (.pointer (some (a 5))), .iface 160 (.pointer (some (a 6))), .iface 160 (.pointer (some (a 7))), .iface 160 (.pointer (some (a 8)))] 27)) wr) (fun _ i _ => 8 - (intOf i).toNat)
  case atStart => exact ⟨0, by omega, rfl, rfl, Below.refl _ _⟩
  case round =>
    obtain ⟨k, hk, rfl, rfl, hB⟩ := hrel
    have hcell : wr.cell? ⟨w1.heap.size, k, none⟩ = some (.iface 160 (.pointer (some (a (k + 1))))) := by
      rw [hB.cell (p := ⟨w1.heap.size, k, none⟩) (by show w1.heap.size < _; omega), World.cell?_alloc_at _ _ _ _ rfl]
      have hk8 : k < 8 := by omega
      clear hk hB
      match k, hk8 with
      | 0, _ => rfl
      | 1, _ => rfl
      | 2, _ => rfl
      | 3, _ => rfl
      | 4, _ => rfl
      | 5, _ => rfl
      | 6, _ => rfl
      | 7, _ => rfl
    have hSr : Sent codes wr a := hS.below (below_trans (below_alloc' hB0 _) (hB.mono (by simp)))
    have herr1 : wr.cell? ⟨pb, po + 1, none⟩ = some (.iface 160 (.pointer (some (a c)))) := ((below_trans (below_alloc' hB0 _) (hB.mono (by simp))).cell (p := ⟨pb, po + 1, none⟩) hpb).trans herr
    have his := is_fault wr a hSr pb po c (k + 1) (mem_codes h1 h8) (mem_codes (by omega) (by omega)) herr1
    clear herr1
    by_cases e : c = k + 1
    · rw [decide_eq_true e] at his
      have HIS := hide his
      clear his
      have HE := hide e
      clear e
      go_wp2_with (go_at_call 67; refine HIS.out.mono ?_; rintro e w2 ⟨rfl, rfl⟩)
      go_ret2
      refine ⟨?_, ?_⟩
      · have := HE.out
        subst this
        rfl
      · exact (below_alloc' hB0 _).trans (hB.mono (by have := hB0.size; omega))
    · rw [decide_eq_false e] at his
      have HIS := hide his
      clear his
      have hk2 : k + 1 < c := by omega
      clear e
      go_wp2_with (go_at_call 67; refine HIS.out.mono ?_; rintro e w2 ⟨rfl, rfl⟩)
      go_roundw
      case rel => exact ⟨k + 1, hk2, by go_num, rfl, hB⟩
      case measure => simp [intOf]; omega

set_option maxHeartbeats 1000000 in
/-- coded: is the error's code this one? -/
theorem coded_any (w : World) (a : Nat → Addr) (hS : Sent codes w a) (hH : Handle w) (c : Nat) (hc : c ≤ 8) (x : Int) :
    Calls Tryd.prog 18 #[errC a c, .int .i64 x] w fun e w' => e = .returned (.bool (decide ((c : Int) = x))) ∧ Below w.heap.size w w' := by
  by_cases h0 : c = 0
  · subst h0
    have e0 : errC a ((0 : Nat) : Int) = .nilIface := rfl
    rw [e0]
    by_cases hx : x = 0
    · subst hx
      go_enter Tryd.func18, Tryd.ntmps18
      go_wp2_with (go_at_call 39; refine (code_nil _).mono ?_; rintro e w' ⟨rfl, rfl⟩)
      go_ret
      exact ⟨rfl, Below.refl _ _⟩
    · have h1 : (0 == x) = false := by simpa using fun h : 0 = x => hx h.symm
      have h2 : decide (((0 : Nat) : Int) = x) = false := decide_eq_false (fun h => hx h.symm)
      rw [h2]
      clear hx h2
      go_enter Tryd.func18, Tryd.ntmps18
      go_wp2_with (go_at_call 39; refine (code_nil _).mono ?_; rintro e w' ⟨rfl, rfl⟩)
      go_ret
      exact ⟨rfl, Below.refl _ _⟩
  · have e0 : errC a (c : Int) = .iface 160 (.pointer (some (a c))) := by unfold errC; rw [if_neg (by omega)]; rfl
    rw [e0]
    have hcode := code_sent w a hS hH c (by omega) hc
    have HC := hide hcode
    clear hcode e0 h0
    generalize a c = a0 at HC ⊢
    have hcc : ∃ y : Int, y = (c : Int) := ⟨_, rfl⟩
    obtain ⟨y, hy⟩ := hcc
    rw [← hy] at HC ⊢
    clear hy hc
    by_cases hx : y = x
    · subst hx
      rw [decide_eq_true rfl]
      go_enter Tryd.func18, Tryd.ntmps18
      go_wp2_with (go_at_call 39; refine HC.out.mono ?_; rintro e w' ⟨rfl, hb⟩)
      go_ret
      exact ⟨rfl, hb⟩
    · have h1 : (y == x) = false := by simpa using hx
      rw [decide_eq_false hx]
      clear hx
      go_enter Tryd.func18, Tryd.ntmps18
      go_wp2_with (go_at_call 39; refine HC.out.mono ?_; rintro e w' ⟨rfl, hb⟩)
      go_ret
      exact ⟨rfl, hb⟩
end Go.Proofs.YtioekjkfhbopkaaDoor

/- The walk of sample.Draw. Condition: the variables read as laid. -/
namespace Go.Proofs.YtioekjkfhbopkaaDoor
open Go.RowKit Go.Deep Go.Proofs.YtioekjkfhbopkaaDoorW.PrintWords

/-- the row of a depth -/
theorem level_at {W : List Int} (d : Nat) (hd : d ≤ dep W) : (levels W).getD d [] = (leafs (parts W) (dep W) d).map fun (j : Nat) => (j : Int) := by
  unfold levels
  rw [List.getD_eq_getElem?_getD, List.getElem?_map, List.getElem?_range (by omega)]
  simp only [Option.map_some, Option.getD_some]
  rw [← leafTo_all, parts_len]
theorem levels_len (W : List Int) : (levels W).length = dep W + 1 := by simp [levels]
theorem drawB_leaf {l : List Nat} {D v d u : Nat} {bs : List Nat} (h1 : v < (leafs l D d).length) (h2 : (leafs l D d).getD v 0 + 1 < l.length) : drawB l D bs v d u = some ((leafs l D d).getD v 0, u) := by
  cases bs with
  | nil => rw [drawB, if_pos ⟨h1, h2⟩]
  | cons b r => rw [drawB, if_pos h1, if_pos h2]
theorem drawB_end {l : List Nat} {D v d u : Nat} (h : ¬ (v < (leafs l D d).length ∧ (leafs l D d).getD v 0 + 1 < l.length)) : drawB l D [] v d u = none := by
  rw [drawB, if_neg h]
theorem drawB_again {l : List Nat} {D v d u b : Nat} {r : List Nat} (h1 : v < (leafs l D d).length) (h2 : ¬ (leafs l D d).getD v 0 + 1 < l.length) : drawB l D (b :: r) v d u = drawB l D r b 1 (u + 1) := by
  rw [drawB, if_pos h1, if_neg h2]
theorem drawB_next {l : List Nat} {D v d u b : Nat} {r : List Nat} (h1 : ¬ v < (leafs l D d).length) : drawB l D (b :: r) v d u = drawB l D r (2 * (v - (leafs l D d).length) + b) (d + 1) (u + 1) := by
  rw [drawB, if_neg h1]
theorem errC_pos' (a : Nat → Addr) {c : Int} (h : c ≠ 0) : errC a c = .iface 160 (.pointer (some (a c.toNat))) := by unfold errC; rw [if_neg h]; rfl
/-- what Draw answers: which, how many bits, the code -/
def drawRes (W : List Int) (s : ByteArray) : Int × Int × Nat :=
  if wErr W ≠ 0 then (0, 0, (wErr W).toNat) else if 4000 < s.size then (0, 0, 2) else if isBits s = false then (0, 0, 1) else match drawB (parts W) (dep W) (bitsOf s) 0 0 0 with
    | some (k, n) => ((k : Int), (n : Int), 0)
    | none => (0, 0, 6)
/-- what Draw hands back -/
def RetDraw (a : Nat → Addr) (r : Int × Int × Nat) (w : World) (e : Ending) (w' : World) : Prop :=
  e = .returned (.tuple #[.int .i64 r.1, .int .i64 r.2.1, errC a r.2.2]) ∧ Below w.heap.size w w'

set_option maxRecDepth 100000 in
set_option maxHeartbeats 4000000 in
theorem draw_good (A : Option Addr) (W : List Int) (c : Nat) (s : ByteArray) (w : World) (a : Nat → Addr) (hE : Env [2, 3] w a) (hE6 : Env [6] w a) (hA : Ints w A W) (hc : W.length ≤ c) (h0 : wErr W = 0) (hs : s.size ≤ 4000) (hb : isBits s = true) :
    Calls Tryd.prog 17 #[.slice A W.length c, .string s] w fun e w' => RetDraw a (match drawB (parts W) (dep W) (bitsOf s) 0 0 0 with | some (k, n) => ((k : Int), (n : Int), 0) | none => (0, 0, 6)) w e w' := by
  have hg := good_of h0
  have HBITS := hide ((isBits_iff s).1 hb)
  have HISB := hide hb
  have hv := distValid_any A W c w a hE hA
  rw [h0, errC_zero] at hv
  have HV := hide hv
  have HT := hide (fun w' => trim_ok s w' (by omega))
  have hl := fun w' (h : Below w.heap.size w w') => leaves_ok A W c w' (hA.below h) hc hg
  obtain ⟨N1, hN1⟩ : ∃ N1, (levels W).length = N1 := ⟨_, rfl⟩
  rw [hN1] at hl
  have HL := hide hl
  have hN2 : N1 = dep W + 1 := by rw [← hN1, levels_len]
  have hdep := (dep_le hg).2.2
  have hln := hg.len
  have HEN := hide (fun w' (h : Below w.heap.size w w') => (show w'.cell? ⟨3, 0, none⟩ = some (.iface 160 (.pointer (some (a 6)))) from (hE6.below h).cell 6 (by decide)))
  have hnd : 0 < nodesAt (parts W) (dep W) 0 := by rw [nodesAt]; omega
  have hs1 : (s.size : Int) ≤ 4000 := by omega
  clear hv hl h0 hE hE6
  obtain ⟨res, hres⟩ : ∃ res, drawB (parts W) (dep W) (bitsOf s) 0 0 0 = res := ⟨_, rfl⟩
  rw [hres]
  have hres' : drawB (parts W) (dep W) ((bitsOf s).drop 0) 0 0 0 = res := by rw [List.drop_zero]; exact hres
  have HRES := hide hres'
  clear hres hres'
  have hnb : ∀ u, u < s.size → ∃ bb : Nat, bb ≤ 1 ∧ ∃ hlt : u < s.size, ((s[u]'hlt).toNat : Int) = 48 + (bb : Int) ∧ (bitsOf s).drop u = bb :: (bitsOf s).drop (u + 1) := fun u hu => by
    have h1 := HBITS.out u hu
    have h2 := bt_at s (u : Int) (by simpa using hu)
    have h3 := bitsOf_drop s u hu
    have h4 : ((s[u]'hu).toNat : Int) = bt s (u : Int) := h2
    rcases h1 with e | e
    · exact ⟨0, by decide, hu, by rw [h4, e]; rfl, by rw [h3, if_neg (by rw [e]; decide)]⟩
    · exact ⟨1, by decide, hu, by rw [h4, e]; rfl, by rw [h3, if_pos e]⟩
  have HNB := hide hnb
  clear hnb
  have HLV := hide (fun d hd => level_at (W := W) d hd)
  have HLL := hide hN1
  have HN1 := hide hN2
  have HNO := hide (fun d hd => nodes_le' hg d hd)
  have HAN := hide (fun (d v : Nat) h1 h2 => again_nodes (d := d) (v := v) hg h1 h2)
  have HN2 := hide (fun (d v b : Nat) hd hv h1 h2 => next_node (v := v) (d := d) (b := b) (parts_sum hg) hd hv h1 h2)
  have HPL := hide (parts_len W)
  clear hg hb hN1 hN2
  generalize dep W = D at *
  generalize parts W = P at *
  generalize levels W = LV at *
  go_enter Tryd.func17, Tryd.ntmps17
  go_wp2_with (first
    | (go_at_call 36; refine Calls.mono HV.out ?_; rintro e w1 ⟨rfl, hB1⟩)
    | (go_at_call 37; refine Calls.mono (HT.out w1) ?_; rintro e w2 ⟨t, rfl, ht, b2⟩; have ht2 := ht.2 HISB.out; clear ht; subst ht2; have hB2 := below_trans hB1 b2)
    | (go_at_call 38; refine Calls.mono (HL.out _ hB2) ?_; rintro e w3 ⟨B, dB, rfl, hLI, hdB, b3⟩; have hB3 := below_trans hB2 b3))
  have HLI := hide hLI
  clear hLI HV HT HL
  go_loopw [5, 9, 10] (fun uv vv dv wr => ∃ u v d : Nat, uv = .int .i64 u ∧ vv = .int .i64 v ∧ dv = .int .i64 d ∧ u ≤ s.size ∧ d ≤ D ∧ v < nodesAt (P) (D) d ∧ Hid (drawB (P) (D) ((bitsOf s).drop u) v d u = res) ∧ Below w3.heap.size w3 wr) (fun uv _ _ _ => s.size - (intOf uv).toNat)
  case atStart => exact ⟨0, 0, 0, rfl, rfl, rfl, Nat.zero_le _, Nat.zero_le _, hnd, HRES, Below.refl _ _⟩
  case round =>
    obtain ⟨u, v, d, rfl, rfl, rfl, hu, hd, hv, HR, hBk⟩ := hrel
    obtain ⟨wi, rfl⟩ : ∃ wi : World, wi = wr := ⟨_, rfl⟩
    have u0 : (0 : Int) ≤ (u : Int) := Int.natCast_nonneg _
    have v0 : (0 : Int) ≤ (v : Int) := Int.natCast_nonneg _
    have d0 : (0 : Int) ≤ (d : Int) := Int.natCast_nonneg _
    have d1 : (d : Int) < (N1 : Int) := by rw [HN1.out]; omega
    have hv4 := HNO.out d hd
    obtain ⟨b, off, A1, cc, rfl, hbl, hcell, hcc, hrow⟩ := (HLI.out.below hBk).at_ d (by rw [HLL.out, HN1.out]; omega)
    rw [HLV.out d hd] at hcell hcc hrow
    have hag := HAN.out d v
    have hnx := fun b => HN2.out d v b hd hv
    have k6 := HEN.out wi (below_trans hB3 hBk)
    obtain ⟨L, hL⟩ : ∃ L, leafs (P) (D) d = L := ⟨_, rfl⟩
    have hle1 : ∀ h1 h2, drawB (P) (D) ((bitsOf s).drop u) v d u = some (L.getD v 0, u) := fun h1 h2 => by
      have := drawB_leaf (l := P) (D := D) (v := v) (d := d) (u := u) (bs := (bitsOf s).drop u) h1 h2
      rw [hL] at this
      exact this
    have hen1 := fun h => drawB_end (l := P) (D := D) (v := v) (d := d) (u := u) h
    have hag1 := fun (b : Nat) (r : List Nat) h1 h2 => drawB_again (l := P) (D := D) (v := v) (d := d) (u := u) (b := b) (r := r) h1 h2
    have hnx1 := fun (b : Nat) (r : List Nat) h1 => drawB_next (l := P) (D := D) (v := v) (d := d) (u := u) (b := b) (r := r) h1
    rw [hL] at hcell hcc hrow hag hnx hen1 hag1 hnx1
    simp only [hL] at hle1
    have hml : (L.map fun (j : Nat) => (j : Int)).length = L.length := by rw [List.length_map]
    rw [hml] at hcell hcc
    have HROW := hide hrow
    have HLE := hide hle1
    have HEND := hide hen1
    have HAG := hide hag1
    have HNX := hide hnx1
    have HNN := hide hnx
    have HAA := hide hag
    have HML := hide hml
    clear hrow hle1 hen1 hag1 hnx1 hnx hag hml hL
    have hv5 : v ≤ 4096 := by omega
    clear hv hnd HAN HN2 HLV HLL HLI HNO hbl
    by_cases c1 : v < L.length
    · obtain ⟨b2, off2, rfl, _, hk⟩ := HROW.out.at_ v (by rw [HML.out]; exact c1)
      have e1 : (L.map fun (j : Nat) => (j : Int)).getD v 0 = ((L.getD v 0 : Nat) : Int) := by simp [List.getD_eq_getElem?_getD, c1]
      rw [e1] at hk
      clear e1 HROW
      obtain ⟨kk, hkk⟩ : ∃ kk, L.getD v 0 = kk := ⟨_, rfl⟩
      rw [hkk] at hk
      have c1' : (v : Int) < (L.length : Int) := by omega
      by_cases c2 : kk < W.length
      · have hres : some (kk, u) = res := by rw [← HR.out, ← hkk]; exact (HLE.out c1 (by rw [hkk, HPL.out]; omega)).symm
        have c2' : (kk : Int) < (W.length : Int) := by omega
        clear hkk
        subst hres
        go_wp2_with (fail)
        go_ret3
        exact ⟨rfl, below_trans hB3 hBk⟩
      · have c2' : ¬ (kk : Int) < (W.length : Int) := by omega
        have hnl : ¬ L.getD v 0 + 1 < (P).length := by rw [hkk, HPL.out]; omega
        obtain ⟨D1, n1, _⟩ := HAA.out c1 hnl
        have HNL := hide hnl
        clear hnl hkk
        by_cases c3 : u = s.size
        · have hres : none = res := by
            rw [← HR.out, List.drop_eq_nil_of_le (by rw [bitsOf_len]; omega)]
            exact (HEND.out (fun q => HNL.out q.2)).symm
          subst hres
          subst c3
          go_wp2_with (fail)
          go_region
          go_wp2_with (fail)
          go_ret3
          exact ⟨rfl, (below_trans hB3 hBk).drew⟩
        · obtain ⟨bb, hb1, hlt, hsu, hdr⟩ := HNB.out u (by omega)
          have u1 : (u : Int) < (s.size : Int) := by omega
          have c3' : ((u : Int) == (s.size : Int)) = false := by rw [beq_eq_false_iff_ne]; omega
          have hnew : drawB P D ((bitsOf s).drop (u + 1)) bb 1 (u + 1) = res := by
            rw [← HR.out, hdr]
            exact (HAG.out bb ((bitsOf s).drop (u + 1)) c1 HNL.out).symm
          have HNEW := hide hnew
          clear hnew hdr
          go_wp2_with (fail)
          go_roundw
          case rel => exact ⟨u + 1, bb, 1, by go_num, by rw [show (48 : Int) + (bb : Int) - 48 = (bb : Int) by omega], rfl, by omega, D1, by rw [n1]; omega, HNEW.out, hBk⟩
          case measure => simp [intOf]; omega
    · have c1' : ¬ (v : Int) < (L.length : Int) := by omega
      have c1'' : (L.length : Int) ≤ (v : Int) := by omega
      by_cases c3 : u = s.size
      · have hres : none = res := by
          rw [← HR.out, List.drop_eq_nil_of_le (by rw [bitsOf_len]; omega)]
          exact (HEND.out (fun q => c1 q.1)).symm
        subst hres
        subst c3
        go_wp2_with (fail)
        go_region
        go_wp2_with (fail)
        go_ret3
        exact ⟨rfl, (below_trans hB3 hBk).drew⟩
      · obtain ⟨bb, hb1, hlt, hsu, hdr⟩ := HNB.out u (by omega)
        have u1 : (u : Int) < (s.size : Int) := by omega
        have c3' : ((u : Int) == (s.size : Int)) = false := by rw [beq_eq_false_iff_ne]; omega
        obtain ⟨g1, g2⟩ := HNN.out bb c1 hb1
        have hnew : drawB P D ((bitsOf s).drop (u + 1)) (2 * (v - L.length) + bb) (d + 1) (u + 1) = res := by
          rw [← HR.out, hdr]
          exact (HNX.out bb ((bitsOf s).drop (u + 1)) c1).symm
        have HNEW := hide hnew
        have G2 := hide g2
        clear hnew hdr g2
        go_wp2_with (fail)
        go_roundw
        case rel => exact ⟨u + 1, 2 * (v - L.length) + bb, d + 1, by go_num, by congr 1; omega, by go_num, by omega, by omega, G2.out, HNEW.out, hBk⟩
        case measure => simp [intOf]; omega

theorem trim_no (s : ByteArray) (w : World) (hs : s.size ≤ 9223372036854775807) (hb : isBits s = false) :
    Calls Tryd.prog 37 #[.string s, .string ⟨#[48, 49]⟩] w fun e w' => ∃ t : ByteArray, e = .returned (.string t) ∧ t.toList.isEmpty = false ∧ Below w.heap.size w w' := by
  refine (trim_ok s w hs).mono ?_
  rintro e w' ⟨t, rfl, ht, hb2⟩
  refine ⟨t, rfl, ?_, hb2⟩
  cases h : t.toList.isEmpty with
  | false => rfl
  | true =>
    rw [Lib.toList_data, List.isEmpty_iff] at h
    have q : t = ⟨#[]⟩ := by
      have e : t.data = #[] := by
        apply Array.toList_inj.1
        rw [h]
      cases t
      cases e
      rfl
    have := ht.1 q
    rw [hb] at this
    cases this
/-- the errors that the sample functions may give -/
def codesD : List Nat := [1, 2, 3, 6, 7]
set_option maxHeartbeats 2000000 in
theorem draw_anyD (A : Option Addr) (W : List Int) (c : Nat) (s : ByteArray) (w : World) (a : Nat → Addr) (hE : Env codesD w a) (hA : Ints w A W) (hc : W.length ≤ c) (hs : s.size ≤ 9223372036854775807) :
    Calls Tryd.prog 17 #[.slice A W.length c, .string s] w fun e w' => RetDraw a (drawRes W s) w e w' := by
  have hE23 : Env [2, 3] w a := hE.sub (fun c h => by simp at h; rcases h with rfl | rfl <;> simp [codesD])
  have hE6 : Env [6] w a := hE.sub (fun c h => by simp at h; subst h; simp [codesD])
  unfold drawRes
  have hv := distValid_any A W c w a hE23 hA
  by_cases h0 : wErr W = 0
  · rw [if_neg (by simp [h0])]
    rw [h0, errC_zero] at hv
    by_cases h1 : 4000 < s.size
    · rw [if_pos h1]
      have HV := hide hv
      have HEN := hide (fun w' (h : Below w.heap.size w w') => (show w'.cell? ⟨0, 0, none⟩ = some (.iface 160 (.pointer (some (a 2)))) from (hE.below h).cell 2 (by decide)))
      have h1' : (4000 : Int) < (s.size : Int) := by omega
      clear hv h0 hE hE23 hE6
      go_enter Tryd.func17, Tryd.ntmps17
      go_wp2_with (go_at_call 36; refine Calls.mono HV.out ?_; rintro e w1 ⟨rfl, hB1⟩; have k2 := HEN.out w1 hB1)
      go_region
      go_wp2_with (fail)
      go_ret3
      exact ⟨rfl, hB1.drew⟩
    · rw [if_neg h1]
      cases hb : isBits s with
      | false =>
        rw [if_pos rfl]
        have HV := hide hv
        have HT := hide (fun w' => trim_no s w' (by omega) hb)
        have HEN := hide (fun w' (h : Below w.heap.size w w') => (show w'.cell? ⟨2, 0, none⟩ = some (.iface 160 (.pointer (some (a 1)))) from (hE.below h).cell 1 (by decide)))
        have h1' : (s.size : Int) ≤ 4000 := by omega
        clear hv h0 hE hE23 hE6 hb
        go_enter Tryd.func17, Tryd.ntmps17
        go_wp2_with (first
          | (go_at_call 36; refine Calls.mono HV.out ?_; rintro e w1 ⟨rfl, hB1⟩)
          | (go_at_call 37; refine Calls.mono (HT.out w1) ?_; rintro e w2 ⟨t, rfl, ht, b2⟩; have hB2 := below_trans hB1 b2; have k1 := HEN.out w2 hB2))
        go_region
        go_wp2_with (fail)
        go_ret3
        exact ⟨rfl, hB2.drew⟩
      | true =>
        rw [if_neg (by decide)]
        exact draw_good A W c s w a hE23 hE6 hA hc h0 (by omega) hb
  · rw [if_pos h0]
    rw [errC_pos' a h0] at hv
    have he : errC a (((wErr W).toNat : Nat) : Int) = .iface 160 (.pointer (some (a (wErr W).toNat))) := by
      obtain ⟨q, hq, _⟩ := wErr_nat W
      rw [hq] at h0 ⊢
      exact errC_pos' a h0
    have HE := hide he
    have HV := hide hv
    clear hv h0 he hE hE23 hE6
    generalize a (wErr W).toNat = x at HV HE
    go_enter Tryd.func17, Tryd.ntmps17
    go_wp2_with (go_at_call 36; refine Calls.mono HV.out ?_; rintro e w1 ⟨rfl, hB1⟩)
    go_ret3
    exact ⟨by rw [HE.out]; rfl, hB1⟩
theorem codesD_sub {c : Nat} (h : c ∈ codesD) : c ∈ codes := by
  unfold codesD at h
  simp at h
  rcases h with rfl | rfl | rfl | rfl | rfl <;> simp [codes]
theorem draw_any (A : Option Addr) (W : List Int) (c : Nat) (s : ByteArray) (w : World) (a : Nat → Addr) (hE : Env codes w a) (hA : Ints w A W) (hc : W.length ≤ c) (hs : s.size ≤ 9223372036854775807) :
    Calls Tryd.prog 17 #[.slice A W.length c, .string s] w fun e w' => RetDraw a (drawRes W s) w e w' := draw_anyD A W c s w a (hE.sub (fun c h => codesD_sub h)) hA hc hs
end Go.Proofs.YtioekjkfhbopkaaDoor
