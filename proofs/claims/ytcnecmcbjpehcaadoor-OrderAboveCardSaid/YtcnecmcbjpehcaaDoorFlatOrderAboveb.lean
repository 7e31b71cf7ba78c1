/- Words, plain laws and walks behind the law OrderAbove, part 2. No condition. -/
import Derived.Test.YtcnecmcbjpehcaaDoorFlatOrderAbovea
import Derived.BigRegion
import Derived.LaidEql
import Derived.Stop.Asserts
import Derived.RowKitTokens
import Derived.Test.YtcnecmcbjpehcaaDoorRows
import Derived.Test.YtcnecmcbjpehcaaDoorCards
import Derived.Test.YtcnecmcbjpehcaaDoorTie
import Derived.ProofKit
import Derived.LaidMore
import Derived.LaidLaws
import Derived.LaidHandle
import Derived.Stop.LaidErr
import Derived.Deep.DeepHandedRow
import Derived.Deep.DeepWitnessRowRef
import Derived.OpenShut
import Derived.Deep.Slices
import Derived.Deep.Matrix
import Derived.Lib.SmallJoins

/- The walks of order.numbers, falling, above, lists, Above. No condition. -/
namespace Go.Proofs.YtcnecmcbjpehcaaDoor
open Go.RowKit Go.Deep Go.Proofs.YtcnecmcbjpehcaaDoorW.PrintWords

theorem num_pred (w : World) (x : Int) : ∀ W, Below w.heap.size w W → Calls Tryd.prog 57 #[.int .i64 x] W fun e w' => e = .returned (.bool (badNum x)) ∧ Below w.heap.size w w' := fun W hb => by
  go_enter Tryd.func57, Tryd.ntmps57
  go_wp2_with (fail)
  · go_ret
    exact ⟨rfl, hb⟩
  · go_ret
    have h : x < 0 := by assumption
    exact ⟨by simp [badNum, h], hb⟩
theorem anyQ_take (q : Int → Bool) (l : List Int) (i : Nat) (h : i < l.length) : (l.take (i + 1)).any q = ((l.take i).any q || q (l.getD i 0)) := by
  rw [take_at l i h, List.any_append]
  simp
set_option maxHeartbeats 1000000 in
theorem indexNum_any (A : Option Addr) (l : List Int) (c : Nat) (w : World) (hA : Ints w A l) :
    Calls Tryd.prog 73 #[.slice A l.length c, .func (.func 57) #[] #[]] w fun e w' => ∃ r : Int, e = .returned (.int .i64 r) ∧ decide (0 ≤ r) = l.any badNum ∧ Below w.heap.size w w' := by
  have eg : ∀ args w, (callFunc 57 args).run Tryd.prog w = .ok (.enter 57 args) w := enters_of Tryd.func57 (by kernel_rfl) rfl
  have HP := hide (fun x W (hb : Below w.heap.size w W) => num_pred w x W hb)
  have hlen := hA.len
  go_enter Tryd.func73, Tryd.ntmps73
  go_wp2_with (fail)
  go_loopw [5, 8] (fun _ v wr => ∃ i : Nat, i ≤ l.length ∧ v = .int .i64 i ∧ Below w.heap.size w wr ∧ (l.take i).any badNum = false) (fun _ v _ => l.length - (intOf v).toNat)
  case atStart => exact ⟨0, Nat.zero_le _, rfl, Below.refl _ _, by simp⟩
  case round =>
    obtain ⟨i, hi, rfl, hBi, hn⟩ := hrel
    obtain ⟨wi, rfl⟩ : ∃ wi : World, wi = wr := ⟨_, rfl⟩
    have i0 : (0 : Int) ≤ (i : Int) := Int.natCast_nonneg _
    by_cases hil : i < l.length
    · have i1 : (i : Int) < (l.length : Int) := by omega
      obtain ⟨b, off, rfl, _, d1⟩ := (hA.below hBi).at_ i hil
      have hnx := anyQ_take badNum l i hil
      rw [hn, Bool.false_or] at hnx
      have hyes : badNum (l.getD i 0) = true → l.any badNum = true := fun h => by
        rw [List.any_eq_true]
        rw [getD_eq l i 0 hil] at h
        exact ⟨l[i], List.getElem_mem hil, h⟩
      have hcall := HP.out (l.getD i 0) wi hBi
      generalize l.getD i 0 = x at d1 hnx hyes hcall
      generalize hq : badNum x = q at hnx hyes hcall
      have HC := hide hcall
      have HNX := hide hnx
      have HY := hide hyes
      clear hcall hnx hyes hn hq
      cases q
      · go_wp2_with (go_at_fn 57; refine Calls.mono HC.out ?_; rintro e w1 ⟨rfl, hb1⟩)
        go_roundw
        case rel => exact ⟨i + 1, by omega, by go_num, hb1, HNX.out⟩
        case measure => simp [intOf]; omega
      · go_wp2_with (go_at_fn 57; refine Calls.mono HC.out ?_; rintro e w1 ⟨rfl, hb1⟩)
        go_ret
        exact ⟨(i : Int), rfl, by rw [HY.out (by trivial)]; exact decide_eq_true i0, hb1⟩
    · obtain rfl : i = l.length := by omega
      rw [List.take_length] at hn
      have HN := hide hn
      clear hn
      go_wp2_with (fail)
      go_ret
      exact ⟨-1, rfl, by rw [HN.out]; rfl, hBi⟩
theorem containsNum_any (A : Option Addr) (l : List Int) (c : Nat) (w : World) (hA : Ints w A l) :
    Calls Tryd.prog 56 #[.slice A l.length c, .func (.func 57) #[] #[]] w fun e w' => e = .returned (.bool (l.any badNum)) ∧ Below w.heap.size w w' := by
  have HC := hide (indexNum_any A l c w hA)
  go_enter Tryd.func56, Tryd.ntmps56
  go_wp2_with (go_at_call 73; refine Calls.mono HC.out ?_; rintro e w1 ⟨r, rfl, hr, hb1⟩)
  go_ret
  exact ⟨by rw [← hr]; rfl, hb1⟩
theorem numbers_any (A : Option Addr) (l : List Int) (c : Nat) (w : World) (hA : Ints w A l) :
    Calls Tryd.prog 46 #[.slice A l.length c] w fun e w' => e = .returned (.bool (numb l)) ∧ Below w.heap.size w w' := by
  have hc := containsNum_any A l c w hA
  have e : l.any badNum = !numb l := by unfold numb; rw [Bool.not_not]
  rw [e] at hc
  have HC := hide hc
  clear hc e
  generalize numb l = q at HC ⊢
  go_enter Tryd.func46, Tryd.ntmps46
  go_wp2_with (go_at_call 56; refine Calls.mono HC.out ?_; rintro e w1 ⟨rfl, hb1⟩)
  go_ret
  exact ⟨rfl, hb1⟩
theorem total_ok (A : Option Addr) (l : List Int) (c : Nat) (w : World) (hA : Ints w A l) (hc : l.length ≤ c) (hs : Small l) :
    Calls Tryd.prog 41 #[.slice A l.length c] w fun e w' => e = .returned (.int .i64 l.sum) ∧ Below w.heap.size w w' := by
  obtain ⟨k, hk⟩ := (total_f hs).rounds
  refine (POrderAbove.dist_Total.calls k A c l l.sum w hA.toC hc hk).mono ?_
  rintro e w' ⟨rfl, h⟩
  exact ⟨rfl, drawn_below h⟩
theorem falling_ok (A : Option Addr) (l : List Int) (c : Nat) (w : World) (hA : Ints w A l) (h0 : 0 < l.length) (hl : l.length ≤ 2000000) :
    Calls Tryd.prog 48 #[.slice A l.length c] w fun e w' => ∃ B d, e = .returned (.slice B l.length d) ∧ Ints w' B (falls l) ∧ l.length ≤ d ∧ Below w.heap.size w w' := by
  have HC := hide (clone_ok A l c w hA h0 hl)
  go_enter Tryd.func48, Tryd.ntmps48
  go_wp2_with (first
    | (go_at_call 40; refine Calls.mono HC.out ?_; rintro e w1 ⟨g, d, rfl, hg, hd, ho, hb⟩)
    | (go_at_call 59; refine Calls.mono (sort_ok w.heap.size g l.length d l w w1 hg ho hb hl) ?_; rintro e w2 ⟨rfl, ho2, hb2⟩)
    | (go_at_call 60; refine Calls.mono (reverse_ok w.heap.size g l.length d (sorted l) w w2 hg ho2 hb2 (by rw [sorted_length]; omega)) ?_; rintro e w3 ⟨rfl, ho3, hb3⟩))
  go_ret
  exact ⟨_, d, rfl, own_ints ho3 (falls_length l), hd, hb3⟩

/-- what is left over of the first k -/
def leftTo (a b : List Int) (k : Nat) : Int := (a.take k).sum - (b.take k).sum
theorem leftTo_succ (a b : List Int) (k : Nat) (ha : k < a.length) (hb : k < b.length) : leftTo a b (k + 1) = leftTo a b k + (a.getD k 0 - b.getD k 0) := by
  unfold leftTo
  rw [sum_take a k ha, sum_take b k hb]
  omega
theorem leftTo_bound {a b : List Int} (ha : Small a) (hb : Small b) (k : Nat) (h1 : k ≤ a.length) (h2 : k ≤ b.length) : -2199023255552000000 ≤ leftTo a b k ∧ leftTo a b k ≤ 2199023255552000000 := by
  have e1 := ha.sum k h1
  have e2 := hb.sum k h2
  have e3 := ha.1
  unfold leftTo
  omega
set_option maxHeartbeats 2000000 in
theorem above_ok (A B : Option Addr) (p q : List Int) (c d : Nat) (w : World) (hA : Ints w A p) (hB : Ints w B q) (hp : Small p) (hq : Small q) (h0 : 0 < p.length) (hpq : p.length = q.length) :
    Calls Tryd.prog 44 #[.slice A p.length c, .slice B q.length d] w fun e w' => e = .returned (.bool (aboveB p q)) ∧ Below w.heap.size w w' := by
  have hpl := hp.1
  obtain ⟨r, hr⟩ : ∃ r, aboveB p q = r := ⟨_, rfl⟩
  rw [hr]
  have HR := hide (show aboveTo (falls p) (falls q) (p.length + 1) = r from hr)
  clear hr
  have hF1 := falling_ok A p c w hA h0 (by omega)
  have hF2 := fun w' (hb : Below w.heap.size w w') => falling_ok B q d w' (hB.below hb) (by omega) (by omega)
  rw [← hpq] at hF2 ⊢
  have HF1 := hide hF1
  have HF2 := hide hF2
  have HPQ := hide hpq
  clear hF1 hF2 hpq
  go_enter Tryd.func44, Tryd.ntmps44
  go_wp2_with (first
    | (go_at_call 48; refine Calls.mono HF1.out ?_; rintro e w1 ⟨A1, c1, rfl, hI1, hc1, b1⟩; clear HF1)
    | (go_at_call 48; refine Calls.mono (HF2.out w1 b1) ?_; rintro e w2 ⟨A2, c2, rfl, hI2, hc2, b2⟩; have hB2 := below_trans b1 b2))
  have hI12 := hI1.below b2
  have hsp := falls_small hp
  have hsq := falls_small hq
  have hla := falls_length p
  have hlb : (falls q).length = p.length := by rw [falls_length, HPQ.out]
  have a1 : aboveTo (falls p) (falls q) 1 = true := by unfold aboveTo; simp
  generalize falls p = a at hI12 hsp hla HR a1
  generalize falls q = b at hI2 hsq hlb HR a1
  have HLA := hide hla
  have HLB := hide hlb
  have HA1 := hide a1
  clear hI1 hla hlb a1
  go_loopw [7, 15] (fun lv iv wr => ∃ i : Nat, i ≤ p.length ∧ iv = .int .i64 i ∧ lv = .int .i64 (leftTo a b i) ∧ Hid (aboveTo a b (i + 1) = true) ∧ Below w2.heap.size w2 wr) (fun _ iv _ => p.length - (intOf iv).toNat)
  case atStart => exact ⟨0, Nat.zero_le _, rfl, rfl, HA1, Below.refl _ _⟩
  case round =>
    obtain ⟨i, hi, rfl, rfl, HT, hBi⟩ := hrel
    obtain ⟨wi, rfl⟩ : ∃ wi : World, wi = wr := ⟨_, rfl⟩
    have i0 : (0 : Int) ≤ (i : Int) := Int.natCast_nonneg _
    by_cases hil : i < p.length
    · have i1 : (i : Int) < (p.length : Int) := by omega
      have la := HLA.out
      have lb := HLB.out
      obtain ⟨ba, oa, rfl, _, da⟩ := (hI12.below hBi).at_ i (by omega)
      obtain ⟨bb, ob, rfl, _, db⟩ := (hI2.below hBi).at_ i (by omega)
      have hls := leftTo_succ a b i (by omega) (by omega)
      obtain ⟨m1, m2⟩ := leftTo_bound hsp hsq i (by omega) (by omega)
      have hat := aboveTo_succ a b (i + 1)
      have hge : decide ((b.take (i + 1)).sum ≤ (a.take (i + 1)).sum) = decide (0 ≤ leftTo a b (i + 1)) := by
        unfold leftTo
        by_cases h : (b.take (i + 1)).sum ≤ (a.take (i + 1)).sum
        · rw [decide_eq_true h, decide_eq_true (by omega)]
        · rw [decide_eq_false h, decide_eq_false (by omega)]
      rw [HT.out, Bool.true_and, hge] at hat
      have hno : leftTo a b (i + 1) < 0 → r = false := fun h => by
        rw [← HR.out]
        refine aboveTo_false (n := i + 1) (fun h2 => ?_) (by omega)
        unfold leftTo at h
        omega
      obtain ⟨x1, x2⟩ := hsp.get i (by omega)
      obtain ⟨y1, y2⟩ := hsq.get i (by omega)
      clear la lb
      generalize a.getD i 0 = x at da hls x1 x2
      generalize b.getD i 0 = y at db hls y1 y2
      rw [hls] at hat hno
      generalize leftTo a b i = lf at hls hat hno m1 m2
      have HLS := hide hls
      have HAT := hide hat
      have HNO := hide hno
      clear hls hat hno hge
      go_wp2_with (fail)
      go_quiet (fail)
      go_wp2_with (fail)
      · go_ret
        exact ⟨by rw [HNO.out (by omega)]; rfl, below_trans hB2 (below_drewN' hBi _)⟩
      · go_roundw
        case rel => exact ⟨i + 1, by omega, by go_num, by rw [HLS.out], hide (by rw [HAT.out]; exact decide_eq_true (by omega)), below_drewN' hBi _⟩
        case measure => simp [intOf]; omega
    · obtain rfl : i = p.length := by omega
      have ht := HT.out
      rw [HR.out] at ht
      subst ht
      go_wp2_with (fail)
      go_ret
      exact ⟨rfl, below_trans hB2 hBi⟩
end Go.Proofs.YtcnecmcbjpehcaaDoor

/- The walks of errors.Is and errors.As at the errors of this program: a sentinel (a pointer to an errors.errorString) and a *api.Fault (after the kit's worked Sentry and Toyas). Condition: the variables read as laid. -/
namespace Go.Proofs.YtcnecmcbjpehcaaDoor
open Go.RowKit Go.Deep Go.Extern.Stop Go.Stop Go.Extern

/-- the sentinels of the codes S: their cells, their blocks, none twice -/
structure Sent (S : List Nat) (w : World) (a : Nat → Addr) : Prop extends Env S w a where
  blk : ∀ c, c ∈ S → ∃ ca ta, w.heap[(a c).block]? = some (.cells ca ta (0, 0))
  inj : ∀ c, c ∈ S → ∀ d, d ∈ S → a c = a d → c = d
theorem Sent.lt {S : List Nat} {w : World} {a : Nat → Addr} (h : Sent S w a) {c : Nat} (hc : c ∈ S) : (a c).block < w.heap.size := by
  obtain ⟨ca, ta, hb⟩ := h.blk c hc
  exact (Array.getElem?_eq_some_iff.1 hb).1
theorem Sent.below {S : List Nat} {w w' : World} {a : Nat → Addr} (h : Sent S w a) (hb : Below w.heap.size w w') : Sent S w' a :=
  ⟨h.toEnv.below hb, fun c hc => by
    obtain ⟨ca, ta, hx⟩ := h.blk c hc
    exact ⟨ca, ta, (hb.block _ (h.lt hc)).trans hx⟩, h.inj⟩
/-- the handle of the type error -/
def Handle (w : World) : Prop := w.cell? ⟨8, 0, none⟩ = some (.iface 120 (.agg #[.pointer (some ⟨9, 27, none⟩)]))
theorem Handle.below {w w' : World} (h : Handle w) (hb : Below w.heap.size w w') : Handle w' :=
  (hb.cell (p := ⟨8, 0, none⟩) (World.block_lt_of_cell? w _ h)).trans h

/-! ### errors.Is -/
theorem is_typeOf (v : Value) (w : World) : (Extern.ReflectliteType.typeOf #[.iface 155 v]).run Tryd.prog w = .ok (.iface 120 (.agg #[.pointer (some ⟨9, 155, none⟩)])) w := by kernel_rfl
/-- the model's own entry for (rtype).Comparable, behind a name -/
def compExt : TypeId → Sem Value := fun t => do Rtype.noPackHeld "Comparable" t; pure (.bool (← typeInfo t).comparable)
theorem is_comparable (w : World) : (Extern.ReflectliteType.method compExt #[.agg #[.pointer (some ⟨9, 155, none⟩)]]).run Tryd.prog w = .ok (.bool true) w := by kernel_rfl
theorem is_methodComparable (v : Value) (w : World) : (Go.method 294 120 v "Comparable").run Tryd.prog w = .ok (125, v) w := by kernel_rfl
theorem is_comp : (Tryd.prog.info? 155).map (·.comparable) = some true := by kernel_rfl
theorem is_size : (Tryd.prog.info? 178).map (·.size) = some 1 := by kernel_rfl
theorem no_is_E (v : Value) (xT : TypeId) (w : World) : (Instr.typeAssert (.iface 155 v) xT 131 true).run Tryd.prog w = .ok (.tuple #[.nilIface, .bool false]) w := run_typeAssert_lacksB Tryd.underlying131 (by kernel_rfl) (by kernel_rfl) v xT w
theorem no_unwrap_E (v : Value) (xT : TypeId) (w : World) : (Instr.typeAssert (.iface 155 v) xT 127 true).run Tryd.prog w = .ok (.tuple #[.nilIface, .bool false]) w := run_typeAssert_lacksB Tryd.underlying127 (by kernel_rfl) (by kernel_rfl) v xT w
theorem no_unwraps_E (v : Value) (xT : TypeId) (w : World) : (Instr.typeAssert (.iface 155 v) xT 129 true).run Tryd.prog w = .ok (.tuple #[.nilIface, .bool false]) w := run_typeAssert_lacksB Tryd.underlying129 (by kernel_rfl) (by kernel_rfl) v xT w
theorem no_is_F (v : Value) (xT : TypeId) (w : World) : (Instr.typeAssert (.iface 75 v) xT 131 true).run Tryd.prog w = .ok (.tuple #[.nilIface, .bool false]) w := run_typeAssert_lacksB Tryd.underlying131 (by kernel_rfl) (by kernel_rfl) v xT w
theorem has_unwrap_F (v : Value) (xT : TypeId) (w : World) : (Instr.typeAssert (.iface 75 v) xT 127 true).run Tryd.prog w = .ok (.tuple #[.iface 75 v, .bool true]) w := run_typeAssert_hasB Tryd.underlying127 (by kernel_rfl) v xT w
theorem method_unwrap_F (v : Value) (w : World) : (Go.method 294 75 v "Unwrap").run Tryd.prog w = .ok (119, v) w := by kernel_rfl

set_option maxHeartbeats 1000000 in
theorem is_same (a : Addr) (w : World) :
    Calls Tryd.prog 55 #[.iface 155 (.pointer (some a)), .iface 155 (.pointer (some a))] w fun e w' => e = .returned (.bool true) ∧ w' = w := by
  obtain ⟨i, hi, hcmp⟩ := Option.map_eq_some_iff.1 is_comp
  obtain ⟨j, hj, hjs⟩ := Option.map_eq_some_iff.1 is_size
  have h8 := @run_callFunc_extern Tryd.prog 71 _ Extern.ReflectliteType.typeOf Tryd.func71 (by kernel_rfl) (by kernel_rfl) (by kernel_rfl) (by kernel_rfl)
  have h32 := @run_callFunc_extern Tryd.prog 125 _ (Extern.ReflectliteType.method compExt) Tryd.func125 (by kernel_rfl) (by kernel_rfl) (by kernel_rfl) (by kernel_rfl)
  have tT := is_typeOf
  have cT := is_comparable
  have mR := is_methodComparable
  have heq := run_eql_iface_ptr_same (P := Tryd.prog) w a Tryd.underlying27 Tryd.underlying155 hi hcmp hj
  clear hi hcmp hj hjs
  go_enter Tryd.func55, Tryd.ntmps55
  go_wp2
  refine wp_loop_rounds 1 ?_
  rw [rounds_succ]
  go_wp2
  go_ret
  exact ⟨rfl, rfl⟩

set_option maxHeartbeats 1000000 in
theorem is_other (a b : Addr) (ca cb : Array Value) (ta tb : TypeId) (w : World) (hne : a ≠ b) (ha : w.heap[a.block]? = some (.cells ca ta (0, 0))) (hb : w.heap[b.block]? = some (.cells cb tb (0, 0))) :
    Calls Tryd.prog 55 #[.iface 155 (.pointer (some a)), .iface 155 (.pointer (some b))] w fun e w' => e = .returned (.bool false) ∧ w' = w := by
  obtain ⟨i, hi, hcmp⟩ := Option.map_eq_some_iff.1 is_comp
  obtain ⟨j, hj, hjs⟩ := Option.map_eq_some_iff.1 is_size
  have h8 := @run_callFunc_extern Tryd.prog 71 _ Extern.ReflectliteType.typeOf Tryd.func71 (by kernel_rfl) (by kernel_rfl) (by kernel_rfl) (by kernel_rfl)
  have h32 := @run_callFunc_extern Tryd.prog 125 _ (Extern.ReflectliteType.method compExt) Tryd.func125 (by kernel_rfl) (by kernel_rfl) (by kernel_rfl) (by kernel_rfl)
  have tT := is_typeOf
  have cT := is_comparable
  have mR := is_methodComparable
  have nE := no_is_E
  have uE := no_unwrap_E
  have vE := no_unwraps_E
  have heq := run_eql_iface_ptr_other (P := Tryd.prog) w Tryd.underlying27 Tryd.underlying155 hi hcmp hj (by rw [hjs]; decide) hne ha hb
  clear hi hcmp hj hjs
  go_enter Tryd.func55, Tryd.ntmps55
  go_wp2
  refine wp_loop_rounds 1 ?_
  rw [rounds_succ]
  go_wp2
  go_ret
  exact ⟨rfl, rfl⟩

/-- errors.Is between sentinels -/
theorem is_sent {S : List Nat} (w : World) (a : Nat → Addr) (h : Sent S w a) (c d : Nat) (hc : c ∈ S) (hd : d ∈ S) :
    Calls Tryd.prog 55 #[.iface 155 (.pointer (some (a c))), .iface 155 (.pointer (some (a d)))] w fun e w' => e = .returned (.bool (decide (c = d))) ∧ w' = w := by
  by_cases e : c = d
  · subst e
    rw [decide_eq_true rfl]
    exact is_same (a c) w
  · rw [decide_eq_false e]
    obtain ⟨ca, ta, ha⟩ := h.blk c hc
    obtain ⟨cb, tb, hb⟩ := h.blk d hd
    exact is_other (a c) (a d) ca cb ta tb w (fun x => e (h.inj c hc d hd x)) ha hb

set_option maxHeartbeats 1000000 in
theorem is_fault_same (pb po : Nat) (b : Addr) (w : World) (h1 : w.cell? ⟨pb, po + 1, none⟩ = some (.iface 155 (.pointer (some b)))) :
    Calls Tryd.prog 55 #[.iface 75 (.pointer (some ⟨pb, po, none⟩)), .iface 155 (.pointer (some b))] w fun e w' => e = .returned (.bool true) ∧ w' = w := by
  obtain ⟨i, hi, hcmp⟩ := Option.map_eq_some_iff.1 is_comp
  obtain ⟨j, hj, hjs⟩ := Option.map_eq_some_iff.1 is_size
  have h8 := @run_callFunc_extern Tryd.prog 71 _ Extern.ReflectliteType.typeOf Tryd.func71 (by kernel_rfl) (by kernel_rfl) (by kernel_rfl) (by kernel_rfl)
  have h32 := @run_callFunc_extern Tryd.prog 125 _ (Extern.ReflectliteType.method compExt) Tryd.func125 (by kernel_rfl) (by kernel_rfl) (by kernel_rfl) (by kernel_rfl)
  have tT := is_typeOf
  have cT := is_comparable
  have mR := is_methodComparable
  have nE := no_is_E
  have uE := no_unwrap_E
  have vE := no_unwraps_E
  have nW := no_is_F
  have uW := has_unwrap_F
  have mU := method_unwrap_F
  have heq := run_eql_iface_ptr_same (P := Tryd.prog) w b Tryd.underlying27 Tryd.underlying155 hi hcmp hj
  have hty := run_eql_iface_types (P := Tryd.prog) 75 155 (.pointer (some ⟨pb, po, none⟩)) (.pointer (some b)) Tryd.underlying27 (by decide) w
  clear hi hcmp hj hjs
  go_enter Tryd.func55, Tryd.ntmps55
  go_wp2
  refine wp_loop_rounds 2 ?_
  rw [rounds_succ]
  go_wp2
  rw [rounds_succ]
  go_wp2
  go_ret
  exact ⟨rfl, rfl⟩

set_option maxHeartbeats 1000000 in
theorem is_fault_other (pb po : Nat) (b a : Addr) (ca cb : Array Value) (ta tb : TypeId) (w : World) (h1 : w.cell? ⟨pb, po + 1, none⟩ = some (.iface 155 (.pointer (some a)))) (hne : a ≠ b) (ha : w.heap[a.block]? = some (.cells ca ta (0, 0))) (hb : w.heap[b.block]? = some (.cells cb tb (0, 0))) :
    Calls Tryd.prog 55 #[.iface 75 (.pointer (some ⟨pb, po, none⟩)), .iface 155 (.pointer (some b))] w fun e w' => e = .returned (.bool false) ∧ w' = w := by
  obtain ⟨i, hi, hcmp⟩ := Option.map_eq_some_iff.1 is_comp
  obtain ⟨j, hj, hjs⟩ := Option.map_eq_some_iff.1 is_size
  have h8 := @run_callFunc_extern Tryd.prog 71 _ Extern.ReflectliteType.typeOf Tryd.func71 (by kernel_rfl) (by kernel_rfl) (by kernel_rfl) (by kernel_rfl)
  have h32 := @run_callFunc_extern Tryd.prog 125 _ (Extern.ReflectliteType.method compExt) Tryd.func125 (by kernel_rfl) (by kernel_rfl) (by kernel_rfl) (by kernel_rfl)
  have tT := is_typeOf
  have cT := is_comparable
  have mR := is_methodComparable
  have nE := no_is_E
  have uE := no_unwrap_E
  have vE := no_unwraps_E
  have nW := no_is_F
  have uW := has_unwrap_F
  have mU := method_unwrap_F
  have heq := run_eql_iface_ptr_other (P := Tryd.prog) w Tryd.underlying27 Tryd.underlying155 hi hcmp hj (by rw [hjs]; decide) hne ha hb
  have hty := run_eql_iface_types (P := Tryd.prog) 75 155 (.pointer (some ⟨pb, po, none⟩)) (.pointer (some b)) Tryd.underlying27 (by decide) w
  clear hi hcmp hj hjs
  go_enter Tryd.func55, Tryd.ntmps55
  go_wp2
  refine wp_loop_rounds 2 ?_
  rw [rounds_succ]
  go_wp2
  rw [rounds_succ]
  go_wp2
  go_ret
  exact ⟨rfl, rfl⟩

/-- errors.Is of a fault whose error is a sentinel -/
theorem is_fault {S : List Nat} (w : World) (a : Nat → Addr) (h : Sent S w a) (pb po : Nat) (c d : Nat) (hc : c ∈ S) (hd : d ∈ S) (h1 : w.cell? ⟨pb, po + 1, none⟩ = some (.iface 155 (.pointer (some (a c))))) :
    Calls Tryd.prog 55 #[.iface 75 (.pointer (some ⟨pb, po, none⟩)), .iface 155 (.pointer (some (a d)))] w fun e w' => e = .returned (.bool (decide (c = d))) ∧ w' = w := by
  by_cases e : c = d
  · subst e
    rw [decide_eq_true rfl]
    exact is_fault_same pb po (a c) w h1
  · rw [decide_eq_false e]
    obtain ⟨ca, ta, ha⟩ := h.blk c hc
    obtain ⟨cb, tb, hb⟩ := h.blk d hd
    exact is_fault_other pb po (a d) (a c) ca cb ta tb w h1 (fun x => e (h.inj c hc d hd x)) ha hb
end Go.Proofs.YtcnecmcbjpehcaaDoor

/- The walks of errors.As with a target of the type **api.Fault: at a sentinel it is false, at a fault true (after the kit's worked Toyas). Condition: the handle of the type error is laid. -/
namespace Go.Proofs.YtcnecmcbjpehcaaDoor
open Go.RowKit Go.Deep Go.Extern.Stop Go.Stop Go.Extern

/-! ### closed facts on the model's entries for internal/reflectlite, at this program's types -/
def kindExt : TypeId → Sem Value := fun t => do pure (.int .u8 (← Rtype.kind t))
def vTypeExt : TypeId → Addr → Nat → Nat → Sem Value := fun t _ _ _ => ReflectliteType.toType t
def unpackExt : Array Value → Sem Value := fun args => ReflectliteValue.unpack (args.getD 0 (.tuple #[]))
theorem as_valueOfT (t : Addr) (w : World) : (unpackExt #[.iface 87 (.pointer (some t))]).run Tryd.prog w
    = .ok (.agg #[.pointer (some ⟨9, 87, none⟩), .pointer (some ⟨w.heap.size, 0, none⟩), .int .u64 150]) (w.alloc (.cells #[.pointer (some t)] 87)) := by kernel_rfl
theorem as_typeT (a : Addr) (w : World) : (ReflectliteValue.methodAny (ReflectliteValue.valueError "reflectlite.Value.Type" 0) vTypeExt #[.agg #[.pointer (some ⟨9, 87, none⟩), .pointer (some a), .int .u64 150]]).run Tryd.prog w
    = .ok (.iface 120 (.agg #[.pointer (some ⟨9, 87, none⟩)])) w := by kernel_rfl
theorem as_methodKind (h : Value) (w : World) : (Go.method 294 120 (.agg #[h]) "Kind").run Tryd.prog w = .ok (115, h) w := by kernel_rfl
theorem as_kindT (w : World) : (ReflectliteType.abiMethod kindExt #[.pointer (some ⟨9, 87, none⟩)]).run Tryd.prog w = .ok (.int .u8 22) w := by kernel_rfl
theorem as_kindF (w : World) : (ReflectliteType.abiMethod kindExt #[.pointer (some ⟨9, 75, none⟩)]).run Tryd.prog w = .ok (.int .u8 22) w := by kernel_rfl
theorem rlm (z : Sem Value) (f : TypeId → Addr → Nat → Nat → Sem Value) (v : Value) :
    ReflectliteValue.method z f #[v] = (do match ← ReflectliteValue.parts v with | none => z | some (t, a, fl) => f t a fl (fl % 32)) := rfl
theorem as_partsT (a : Addr) (w : World) : (ReflectliteValue.parts (.agg #[.pointer (some ⟨9, 87, none⟩), .pointer (some a), .int .u64 150])).run Tryd.prog w = .ok (some (87, a, 150)) w := by kernel_rfl
theorem as_isNilT (a p : Addr) (W : World) (ha : W.cell? a = some (.pointer (some p))) :
    (ReflectliteValue.method (ReflectliteValue.valueError "reflectlite.Value.IsNil" 0) ReflectliteValue.isNil #[.agg #[.pointer (some ⟨9, 87, none⟩), .pointer (some a), .int .u64 150]]).run Tryd.prog W = .ok (.bool false) W := by
  rw [rlm]
  simp only [Sem.run_bind, as_partsT, Result.andThen]
  simp [ReflectliteValue.isNil, loadVar, isAgg, underlying, Tryd.underlying87, ha, Result.andThen]
theorem as_methodElem (h : Value) (w : World) : (Go.method 294 120 (.agg #[h]) "Elem").run Tryd.prog w = .ok (126, .agg #[h]) w := by kernel_rfl
theorem as_methodImplements (h : Value) (w : World) : (Go.method 294 120 (.agg #[h]) "Implements").run Tryd.prog w = .ok (127, .agg #[h]) w := by kernel_rfl
theorem as_methodAssignableTo (h : Value) (w : World) : (Go.method 294 120 (.agg #[h]) "AssignableTo").run Tryd.prog w = .ok (124, .agg #[h]) w := by kernel_rfl
theorem as_elemT (w : World) : (ReflectliteType.method ReflectliteType.elem #[.agg #[.pointer (some ⟨9, 87, none⟩)]]).run Tryd.prog w = .ok (.iface 120 (.agg #[.pointer (some ⟨9, 75, none⟩)])) w := by kernel_rfl
theorem as_implementsF (w : World) : (ReflectliteType.relation "Implements" ReflectliteType.implements_ #[.agg #[.pointer (some ⟨9, 75, none⟩)], .iface 120 (.agg #[.pointer (some ⟨9, 27, none⟩)])]).run Tryd.prog w = .ok (.bool true) w := by kernel_rfl
theorem as_typeOfF (v : Value) (w : World) : (ReflectliteType.typeOf #[.iface 75 v]).run Tryd.prog w = .ok (.iface 120 (.agg #[.pointer (some ⟨9, 75, none⟩)])) w := by kernel_rfl
theorem as_assignF (w : World) : (ReflectliteType.relation "AssignableTo" ReflectliteType.assignableTo #[.agg #[.pointer (some ⟨9, 75, none⟩)], .iface 120 (.agg #[.pointer (some ⟨9, 75, none⟩)])]).run Tryd.prog w = .ok (.bool true) w := by kernel_rfl
theorem as_assignE (w : World) : (ReflectliteType.relation "AssignableTo" ReflectliteType.assignableTo #[.agg #[.pointer (some ⟨9, 155, none⟩)], .iface 120 (.agg #[.pointer (some ⟨9, 75, none⟩)])]).run Tryd.prog w = .ok (.bool false) w := by kernel_rfl
theorem as_valueOfF (e : Addr) (w : World) : (unpackExt #[.iface 75 (.pointer (some e))]).run Tryd.prog w
    = .ok (.agg #[.pointer (some ⟨9, 75, none⟩), .pointer (some ⟨w.heap.size, 0, none⟩), .int .u64 150]) (w.alloc (.cells #[.pointer (some e)] 75)) := by kernel_rfl
theorem as_elemOfT (w : World) : (Rtype.elem? 87).run Tryd.prog w = .ok (some 75) w := by kernel_rfl
theorem as_mkF (p : Addr) (w : World) : (ReflectliteValue.mk 75 p ReflectliteValue.flagAddr).run Tryd.prog w = .ok (.agg #[.pointer (some ⟨9, 75, none⟩), .pointer (some p), .int .u64 406]) w := by kernel_rfl
theorem as_elemVT (a p : Addr) (W : World) (ha : W.cell? a = some (.pointer (some p))) :
    (ReflectliteValue.method (ReflectliteValue.valueError "reflectlite.Value.Elem" 0) ReflectliteValue.elem #[.agg #[.pointer (some ⟨9, 87, none⟩), .pointer (some a), .int .u64 150]]).run Tryd.prog W
      = .ok (.agg #[.pointer (some ⟨9, 75, none⟩), .pointer (some p), .int .u64 406]) W := by
  rw [rlm]
  simp only [Sem.run_bind, as_partsT, Result.andThen]
  simp [ReflectliteValue.elem, loadVar, isAgg, underlying, Tryd.underlying87, ha, Result.andThen, as_elemOfT, as_mkF]
theorem rls (v x : Value) : ReflectliteValue.set #[v, x] = (do
    let (some (dst, a, fl), some (src, b, _)) := (← ReflectliteValue.parts v, ← ReflectliteValue.parts x)
      | unsupported (.noEntry "extern/(internal/reflectlite.Value).Set.zeroValue")
    if fl / ReflectliteValue.flagAddr % 2 == 0 then unsupported (.noEntry "extern/(internal/reflectlite.Value).Set.unaddressable")
    let val ← loadVar src b
    if ← Rtype.directlyAssignable dst src then storeVar dst a val
    else if ← Rtype.implements dst src then
      if (← Rtype.kind src) == 20 then
        match val with
        | .nilIface => unsupported (.noEntry "extern/reflectlite: a nil value of one interface type handed on as a value of another")
        | _ => storeVar dst a val
      else storeVar dst a (.iface src val)
    else panicString ("reflectlite.Set: value of type " ++ (← Rtype.spelt src) ++ " is not assignable to type " ++ (← Rtype.spelt dst))
    pure (.tuple #[])) := rfl
theorem as_partsFa (a : Addr) (w : World) : (ReflectliteValue.parts (.agg #[.pointer (some ⟨9, 75, none⟩), .pointer (some a), .int .u64 406])).run Tryd.prog w = .ok (some (75, a, 406)) w := by kernel_rfl
theorem as_partsF (a : Addr) (w : World) : (ReflectliteValue.parts (.agg #[.pointer (some ⟨9, 75, none⟩), .pointer (some a), .int .u64 150])).run Tryd.prog w = .ok (some (75, a, 150)) w := by kernel_rfl
theorem as_directF (w : World) : (Rtype.directlyAssignable 75 75).run Tryd.prog w = .ok true w := by kernel_rfl
theorem as_setF (ta b e : Addr) (old : Value) (W : World) (hb : W.cell? b = some (.pointer (some e))) (ht : W.cell? ta = some old) (hf : W.frozen? ta = false) :
    (ReflectliteValue.set #[.agg #[.pointer (some ⟨9, 75, none⟩), .pointer (some ta), .int .u64 406], .agg #[.pointer (some ⟨9, 75, none⟩), .pointer (some b), .int .u64 150]]).run Tryd.prog W
      = .ok (.tuple #[]) (W.setCell ta (.pointer (some e))) := by
  rw [rls]
  simp only [Sem.run_bind, as_partsFa, as_partsF, Result.andThen]
  simp [ReflectliteValue.flagAddr, loadVar, isAgg, underlying, Tryd.underlying75, hb, Result.andThen, as_directF, storeVar, Value.cells, storeCells, Addr.add]
  rw [run_store Tryd.prog W ta _ _ (by rfl)]
  simp [ht, hf]

theorem no_as_E (v : Value) (xT : TypeId) (w : World) : (Instr.typeAssert (.iface 155 v) xT 124 true).run Tryd.prog w = .ok (.tuple #[.nilIface, .bool false]) w := run_typeAssert_lacksB Tryd.underlying124 (by kernel_rfl) (by kernel_rfl) v xT w

set_option maxHeartbeats 4000000 in
/-- errors.As at a sentinel: false; what was there is as it was -/
theorem as_sent (e t : Addr) (w : World) (hg : Handle w) :
    Calls Tryd.prog 54 #[.iface 155 (.pointer (some e)), .iface 87 (.pointer (some t))] w fun ev w' => ev = .returned (.bool false) ∧ Below w.heap.size w w' := by
  have h6 := @run_callFunc_extern Tryd.prog 67 _ unpackExt Tryd.func67 (by kernel_rfl) (by kernel_rfl) (by kernel_rfl) (by kernel_rfl)
  have h7 := @run_callFunc_extern Tryd.prog 68 _ (ReflectliteValue.methodAny (ReflectliteValue.valueError "reflectlite.Value.Type" 0) vTypeExt) Tryd.func68 (by kernel_rfl) (by kernel_rfl) (by kernel_rfl) (by kernel_rfl)
  have h8 := @run_callFunc_extern Tryd.prog 69 _ (ReflectliteValue.method (ReflectliteValue.valueError "reflectlite.Value.IsNil" 0) ReflectliteValue.isNil) Tryd.func69 (by kernel_rfl) (by kernel_rfl) (by kernel_rfl) (by kernel_rfl)
  have h27 := @run_callFunc_extern Tryd.prog 115 _ (ReflectliteType.abiMethod kindExt) Tryd.func115 (by kernel_rfl) (by kernel_rfl) (by kernel_rfl) (by kernel_rfl)
  have h37 := @run_callFunc_extern Tryd.prog 126 _ (ReflectliteType.method ReflectliteType.elem) Tryd.func126 (by kernel_rfl) (by kernel_rfl) (by kernel_rfl) (by kernel_rfl)
  have h38 := @run_callFunc_extern Tryd.prog 127 _ (ReflectliteType.relation "Implements" ReflectliteType.implements_) Tryd.func127 (by kernel_rfl) (by kernel_rfl) (by kernel_rfl) (by kernel_rfl)
  have h10 := @run_callFunc_extern Tryd.prog 71 _ ReflectliteType.typeOf Tryd.func71 (by kernel_rfl) (by kernel_rfl) (by kernel_rfl) (by kernel_rfl)
  have h35 := @run_callFunc_extern Tryd.prog 124 _ (ReflectliteType.relation "AssignableTo" ReflectliteType.assignableTo) Tryd.func124 (by kernel_rfl) (by kernel_rfl) (by kernel_rfl) (by kernel_rfl)
  have tO := is_typeOf
  have mA := as_methodAssignableTo
  have aE := as_assignE
  have f6 := as_valueOfT
  have f7 := as_typeT
  have mK := as_methodKind
  have mE := as_methodElem
  have mI := as_methodImplements
  have kT := as_kindT
  have kF := as_kindF
  have eT := as_elemT
  have iF := as_implementsF
  have nA := no_as_E
  have uE := no_unwrap_E
  have vE := no_unwraps_E
  have n8 := as_isNilT ⟨w.heap.size, 0, none⟩ t ((w.alloc (.cells #[.pointer (some t)] 87)).alloc (.cells #[.pointer (some ⟨9, 87, none⟩), .pointer (some ⟨w.heap.size, 0, none⟩), .int .u64 150] 101)) (by simp)
  have hlt : 8 < w.heap.size := World.block_lt_of_cell? w _ hg
  have hg2 : ((w.alloc (.cells #[.pointer (some t)] 87)).alloc (.cells #[.pointer (some ⟨9, 87, none⟩), .pointer (some ⟨w.heap.size, 0, none⟩), .int .u64 150] 101)).cell? ⟨8, 0, none⟩ = some (.iface 120 (.agg #[.pointer (some ⟨9, 27, none⟩)])) := by
    rw [World.cell?_alloc_lt _ _ ⟨8, 0, none⟩ (by simp; omega), World.cell?_alloc_lt _ _ ⟨8, 0, none⟩ hlt]; exact hg
  go_enter Tryd.func54, Tryd.ntmps54
  go_wp2
  refine wp_loop_rounds 1 ?_
  rw [rounds_succ]
  go_wp2
  go_ret
  exact ⟨rfl, below_alloc' (below_alloc' (below_alloc' (Below.refl _ _) _) _) _⟩

set_option maxHeartbeats 4000000 in
/-- errors.As at a fault: true; the target points to it -/
theorem as_fault (e t : Addr) (old : Value) (w : World) (hg : Handle w) (ht0 : w.cell? t = some old) (hf0 : w.frozen? t = false) :
    Calls Tryd.prog 54 #[.iface 75 (.pointer (some e)), .iface 87 (.pointer (some t))] w fun ev w' => ev = .returned (.bool true) ∧ w' = ((((w.alloc (.cells #[.pointer (some t)] 87)).alloc (.cells #[.pointer (some ⟨9, 87, none⟩), .pointer (some ⟨w.heap.size, 0, none⟩), .int .u64 150] 101)).alloc (.cells #[.pointer (some ⟨9, 87, none⟩), .pointer (some ⟨w.heap.size, 0, none⟩), .int .u64 150] 101)).alloc (.cells #[.pointer (some e)] 75)).setCell t (.pointer (some e)) := by
  have h6 := @run_callFunc_extern Tryd.prog 67 _ unpackExt Tryd.func67 (by kernel_rfl) (by kernel_rfl) (by kernel_rfl) (by kernel_rfl)
  have h7 := @run_callFunc_extern Tryd.prog 68 _ (ReflectliteValue.methodAny (ReflectliteValue.valueError "reflectlite.Value.Type" 0) vTypeExt) Tryd.func68 (by kernel_rfl) (by kernel_rfl) (by kernel_rfl) (by kernel_rfl)
  have h8 := @run_callFunc_extern Tryd.prog 69 _ (ReflectliteValue.method (ReflectliteValue.valueError "reflectlite.Value.IsNil" 0) ReflectliteValue.isNil) Tryd.func69 (by kernel_rfl) (by kernel_rfl) (by kernel_rfl) (by kernel_rfl)
  have h27 := @run_callFunc_extern Tryd.prog 115 _ (ReflectliteType.abiMethod kindExt) Tryd.func115 (by kernel_rfl) (by kernel_rfl) (by kernel_rfl) (by kernel_rfl)
  have h37 := @run_callFunc_extern Tryd.prog 126 _ (ReflectliteType.method ReflectliteType.elem) Tryd.func126 (by kernel_rfl) (by kernel_rfl) (by kernel_rfl) (by kernel_rfl)
  have h38 := @run_callFunc_extern Tryd.prog 127 _ (ReflectliteType.relation "Implements" ReflectliteType.implements_) Tryd.func127 (by kernel_rfl) (by kernel_rfl) (by kernel_rfl) (by kernel_rfl)
  have h10 := @run_callFunc_extern Tryd.prog 71 _ ReflectliteType.typeOf Tryd.func71 (by kernel_rfl) (by kernel_rfl) (by kernel_rfl) (by kernel_rfl)
  have h35 := @run_callFunc_extern Tryd.prog 124 _ (ReflectliteType.relation "AssignableTo" ReflectliteType.assignableTo) Tryd.func124 (by kernel_rfl) (by kernel_rfl) (by kernel_rfl) (by kernel_rfl)
  have h11 := @run_callFunc_extern Tryd.prog 79 _ (ReflectliteValue.method (ReflectliteValue.valueError "reflectlite.Value.Elem" 0) ReflectliteValue.elem) Tryd.func79 (by kernel_rfl) (by kernel_rfl) (by kernel_rfl) (by kernel_rfl)
  have h12 := @run_callFunc_extern Tryd.prog 80 _ ReflectliteValue.set Tryd.func80 (by kernel_rfl) (by kernel_rfl) (by kernel_rfl) (by kernel_rfl)
  have tO := as_typeOfF
  have mA := as_methodAssignableTo
  have aE := as_assignF
  have vF := as_valueOfF
  have f6 := as_valueOfT
  have f7 := as_typeT
  have mK := as_methodKind
  have mE := as_methodElem
  have mI := as_methodImplements
  have kT := as_kindT
  have kF := as_kindF
  have eT := as_elemT
  have iF := as_implementsF
  have n8 := as_isNilT ⟨w.heap.size, 0, none⟩ t ((w.alloc (.cells #[.pointer (some t)] 87)).alloc (.cells #[.pointer (some ⟨9, 87, none⟩), .pointer (some ⟨w.heap.size, 0, none⟩), .int .u64 150] 101)) (by simp)
  have hlt : 8 < w.heap.size := World.block_lt_of_cell? w _ hg
  have hg2 : ((w.alloc (.cells #[.pointer (some t)] 87)).alloc (.cells #[.pointer (some ⟨9, 87, none⟩), .pointer (some ⟨w.heap.size, 0, none⟩), .int .u64 150] 101)).cell? ⟨8, 0, none⟩ = some (.iface 120 (.agg #[.pointer (some ⟨9, 27, none⟩)])) := by
    rw [World.cell?_alloc_lt _ _ ⟨8, 0, none⟩ (by simp; omega), World.cell?_alloc_lt _ _ ⟨8, 0, none⟩ hlt]; exact hg
  have htl : t.block < w.heap.size := World.block_lt_of_cell? w _ ht0
  have el := as_elemVT ⟨w.heap.size, 0, none⟩ t (((w.alloc (.cells #[.pointer (some t)] 87)).alloc (.cells #[.pointer (some ⟨9, 87, none⟩), .pointer (some ⟨w.heap.size, 0, none⟩), .int .u64 150] 101)).alloc (.cells #[.pointer (some ⟨9, 87, none⟩), .pointer (some ⟨w.heap.size, 0, none⟩), .int .u64 150] 101)) (by rw [World.cell?_alloc_lt _ _ ⟨w.heap.size, 0, none⟩ (by simp; omega)]; simp)
  have st := as_setF t ⟨w.heap.size + 1 + 1 + 1, 0, none⟩ e old ((((w.alloc (.cells #[.pointer (some t)] 87)).alloc (.cells #[.pointer (some ⟨9, 87, none⟩), .pointer (some ⟨w.heap.size, 0, none⟩), .int .u64 150] 101)).alloc (.cells #[.pointer (some ⟨9, 87, none⟩), .pointer (some ⟨w.heap.size, 0, none⟩), .int .u64 150] 101)).alloc (.cells #[.pointer (some e)] 75))
    (by rw [World.cell?_alloc_at _ _ _ _ (by simp)]; rfl)
    (by rw [World.cell?_alloc_lt _ _ t (by simp; omega), World.cell?_alloc_lt _ _ t (by simp; omega), World.cell?_alloc_lt _ _ t (by simp; omega), World.cell?_alloc_lt _ _ t htl]; exact ht0)
    (by rw [World.frozen?_alloc_old _ _ t (by simp; omega), World.frozen?_alloc_old _ _ t (by simp; omega), World.frozen?_alloc_old _ _ t (by simp; omega), World.frozen?_alloc_old _ _ t (Nat.ne_of_lt htl)]; exact hf0)
  go_enter Tryd.func54, Tryd.ntmps54
  go_wp2
  refine wp_loop_rounds 1 ?_
  rw [rounds_succ]
  go_wp2
  go_ret
  exact ⟨rfl, rfl⟩
end Go.Proofs.YtcnecmcbjpehcaaDoor

/- The walks of plain.Code and coded. Condition: the variables read as laid. -/
namespace Go.Proofs.YtcnecmcbjpehcaaDoor
open Go.RowKit Go.Deep

def codes : List Nat := [1, 2, 3, 4, 5, 6, 7, 8]
theorem mem_codes {c : Nat} (h1 : 1 ≤ c) (h8 : c ≤ 8) : c ∈ codes := by
  unfold codes
  simp
  omega

theorem code_nil (w : World) : Calls Tryd.prog 45 #[.nilIface] w fun e w' => e = .returned (.tuple #[.int .i64 0, .int .i64 (-1)]) ∧ w = w' := by
  go_enter Tryd.func45, Tryd.ntmps45
  go_wp2
  go_ret2
  exact ⟨rfl, rfl⟩

set_option maxHeartbeats 4000000 in
theorem code_sent (w : World) (a : Nat → Addr) (hS : Sent codes w a) (hH : Handle w) (c : Nat) (h1 : 1 ≤ c) (h8 : c ≤ 8) :
    Calls Tryd.prog 45 #[.iface 155 (.pointer (some (a c)))] w fun e w' => e = .returned (.tuple #[.int .i64 c, .int .i64 (-1)]) ∧ Below w.heap.size w w' := by
  have has := as_sent (a c) ⟨w.heap.size, 0, none⟩ (w.alloc (.cells #[.pointer none] 75)) (hH.below (below_alloc' (Below.refl _ _) _))
  have HAS := hide has
  clear has
  have hn := fun X => run_eql_iface_nil_left (P := Tryd.prog) X 155 (.pointer (some (a c))) Tryd.underlying27
  go_enter Tryd.func45, Tryd.ntmps45
  go_wp2_with
    (go_at_call 54
     refine HAS.out.mono ?_
     rintro e w1 ⟨rfl, hb1⟩
     have hS1 := hS.below (below_trans (below_alloc' (Below.refl _ _) (.cells #[.pointer none] 75)) hb1)
     have e1 := hS1.cell 1 (by decide)
     have e2 := hS1.cell 2 (by decide)
     have e3 := hS1.cell 3 (by decide)
     have e4 := hS1.cell 4 (by decide)
     have e5 := hS1.cell 5 (by decide)
     have e6 := hS1.cell 6 (by decide)
     have e7 := hS1.cell 7 (by decide)
     have e8 := hS1.cell 8 (by decide)
     simp only [glob] at e1 e2 e3 e4 e5 e6 e7 e8)
  clear e1 e2 e3 e4 e5 e6 e7 e8
  have hB0 : Below w.heap.size w w1 := below_trans (below_alloc' (Below.refl _ _) (.cells #[.pointer none] 75)) hb1
  clear hb1
  go_loopw [3, 26] (fun at3 i wr => ∃ k : Nat, k < c ∧ i = .int .i64 k ∧ at3 = .int .i64 (-1) ∧ Below (w1.heap.size + 1) (w1.alloc (.cells #[.iface 155 (.pointer (some (a 1))), .iface 155 (.pointer (some (a 2))), .iface 155 (.pointer (some (a 3))), .iface 155 (.pointer (some (a 4))), .iface 155 (.pointer (some (a 5))), .iface 155 (.pointer (some (a 6))), .iface 155 (.pointer (some (a 7))), .iface 155 (.pointer (some (a 8)))] 27)) wr) (fun _ i _ => 8 - (intOf i).toNat)
  case atStart => exact ⟨0, by omega, rfl, rfl, Below.refl _ _⟩
  case round =>
    obtain ⟨k, hk, rfl, rfl, hB⟩ := hrel
    have hcell : wr.cell? ⟨w1.heap.size, k, none⟩ = some (.iface 155 (.pointer (some (a (k + 1))))) := by
      rw [hB.cell (p := ⟨w1.heap.size, k, none⟩) (by show w1.heap.size < _; omega), World.cell?_alloc_at _ _ _ _ rfl]
      have hk8 : k < 8 := by omega
      clear hk hB
      match k, hk8 with
      | 0, _ => rfl
      | 1, _ => rfl
      | 2, _ => rfl
      | 3, _ => rfl
      | 4, _ => rfl
      | 5, _ => rfl
      | 6, _ => rfl
      | 7, _ => rfl
    have hSr : Sent codes wr a := hS.below (below_trans (below_alloc' hB0 _) (hB.mono (by simp)))
    have his := is_sent wr a hSr c (k + 1) (mem_codes h1 h8) (mem_codes (by omega) (by omega))
    by_cases e : c = k + 1
    · rw [decide_eq_true e] at his
      have HIS := hide his
      clear his
      have HE := hide e
      clear e
      go_wp2_with (go_at_call 55; refine HIS.out.mono ?_; rintro e w2 ⟨rfl, rfl⟩)
      go_ret2
      refine ⟨?_, ?_⟩
      · have := HE.out
        subst this
        rfl
      · exact (below_alloc' hB0 _).trans (hB.mono (by have := hB0.size; omega))
    · rw [decide_eq_false e] at his
      have HIS := hide his
      clear his
      have hk2 : k + 1 < c := by omega
      clear e
      go_wp2_with (go_at_call 55; refine HIS.out.mono ?_; rintro e w2 ⟨rfl, rfl⟩)
      go_roundw
      case rel => exact ⟨k + 1, hk2, by go_num, rfl, hB⟩
      case measure => simp [intOf]; omega

set_option maxHeartbeats 4000000 in
theorem code_fault (w : World) (a : Nat → Addr) (hS : Sent codes w a) (hH : Handle w) (c : Nat) (h1 : 1 ≤ c) (h8 : c ≤ 8) (pb po : Nat) (at_ : Int) (hpb : pb < w.heap.size) (hat : w.cell? ⟨pb, po, none⟩ = some (.int .i64 at_)) (herr : w.cell? ⟨pb, po + 1, none⟩ = some (.iface 155 (.pointer (some (a c))))) :
    Calls Tryd.prog 45 #[.iface 75 (.pointer (some ⟨pb, po, none⟩))] w fun e w' => e = .returned (.tuple #[.int .i64 c, .int .i64 at_]) ∧ Below w.heap.size w w' := by
  have has := as_fault ⟨pb, po, none⟩ ⟨w.heap.size, 0, none⟩ (.pointer none) (w.alloc (.cells #[.pointer none] 75)) (hH.below (below_alloc' (Below.refl _ _) _)) (by simp) (by simp)
  have HAS := hide has
  clear has
  have hn := fun X => run_eql_iface_nil_left (P := Tryd.prog) X 75 (.pointer (some ⟨pb, po, none⟩)) Tryd.underlying27
  go_enter Tryd.func45, Tryd.ntmps45
  go_wp2_with
    (go_at_call 54
     refine HAS.out.mono ?_
     rintro e w1 ⟨rfl, hw1⟩
     have hB0 : Below w.heap.size w w1 := by
       rw [hw1]
       refine Below.setCell ?_ (by simp) _
       exact below_alloc' (below_alloc' (below_alloc' (below_alloc' (below_alloc' (Below.refl _ _) _) _) _) _) _
     have hf1 : w1.cell? ⟨w.heap.size, 0, none⟩ = some (.pointer (some ⟨pb, po, none⟩)) := by
       rw [hw1, World.cell?_setCell_same (u := .pointer none)]
       rw [World.cell?_alloc_lt _ _ ⟨w.heap.size, 0, none⟩ (by simp; omega), World.cell?_alloc_lt _ _ ⟨w.heap.size, 0, none⟩ (by simp; omega), World.cell?_alloc_lt _ _ ⟨w.heap.size, 0, none⟩ (by simp; omega), World.cell?_alloc_lt _ _ ⟨w.heap.size, 0, none⟩ (by simp)]
       simp
     clear hw1
     have hat1 : w1.cell? ⟨pb, po, none⟩ = some (.int .i64 at_) := (hB0.cell (p := ⟨pb, po, none⟩) hpb).trans hat
     have hS1 := hS.below hB0
     have e1 := hS1.cell 1 (by decide)
     have e2 := hS1.cell 2 (by decide)
     have e3 := hS1.cell 3 (by decide)
     have e4 := hS1.cell 4 (by decide)
     have e5 := hS1.cell 5 (by decide)
     have e6 := hS1.cell 6 (by decide)
     have e7 := hS1.cell 7 (by decide)
     have e8 := hS1.cell 8 (by decide)
     simp only [glob] at e1 e2 e3 e4 e5 e6 e7 e8)
  clear e1 e2 e3 e4 e5 e6 e7 e8
  go_loopw [3, 26] (fun at3 i wr => ∃ k : Nat, k < c ∧ i = .int .i64 k ∧ at3 = .int .i64 at_ ∧ Below (w1.heap.size + 1) (w1.alloc (.cells #[.iface 155 (.pointer (some (a 1))), .iface 155 (.pointer (some (a 2))), .iface 155 (.pointer (some (a 3))), .iface 155 (.pointer (some (a 4))), .iface 155 (.pointer (some (a 5))), .iface 155 (.pointer (some (a 6))), .iface 155 (.pointer (some (a 7))), .iface 155 (.pointer (some (a 8)))] 27)) wr) (fun _ i _ => 8 - (intOf i).toNat)
  case atStart => exact ⟨0, by omega, rfl, rfl, Below.refl _ _⟩
  case round =>
    obtain ⟨k, hk, rfl, rfl, hB⟩ := hrel
    have hcell : wr.cell? ⟨w1.heap.size, k, none⟩ = some (.iface 155 (.pointer (some (a (k + 1))))) := by
      rw [hB.cell (p := ⟨w1.heap.size, k, none⟩) (by show w1.heap.size < _; omega), World.cell?_alloc_at _ _ _ _ rfl]
      have hk8 : k < 8 := by omega
      clear hk hB
      match k, hk8 with
      | 0, _ => rfl
      | 1, _ => rfl
      | 2, _ => rfl
      | 3, _ => rfl
      | 4, _ => rfl
      | 5, _ => rfl
      | 6, _ => rfl
      | 7, _ => rfl
    have hSr : Sent codes wr a := hS.below (below_trans (below_alloc' hB0 _) (hB.mono (by simp)))
    have herr1 : wr.cell? ⟨pb, po + 1, none⟩ = some (.iface 155 (.pointer (some (a c)))) := ((below_trans (below_alloc' hB0 _) (hB.mono (by simp))).cell (p := ⟨pb, po + 1, none⟩) hpb).trans herr
    have his := is_fault wr a hSr pb po c (k + 1) (mem_codes h1 h8) (mem_codes (by omega) (by omega)) herr1
    clear herr1
    by_cases e : c = k + 1
    · rw [decide_eq_true e] at his
      have HIS := hide his
      clear his
      have HE := hide e
      clear e
      go_wp2_with (go_at_call 55; refine HIS.out.mono ?_; rintro e w2 ⟨rfl, rfl⟩)
      go_ret2
      refine ⟨?_, ?_⟩
      · have := HE.out
        subst this
        rfl
      · exact (below_alloc' hB0 _).trans (hB.mono (by have := hB0.size; omega))
    · rw [decide_eq_false e] at his
      have HIS := hide his
      clear his
      have hk2 : k + 1 < c := by omega
      clear e
      go_wp2_with (go_at_call 55; refine HIS.out.mono ?_; rintro e w2 ⟨rfl, rfl⟩)
      go_roundw
      case rel => exact ⟨k + 1, hk2, by go_num, rfl, hB⟩
      case measure => simp [intOf]; omega

set_option maxHeartbeats 1000000 in
/-- coded: is the error's code this one? -/
theorem coded_any (w : World) (a : Nat → Addr) (hS : Sent codes w a) (hH : Handle w) (c : Nat) (hc : c ≤ 8) (x : Int) :
    Calls Tryd.prog 19 #[errC a c, .int .i64 x] w fun e w' => e = .returned (.bool (decide ((c : Int) = x))) ∧ Below w.heap.size w w' := by
  by_cases h0 : c = 0
  · subst h0
    have e0 : errC a ((0 : Nat) : Int) = .nilIface := rfl
    rw [e0]
    by_cases hx : x = 0
    · subst hx
      go_enter Tryd.func19, Tryd.ntmps19
      go_wp2_with (go_at_call 45; refine (code_nil _).mono ?_; rintro e w' ⟨rfl, rfl⟩)
      go_ret
      exact ⟨rfl, Below.refl _ _⟩
    · have h1 : (0 == x) = false := by simpa using fun h : 0 = x => hx h.symm
      have h2 : decide (((0 : Nat) : Int) = x) = false := decide_eq_false (fun h => hx h.symm)
      rw [h2]
      clear hx h2
      go_enter Tryd.func19, Tryd.ntmps19
      go_wp2_with (go_at_call 45; refine (code_nil _).mono ?_; rintro e w' ⟨rfl, rfl⟩)
      go_ret
      exact ⟨rfl, Below.refl _ _⟩
  · have e0 : errC a (c : Int) = .iface 155 (.pointer (some (a c))) := by unfold errC; rw [if_neg (by omega)]; rfl
    rw [e0]
    have hcode := code_sent w a hS hH c (by omega) hc
    have HC := hide hcode
    clear hcode e0 h0
    generalize a c = a0 at HC ⊢
    have hcc : ∃ y : Int, y = (c : Int) := ⟨_, rfl⟩
    obtain ⟨y, hy⟩ := hcc
    rw [← hy] at HC ⊢
    clear hy hc
    by_cases hx : y = x
    · subst hx
      rw [decide_eq_true rfl]
      go_enter Tryd.func19, Tryd.ntmps19
      go_wp2_with (go_at_call 45; refine HC.out.mono ?_; rintro e w' ⟨rfl, hb⟩)
      go_ret
      exact ⟨rfl, hb⟩
    · have h1 : (y == x) = false := by simpa using hx
      rw [decide_eq_false hx]
      clear hx
      go_enter Tryd.func19, Tryd.ntmps19
      go_wp2_with (go_at_call 45; refine HC.out.mono ?_; rintro e w' ⟨rfl, hb⟩)
      go_ret
      exact ⟨rfl, hb⟩
end Go.Proofs.YtcnecmcbjpehcaaDoor

/- The walk of demonref1.SameInts. No condition. -/
namespace Go.Proofs.YtcnecmcbjpehcaaDoor
open Go.RowKit Go.Deep

/-- two lists are alike ahead of place k -/
structure AlikeTo (l m : List Int) (k : Nat) : Prop where
  out : ∀ j, j < k → l.getD j 0 = m.getD j 0
theorem AlikeTo.zero (l m : List Int) : AlikeTo l m 0 := ⟨fun j h => absurd h (by omega)⟩
theorem AlikeTo.succ {l m : List Int} {k : Nat} (h : AlikeTo l m k) (hk : l.getD k 0 = m.getD k 0) : AlikeTo l m (k + 1) :=
  ⟨fun j hj => by
    by_cases e : j = k
    · rw [e]; exact hk
    · exact h.out j (by omega)⟩
theorem AlikeTo.eq {l m : List Int} (h : AlikeTo l m l.length) (hl : l.length = m.length) : l = m := by
  apply List.ext_getElem hl
  intro i h1 h2
  have := h.out i h1
  simpa [List.getD_eq_getElem?_getD, h1, h2] using this

set_option maxHeartbeats 1000000 in
theorem same_any (A B : Option Addr) (l m : List Int) (c d : Nat) (w : World) (hA : Ints w A l) (hB : Ints w B m) :
    Calls Tryd.prog 25 #[.slice A l.length c, .slice B m.length d] w fun e w' => e = .returned (.bool (decide (l = m))) ∧ Below w.heap.size w w' := by
  have hl := hA.len
  have hm := hB.len
  by_cases he : l.length = m.length
  · have HE := hide he
    have h1 : ((l.length : Int) != (m.length : Int)) = false := by rw [he]; simp
    have h2 : (l.length != m.length) = false := by rw [he]; simp
    clear he
    go_enter Tryd.func25, Tryd.ntmps25
    go_wp2
    go_loopw [5] (fun i wr => ∃ k : Nat, k ≤ l.length ∧ i = .int .i64 k ∧ AlikeTo l m k ∧ Below w.heap.size w wr) (fun i _ => l.length - (intOf i).toNat)
    case atStart => exact ⟨0, Nat.zero_le _, rfl, AlikeTo.zero _ _, Below.refl _ _⟩
    case round =>
      obtain ⟨k, hk, rfl, ha, hb⟩ := hrel
      by_cases hlt : k < l.length
      · have hlt2 : k < m.length := by rw [← HE.out]; exact hlt
        obtain ⟨b, o, rfl, hbl, c1⟩ := (hA.below hb).at_ k hlt
        obtain ⟨b', o', rfl, hbl', c2⟩ := (hB.below hb).at_ k hlt2
        by_cases hx : l.getD k 0 = m.getD k 0
        · have ha' := ha.succ hx
          have hx' : ((l.getD k 0) != (m.getD k 0)) = false := by rw [hx]; simp
          generalize l.getD k 0 = x at c1 hx'
          generalize m.getD k 0 = y at c2 hx'
          clear hx
          go_wp2
          go_quiet (fail)
          go_wp2
          go_roundw
          case rel => exact ⟨k + 1, by omega, by go_num, ha', below_drewN' hb _⟩
          case measure => simp [intOf]; omega
        · have hne : l ≠ m := fun e => hx (by rw [e])
          have hx' : ((l.getD k 0) != (m.getD k 0)) = true := by simpa using hx
          generalize l.getD k 0 = x at c1 hx'
          generalize m.getD k 0 = y at c2 hx'
          clear hx
          go_wp2
          go_quiet (fail)
          go_wp2
          go_ret
          exact ⟨ret_bool (decide_eq_false hne).symm, below_drewN' hb _⟩
      · obtain rfl : k = l.length := by omega
        have heq := ha.eq HE.out
        have HQ := hide (decide_eq_true heq)
        clear heq
        go_wp2
        go_ret
        exact ⟨ret_bool HQ.out.symm, hb⟩
  · have h1 : ((l.length : Int) != (m.length : Int)) = true := by rw [bne_iff_ne]; omega
    have h2 : (l.length != m.length) = true := by rw [bne_iff_ne]; exact he
    have hne : l ≠ m := fun e => he (by rw [e])
    have HQ := hide (decide_eq_false hne)
    clear he hne
    go_enter Tryd.func25, Tryd.ntmps25
    go_wp2
    go_ret
    exact ⟨ret_bool HQ.out.symm, Below.refl _ _⟩
end Go.Proofs.YtcnecmcbjpehcaaDoor

/- The walks of order.lists, Above, the closed fact unlike, and of the law OrderAbove. Condition: the variables read as laid. -/
namespace Go.Proofs.YtcnecmcbjpehcaaDoor
open Go.RowKit Go.Deep Go.Proofs.YtcnecmcbjpehcaaDoorW.PrintWords

set_option maxHeartbeats 2000000 in
theorem lists_any (A B : Option Addr) (p q : List Int) (c d : Nat) (w : World) (a : Nat → Addr) (hE : Env [2, 3] w a) (hA : Ints w A p) (hB : Ints w B q) (hc : p.length ≤ c) (hd : q.length ≤ d) :
    Calls Tryd.prog 43 #[.slice A p.length c, .slice B q.length d] w fun e w' => e = .returned (errC a (lErr p q)) ∧ Below w.heap.size w w' := by
  have HN1 := hide (fun w' (hb : Below w.heap.size w w') => numbers_any A p c w' (hA.below hb))
  have HN2 := hide (fun w' (hb : Below w.heap.size w w') => numbers_any B q d w' (hB.below hb))
  have HEN := hide (fun w' (hb : Below w.heap.size w w') => (⟨(hE.below hb).cell 2 (by decide), (hE.below hb).cell 3 (by decide)⟩ : w'.cell? ⟨glob 2, 0, none⟩ = _ ∧ w'.cell? ⟨glob 3, 0, none⟩ = _))
  simp only [glob] at HEN
  obtain ⟨y2, y3⟩ := HEN.out w (Below.refl _ _)
  have hlen := hA.len
  have hlenb := hB.len
  obtain ⟨r, hr⟩ : ∃ r, lErr p q = r := ⟨_, rfl⟩
  rw [hr]
  unfold lErr at hr
  by_cases c1 : 16 < (p.length : Int)
  · rw [if_pos (.inl (by omega))] at hr
    subst hr
    go_enter Tryd.func43, Tryd.ntmps43
    go_wp2_with (first
      | (go_at_call 46; refine Calls.mono (HN1.out _ (Below.refl _ _)) ?_; rintro e w1 ⟨rfl, hB1⟩; obtain ⟨k12, k13⟩ := HEN.out w1 hB1; clear HN1)
      | (go_at_call 46; refine Calls.mono (HN2.out w1 hB1) ?_; rintro e w2 ⟨rfl, b2⟩; have hB2 := below_trans hB1 b2; obtain ⟨k22, k23⟩ := HEN.out w2 hB2)
      | (go_at_call 41; refine Calls.mono (HT1.out w2 hB2) ?_; rintro e w3 ⟨rfl, b3⟩; have hB3 := below_trans hB2 b3; clear HT1)
      | (go_at_call 41; refine Calls.mono (HT2.out w3 hB3) ?_; rintro e w4 ⟨rfl, b4⟩; have hB4 := below_trans hB3 b4; obtain ⟨k42, k43⟩ := HEN.out w4 hB4))
    go_ret
    exact ⟨rfl, Below.refl _ _⟩
  by_cases c2 : 16 < (q.length : Int)
  · rw [if_pos (.inr (by omega))] at hr
    subst hr
    go_enter Tryd.func43, Tryd.ntmps43
    go_wp2_with (first
      | (go_at_call 46; refine Calls.mono (HN1.out _ (Below.refl _ _)) ?_; rintro e w1 ⟨rfl, hB1⟩; obtain ⟨k12, k13⟩ := HEN.out w1 hB1; clear HN1)
      | (go_at_call 46; refine Calls.mono (HN2.out w1 hB1) ?_; rintro e w2 ⟨rfl, b2⟩; have hB2 := below_trans hB1 b2; obtain ⟨k22, k23⟩ := HEN.out w2 hB2)
      | (go_at_call 41; refine Calls.mono (HT1.out w2 hB2) ?_; rintro e w3 ⟨rfl, b3⟩; have hB3 := below_trans hB2 b3; clear HT1)
      | (go_at_call 41; refine Calls.mono (HT2.out w3 hB3) ?_; rintro e w4 ⟨rfl, b4⟩; have hB4 := below_trans hB3 b4; obtain ⟨k42, k43⟩ := HEN.out w4 hB4))
    go_ret
    exact ⟨rfl, Below.refl _ _⟩
  rw [if_neg (by omega)] at hr
  by_cases c3 : p.length = 0
  · have b3 : ((p.length : Int) == 0) = true := by rw [beq_iff_eq]; omega
    rw [if_neg (fun g => g.2.2.1 c3)] at hr
    subst hr
    have C3 := hide c3
    clear c3
    go_enter Tryd.func43, Tryd.ntmps43
    go_wp2_with (first
      | (go_at_call 46; refine Calls.mono (HN1.out _ (Below.refl _ _)) ?_; rintro e w1 ⟨rfl, hB1⟩; obtain ⟨k12, k13⟩ := HEN.out w1 hB1; clear HN1)
      | (go_at_call 46; refine Calls.mono (HN2.out w1 hB1) ?_; rintro e w2 ⟨rfl, b2⟩; have hB2 := below_trans hB1 b2; obtain ⟨k22, k23⟩ := HEN.out w2 hB2)
      | (go_at_call 41; refine Calls.mono (HT1.out w2 hB2) ?_; rintro e w3 ⟨rfl, b3⟩; have hB3 := below_trans hB2 b3; clear HT1)
      | (go_at_call 41; refine Calls.mono (HT2.out w3 hB3) ?_; rintro e w4 ⟨rfl, b4⟩; have hB4 := below_trans hB3 b4; obtain ⟨k42, k43⟩ := HEN.out w4 hB4))
    go_ret
    exact ⟨rfl, Below.refl _ _⟩
  have b3 : ((p.length : Int) == 0) = false := by rw [beq_eq_false_iff_ne]; omega
  by_cases c4 : (p.length : Int) = q.length
  · have b4 : ((p.length : Int) != (q.length : Int)) = false := by rw [c4]; simp
    cases n1 : numb p
    · rw [n1] at HN1
      rw [if_neg (fun g => by rw [n1] at g; exact absurd g.1 (by decide))] at hr
      subst hr
      have C4 := hide c4
      clear c4 n1
      go_enter Tryd.func43, Tryd.ntmps43
      go_wp2_with (first
        | (go_at_call 46; refine Calls.mono (HN1.out _ (Below.refl _ _)) ?_; rintro e w1 ⟨rfl, hB1⟩; obtain ⟨k12, k13⟩ := HEN.out w1 hB1; clear HN1)
        | (go_at_call 46; refine Calls.mono (HN2.out w1 hB1) ?_; rintro e w2 ⟨rfl, b2⟩; have hB2 := below_trans hB1 b2; obtain ⟨k22, k23⟩ := HEN.out w2 hB2)
        | (go_at_call 41; refine Calls.mono (HT1.out w2 hB2) ?_; rintro e w3 ⟨rfl, b3⟩; have hB3 := below_trans hB2 b3; clear HT1)
        | (go_at_call 41; refine Calls.mono (HT2.out w3 hB3) ?_; rintro e w4 ⟨rfl, b4⟩; have hB4 := below_trans hB3 b4; obtain ⟨k42, k43⟩ := HEN.out w4 hB4))
      go_ret
      exact ⟨rfl, hB1⟩
    · cases n2 : numb q
      · rw [n1] at HN1
        rw [n2] at HN2
        rw [if_neg (fun g => by rw [n2] at g; exact absurd g.2.1 (by decide))] at hr
        subst hr
        have C4 := hide c4
        clear c4 n1 n2
        go_enter Tryd.func43, Tryd.ntmps43
        go_wp2_with (first
          | (go_at_call 46; refine Calls.mono (HN1.out _ (Below.refl _ _)) ?_; rintro e w1 ⟨rfl, hB1⟩; obtain ⟨k12, k13⟩ := HEN.out w1 hB1; clear HN1)
          | (go_at_call 46; refine Calls.mono (HN2.out w1 hB1) ?_; rintro e w2 ⟨rfl, b2⟩; have hB2 := below_trans hB1 b2; obtain ⟨k22, k23⟩ := HEN.out w2 hB2)
          | (go_at_call 41; refine Calls.mono (HT1.out w2 hB2) ?_; rintro e w3 ⟨rfl, b3⟩; have hB3 := below_trans hB2 b3; clear HT1)
          | (go_at_call 41; refine Calls.mono (HT2.out w3 hB3) ?_; rintro e w4 ⟨rfl, b4⟩; have hB4 := below_trans hB3 b4; obtain ⟨k42, k43⟩ := HEN.out w4 hB4))
        go_ret
        exact ⟨rfl, hB2⟩
      · have HT1 := hide (fun w' (hb : Below w.heap.size w w') => total_ok A p c w' (hA.below hb) hc (numb_small n1 (by omega)))
        have HT2 := hide (fun w' (hb : Below w.heap.size w w') => total_ok B q d w' (hB.below hb) hd (numb_small n2 (by omega)))
        rw [n1] at HN1
        rw [n2] at HN2
        by_cases c5 : p.sum = q.sum
        · have b5 : (p.sum != q.sum) = false := by rw [c5]; simp
          rw [if_pos ⟨n1, n2, c3, by omega, c5⟩] at hr
          subst hr
          have C4 := hide c4
          have C5 := hide c5
          clear c4 c5 n1 n2 c3
          go_enter Tryd.func43, Tryd.ntmps43
          go_wp2_with (first
            | (go_at_call 46; refine Calls.mono (HN1.out _ (Below.refl _ _)) ?_; rintro e w1 ⟨rfl, hB1⟩; obtain ⟨k12, k13⟩ := HEN.out w1 hB1; clear HN1)
            | (go_at_call 46; refine Calls.mono (HN2.out w1 hB1) ?_; rintro e w2 ⟨rfl, b2⟩; have hB2 := below_trans hB1 b2; obtain ⟨k22, k23⟩ := HEN.out w2 hB2)
            | (go_at_call 41; refine Calls.mono (HT1.out w2 hB2) ?_; rintro e w3 ⟨rfl, b3⟩; have hB3 := below_trans hB2 b3; clear HT1)
            | (go_at_call 41; refine Calls.mono (HT2.out w3 hB3) ?_; rintro e w4 ⟨rfl, b4⟩; have hB4 := below_trans hB3 b4; obtain ⟨k42, k43⟩ := HEN.out w4 hB4))
          go_ret
          exact ⟨rfl, hB4⟩
        · have b5 : (p.sum != q.sum) = true := by rw [bne_iff_ne]; exact c5
          rw [if_neg (fun g => c5 g.2.2.2.2)] at hr
          subst hr
          have C4 := hide c4
          clear c4 c5 n1 n2 c3
          go_enter Tryd.func43, Tryd.ntmps43
          go_wp2_with (first
            | (go_at_call 46; refine Calls.mono (HN1.out _ (Below.refl _ _)) ?_; rintro e w1 ⟨rfl, hB1⟩; obtain ⟨k12, k13⟩ := HEN.out w1 hB1; clear HN1)
            | (go_at_call 46; refine Calls.mono (HN2.out w1 hB1) ?_; rintro e w2 ⟨rfl, b2⟩; have hB2 := below_trans hB1 b2; obtain ⟨k22, k23⟩ := HEN.out w2 hB2)
            | (go_at_call 41; refine Calls.mono (HT1.out w2 hB2) ?_; rintro e w3 ⟨rfl, b3⟩; have hB3 := below_trans hB2 b3; clear HT1)
            | (go_at_call 41; refine Calls.mono (HT2.out w3 hB3) ?_; rintro e w4 ⟨rfl, b4⟩; have hB4 := below_trans hB3 b4; obtain ⟨k42, k43⟩ := HEN.out w4 hB4))
          go_ret
          exact ⟨rfl, hB4⟩
  · have b4 : ((p.length : Int) != (q.length : Int)) = true := by rw [bne_iff_ne]; exact c4
    rw [if_neg (fun g => c4 (by have := g.2.2.2.1; omega))] at hr
    subst hr
    go_enter Tryd.func43, Tryd.ntmps43
    go_wp2_with (first
      | (go_at_call 46; refine Calls.mono (HN1.out _ (Below.refl _ _)) ?_; rintro e w1 ⟨rfl, hB1⟩; obtain ⟨k12, k13⟩ := HEN.out w1 hB1; clear HN1)
      | (go_at_call 46; refine Calls.mono (HN2.out w1 hB1) ?_; rintro e w2 ⟨rfl, b2⟩; have hB2 := below_trans hB1 b2; obtain ⟨k22, k23⟩ := HEN.out w2 hB2)
      | (go_at_call 41; refine Calls.mono (HT1.out w2 hB2) ?_; rintro e w3 ⟨rfl, b3⟩; have hB3 := below_trans hB2 b3; clear HT1)
      | (go_at_call 41; refine Calls.mono (HT2.out w3 hB3) ?_; rintro e w4 ⟨rfl, b4⟩; have hB4 := below_trans hB3 b4; obtain ⟨k42, k43⟩ := HEN.out w4 hB4))
    go_ret
    exact ⟨rfl, Below.refl _ _⟩
theorem lErr_zero {p q : List Int} (h : lErr p q = 0) : (p.length ≤ 16 ∧ q.length ≤ 16) ∧ numb p = true ∧ numb q = true ∧ 0 < p.length ∧ p.length = q.length ∧ p.sum = q.sum := by
  unfold lErr at h
  by_cases c1 : 16 < p.length ∨ 16 < q.length
  · rw [if_pos c1] at h; cases h
  · rw [if_neg c1] at h
    rcases Classical.em (numb p = true ∧ numb q = true ∧ p.length ≠ 0 ∧ p.length = q.length ∧ p.sum = q.sum) with g | g
    · exact ⟨by omega, g.1, g.2.1, by have := g.2.2.1; omega, g.2.2.2.1, g.2.2.2.2⟩
    · rw [if_neg g] at h; cases h
theorem lErr_nat (p q : List Int) : ∃ c : Nat, lErr p q = (c : Int) ∧ c ≤ 8 := by
  unfold lErr
  split
  · exact ⟨2, rfl, by decide⟩
  · split
    · exact ⟨0, rfl, by decide⟩
    · exact ⟨3, rfl, by decide⟩
theorem errC_pos' (a : Nat → Addr) {c : Int} (h : c ≠ 0) : errC a c = .iface 155 (.pointer (some (a c.toNat))) := by unfold errC; rw [if_neg h]; rfl
/-- order.Above at right lists -/
theorem aboveP_ok (A B : Option Addr) (p q : List Int) (c d : Nat) (w : World) (a : Nat → Addr) (hE : Env [2, 3] w a) (hA : Ints w A p) (hB : Ints w B q) (hc : p.length ≤ c) (hd : q.length ≤ d) (h0 : lErr p q = 0) :
    Calls Tryd.prog 17 #[.slice A p.length c, .slice B q.length d] w fun e w' => e = .returned (.tuple #[.bool (aboveB p q), .nilIface]) ∧ Below w.heap.size w w' := by
  obtain ⟨h1, n1, n2, h2, h3, _⟩ := lErr_zero h0
  have hl := lists_any A B p q c d w a hE hA hB hc hd
  rw [h0, errC_zero] at hl
  have HL := hide hl
  have HAB := hide (fun w' (hb : Below w.heap.size w w') => above_ok A B p q c d w' (hA.below hb) (hB.below hb) (numb_small n1 (by omega)) (numb_small n2 (by omega)) h2 h3)
  clear hl h0 h1 n1 n2 h2 h3
  generalize aboveB p q = r at HAB ⊢
  go_enter Tryd.func17, Tryd.ntmps17
  go_wp2_with (first
    | (go_at_call 43; refine Calls.mono HL.out ?_; rintro e w1 ⟨rfl, b1⟩)
    | (go_at_call 44; refine Calls.mono (HAB.out w1 b1) ?_; rintro e w2 ⟨rfl, b2⟩; have hB2 := below_trans b1 b2))
  go_ret2
  exact ⟨rfl, hB2⟩
theorem aboveP_err (A B : Option Addr) (p q : List Int) (c d : Nat) (w : World) (a : Nat → Addr) (hE : Env [2, 3] w a) (hA : Ints w A p) (hB : Ints w B q) (hc : p.length ≤ c) (hd : q.length ≤ d) (h0 : lErr p q ≠ 0) :
    Calls Tryd.prog 17 #[.slice A p.length c, .slice B q.length d] w fun e w' => e = .returned (.tuple #[.bool false, errC a (lErr p q)]) ∧ Below w.heap.size w w' := by
  have hl := lists_any A B p q c d w a hE hA hB hc hd
  rw [errC_pos' a h0] at hl ⊢
  generalize a (lErr p q).toNat = x at hl ⊢
  have HL := hide hl
  clear hl h0
  go_enter Tryd.func17, Tryd.ntmps17
  go_wp2_with (go_at_call 43; refine Calls.mono HL.out ?_; rintro e w1 ⟨rfl, b1⟩)
  go_ret2
  exact ⟨rfl, b1⟩
theorem Ints.lit (w : World) (l : List Int) (t : TypeId) (hl : l.length ≤ 9223372036854775807) : Ints (w.alloc (.cells (intCells l).toArray t)) (some ⟨w.heap.size, 0, none⟩) l :=
  ⟨hl, fun i hi => ⟨w.heap.size, 0, rfl, by simp, by
    have := intCells_at l i hi
    simpa using this⟩⟩
theorem unlike_fact : lErr [0, 4] [2, 2] = 0 := by decide +kernel
theorem sorted_two {x y : Int} (h : x ≤ y) (l : List Int) (hl : l = [x, y]) : falls l = [y, x] := by
  subst hl
  exact (falls_unique (l := [x, y]) (m := [y, x]) (List.Perm.swap _ _ _) (by simp [h])).symm
theorem unlike_above : aboveB [0, 4] [2, 2] = true := by
  unfold aboveB
  rw [sorted_two (by decide : (0 : Int) ≤ 4) _ rfl, sorted_two (by decide : (2 : Int) ≤ 2) _ rfl]
  decide +kernel
theorem unlike_any (w : World) (a : Nat → Addr) (hE : Env [2, 3] w a) :
    Calls Tryd.prog 10 #[] w fun e w' => e = .returned (.bool true) ∧ Below w.heap.size w w' := by
  have h1 := Ints.lit w [0, 4] 3 (by decide)
  have h2 := Ints.lit (w.alloc (.cells #[.int .i64 0, .int .i64 4] 3)) [2, 2] 3 (by decide)
  have hB : Below w.heap.size w ((w.alloc (.cells #[.int .i64 0, .int .i64 4] 3)).alloc (.cells #[.int .i64 2, .int .i64 2] 3)) := below_alloc' (below_alloc' (Below.refl _ _) _) _
  have hp := aboveP_ok (some ⟨w.heap.size, 0, none⟩) (some ⟨w.heap.size + 1, 0, none⟩) [0, 4] [2, 2] 2 2 ((w.alloc (.cells #[.int .i64 0, .int .i64 4] 3)).alloc (.cells #[.int .i64 2, .int .i64 2] 3)) a (hE.below hB) (h1.below (below_alloc' (Below.refl _ _) _)) (by simpa [intCells] using h2) (by decide) (by decide) unlike_fact
  rw [unlike_above] at hp
  have HP := hide hp
  have HB := hide hB
  clear hp hB h1 h2
  go_enter Tryd.func10, Tryd.ntmps10
  go_wp2_with (go_at_call 17; refine Calls.mono HP.out ?_; rintro e w4 ⟨rfl, hb4⟩)
  go_ret
  exact ⟨rfl, below_trans HB.out hb4⟩
theorem ints_ok (A : Option Addr) (l : List Int) (c : Nat) (w : World) (hA : Ints w A l) (hc : l.length ≤ c) (hl : l.length ≤ 2000000) :
    Calls Tryd.prog 18 #[.slice A l.length c] w fun e w' => RetInts l w e w' := by
  refine (POrderAbove.demonlaw4_ints.calls A c l l w hA.toC hc (by unfold POrderAbove.demonlaw4_ints.f; simp; omega)).mono ?_
  rintro e w' ⟨v, rfl, hR, hb⟩
  obtain ⟨B, d, rfl, hI, hd⟩ := Ints.ofR hR
  exact ⟨B, d, rfl, hI, hd, hb⟩
theorem listsError_ok (A B : Option Addr) (p q : List Int) (c d : Nat) (w : World) (hA : Ints w A p) (hB : Ints w B q) (hc : p.length ≤ c) (hd : q.length ≤ d) (hp : p.length ≤ 2000000) (hq : q.length ≤ 2000000) :
    Calls Tryd.prog 16 #[.slice A p.length c, .slice B q.length d] w fun e w' => e = .returned (.int .i64 (lErr p q)) ∧ Below w.heap.size w w' := by
  obtain ⟨k, hk⟩ := (listsError_f p q hp hq).rounds
  refine (POrderAbove.demonref4_ListsError.calls k A c p B d q (lErr p q) w hA.toC hc hB.toC hd hk).mono ?_
  rintro e w' ⟨rfl, h⟩
  exact ⟨rfl, drawn_below h⟩
theorem isAbove_ok (A B : Option Addr) (p q : List Int) (c d : Nat) (w : World) (hA : Ints w A p) (hB : Ints w B q) (hc : p.length ≤ c) (hd : q.length ≤ d) (h0 : lErr p q = 0) :
    Calls Tryd.prog 20 #[.slice A p.length c, .slice B q.length d] w fun e w' => e = .returned (.bool (aboveB p q)) ∧ Below w.heap.size w w' := by
  obtain ⟨h1, n1, n2, h2, h3, _⟩ := lErr_zero h0
  obtain ⟨k, hk⟩ := (isAbove_f (numb_small n1 (by omega)) (numb_small n2 (by omega)) h3).rounds
  exact POrderAbove.demonref4_IsAbove.calls k A c p B d q (aboveB p q) w hA.toC hc hB.toC hd hk
theorem sub23 {c : Nat} (h : c ∈ [2, 3]) : c ∈ codes := by
  simp at h
  rcases h with rfl | rfl <;> simp [codes]

set_option maxRecDepth 100000 in
set_option maxHeartbeats 8000000 in
theorem law_above (A B : Option Addr) (p q : List Int) (c d : Nat) (w : World) (a : Nat → Addr) (hS : Sent codes w a) (hH : Handle w) (hA : Ints w A p) (hB : Ints w B q) (hc : p.length ≤ c) (hd : q.length ≤ d) :
    Calls Tryd.prog 4 #[.slice A p.length c, .slice B q.length d] w fun e w' => e = .returned (.bool true) ∧ Below w.heap.size w w' := by
  have hlen := hA.len
  have hlenb := hB.len
  have HE : Hid (∀ w', Below w.heap.size w w' → Env [2, 3] w' a) := hide fun w' hb => (hS.toEnv.sub (fun c h => sub23 h)).below hb
  have HUN := hide (fun w' (hb : Below w.heap.size w w') => unlike_any w' a (HE.out w' hb))
  by_cases hl1 : 200 < (p.length : Int)
  · go_enter Tryd.func4, Tryd.ntmps4
    go_wp2_with (go_at_call 10; refine Calls.mono (HUN.out _ (Below.refl _ _)) ?_; rintro e w1 ⟨rfl, hB1⟩)
    go_ret
    exact ⟨rfl, hB1⟩
  by_cases hl2 : 200 < (q.length : Int)
  · go_enter Tryd.func4, Tryd.ntmps4
    go_wp2_with (go_at_call 10; refine Calls.mono (HUN.out _ (Below.refl _ _)) ?_; rintro e w1 ⟨rfl, hB1⟩)
    go_ret
    exact ⟨rfl, hB1⟩
  have HC1 := hide (fun w' (hb : Below w.heap.size w w') => ints_ok A p c w' (hA.below hb) hc (by omega))
  have HC2 := hide (fun w' (hb : Below w.heap.size w w') => ints_ok B q d w' (hB.below hb) hd (by omega))
  have HLE := hide (fun w' (hb : Below w.heap.size w w') => listsError_ok A B p q c d w' (hA.below hb) (hB.below hb) hc hd (by omega) (by omega))
  by_cases h0 : lErr p q = 0
  · have HIA := hide (fun w' (hb : Below w.heap.size w w') => isAbove_ok A B p q c d w' (hA.below hb) (hB.below hb) hc hd h0)
    have HAP := hide (fun (A' B' : Option Addr) (x y : Nat) w' (h1 : Ints w' A' p) (h2 : Ints w' B' q) (hx : p.length ≤ x) (hy : q.length ≤ y) (hb : Below w.heap.size w w') => aboveP_ok A' B' p q x y w' a (HE.out w' hb) h1 h2 hx hy h0)
    have HCD := hide (fun w' (hb : Below w.heap.size w w') => coded_any w' a (hS.below hb) (hH.below hb) 0 (by decide) 0)
    rw [h0] at HLE
    clear h0
    generalize aboveB p q = r at HIA HAP
    go_enter Tryd.func4, Tryd.ntmps4
    go_wp2_with (first
      | (go_at_call 10; refine Calls.mono (HUN.out _ (Below.refl _ _)) ?_; rintro e w1 ⟨rfl, hB1⟩)
      | (go_at_call 16; refine Calls.mono (HLE.out w1 hB1) ?_; rintro e w2 ⟨rfl, b2⟩; have hB2 := below_trans hB1 b2)
      | (go_at_call 18; refine Calls.mono (HC1.out w2 hB2) ?_; rintro e w3 ⟨A3, c3, rfl, hI3, hc3, b3⟩; have hB3 := below_trans hB2 b3; clear HC1)
      | (go_at_call 18; refine Calls.mono (HC2.out w3 hB3) ?_; rintro e w4 ⟨A4, c4, rfl, hI4, hc4, b4⟩; have hB4 := below_trans hB3 b4)
      | (go_at_call 17; refine Calls.mono (HAP.out A3 A4 c3 c4 w4 (hI3.below b4) hI4 hc3 hc4 hB4) ?_; rintro e w5 ⟨rfl, b5⟩; have hB5 := below_trans hB4 b5)
      | (go_at_call 19; refine Calls.mono (HCD.out w5 hB5) ?_; rintro e w6 ⟨rfl, b6⟩; have hB6 := below_trans hB5 b6)
      | (go_at_call 20; refine Calls.mono (HIA.out w6 hB6) ?_; rintro e w7 ⟨rfl, b7⟩; have hB7 := below_trans hB6 b7))
    go_ret
    exact ⟨by simp, hB7⟩
  · obtain ⟨cc, hc', hc8⟩ := lErr_nat p q
    have hc0 : 0 < cc := by
      rcases Nat.eq_zero_or_pos cc with h | h
      · subst h; exact absurd hc' h0
      · exact h
    have hap := fun (A' B' : Option Addr) (x y : Nat) w' (h1 : Ints w' A' p) (h2 : Ints w' B' q) (hx : p.length ≤ x) (hy : q.length ≤ y) (hb : Below w.heap.size w w') => aboveP_err A' B' p q x y w' a (HE.out w' hb) h1 h2 hx hy h0
    have hcd := fun w' (hb : Below w.heap.size w w') => coded_any w' a (hS.below hb) (hH.below hb) cc hc8 cc
    rw [hc'] at hap HLE
    rw [decide_eq_true rfl] at hcd
    have he : errC a (cc : Int) = .iface 155 (.pointer (some (a cc))) := errC_pos' a (by omega)
    rw [he] at hap hcd
    have HAP := hide hap
    have HCD := hide hcd
    clear hap hcd he hc' h0
    have hci : 0 < (cc : Int) := by omega
    have hcn : ((cc : Int) == 0) = false := by rw [beq_eq_false_iff_ne]; omega
    go_enter Tryd.func4, Tryd.ntmps4
    go_wp2_with (first
      | (go_at_call 10; refine Calls.mono (HUN.out _ (Below.refl _ _)) ?_; rintro e w1 ⟨rfl, hB1⟩)
      | (go_at_call 16; refine Calls.mono (HLE.out w1 hB1) ?_; rintro e w2 ⟨rfl, b2⟩; have hB2 := below_trans hB1 b2)
      | (go_at_call 18; refine Calls.mono (HC1.out w2 hB2) ?_; rintro e w3 ⟨A3, c3, rfl, hI3, hc3, b3⟩; have hB3 := below_trans hB2 b3; clear HC1)
      | (go_at_call 18; refine Calls.mono (HC2.out w3 hB3) ?_; rintro e w4 ⟨A4, c4, rfl, hI4, hc4, b4⟩; have hB4 := below_trans hB3 b4)
      | (go_at_call 17; refine Calls.mono (HAP.out A3 A4 c3 c4 w4 (hI3.below b4) hI4 hc3 hc4 hB4) ?_; rintro e w5 ⟨rfl, b5⟩; have hB5 := below_trans hB4 b5)
      | (go_at_call 19; refine Calls.mono (HCD.out w5 hB5) ?_; rintro e w6 ⟨rfl, b6⟩; have hB6 := below_trans hB5 b6))
    go_ret
    exact ⟨rfl, hB6⟩
end Go.Proofs.YtcnecmcbjpehcaaDoor

/- What a row's list of laid variables gives a walk: the sentinels' cells, their blocks, none twice, and the handle of the type error; the closing of a law's row. No condition. -/
namespace Go.Proofs.YtcnecmcbjpehcaaDoor
open Go.ChangeShapes Go.WideShapes Go.RowKit

theorem tr_own : ownKnob Tryd.prog.godebug = none := by kernel_rfl
theorem tr_laidOut : laidOutB Tryd.prog = true := by kernel_rfl
theorem tr_star : "*" ++ "errors.errorString" = "*errors.errorString" := by decide
theorem tr_row (u : TypeId) (h : Tryd.prog.typeName? 3 u = some "*errors.errorString") : u = 155 :=
  typeName_ptr_named (nm := "errors.errorString") (by rw [tr_star]; kernel_rfl) (by kernel_rfl) (by decide) u (by rw [tr_star]; exact h)
theorem tr_cells1 : Tryd.prog.cellsOf 178 = 1 := by kernel_rfl
theorem tr_cells2 : Tryd.prog.cellsOf 9 = 1 := by kernel_rfl

/-- a sentinel's datum -/
def sdat (x : String × List UInt8) : String × DataW Unit := (x.1, .iface "*errors.errorString" (.ptr (.agg [.lit (.string x.2)])))

theorem sents_gen {P : Program} {nm : String} {ti tp te ts : TypeId} {ms : Array (String × TypeId)} {f : Field} (hi : P.underlying ti = some (.interface ms)) (hrow : ∀ u, P.typeName? 3 u = some nm → u = tp)
    (hp : P.underlying tp = some (.pointer te)) (he : P.underlying te = some (.struct #[f])) (hft : f.type = ts) (hfo : f.offset = 0) (hs : P.underlying ts = some .string) (hc : P.cellsOf te = 1) (hcs : P.cellsOf ts = 1) {W : World} :
    ∀ (L : List (String × List UInt8)) (ps : List MemPlace), DataW.LaidVars P W (L.map fun x => (x.1, .iface nm (.ptr (.agg [.lit (.string x.2)])))) ps → ps.Nodup →
    (∀ b off, MemPlace.cell b off ∈ ps → (∃ c t, W.heap[b]? = some (.cells c t (0, 0))) ∧ ∀ u v, W.cell? ⟨b, off, none⟩ = some (.iface u v) → Value.okWide P W .any 0 u v) →
    (∀ x, x ∈ L → ∃ g, P.globalNamed x.1 = some g ∧ (P.globals[g]?).map (·.type) = some ti) →
    ∃ bs : List Addr, bs.length = L.length ∧ bs.Nodup ∧ (∀ b, b ∈ bs → MemPlace.cell b.block b.off ∈ ps) ∧ ∀ i (hi : i < L.length) (hj : i < bs.length), W.var? P (L[i]).1 = some #[.iface tp (.pointer (some bs[i]))] ∧ ∃ c t, W.heap[(bs[i]).block]? = some (.cells c t (0, 0))
  | [], _, _, _, _, _ => ⟨[], rfl, List.nodup_nil, fun b h => absurd h (by simp), fun i hi _ => absurd hi (by simp)⟩
  | x :: L, ps, hv, hnd, hrows, hg => by
    obtain ⟨g0, t0, cs0, f0, p0, q0, hg0, ht0, hv0, hd0, hrest, e0⟩ := hv
    subst e0
    obtain ⟨g, hg1, ht1⟩ := hg x (List.mem_cons_self ..)
    obtain rfl := Option.some.inj (hg1.symm.trans hg0)
    obtain rfl := Option.some.inj (ht1.symm.trans ht0)
    have hqnd : q0.Nodup := List.Nodup.sublist (List.sublist_append_right _ _) hnd
    obtain ⟨bs, hlen, hbnd, hmem, hall⟩ := sents_gen hi hrow hp he hft hfo hs hc hcs L q0 hrest hqnd (fun b off hm => hrows b off (List.mem_append_right _ hm)) (fun y hy => hg y (List.mem_cons_of_mem _ hy))
    obtain ⟨l0⟩ := cs0
    have ok0 : ∀ u v, l0 = [.iface u v] → Value.okWide P W .any 0 u v := fun u v e => by
      subst e
      exact (hrows g 0 (by simp [MemPlace.row])).2 u v (by simpa using World.var?_cell hg0 hv0 0)
    obtain ⟨a0, s0, rfl, hc0, hs0, hz0, rfl⟩ := errorString_of_trod hi hrow hp he hft hfo hs hc hcs hd0 ok0
    have ha0 : MemPlace.cell a0.block a0.off ∈ MemPlace.row a0 1 := by simp [MemPlace.row]
    refine ⟨a0 :: bs, by simp [hlen], ?_, ?_, ?_⟩
    · refine List.nodup_cons.2 ⟨fun hin => ?_, hbnd⟩
      have h1 := hmem a0 hin
      exact (List.nodup_append.1 hnd).2.2 _ (List.mem_append_right _ ha0) _ h1 rfl
    · intro b hb
      rcases List.mem_cons.1 hb with rfl | hb
      · exact List.mem_append_left _ (List.mem_append_right _ ha0)
      · exact List.mem_append_right _ (hmem b hb)
    · intro i hi hj
      cases i with
      | zero => exact ⟨hv0, (hrows a0.block a0.off (List.mem_append_left _ (List.mem_append_right _ ha0))).1⟩
      | succ i => exact hall i (by simpa using hi) (by simpa using hj)

theorem sents_of_vars {W : World} (L : List (String × List UInt8)) (ps : List MemPlace) (h : DataW.LaidVars Tryd.prog W (L.map sdat) ps) (hnd : ps.Nodup)
    (hrows : ∀ b off, MemPlace.cell b off ∈ ps → (∃ c t, W.heap[b]? = some (.cells c t (0, 0))) ∧ ∀ u v, W.cell? ⟨b, off, none⟩ = some (.iface u v) → Value.okWide Tryd.prog W .any 0 u v)
    (hg : ∀ x, x ∈ L → ∃ g, Tryd.prog.globalNamed x.1 = some g ∧ (Tryd.prog.globals[g]?).map (·.type) = some 27) :
    ∃ bs : List Addr, bs.length = L.length ∧ bs.Nodup ∧ (∀ b, b ∈ bs → MemPlace.cell b.block b.off ∈ ps) ∧ ∀ i (hi : i < L.length) (hj : i < bs.length), W.var? Tryd.prog (L[i]).1 = some #[.iface 155 (.pointer (some bs[i]))] ∧ ∃ c t, W.heap[(bs[i]).block]? = some (.cells c t (0, 0)) :=
  sents_gen Tryd.underlying27 tr_row Tryd.underlying155 Tryd.underlying178 rfl rfl Tryd.underlying9 tr_cells1 tr_cells2 L ps h hnd hrows hg

def names8 : List (String × List UInt8) := [("demon/api.ErrText", [100, 101, 109, 111, 110, 58, 32, 116, 101, 120, 116]), ("demon/api.ErrBound", [100, 101, 109, 111, 110, 58, 32, 98, 111, 117, 110, 100]),
  ("demon/api.ErrShape", [100, 101, 109, 111, 110, 58, 32, 115, 104, 97, 112, 101]), ("demon/api.ErrZero", [100, 101, 109, 111, 110, 58, 32, 122, 101, 114, 111]), ("demon/api.ErrName", [100, 101, 109, 111, 110, 58, 32, 110, 97, 109, 101]),
  ("demon/api.ErrNone", [100, 101, 109, 111, 110, 58, 32, 110, 111, 110, 101]), ("demon/api.ErrOrder", [100, 101, 109, 111, 110, 58, 32, 111, 114, 100, 101, 114]), ("demon/api.ErrKind", [100, 101, 109, 111, 110, 58, 32, 107, 105, 110, 100])]
theorem glob1 : Tryd.prog.globalNamed "demon/api.ErrText" = some 4 := by kernel_rfl
theorem glob2 : Tryd.prog.globalNamed "demon/api.ErrBound" = some 0 := by kernel_rfl
theorem glob3 : Tryd.prog.globalNamed "demon/api.ErrShape" = some 1 := by kernel_rfl
theorem glob4 : Tryd.prog.globalNamed "demon/api.ErrZero" = some 5 := by kernel_rfl
theorem glob5 : Tryd.prog.globalNamed "demon/api.ErrName" = some 6 := by kernel_rfl
theorem glob6 : Tryd.prog.globalNamed "demon/api.ErrNone" = some 3 := by kernel_rfl
theorem glob7 : Tryd.prog.globalNamed "demon/api.ErrOrder" = some 2 := by kernel_rfl
theorem glob8 : Tryd.prog.globalNamed "demon/api.ErrKind" = some 7 := by kernel_rfl
theorem globT (g : Nat) (h : g ∈ [4, 0, 1, 5, 6, 3, 2, 7]) : (Tryd.prog.globals[g]?).map (·.type) = some 27 := by
  have e : ([4, 0, 1, 5, 6, 3, 2, 7].map fun g => (Tryd.prog.globals[g]?).map (·.type)) = List.replicate 8 (some 27) := by kernel_rfl
  have h1 : (Tryd.prog.globals[g]?).map (·.type) ∈ List.replicate 8 (some 27) := by rw [← e]; exact List.mem_map.2 ⟨g, h, rfl⟩
  exact (List.mem_replicate.1 h1).2

theorem names8_glob : ∀ x, x ∈ names8 → ∃ g, Tryd.prog.globalNamed x.1 = some g ∧ (Tryd.prog.globals[g]?).map (·.type) = some 27 := by
  intro x hx
  simp only [names8, List.mem_cons, List.not_mem_nil, or_false] at hx
  rcases hx with rfl | rfl | rfl | rfl | rfl | rfl | rfl | rfl
  · exact ⟨_, glob1, globT _ (by decide)⟩
  · exact ⟨_, glob2, globT _ (by decide)⟩
  · exact ⟨_, glob3, globT _ (by decide)⟩
  · exact ⟨_, glob4, globT _ (by decide)⟩
  · exact ⟨_, glob5, globT _ (by decide)⟩
  · exact ⟨_, glob6, globT _ (by decide)⟩
  · exact ⟨_, glob7, globT _ (by decide)⟩
  · exact ⟨_, glob8, globT _ (by decide)⟩

theorem list8 {α : Type} {l : List α} (h : l.length = 8) : ∃ a b c d e f g i, l = [a, b, c, d, e, f, g, i] := by
  match l, h with
  | [a, b, c, d, e, f, g, i], _ => exact ⟨a, b, c, d, e, f, g, i, rfl⟩
theorem list2 {α : Type} {l : List α} (h : l.length = 2) : ∃ a b, l = [a, b] := by
  match l, h with
  | [a, b], _ => exact ⟨a, b, rfl⟩

/-- the codes' places, out of eight -/
def at8 (a1 a2 a3 a4 a5 a6 a7 a8 : Addr) : Nat → Addr
  | 1 => a1 | 2 => a2 | 3 => a3 | 4 => a4 | 5 => a5 | 6 => a6 | 7 => a7 | _ => a8

theorem sent8 {W : World} (h : laidMet Tryd.prog (names8.map sdat) W) : ∃ a, Sent [1, 2, 3, 4, 5, 6, 7, 8] W a := by
  obtain ⟨ps, hv, hnd, hrows⟩ := h
  obtain ⟨bs, hlen, hbnd, _, hall⟩ := sents_of_vars names8 ps hv hnd hrows names8_glob
  obtain ⟨a1, a2, a3, a4, a5, a6, a7, a8, rfl⟩ := list8 hlen
  have x1 := hall 0 (by decide) (by simp)
  have x2 := hall 1 (by decide) (by simp)
  have x3 := hall 2 (by decide) (by simp)
  have x4 := hall 3 (by decide) (by simp)
  have x5 := hall 4 (by decide) (by simp)
  have x6 := hall 5 (by decide) (by simp)
  have x7 := hall 6 (by decide) (by simp)
  have x8 := hall 7 (by decide) (by simp)
  refine ⟨at8 a1 a2 a3 a4 a5 a6 a7 a8, ⟨⟨?_⟩, ?_, ?_⟩⟩
  · intro c hc
    simp only [List.mem_cons, List.not_mem_nil, or_false] at hc
    rcases hc with rfl | rfl | rfl | rfl | rfl | rfl | rfl | rfl
    · show W.cell? ⟨4, 0, none⟩ = some (.iface 155 (.pointer (some a1)))
      simpa using World.var?_cell glob1 x1.1 0
    · show W.cell? ⟨0, 0, none⟩ = some (.iface 155 (.pointer (some a2)))
      simpa using World.var?_cell glob2 x2.1 0
    · show W.cell? ⟨1, 0, none⟩ = some (.iface 155 (.pointer (some a3)))
      simpa using World.var?_cell glob3 x3.1 0
    · show W.cell? ⟨5, 0, none⟩ = some (.iface 155 (.pointer (some a4)))
      simpa using World.var?_cell glob4 x4.1 0
    · show W.cell? ⟨6, 0, none⟩ = some (.iface 155 (.pointer (some a5)))
      simpa using World.var?_cell glob5 x5.1 0
    · show W.cell? ⟨3, 0, none⟩ = some (.iface 155 (.pointer (some a6)))
      simpa using World.var?_cell glob6 x6.1 0
    · show W.cell? ⟨2, 0, none⟩ = some (.iface 155 (.pointer (some a7)))
      simpa using World.var?_cell glob7 x7.1 0
    · show W.cell? ⟨7, 0, none⟩ = some (.iface 155 (.pointer (some a8)))
      simpa using World.var?_cell glob8 x8.1 0
  · intro c hc
    simp only [List.mem_cons, List.not_mem_nil, or_false] at hc
    rcases hc with rfl | rfl | rfl | rfl | rfl | rfl | rfl | rfl
    · exact x1.2
    · exact x2.2
    · exact x3.2
    · exact x4.2
    · exact x5.2
    · exact x6.2
    · exact x7.2
    · exact x8.2
  · intro c hc d hd e
    clear hall x1 x2 x3 x4 x5 x6 x7 x8
    simp only [List.nodup_cons, List.mem_cons, List.not_mem_nil, or_false, not_or] at hbnd
    simp only [List.mem_cons, List.not_mem_nil, or_false] at hc hd
    rcases hc with rfl | rfl | rfl | rfl | rfl | rfl | rfl | rfl <;> rcases hd with rfl | rfl | rfl | rfl | rfl | rfl | rfl | rfl <;> first
      | rfl
      | (exfalso; simp only [at8] at e; simp_all)

theorem tr_et : Tryd.prog.globalNamed "errors.errorType" = some 8 := by kernel_rfl
theorem tr_rt : (Tryd.prog.cutTypes.find? (·.1 == "internal/reflectlite.rtype")).map (·.2) = some 120 := by kernel_rfl
theorem tr_size : Tryd.prog.types.size = 194 := by kernel_rfl
theorem tr_oneRow : ((List.range 194).filter fun t => Tryd.prog.rowNamed t [101, 114, 114, 111, 114]) = [27] := by kernel_rfl
theorem tr_handle : typeHandle Tryd.prog 27 = .pointer (some ⟨9, 27, none⟩) := by kernel_rfl

theorem handle_of_laid {W : World} (h : handlesMet Tryd.prog [("errors.errorType", Rows.laid_errors_errorType)] W) : Handle W := by
  obtain ⟨name, u, ty, e1, e2, e3, e4, e5⟩ := h _ (List.mem_singleton.2 rfl)
  have en : name = [101, 114, 114, 111, 114] := (Option.some.inj e1).symm
  subst en
  obtain rfl := Option.some.inj (tr_rt.symm.trans e2)
  have hm : ty ∈ (List.range 194).filter fun t => Tryd.prog.rowNamed t [101, 114, 114, 111, 114] := List.mem_filter.2 ⟨List.mem_range.2 (by rw [← tr_size]; exact e3), e4⟩
  rw [tr_oneRow] at hm
  obtain rfl := List.mem_singleton.1 hm
  rw [tr_handle] at e5
  have := World.var?_cell tr_et e5 0
  simpa [Handle] using this

/-- ALL NINE: what the list of a law with coded gives -/
theorem full_of_laid {W : World} (h : laidMetH Tryd.prog [("errors.errorType", Rows.laid_errors_errorType), ("demon/api.ErrText", Rows.laid_demon_api_ErrText), ("demon/api.ErrBound", Rows.laid_demon_api_ErrBound), ("demon/api.ErrShape", Rows.laid_demon_api_ErrShape), ("demon/api.ErrZero", Rows.laid_demon_api_ErrZero), ("demon/api.ErrName", Rows.laid_demon_api_ErrName), ("demon/api.ErrNone", Rows.laid_demon_api_ErrNone), ("demon/api.ErrOrder", Rows.laid_demon_api_ErrOrder), ("demon/api.ErrKind", Rows.laid_demon_api_ErrKind)] W) :
    ∃ a, Sent [1, 2, 3, 4, 5, 6, 7, 8] W a ∧ Handle W := by
  have h' : laidMet Tryd.prog (names8.map sdat) W ∧ handlesMet Tryd.prog [("errors.errorType", Rows.laid_errors_errorType)] W := h
  obtain ⟨a, ha⟩ := sent8 h'.1
  exact ⟨a, ha, handle_of_laid h'.2⟩

/-! ### the closing of a law's row -/
theorem trodAll_below {H : Type} {enc : TypeId × Value → H} {W W' : World} (hb : Below W.heap.size W W') :
    ∀ (ts : List TypeId) (vs : List Value) (ds : List (DataW H)) (ps : List MemPlace), (∀ t, t ∈ ts → Tryd.prog.readableRec t = true ∧ t < Tryd.prog.types.size) →
      DataW.TrodAll enc Tryd.prog W 0 (fun _ => true) true ts vs ds ps → (∀ x ∈ ps, x.block < W.heap.size) → DataW.TrodAll enc Tryd.prog W' 0 (fun b => decide (b < W.heap.size)) true ts vs ds ps
  | [], [], [], _, _, h, _ => h
  | t :: ts, v :: vs, d :: ds, ps, hr, h, hlt => by
    obtain ⟨p, q, h1, h2, rfl⟩ := h
    exact ⟨p, q, Below.trod tr_laidOut (hr t (List.mem_cons_self ..)).1 (hr t (List.mem_cons_self ..)).2 h1 hb (fun x hx => hlt x (List.mem_append_left _ hx)),
      trodAll_below hb ts vs ds q (fun u hu => hr u (List.mem_cons_of_mem _ hu)) h2 (fun x hx => hlt x (List.mem_append_right _ hx)), rfl⟩
  | [], [], _ :: _, _, _, h, _ => h.elim
  | [], _ :: _, [], _, _, h, _ => h.elim
  | [], _ :: _, _ :: _, _, _, h, _ => h.elim
  | _ :: _, [], [], _, _, h, _ => h.elim
  | _ :: _, [], _ :: _, _, _, h, _ => h.elim
  | _ :: _, _ :: _, [], _, _, h, _ => h.elim

/-- a law's call that gives true and leaves what was there: what its row asks behind it -/
theorem post_true {H : Type} {enc : TypeId × Value → H} {f : Func} {s : ChangeSpec} {W W' : World} {args : Array Value} {ds gs : List (DataW H)} {before : List MemPlace}
    (hf : f.resultTypes = #[4]) (hvars : s.vars = []) (hfn : (s.fn H (ds ++ gs)) = { results := [.lit (.bool true)], args := ds }) (hr : ∀ t, t ∈ f.params.toList → Tryd.prog.readableRec t = true ∧ t < Tryd.prog.types.size)
    (hW : DataW.Whole enc Tryd.prog f.params.toList s.vars false W args.toList ds gs before) (hb : Below W.heap.size W W') : s.post enc Tryd.prog f false true false false W args (.bool true) W' := by
  have hlt := hW.lt
  have hW' := hW
  obtain ⟨p, q, hA, hV, rfl, _, _⟩ := hW
  refine ⟨ds, gs, p ++ q, [], p, [], hW', ?_, ?_, ?_, hb.frame _, fun h => by cases h⟩
  · rw [hfn, hf]; exact trodAll_mk1 (shut_bool Tryd.underlying4 true)
  · rw [hfn]; exact trodAll_below hb _ _ _ _ hr hA (fun x hx => hlt x (List.mem_append_left _ hx))
  · rw [hfn, hvars]; rfl
end Go.Proofs.YtcnecmcbjpehcaaDoor

/- A law's arguments opened into our readings: whole numbers, slices of them, of pairs, of lists. No condition. -/
namespace Go.Proofs.YtcnecmcbjpehcaaDoor
open Go.ChangeShapes Go.WideShapes Go.RowKit Go.Deep Go.Joins

section
variable {H : Type} {enc : TypeId × Value → H} {P : Program} {W : World} {base : Nat} {held : Bool}

theorem wf_range {n : Int} (h : (Lit.int .i64 n).wf = true) : -9223372036854775808 ≤ n ∧ n ≤ 9223372036854775807 := by
  have := bounds_i64 h
  omega

theorem spot_none {a : Addr} {v : Value} (h : W.cell? (a.add 0) = some v) : a = ⟨a.block, a.off, none⟩ := by
  obtain ⟨b, off, spot⟩ := a
  have hs : spot = none := World.cell?_spot h
  subst hs
  rfl

/-- a slice of whole numbers that came in -/
theorem open_ints_arg {fuel : Nat} {v : Value} {y : DataW H × List MemPlace} (h : DataW.trod enc Tryd.prog W base (fun _ => true) held fuel 25 [v] = some y) :
    ∃ A l cap, v = .slice A l.length cap ∧ Ints W A l ∧ l.length ≤ cap ∧ ∀ x, x ∈ l → -9223372036854775808 ≤ x ∧ x ≤ 9223372036854775807 := by
  have c3 : Tryd.prog.cellsOf 3 = 1 := by kernel_rfl
  rcases open_ints Tryd.underlying25 Tryd.underlying3 c3 h with ⟨hcs, _⟩ | ⟨a, len, cap, zs, hcs, hb, hl, hm, hz, _, hcell, hwz⟩
  · exact ⟨none, [], 0, by simpa using hcs, Ints.nil _ _, Nat.le_refl _, by simp⟩
  · simp only [if_true] at hz
    have hlen : (zs.take len).length = len := by rw [List.length_take]; omega
    refine ⟨some a, zs.take len, cap, by rw [hlen]; simpa using hcs, ⟨by rw [hlen]; simp only [maxLen] at hm; omega, fun i hi => ?_⟩, by rw [hlen]; exact hl, fun x hx => wf_range (hwz x (List.mem_of_mem_take hx))⟩
    rw [hlen] at hi
    have hc := hcell i (by rw [hz]; omega)
    have hs := spot_none (hcell 0 (by rw [hz]; omega))
    rw [hs, addr_add] at hc
    refine ⟨a.block, a.off, by rw [← hs], World.block_lt_of_cell? W ⟨a.block, a.off + i, none⟩ hc, ?_⟩
    rw [hc]
    have e : (zs.take len).getD i 0 = zs.getD i 0 := by
      simp [List.getD_eq_getElem?_getD, hi]
    rw [e]


/-- a slice of lists that came in -/
theorem open_lists_arg {fuel : Nat} {v : Value} {y : DataW H × List MemPlace} (h : DataW.trod enc Tryd.prog W base (fun _ => true) held fuel 22 [v] = some y) :
    ∃ A l cap, v = .slice A l.length cap ∧ Lists W A l ∧ l.length ≤ cap ∧ ∀ r, r ∈ l → ∀ x, x ∈ r → -9223372036854775808 ≤ x ∧ x ≤ 9223372036854775807 := by
  have c1 : Tryd.prog.cellsOf 25 = 1 := by kernel_rfl
  rcases open_slice1 Tryd.underlying22 c1 h with ⟨hcs, _⟩ | ⟨a, len, cap, m, n, V, D, Pl, hcs, hb, hl, hm, hmm, _, hx⟩
  · exact ⟨none, [], 0, by simpa using hcs, Lists.nil _ _, Nat.le_refl _, by simp⟩
  · simp only [if_true] at hmm
    subst hmm
    have each : ∀ i, i < len → ∃ q : Option Addr × List Int × Nat, W.cell? (a.add i) = some (.slice q.1 q.2.1.length q.2.2) ∧ q.2.1.length ≤ q.2.2 ∧ Ints W q.1 q.2.1 ∧ ∀ x, x ∈ q.2.1 → -9223372036854775808 ≤ x ∧ x ≤ 9223372036854775807 := by
      intro i hi
      obtain ⟨hc, ht⟩ := hx i (by omega)
      obtain ⟨A, l, c, e, h1, h2, h3⟩ := open_ints_arg ht
      exact ⟨(A, l, c), by rw [hc, e], h2, h1, h3⟩
    obtain ⟨f, hf⟩ := choose_lt each
    have hlen : ((List.range len).map fun i => (f i).2.1).length = len := by simp
    refine ⟨some a, (List.range len).map fun i => (f i).2.1, m, by rw [hlen]; simpa using hcs, ⟨by rw [hlen]; simp only [maxLen] at hm; omega, fun i hi => ?_⟩, by rw [hlen]; exact hl, fun r hr => ?_⟩
    · rw [hlen] at hi
      obtain ⟨g0, g1, g2, _⟩ := hf i hi
      have hs := spot_none (hf 0 (by omega)).1
      rw [hs, addr_add] at g0
      have e : ((List.range len).map fun i => (f i).2.1).getD i [] = (f i).2.1 := by simp [List.getD_eq_getElem?_getD, hi]
      rw [e]
      exact ⟨a.block, a.off, (f i).1, (f i).2.2, by rw [← hs], World.block_lt_of_cell? W ⟨a.block, a.off + i, none⟩ g0, g0, g1, g2⟩
    · obtain ⟨i, hi, rfl⟩ := List.mem_map.1 hr
      exact (hf i (List.mem_range.1 hi)).2.2.2
end
end Go.Proofs.YtcnecmcbjpehcaaDoor
