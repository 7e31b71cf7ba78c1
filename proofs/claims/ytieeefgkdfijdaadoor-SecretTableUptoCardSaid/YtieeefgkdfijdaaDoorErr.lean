/- The walks of errors.Is and errors.As at the errors of this program: a sentinel (a pointer to an errors.errorString) and a *api.Fault (after the kit's worked Sentry and Toyas). Condition: the variables read as laid. -/
import Derived.Test.YtieeefgkdfijdaaDoorVoc
import Derived.LaidEql
import Derived.Stop.Asserts
import Derived.RowKitTokens
namespace Go.Proofs.YtieeefgkdfijdaaDoor
open Go.RowKit Go.Deep Go.Extern.Stop Go.Stop Go.Extern

/-- the sentinels of the codes S: their cells, their blocks, none twice -/
structure Sent (S : List Nat) (w : World) (a : Nat → Addr) : Prop extends Env S w a where
  blk : ∀ c, c ∈ S → ∃ ca ta, w.heap[(a c).block]? = some (.cells ca ta (0, 0))
  inj : ∀ c, c ∈ S → ∀ d, d ∈ S → a c = a d → c = d
theorem Sent.lt {S : List Nat} {w : World} {a : Nat → Addr} (h : Sent S w a) {c : Nat} (hc : c ∈ S) : (a c).block < w.heap.size := by
  obtain ⟨ca, ta, hb⟩ := h.blk c hc
  exact (Array.getElem?_eq_some_iff.1 hb).1
theorem Sent.below {S : List Nat} {w w' : World} {a : Nat → Addr} (h : Sent S w a) (hb : Below w.heap.size w w') : Sent S w' a :=
  ⟨h.toEnv.below hb, fun c hc => by
    obtain ⟨ca, ta, hx⟩ := h.blk c hc
    exact ⟨ca, ta, (hb.block _ (h.lt hc)).trans hx⟩, h.inj⟩
/-- the handle of the type error -/
def Handle (w : World) : Prop := w.cell? ⟨8, 0, none⟩ = some (.iface 139 (.agg #[.pointer (some ⟨9, 29, none⟩)]))
theorem Handle.below {w w' : World} (h : Handle w) (hb : Below w.heap.size w w') : Handle w' :=
  (hb.cell (p := ⟨8, 0, none⟩) (World.block_lt_of_cell? w _ h)).trans h

/-! ### errors.Is -/
theorem is_typeOf (v : Value) (w : World) : (Extern.ReflectliteType.typeOf #[.iface 161 v]).run Tryd.prog w = .ok (.iface 139 (.agg #[.pointer (some ⟨9, 161, none⟩)])) w := by kernel_rfl
/-- the model's own entry for (rtype).Comparable, behind a name -/
def compExt : TypeId → Sem Value := fun t => do Rtype.noPackHeld "Comparable" t; pure (.bool (← typeInfo t).comparable)
theorem is_comparable (w : World) : (Extern.ReflectliteType.method compExt #[.agg #[.pointer (some ⟨9, 161, none⟩)]]).run Tryd.prog w = .ok (.bool true) w := by kernel_rfl
theorem is_methodComparable (v : Value) (w : World) : (Go.method 300 139 v "Comparable").run Tryd.prog w = .ok (139, v) w := by kernel_rfl
theorem is_comp : (Tryd.prog.info? 161).map (·.comparable) = some true := by kernel_rfl
theorem is_size : (Tryd.prog.info? 184).map (·.size) = some 1 := by kernel_rfl
theorem no_is_E (v : Value) (xT : TypeId) (w : World) : (Instr.typeAssert (.iface 161 v) xT 150 true).run Tryd.prog w = .ok (.tuple #[.nilIface, .bool false]) w := run_typeAssert_lacksB Tryd.underlying150 (by kernel_rfl) (by kernel_rfl) v xT w
theorem no_unwrap_E (v : Value) (xT : TypeId) (w : World) : (Instr.typeAssert (.iface 161 v) xT 146 true).run Tryd.prog w = .ok (.tuple #[.nilIface, .bool false]) w := run_typeAssert_lacksB Tryd.underlying146 (by kernel_rfl) (by kernel_rfl) v xT w
theorem no_unwraps_E (v : Value) (xT : TypeId) (w : World) : (Instr.typeAssert (.iface 161 v) xT 148 true).run Tryd.prog w = .ok (.tuple #[.nilIface, .bool false]) w := run_typeAssert_lacksB Tryd.underlying148 (by kernel_rfl) (by kernel_rfl) v xT w
theorem no_is_F (v : Value) (xT : TypeId) (w : World) : (Instr.typeAssert (.iface 105 v) xT 150 true).run Tryd.prog w = .ok (.tuple #[.nilIface, .bool false]) w := run_typeAssert_lacksB Tryd.underlying150 (by kernel_rfl) (by kernel_rfl) v xT w
theorem has_unwrap_F (v : Value) (xT : TypeId) (w : World) : (Instr.typeAssert (.iface 105 v) xT 146 true).run Tryd.prog w = .ok (.tuple #[.iface 105 v, .bool true]) w := run_typeAssert_hasB Tryd.underlying146 (by kernel_rfl) v xT w
theorem method_unwrap_F (v : Value) (w : World) : (Go.method 300 105 v "Unwrap").run Tryd.prog w = .ok (133, v) w := by kernel_rfl

set_option maxHeartbeats 1000000 in
theorem is_same (a : Addr) (w : World) :
    Calls Tryd.prog 77 #[.iface 161 (.pointer (some a)), .iface 161 (.pointer (some a))] w fun e w' => e = .returned (.bool true) ∧ w' = w := by
  obtain ⟨i, hi, hcmp⟩ := Option.map_eq_some_iff.1 is_comp
  obtain ⟨j, hj, hjs⟩ := Option.map_eq_some_iff.1 is_size
  have h8 := @run_callFunc_extern Tryd.prog 92 _ Extern.ReflectliteType.typeOf Tryd.func92 (by kernel_rfl) (by kernel_rfl) (by kernel_rfl) (by kernel_rfl)
  have h32 := @run_callFunc_extern Tryd.prog 139 _ (Extern.ReflectliteType.method compExt) Tryd.func139 (by kernel_rfl) (by kernel_rfl) (by kernel_rfl) (by kernel_rfl)
  have tT := is_typeOf
  have cT := is_comparable
  have mR := is_methodComparable
  have heq := run_eql_iface_ptr_same (P := Tryd.prog) w a Tryd.underlying29 Tryd.underlying161 hi hcmp hj
  clear hi hcmp hj hjs
  go_enter Tryd.func77, Tryd.ntmps77
  go_wp2
  refine wp_loop_rounds 1 ?_
  rw [rounds_succ]
  go_wp2
  go_ret
  exact ⟨rfl, rfl⟩

set_option maxHeartbeats 1000000 in
theorem is_other (a b : Addr) (ca cb : Array Value) (ta tb : TypeId) (w : World) (hne : a ≠ b) (ha : w.heap[a.block]? = some (.cells ca ta (0, 0))) (hb : w.heap[b.block]? = some (.cells cb tb (0, 0))) :
    Calls Tryd.prog 77 #[.iface 161 (.pointer (some a)), .iface 161 (.pointer (some b))] w fun e w' => e = .returned (.bool false) ∧ w' = w := by
  obtain ⟨i, hi, hcmp⟩ := Option.map_eq_some_iff.1 is_comp
  obtain ⟨j, hj, hjs⟩ := Option.map_eq_some_iff.1 is_size
  have h8 := @run_callFunc_extern Tryd.prog 92 _ Extern.ReflectliteType.typeOf Tryd.func92 (by kernel_rfl) (by kernel_rfl) (by kernel_rfl) (by kernel_rfl)
  have h32 := @run_callFunc_extern Tryd.prog 139 _ (Extern.ReflectliteType.method compExt) Tryd.func139 (by kernel_rfl) (by kernel_rfl) (by kernel_rfl) (by kernel_rfl)
  have tT := is_typeOf
  have cT := is_comparable
  have mR := is_methodComparable
  have nE := no_is_E
  have uE := no_unwrap_E
  have vE := no_unwraps_E
  have heq := run_eql_iface_ptr_other (P := Tryd.prog) w Tryd.underlying29 Tryd.underlying161 hi hcmp hj (by rw [hjs]; decide) hne ha hb
  clear hi hcmp hj hjs
  go_enter Tryd.func77, Tryd.ntmps77
  go_wp2
  refine wp_loop_rounds 1 ?_
  rw [rounds_succ]
  go_wp2
  go_ret
  exact ⟨rfl, rfl⟩

/-- errors.Is between sentinels -/
theorem is_sent {S : List Nat} (w : World) (a : Nat → Addr) (h : Sent S w a) (c d : Nat) (hc : c ∈ S) (hd : d ∈ S) :
    Calls Tryd.prog 77 #[.iface 161 (.pointer (some (a c))), .iface 161 (.pointer (some (a d)))] w fun e w' => e = .returned (.bool (decide (c = d))) ∧ w' = w := by
  by_cases e : c = d
  · subst e
    rw [decide_eq_true rfl]
    exact is_same (a c) w
  · rw [decide_eq_false e]
    obtain ⟨ca, ta, ha⟩ := h.blk c hc
    obtain ⟨cb, tb, hb⟩ := h.blk d hd
    exact is_other (a c) (a d) ca cb ta tb w (fun x => e (h.inj c hc d hd x)) ha hb

set_option maxHeartbeats 1000000 in
theorem is_fault_same (pb po : Nat) (b : Addr) (w : World) (h1 : w.cell? ⟨pb, po + 1, none⟩ = some (.iface 161 (.pointer (some b)))) :
    Calls Tryd.prog 77 #[.iface 105 (.pointer (some ⟨pb, po, none⟩)), .iface 161 (.pointer (some b))] w fun e w' => e = .returned (.bool true) ∧ w' = w := by
  obtain ⟨i, hi, hcmp⟩ := Option.map_eq_some_iff.1 is_comp
  obtain ⟨j, hj, hjs⟩ := Option.map_eq_some_iff.1 is_size
  have h8 := @run_callFunc_extern Tryd.prog 92 _ Extern.ReflectliteType.typeOf Tryd.func92 (by kernel_rfl) (by kernel_rfl) (by kernel_rfl) (by kernel_rfl)
  have h32 := @run_callFunc_extern Tryd.prog 139 _ (Extern.ReflectliteType.method compExt) Tryd.func139 (by kernel_rfl) (by kernel_rfl) (by kernel_rfl) (by kernel_rfl)
  have tT := is_typeOf
  have cT := is_comparable
  have mR := is_methodComparable
  have nE := no_is_E
  have uE := no_unwrap_E
  have vE := no_unwraps_E
  have nW := no_is_F
  have uW := has_unwrap_F
  have mU := method_unwrap_F
  have heq := run_eql_iface_ptr_same (P := Tryd.prog) w b Tryd.underlying29 Tryd.underlying161 hi hcmp hj
  have hty := run_eql_iface_types (P := Tryd.prog) 105 161 (.pointer (some ⟨pb, po, none⟩)) (.pointer (some b)) Tryd.underlying29 (by decide) w
  clear hi hcmp hj hjs
  go_enter Tryd.func77, Tryd.ntmps77
  go_wp2
  refine wp_loop_rounds 2 ?_
  rw [rounds_succ]
  go_wp2
  rw [rounds_succ]
  go_wp2
  go_ret
  exact ⟨rfl, rfl⟩

set_option maxHeartbeats 1000000 in
theorem is_fault_other (pb po : Nat) (b a : Addr) (ca cb : Array Value) (ta tb : TypeId) (w : World) (h1 : w.cell? ⟨pb, po + 1, none⟩ = some (.iface 161 (.pointer (some a)))) (hne : a ≠ b) (ha : w.heap[a.block]? = some (.cells ca ta (0, 0))) (hb : w.heap[b.block]? = some (.cells cb tb (0, 0))) :
    Calls Tryd.prog 77 #[.iface 105 (.pointer (some ⟨pb, po, none⟩)), .iface 161 (.pointer (some b))] w fun e w' => e = .returned (.bool false) ∧ w' = w := by
  obtain ⟨i, hi, hcmp⟩ := Option.map_eq_some_iff.1 is_comp
  obtain ⟨j, hj, hjs⟩ := Option.map_eq_some_iff.1 is_size
  have h8 := @run_callFunc_extern Tryd.prog 92 _ Extern.ReflectliteType.typeOf Tryd.func92 (by kernel_rfl) (by kernel_rfl) (by kernel_rfl) (by kernel_rfl)
  have h32 := @run_callFunc_extern Tryd.prog 139 _ (Extern.ReflectliteType.method compExt) Tryd.func139 (by kernel_rfl) (by kernel_rfl) (by kernel_rfl) (by kernel_rfl)
  have tT := is_typeOf
  have cT := is_comparable
  have mR := is_methodComparable
  have nE := no_is_E
  have uE := no_unwrap_E
  have vE := no_unwraps_E
  have nW := no_is_F
  have uW := has_unwrap_F
  have mU := method_unwrap_F
  have heq := run_eql_iface_ptr_other (P := Tryd.prog) w Tryd.underlying29 Tryd.underlying161 hi hcmp hj (by rw [hjs]; decide) hne ha hb
  have hty := run_eql_iface_types (P := Tryd.prog) 105 161 (.pointer (some ⟨pb, po, none⟩)) (.pointer (some b)) Tryd.underlying29 (by decide) w
  clear hi hcmp hj hjs
  go_enter Tryd.func77, Tryd.ntmps77
  go_wp2
  refine wp_loop_rounds 2 ?_
  rw [rounds_succ]
  go_wp2
  rw [rounds_succ]
  go_wp2
  go_ret
  exact ⟨rfl, rfl⟩

/-- errors.Is of a fault whose error is a sentinel -/
theorem is_fault {S : List Nat} (w : World) (a : Nat → Addr) (h : Sent S w a) (pb po : Nat) (c d : Nat) (hc : c ∈ S) (hd : d ∈ S) (h1 : w.cell? ⟨pb, po + 1, none⟩ = some (.iface 161 (.pointer (some (a c))))) :
    Calls Tryd.prog 77 #[.iface 105 (.pointer (some ⟨pb, po, none⟩)), .iface 161 (.pointer (some (a d)))] w fun e w' => e = .returned (.bool (decide (c = d))) ∧ w' = w := by
  by_cases e : c = d
  · subst e
    rw [decide_eq_true rfl]
    exact is_fault_same pb po (a c) w h1
  · rw [decide_eq_false e]
    obtain ⟨ca, ta, ha⟩ := h.blk c hc
    obtain ⟨cb, tb, hb⟩ := h.blk d hd
    exact is_fault_other pb po (a d) (a c) ca cb ta tb w h1 (fun x => e (h.inj c hc d hd x)) ha hb
end Go.Proofs.YtieeefgkdfijdaaDoor
