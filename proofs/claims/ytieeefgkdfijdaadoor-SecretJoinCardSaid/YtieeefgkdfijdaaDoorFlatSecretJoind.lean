/- Words, plain laws and walks behind the law SecretJoin, part 4. No condition. -/
import Derived.Test.YtieeefgkdfijdaaDoorFlatSecretJoina
import Derived.LaidEql
import Derived.Stop.Asserts
import Derived.RowKitTokens
import Derived.Test.YtieeefgkdfijdaaDoorFlatSecretJoinc
import Derived.Lib.OwnBridge
import Derived.Lib.AppendIntMem
import Derived.Test.YtieeefgkdfijdaaDoorRows
import Derived.Test.YtieeefgkdfijdaaDoorCards
import Derived.Test.YtieeefgkdfijdaaDoorTie
import Derived.ProofKit
import Derived.LaidMore
import Derived.LaidLaws
import Derived.LaidHandle
import Derived.Stop.LaidErr
import Derived.Deep.DeepHandedRow
import Derived.Deep.DeepWitnessRowRef
import Derived.OpenShut
import Derived.Deep.Slices
import Derived.Deep.Matrix
import Derived.Lib.SmallJoins

/- The walks of errors.Is and errors.As at the errors of this program: a sentinel (a pointer to an errors.errorString) and a *api.Fault (after the kit's worked Sentry and Toyas). Condition: the variables read as laid. -/
namespace Go.Proofs.YtieeefgkdfijdaaDoor
open Go.RowKit Go.Deep Go.Extern.Stop Go.Stop Go.Extern

/-- the sentinels of the codes S: their cells, their blocks, none twice -/
structure Sent (S : List Nat) (w : World) (a : Nat → Addr) : Prop extends Env S w a where
  blk : ∀ c, c ∈ S → ∃ ca ta, w.heap[(a c).block]? = some (.cells ca ta (0, 0))
  inj : ∀ c, c ∈ S → ∀ d, d ∈ S → a c = a d → c = d
theorem Sent.lt {S : List Nat} {w : World} {a : Nat → Addr} (h : Sent S w a) {c : Nat} (hc : c ∈ S) : (a c).block < w.heap.size := by
  obtain ⟨ca, ta, hb⟩ := h.blk c hc
  exact (Array.getElem?_eq_some_iff.1 hb).1
theorem Sent.below {S : List Nat} {w w' : World} {a : Nat → Addr} (h : Sent S w a) (hb : Below w.heap.size w w') : Sent S w' a :=
  ⟨h.toEnv.below hb, fun c hc => by
    obtain ⟨ca, ta, hx⟩ := h.blk c hc
    exact ⟨ca, ta, (hb.block _ (h.lt hc)).trans hx⟩, h.inj⟩
/-- the handle of the type error -/
def Handle (w : World) : Prop := w.cell? ⟨8, 0, none⟩ = some (.iface 139 (.agg #[.pointer (some ⟨9, 29, none⟩)]))
theorem Handle.below {w w' : World} (h : Handle w) (hb : Below w.heap.size w w') : Handle w' :=
  (hb.cell (p := ⟨8, 0, none⟩) (World.block_lt_of_cell? w _ h)).trans h

/-! ### errors.Is -/
theorem is_typeOf (v : Value) (w : World) : (Extern.ReflectliteType.typeOf #[.iface 161 v]).run Tryd.prog w = .ok (.iface 139 (.agg #[.pointer (some ⟨9, 161, none⟩)])) w := by kernel_rfl
/-- the model's own entry for (rtype).Comparable, behind a name -/
def compExt : TypeId → Sem Value := fun t => do Rtype.noPackHeld "Comparable" t; pure (.bool (← typeInfo t).comparable)
theorem is_comparable (w : World) : (Extern.ReflectliteType.method compExt #[.agg #[.pointer (some ⟨9, 161, none⟩)]]).run Tryd.prog w = .ok (.bool true) w := by kernel_rfl
theorem is_methodComparable (v : Value) (w : World) : (Go.method 300 139 v "Comparable").run Tryd.prog w = .ok (139, v) w := by kernel_rfl
theorem is_comp : (Tryd.prog.info? 161).map (·.comparable) = some true := by kernel_rfl
theorem is_size : (Tryd.prog.info? 184).map (·.size) = some 1 := by kernel_rfl
theorem no_is_E (v : Value) (xT : TypeId) (w : World) : (Instr.typeAssert (.iface 161 v) xT 150 true).run Tryd.prog w = .ok (.tuple #[.nilIface, .bool false]) w := run_typeAssert_lacksB Tryd.underlying150 (by kernel_rfl) (by kernel_rfl) v xT w
theorem no_unwrap_E (v : Value) (xT : TypeId) (w : World) : (Instr.typeAssert (.iface 161 v) xT 146 true).run Tryd.prog w = .ok (.tuple #[.nilIface, .bool false]) w := run_typeAssert_lacksB Tryd.underlying146 (by kernel_rfl) (by kernel_rfl) v xT w
theorem no_unwraps_E (v : Value) (xT : TypeId) (w : World) : (Instr.typeAssert (.iface 161 v) xT 148 true).run Tryd.prog w = .ok (.tuple #[.nilIface, .bool false]) w := run_typeAssert_lacksB Tryd.underlying148 (by kernel_rfl) (by kernel_rfl) v xT w
theorem no_is_F (v : Value) (xT : TypeId) (w : World) : (Instr.typeAssert (.iface 105 v) xT 150 true).run Tryd.prog w = .ok (.tuple #[.nilIface, .bool false]) w := run_typeAssert_lacksB Tryd.underlying150 (by kernel_rfl) (by kernel_rfl) v xT w
theorem has_unwrap_F (v : Value) (xT : TypeId) (w : World) : (Instr.typeAssert (.iface 105 v) xT 146 true).run Tryd.prog w = .ok (.tuple #[.iface 105 v, .bool true]) w := run_typeAssert_hasB Tryd.underlying146 (by kernel_rfl) v xT w
theorem method_unwrap_F (v : Value) (w : World) : (Go.method 300 105 v "Unwrap").run Tryd.prog w = .ok (133, v) w := by kernel_rfl

set_option maxHeartbeats 1000000 in
theorem is_same (a : Addr) (w : World) :
    Calls Tryd.prog 77 #[.iface 161 (.pointer (some a)), .iface 161 (.pointer (some a))] w fun e w' => e = .returned (.bool true) ∧ w' = w := by
  obtain ⟨i, hi, hcmp⟩ := Option.map_eq_some_iff.1 is_comp
  obtain ⟨j, hj, hjs⟩ := Option.map_eq_some_iff.1 is_size
  have h8 := @run_callFunc_extern Tryd.prog 92 _ Extern.ReflectliteType.typeOf Tryd.func92 (by kernel_rfl) (by kernel_rfl) (by kernel_rfl) (by kernel_rfl)
  have h32 := @run_callFunc_extern Tryd.prog 139 _ (Extern.ReflectliteType.method compExt) Tryd.func139 (by kernel_rfl) (by kernel_rfl) (by kernel_rfl) (by kernel_rfl)
  have tT := is_typeOf
  have cT := is_comparable
  have mR := is_methodComparable
  have heq := run_eql_iface_ptr_same (P := Tryd.prog) w a Tryd.underlying29 Tryd.underlying161 hi hcmp hj
  clear hi hcmp hj hjs
  go_enter Tryd.func77, Tryd.ntmps77
  go_wp2
  refine wp_loop_rounds 1 ?_
  rw [rounds_succ]
  go_wp2
  go_ret
  exact ⟨rfl, rfl⟩

set_option maxHeartbeats 1000000 in
theorem is_other (a b : Addr) (ca cb : Array Value) (ta tb : TypeId) (w : World) (hne : a ≠ b) (ha : w.heap[a.block]? = some (.cells ca ta (0, 0))) (hb : w.heap[b.block]? = some (.cells cb tb (0, 0))) :
    Calls Tryd.prog 77 #[.iface 161 (.pointer (some a)), .iface 161 (.pointer (some b))] w fun e w' => e = .returned (.bool false) ∧ w' = w := by
  obtain ⟨i, hi, hcmp⟩ := Option.map_eq_some_iff.1 is_comp
  obtain ⟨j, hj, hjs⟩ := Option.map_eq_some_iff.1 is_size
  have h8 := @run_callFunc_extern Tryd.prog 92 _ Extern.ReflectliteType.typeOf Tryd.func92 (by kernel_rfl) (by kernel_rfl) (by kernel_rfl) (by kernel_rfl)
  have h32 := @run_callFunc_extern Tryd.prog 139 _ (Extern.ReflectliteType.method compExt) Tryd.func139 (by kernel_rfl) (by kernel_rfl) (by kernel_rfl) (by kernel_rfl)
  have tT := is_typeOf
  have cT := is_comparable
  have mR := is_methodComparable
  have nE := no_is_E
  have uE := no_unwrap_E
  have vE := no_unwraps_E
  have heq := run_eql_iface_ptr_other (P := Tryd.prog) w Tryd.underlying29 Tryd.underlying161 hi hcmp hj (by rw [hjs]; decide) hne ha hb
  clear hi hcmp hj hjs
  go_enter Tryd.func77, Tryd.ntmps77
  go_wp2
  refine wp_loop_rounds 1 ?_
  rw [rounds_succ]
  go_wp2
  go_ret
  exact ⟨rfl, rfl⟩

/-- errors.Is between sentinels -/
theorem is_sent {S : List Nat} (w : World) (a : Nat → Addr) (h : Sent S w a) (c d : Nat) (hc : c ∈ S) (hd : d ∈ S) :
    Calls Tryd.prog 77 #[.iface 161 (.pointer (some (a c))), .iface 161 (.pointer (some (a d)))] w fun e w' => e = .returned (.bool (decide (c = d))) ∧ w' = w := by
  by_cases e : c = d
  · subst e
    rw [decide_eq_true rfl]
    exact is_same (a c) w
  · rw [decide_eq_false e]
    obtain ⟨ca, ta, ha⟩ := h.blk c hc
    obtain ⟨cb, tb, hb⟩ := h.blk d hd
    exact is_other (a c) (a d) ca cb ta tb w (fun x => e (h.inj c hc d hd x)) ha hb

set_option maxHeartbeats 1000000 in
theorem is_fault_same (pb po : Nat) (b : Addr) (w : World) (h1 : w.cell? ⟨pb, po + 1, none⟩ = some (.iface 161 (.pointer (some b)))) :
    Calls Tryd.prog 77 #[.iface 105 (.pointer (some ⟨pb, po, none⟩)), .iface 161 (.pointer (some b))] w fun e w' => e = .returned (.bool true) ∧ w' = w := by
  obtain ⟨i, hi, hcmp⟩ := Option.map_eq_some_iff.1 is_comp
  obtain ⟨j, hj, hjs⟩ := Option.map_eq_some_iff.1 is_size
  have h8 := @run_callFunc_extern Tryd.prog 92 _ Extern.ReflectliteType.typeOf Tryd.func92 (by kernel_rfl) (by kernel_rfl) (by kernel_rfl) (by kernel_rfl)
  have h32 := @run_callFunc_extern Tryd.prog 139 _ (Extern.ReflectliteType.method compExt) Tryd.func139 (by kernel_rfl) (by kernel_rfl) (by kernel_rfl) (by kernel_rfl)
  have tT := is_typeOf
  have cT := is_comparable
  have mR := is_methodComparable
  have nE := no_is_E
  have uE := no_unwrap_E
  have vE := no_unwraps_E
  have nW := no_is_F
  have uW := has_unwrap_F
  have mU := method_unwrap_F
  have heq := run_eql_iface_ptr_same (P := Tryd.prog) w b Tryd.underlying29 Tryd.underlying161 hi hcmp hj
  have hty := run_eql_iface_types (P := Tryd.prog) 105 161 (.pointer (some ⟨pb, po, none⟩)) (.pointer (some b)) Tryd.underlying29 (by decide) w
  clear hi hcmp hj hjs
  go_enter Tryd.func77, Tryd.ntmps77
  go_wp2
  refine wp_loop_rounds 2 ?_
  rw [rounds_succ]
  go_wp2
  rw [rounds_succ]
  go_wp2
  go_ret
  exact ⟨rfl, rfl⟩

set_option maxHeartbeats 1000000 in
theorem is_fault_other (pb po : Nat) (b a : Addr) (ca cb : Array Value) (ta tb : TypeId) (w : World) (h1 : w.cell? ⟨pb, po + 1, none⟩ = some (.iface 161 (.pointer (some a)))) (hne : a ≠ b) (ha : w.heap[a.block]? = some (.cells ca ta (0, 0))) (hb : w.heap[b.block]? = some (.cells cb tb (0, 0))) :
    Calls Tryd.prog 77 #[.iface 105 (.pointer (some ⟨pb, po, none⟩)), .iface 161 (.pointer (some b))] w fun e w' => e = .returned (.bool false) ∧ w' = w := by
  obtain ⟨i, hi, hcmp⟩ := Option.map_eq_some_iff.1 is_comp
  obtain ⟨j, hj, hjs⟩ := Option.map_eq_some_iff.1 is_size
  have h8 := @run_callFunc_extern Tryd.prog 92 _ Extern.ReflectliteType.typeOf Tryd.func92 (by kernel_rfl) (by kernel_rfl) (by kernel_rfl) (by kernel_rfl)
  have h32 := @run_callFunc_extern Tryd.prog 139 _ (Extern.ReflectliteType.method compExt) Tryd.func139 (by kernel_rfl) (by kernel_rfl) (by kernel_rfl) (by kernel_rfl)
  have tT := is_typeOf
  have cT := is_comparable
  have mR := is_methodComparable
  have nE := no_is_E
  have uE := no_unwrap_E
  have vE := no_unwraps_E
  have nW := no_is_F
  have uW := has_unwrap_F
  have mU := method_unwrap_F
  have heq := run_eql_iface_ptr_other (P := Tryd.prog) w Tryd.underlying29 Tryd.underlying161 hi hcmp hj (by rw [hjs]; decide) hne ha hb
  have hty := run_eql_iface_types (P := Tryd.prog) 105 161 (.pointer (some ⟨pb, po, none⟩)) (.pointer (some b)) Tryd.underlying29 (by decide) w
  clear hi hcmp hj hjs
  go_enter Tryd.func77, Tryd.ntmps77
  go_wp2
  refine wp_loop_rounds 2 ?_
  rw [rounds_succ]
  go_wp2
  rw [rounds_succ]
  go_wp2
  go_ret
  exact ⟨rfl, rfl⟩

/-- errors.Is of a fault whose error is a sentinel -/
theorem is_fault {S : List Nat} (w : World) (a : Nat → Addr) (h : Sent S w a) (pb po : Nat) (c d : Nat) (hc : c ∈ S) (hd : d ∈ S) (h1 : w.cell? ⟨pb, po + 1, none⟩ = some (.iface 161 (.pointer (some (a c))))) :
    Calls Tryd.prog 77 #[.iface 105 (.pointer (some ⟨pb, po, none⟩)), .iface 161 (.pointer (some (a d)))] w fun e w' => e = .returned (.bool (decide (c = d))) ∧ w' = w := by
  by_cases e : c = d
  · subst e
    rw [decide_eq_true rfl]
    exact is_fault_same pb po (a c) w h1
  · rw [decide_eq_false e]
    obtain ⟨ca, ta, ha⟩ := h.blk c hc
    obtain ⟨cb, tb, hb⟩ := h.blk d hd
    exact is_fault_other pb po (a d) (a c) ca cb ta tb w h1 (fun x => e (h.inj c hc d hd x)) ha hb
end Go.Proofs.YtieeefgkdfijdaaDoor

/- The walks of errors.As with a target of the type **api.Fault: at a sentinel it is false, at a fault true (after the kit's worked Toyas). Condition: the handle of the type error is laid. -/
namespace Go.Proofs.YtieeefgkdfijdaaDoor
open Go.RowKit Go.Deep Go.Extern.Stop Go.Stop Go.Extern

/-! ### closed facts on the model's entries for internal/reflectlite, at this program's types -/
def kindExt : TypeId → Sem Value := fun t => do pure (.int .u8 (← Rtype.kind t))
def vTypeExt : TypeId → Addr → Nat → Nat → Sem Value := fun t _ _ _ => ReflectliteType.toType t
def unpackExt : Array Value → Sem Value := fun args => ReflectliteValue.unpack (args.getD 0 (.tuple #[]))
theorem as_valueOfT (t : Addr) (w : World) : (unpackExt #[.iface 107 (.pointer (some t))]).run Tryd.prog w
    = .ok (.agg #[.pointer (some ⟨9, 107, none⟩), .pointer (some ⟨w.heap.size, 0, none⟩), .int .u64 150]) (w.alloc (.cells #[.pointer (some t)] 107)) := by kernel_rfl
theorem as_typeT (a : Addr) (w : World) : (ReflectliteValue.methodAny (ReflectliteValue.valueError "reflectlite.Value.Type" 0) vTypeExt #[.agg #[.pointer (some ⟨9, 107, none⟩), .pointer (some a), .int .u64 150]]).run Tryd.prog w
    = .ok (.iface 139 (.agg #[.pointer (some ⟨9, 107, none⟩)])) w := by kernel_rfl
theorem as_methodKind (h : Value) (w : World) : (Go.method 300 139 (.agg #[h]) "Kind").run Tryd.prog w = .ok (129, h) w := by kernel_rfl
theorem as_kindT (w : World) : (ReflectliteType.abiMethod kindExt #[.pointer (some ⟨9, 107, none⟩)]).run Tryd.prog w = .ok (.int .u8 22) w := by kernel_rfl
theorem as_kindF (w : World) : (ReflectliteType.abiMethod kindExt #[.pointer (some ⟨9, 105, none⟩)]).run Tryd.prog w = .ok (.int .u8 22) w := by kernel_rfl
theorem rlm (z : Sem Value) (f : TypeId → Addr → Nat → Nat → Sem Value) (v : Value) :
    ReflectliteValue.method z f #[v] = (do match ← ReflectliteValue.parts v with | none => z | some (t, a, fl) => f t a fl (fl % 32)) := rfl
theorem as_partsT (a : Addr) (w : World) : (ReflectliteValue.parts (.agg #[.pointer (some ⟨9, 107, none⟩), .pointer (some a), .int .u64 150])).run Tryd.prog w = .ok (some (107, a, 150)) w := by kernel_rfl
theorem as_isNilT (a p : Addr) (W : World) (ha : W.cell? a = some (.pointer (some p))) :
    (ReflectliteValue.method (ReflectliteValue.valueError "reflectlite.Value.IsNil" 0) ReflectliteValue.isNil #[.agg #[.pointer (some ⟨9, 107, none⟩), .pointer (some a), .int .u64 150]]).run Tryd.prog W = .ok (.bool false) W := by
  rw [rlm]
  simp only [Sem.run_bind, as_partsT, Result.andThen]
  simp [ReflectliteValue.isNil, loadVar, isAgg, underlying, Tryd.underlying107, ha, Result.andThen]
theorem as_methodElem (h : Value) (w : World) : (Go.method 300 139 (.agg #[h]) "Elem").run Tryd.prog w = .ok (140, .agg #[h]) w := by kernel_rfl
theorem as_methodImplements (h : Value) (w : World) : (Go.method 300 139 (.agg #[h]) "Implements").run Tryd.prog w = .ok (141, .agg #[h]) w := by kernel_rfl
theorem as_methodAssignableTo (h : Value) (w : World) : (Go.method 300 139 (.agg #[h]) "AssignableTo").run Tryd.prog w = .ok (138, .agg #[h]) w := by kernel_rfl
theorem as_elemT (w : World) : (ReflectliteType.method ReflectliteType.elem #[.agg #[.pointer (some ⟨9, 107, none⟩)]]).run Tryd.prog w = .ok (.iface 139 (.agg #[.pointer (some ⟨9, 105, none⟩)])) w := by kernel_rfl
theorem as_implementsF (w : World) : (ReflectliteType.relation "Implements" ReflectliteType.implements_ #[.agg #[.pointer (some ⟨9, 105, none⟩)], .iface 139 (.agg #[.pointer (some ⟨9, 29, none⟩)])]).run Tryd.prog w = .ok (.bool true) w := by kernel_rfl
theorem as_typeOfF (v : Value) (w : World) : (ReflectliteType.typeOf #[.iface 105 v]).run Tryd.prog w = .ok (.iface 139 (.agg #[.pointer (some ⟨9, 105, none⟩)])) w := by kernel_rfl
theorem as_assignF (w : World) : (ReflectliteType.relation "AssignableTo" ReflectliteType.assignableTo #[.agg #[.pointer (some ⟨9, 105, none⟩)], .iface 139 (.agg #[.pointer (some ⟨9, 105, none⟩)])]).run Tryd.prog w = .ok (.bool true) w := by kernel_rfl
theorem as_assignE (w : World) : (ReflectliteType.relation "AssignableTo" ReflectliteType.assignableTo #[.agg #[.pointer (some ⟨9, 161, none⟩)], .iface 139 (.agg #[.pointer (some ⟨9, 105, none⟩)])]).run Tryd.prog w = .ok (.bool false) w := by kernel_rfl
theorem as_valueOfF (e : Addr) (w : World) : (unpackExt #[.iface 105 (.pointer (some e))]).run Tryd.prog w
    = .ok (.agg #[.pointer (some ⟨9, 105, none⟩), .pointer (some ⟨w.heap.size, 0, none⟩), .int .u64 150]) (w.alloc (.cells #[.pointer (some e)] 105)) := by kernel_rfl
theorem as_elemOfT (w : World) : (Rtype.elem? 107).run Tryd.prog w = .ok (some 105) w := by kernel_rfl
theorem as_mkF (p : Addr) (w : World) : (ReflectliteValue.mk 105 p ReflectliteValue.flagAddr).run Tryd.prog w = .ok (.agg #[.pointer (some ⟨9, 105, none⟩), .pointer (some p), .int .u64 406]) w := by kernel_rfl
theorem as_elemVT (a p : Addr) (W : World) (ha : W.cell? a = some (.pointer (some p))) :
    (ReflectliteValue.method (ReflectliteValue.valueError "reflectlite.Value.Elem" 0) ReflectliteValue.elem #[.agg #[.pointer (some ⟨9, 107, none⟩), .pointer (some a), .int .u64 150]]).run Tryd.prog W
      = .ok (.agg #[.pointer (some ⟨9, 105, none⟩), .pointer (some p), .int .u64 406]) W := by
  rw [rlm]
  simp only [Sem.run_bind, as_partsT, Result.andThen]
  simp [ReflectliteValue.elem, loadVar, isAgg, underlying, Tryd.underlying107, ha, Result.andThen, as_elemOfT, as_mkF]
theorem rls (v x : Value) : ReflectliteValue.set #[v, x] = (do
    let (some (dst, a, fl), some (src, b, _)) := (← ReflectliteValue.parts v, ← ReflectliteValue.parts x)
      | unsupported (.noEntry "extern/(internal/reflectlite.Value).Set.zeroValue")
    if fl / ReflectliteValue.flagAddr % 2 == 0 then unsupported (.noEntry "extern/(internal/reflectlite.Value).Set.unaddressable")
    let val ← loadVar src b
    if ← Rtype.directlyAssignable dst src then storeVar dst a val
    else if ← Rtype.implements dst src then
      if (← Rtype.kind src) == 20 then
        match val with
        | .nilIface => unsupported (.noEntry "extern/reflectlite: a nil value of one interface type handed on as a value of another")
        | _ => storeVar dst a val
      else storeVar dst a (.iface src val)
    else panicString ("reflectlite.Set: value of type " ++ (← Rtype.spelt src) ++ " is not assignable to type " ++ (← Rtype.spelt dst))
    pure (.tuple #[])) := rfl
theorem as_partsFa (a : Addr) (w : World) : (ReflectliteValue.parts (.agg #[.pointer (some ⟨9, 105, none⟩), .pointer (some a), .int .u64 406])).run Tryd.prog w = .ok (some (105, a, 406)) w := by kernel_rfl
theorem as_partsF (a : Addr) (w : World) : (ReflectliteValue.parts (.agg #[.pointer (some ⟨9, 105, none⟩), .pointer (some a), .int .u64 150])).run Tryd.prog w = .ok (some (105, a, 150)) w := by kernel_rfl
theorem as_directF (w : World) : (Rtype.directlyAssignable 105 105).run Tryd.prog w = .ok true w := by kernel_rfl
theorem as_setF (ta b e : Addr) (old : Value) (W : World) (hb : W.cell? b = some (.pointer (some e))) (ht : W.cell? ta = some old) (hf : W.frozen? ta = false) :
    (ReflectliteValue.set #[.agg #[.pointer (some ⟨9, 105, none⟩), .pointer (some ta), .int .u64 406], .agg #[.pointer (some ⟨9, 105, none⟩), .pointer (some b), .int .u64 150]]).run Tryd.prog W
      = .ok (.tuple #[]) (W.setCell ta (.pointer (some e))) := by
  rw [rls]
  simp only [Sem.run_bind, as_partsFa, as_partsF, Result.andThen]
  simp [ReflectliteValue.flagAddr, loadVar, isAgg, underlying, Tryd.underlying105, hb, Result.andThen, as_directF, storeVar, Value.cells, storeCells, Addr.add]
  rw [run_store Tryd.prog W ta _ _ (by rfl)]
  simp [ht, hf]

theorem no_as_E (v : Value) (xT : TypeId) (w : World) : (Instr.typeAssert (.iface 161 v) xT 143 true).run Tryd.prog w = .ok (.tuple #[.nilIface, .bool false]) w := run_typeAssert_lacksB Tryd.underlying143 (by kernel_rfl) (by kernel_rfl) v xT w

set_option maxHeartbeats 4000000 in
/-- errors.As at a sentinel: false; what was there is as it was -/
theorem as_sent (e t : Addr) (w : World) (hg : Handle w) :
    Calls Tryd.prog 76 #[.iface 161 (.pointer (some e)), .iface 107 (.pointer (some t))] w fun ev w' => ev = .returned (.bool false) ∧ Below w.heap.size w w' := by
  have h6 := @run_callFunc_extern Tryd.prog 88 _ unpackExt Tryd.func88 (by kernel_rfl) (by kernel_rfl) (by kernel_rfl) (by kernel_rfl)
  have h7 := @run_callFunc_extern Tryd.prog 89 _ (ReflectliteValue.methodAny (ReflectliteValue.valueError "reflectlite.Value.Type" 0) vTypeExt) Tryd.func89 (by kernel_rfl) (by kernel_rfl) (by kernel_rfl) (by kernel_rfl)
  have h8 := @run_callFunc_extern Tryd.prog 90 _ (ReflectliteValue.method (ReflectliteValue.valueError "reflectlite.Value.IsNil" 0) ReflectliteValue.isNil) Tryd.func90 (by kernel_rfl) (by kernel_rfl) (by kernel_rfl) (by kernel_rfl)
  have h27 := @run_callFunc_extern Tryd.prog 129 _ (ReflectliteType.abiMethod kindExt) Tryd.func129 (by kernel_rfl) (by kernel_rfl) (by kernel_rfl) (by kernel_rfl)
  have h37 := @run_callFunc_extern Tryd.prog 140 _ (ReflectliteType.method ReflectliteType.elem) Tryd.func140 (by kernel_rfl) (by kernel_rfl) (by kernel_rfl) (by kernel_rfl)
  have h38 := @run_callFunc_extern Tryd.prog 141 _ (ReflectliteType.relation "Implements" ReflectliteType.implements_) Tryd.func141 (by kernel_rfl) (by kernel_rfl) (by kernel_rfl) (by kernel_rfl)
  have h10 := @run_callFunc_extern Tryd.prog 92 _ ReflectliteType.typeOf Tryd.func92 (by kernel_rfl) (by kernel_rfl) (by kernel_rfl) (by kernel_rfl)
  have h35 := @run_callFunc_extern Tryd.prog 138 _ (ReflectliteType.relation "AssignableTo" ReflectliteType.assignableTo) Tryd.func138 (by kernel_rfl) (by kernel_rfl) (by kernel_rfl) (by kernel_rfl)
  have tO := is_typeOf
  have mA := as_methodAssignableTo
  have aE := as_assignE
  have f6 := as_valueOfT
  have f7 := as_typeT
  have mK := as_methodKind
  have mE := as_methodElem
  have mI := as_methodImplements
  have kT := as_kindT
  have kF := as_kindF
  have eT := as_elemT
  have iF := as_implementsF
  have nA := no_as_E
  have uE := no_unwrap_E
  have vE := no_unwraps_E
  have n8 := as_isNilT ⟨w.heap.size, 0, none⟩ t ((w.alloc (.cells #[.pointer (some t)] 107)).alloc (.cells #[.pointer (some ⟨9, 107, none⟩), .pointer (some ⟨w.heap.size, 0, none⟩), .int .u64 150] 119)) (by simp)
  have hlt : 8 < w.heap.size := World.block_lt_of_cell? w _ hg
  have hg2 : ((w.alloc (.cells #[.pointer (some t)] 107)).alloc (.cells #[.pointer (some ⟨9, 107, none⟩), .pointer (some ⟨w.heap.size, 0, none⟩), .int .u64 150] 119)).cell? ⟨8, 0, none⟩ = some (.iface 139 (.agg #[.pointer (some ⟨9, 29, none⟩)])) := by
    rw [World.cell?_alloc_lt _ _ ⟨8, 0, none⟩ (by simp; omega), World.cell?_alloc_lt _ _ ⟨8, 0, none⟩ hlt]; exact hg
  go_enter Tryd.func76, Tryd.ntmps76
  go_wp2
  refine wp_loop_rounds 1 ?_
  rw [rounds_succ]
  go_wp2
  go_ret
  exact ⟨rfl, below_alloc' (below_alloc' (below_alloc' (Below.refl _ _) _) _) _⟩

set_option maxHeartbeats 4000000 in
/-- errors.As at a fault: true; the target points to it -/
theorem as_fault (e t : Addr) (old : Value) (w : World) (hg : Handle w) (ht0 : w.cell? t = some old) (hf0 : w.frozen? t = false) :
    Calls Tryd.prog 76 #[.iface 105 (.pointer (some e)), .iface 107 (.pointer (some t))] w fun ev w' => ev = .returned (.bool true) ∧ w' = ((((w.alloc (.cells #[.pointer (some t)] 107)).alloc (.cells #[.pointer (some ⟨9, 107, none⟩), .pointer (some ⟨w.heap.size, 0, none⟩), .int .u64 150] 119)).alloc (.cells #[.pointer (some ⟨9, 107, none⟩), .pointer (some ⟨w.heap.size, 0, none⟩), .int .u64 150] 119)).alloc (.cells #[.pointer (some e)] 105)).setCell t (.pointer (some e)) := by
  have h6 := @run_callFunc_extern Tryd.prog 88 _ unpackExt Tryd.func88 (by kernel_rfl) (by kernel_rfl) (by kernel_rfl) (by kernel_rfl)
  have h7 := @run_callFunc_extern Tryd.prog 89 _ (ReflectliteValue.methodAny (ReflectliteValue.valueError "reflectlite.Value.Type" 0) vTypeExt) Tryd.func89 (by kernel_rfl) (by kernel_rfl) (by kernel_rfl) (by kernel_rfl)
  have h8 := @run_callFunc_extern Tryd.prog 90 _ (ReflectliteValue.method (ReflectliteValue.valueError "reflectlite.Value.IsNil" 0) ReflectliteValue.isNil) Tryd.func90 (by kernel_rfl) (by kernel_rfl) (by kernel_rfl) (by kernel_rfl)
  have h27 := @run_callFunc_extern Tryd.prog 129 _ (ReflectliteType.abiMethod kindExt) Tryd.func129 (by kernel_rfl) (by kernel_rfl) (by kernel_rfl) (by kernel_rfl)
  have h37 := @run_callFunc_extern Tryd.prog 140 _ (ReflectliteType.method ReflectliteType.elem) Tryd.func140 (by kernel_rfl) (by kernel_rfl) (by kernel_rfl) (by kernel_rfl)
  have h38 := @run_callFunc_extern Tryd.prog 141 _ (ReflectliteType.relation "Implements" ReflectliteType.implements_) Tryd.func141 (by kernel_rfl) (by kernel_rfl) (by kernel_rfl) (by kernel_rfl)
  have h10 := @run_callFunc_extern Tryd.prog 92 _ ReflectliteType.typeOf Tryd.func92 (by kernel_rfl) (by kernel_rfl) (by kernel_rfl) (by kernel_rfl)
  have h35 := @run_callFunc_extern Tryd.prog 138 _ (ReflectliteType.relation "AssignableTo" ReflectliteType.assignableTo) Tryd.func138 (by kernel_rfl) (by kernel_rfl) (by kernel_rfl) (by kernel_rfl)
  have h11 := @run_callFunc_extern Tryd.prog 107 _ (ReflectliteValue.method (ReflectliteValue.valueError "reflectlite.Value.Elem" 0) ReflectliteValue.elem) Tryd.func107 (by kernel_rfl) (by kernel_rfl) (by kernel_rfl) (by kernel_rfl)
  have h12 := @run_callFunc_extern Tryd.prog 108 _ ReflectliteValue.set Tryd.func108 (by kernel_rfl) (by kernel_rfl) (by kernel_rfl) (by kernel_rfl)
  have tO := as_typeOfF
  have mA := as_methodAssignableTo
  have aE := as_assignF
  have vF := as_valueOfF
  have f6 := as_valueOfT
  have f7 := as_typeT
  have mK := as_methodKind
  have mE := as_methodElem
  have mI := as_methodImplements
  have kT := as_kindT
  have kF := as_kindF
  have eT := as_elemT
  have iF := as_implementsF
  have n8 := as_isNilT ⟨w.heap.size, 0, none⟩ t ((w.alloc (.cells #[.pointer (some t)] 107)).alloc (.cells #[.pointer (some ⟨9, 107, none⟩), .pointer (some ⟨w.heap.size, 0, none⟩), .int .u64 150] 119)) (by simp)
  have hlt : 8 < w.heap.size := World.block_lt_of_cell? w _ hg
  have hg2 : ((w.alloc (.cells #[.pointer (some t)] 107)).alloc (.cells #[.pointer (some ⟨9, 107, none⟩), .pointer (some ⟨w.heap.size, 0, none⟩), .int .u64 150] 119)).cell? ⟨8, 0, none⟩ = some (.iface 139 (.agg #[.pointer (some ⟨9, 29, none⟩)])) := by
    rw [World.cell?_alloc_lt _ _ ⟨8, 0, none⟩ (by simp; omega), World.cell?_alloc_lt _ _ ⟨8, 0, none⟩ hlt]; exact hg
  have htl : t.block < w.heap.size := World.block_lt_of_cell? w _ ht0
  have el := as_elemVT ⟨w.heap.size, 0, none⟩ t (((w.alloc (.cells #[.pointer (some t)] 107)).alloc (.cells #[.pointer (some ⟨9, 107, none⟩), .pointer (some ⟨w.heap.size, 0, none⟩), .int .u64 150] 119)).alloc (.cells #[.pointer (some ⟨9, 107, none⟩), .pointer (some ⟨w.heap.size, 0, none⟩), .int .u64 150] 119)) (by rw [World.cell?_alloc_lt _ _ ⟨w.heap.size, 0, none⟩ (by simp; omega)]; simp)
  have st := as_setF t ⟨w.heap.size + 1 + 1 + 1, 0, none⟩ e old ((((w.alloc (.cells #[.pointer (some t)] 107)).alloc (.cells #[.pointer (some ⟨9, 107, none⟩), .pointer (some ⟨w.heap.size, 0, none⟩), .int .u64 150] 119)).alloc (.cells #[.pointer (some ⟨9, 107, none⟩), .pointer (some ⟨w.heap.size, 0, none⟩), .int .u64 150] 119)).alloc (.cells #[.pointer (some e)] 105))
    (by rw [World.cell?_alloc_at _ _ _ _ (by simp)]; rfl)
    (by rw [World.cell?_alloc_lt _ _ t (by simp; omega), World.cell?_alloc_lt _ _ t (by simp; omega), World.cell?_alloc_lt _ _ t (by simp; omega), World.cell?_alloc_lt _ _ t htl]; exact ht0)
    (by rw [World.frozen?_alloc_old _ _ t (by simp; omega), World.frozen?_alloc_old _ _ t (by simp; omega), World.frozen?_alloc_old _ _ t (by simp; omega), World.frozen?_alloc_old _ _ t (Nat.ne_of_lt htl)]; exact hf0)
  go_enter Tryd.func76, Tryd.ntmps76
  go_wp2
  refine wp_loop_rounds 1 ?_
  rw [rounds_succ]
  go_wp2
  go_ret
  exact ⟨rfl, rfl⟩
end Go.Proofs.YtieeefgkdfijdaaDoor

/- The walks of plain.Code and coded. Condition: the variables read as laid. -/
namespace Go.Proofs.YtieeefgkdfijdaaDoor
open Go.RowKit Go.Deep

def codes : List Nat := [1, 2, 3, 4, 5, 6, 7, 8]
theorem mem_codes {c : Nat} (h1 : 1 ≤ c) (h8 : c ≤ 8) : c ∈ codes := by
  unfold codes
  simp
  omega

theorem code_nil (w : World) : Calls Tryd.prog 55 #[.nilIface] w fun e w' => e = .returned (.tuple #[.int .i64 0, .int .i64 (-1)]) ∧ w = w' := by
  go_enter Tryd.func55, Tryd.ntmps55
  go_wp2
  go_ret2
  exact ⟨rfl, rfl⟩

set_option maxHeartbeats 4000000 in
theorem code_sent (w : World) (a : Nat → Addr) (hS : Sent codes w a) (hH : Handle w) (c : Nat) (h1 : 1 ≤ c) (h8 : c ≤ 8) :
    Calls Tryd.prog 55 #[.iface 161 (.pointer (some (a c)))] w fun e w' => e = .returned (.tuple #[.int .i64 c, .int .i64 (-1)]) ∧ Below w.heap.size w w' := by
  have has := as_sent (a c) ⟨w.heap.size, 0, none⟩ (w.alloc (.cells #[.pointer none] 105)) (hH.below (below_alloc' (Below.refl _ _) _))
  have HAS := hide has
  clear has
  have hn := fun X => run_eql_iface_nil_left (P := Tryd.prog) X 161 (.pointer (some (a c))) Tryd.underlying29
  go_enter Tryd.func55, Tryd.ntmps55
  go_wp2_with
    (go_at_call 76
     refine HAS.out.mono ?_
     rintro e w1 ⟨rfl, hb1⟩
     have hS1 := hS.below (below_trans (below_alloc' (Below.refl _ _) (.cells #[.pointer none] 105)) hb1)
     have e1 := hS1.cell 1 (by decide)
     have e2 := hS1.cell 2 (by decide)
     have e3 := hS1.cell 3 (by decide)
     have e4 := hS1.cell 4 (by decide)
     have e5 := hS1.cell 5 (by decide)
     have e6 := hS1.cell 6 (by decide)
     have e7 := hS1.cell 7 (by decide)
     have e8 := hS1.cell 8 (by decide)
     simp only [glob] at e1 e2 e3 e4 e5 e6 e7 e8)
  clear e1 e2 e3 e4 e5 e6 e7 e8
  have hB0 : Below w.heap.size w w1 := below_trans (below_alloc' (Below.refl _ _) (.cells #[.pointer none] 105)) hb1
  clear hb1
  go_loopw [3, 26] (fun at3 i wr => ∃ k : Nat, k < c ∧ i = .int .i64 k ∧ at3 = .int .i64 (-1) ∧ Below (w1.heap.size + 1) (w1.alloc (.cells #[.iface 161 (.pointer (some (a 1))), .iface 161 (.pointer (some (a 2))), .iface 161 (.pointer (some (a 3))), .iface 161 (.pointer (some (a 4))), .iface 161 (.pointer (some (a 5))), .iface 161 (.pointer (some (a 6))), .iface 161 (.pointer (some (a 7))), .iface 161 (.pointer (some (a 8)))] 29)) wr) (fun _ i _ => 8 - (intOf i).toNat)
  case atStart => exact ⟨0, by omega, rfl, rfl, Below.refl _ _⟩
  case round =>
    obtain ⟨k, hk, rfl, rfl, hB⟩ := hrel
    have hcell : wr.cell? ⟨w1.heap.size, k, none⟩ = some (.iface 161 (.pointer (some (a (k + 1))))) := by
      rw [hB.cell (p := ⟨w1.heap.size, k, none⟩) (by show w1.heap.size < _; omega), World.cell?_alloc_at _ _ _ _ rfl]
      have hk8 : k < 8 := by omega
      clear hk hB
      match k, hk8 with
      | 0, _ => rfl
      | 1, _ => rfl
      | 2, _ => rfl
      | 3, _ => rfl
      | 4, _ => rfl
      | 5, _ => rfl
      | 6, _ => rfl
      | 7, _ => rfl
    have hSr : Sent codes wr a := hS.below (below_trans (below_alloc' hB0 _) (hB.mono (by simp)))
    have his := is_sent wr a hSr c (k + 1) (mem_codes h1 h8) (mem_codes (by omega) (by omega))
    by_cases e : c = k + 1
    · rw [decide_eq_true e] at his
      have HIS := hide his
      clear his
      have HE := hide e
      clear e
      go_wp2_with (go_at_call 77; refine HIS.out.mono ?_; rintro e w2 ⟨rfl, rfl⟩)
      go_ret2
      refine ⟨?_, ?_⟩
      · have := HE.out
        subst this
        rfl
      · exact (below_alloc' hB0 _).trans (hB.mono (by have := hB0.size; omega))
    · rw [decide_eq_false e] at his
      have HIS := hide his
      clear his
      have hk2 : k + 1 < c := by omega
      clear e
      go_wp2_with (go_at_call 77; refine HIS.out.mono ?_; rintro e w2 ⟨rfl, rfl⟩)
      go_roundw
      case rel => exact ⟨k + 1, hk2, by go_num, rfl, hB⟩
      case measure => simp [intOf]; omega

set_option maxHeartbeats 4000000 in
theorem code_fault (w : World) (a : Nat → Addr) (hS : Sent codes w a) (hH : Handle w) (c : Nat) (h1 : 1 ≤ c) (h8 : c ≤ 8) (pb po : Nat) (at_ : Int) (hpb : pb < w.heap.size) (hat : w.cell? ⟨pb, po, none⟩ = some (.int .i64 at_)) (herr : w.cell? ⟨pb, po + 1, none⟩ = some (.iface 161 (.pointer (some (a c))))) :
    Calls Tryd.prog 55 #[.iface 105 (.pointer (some ⟨pb, po, none⟩))] w fun e w' => e = .returned (.tuple #[.int .i64 c, .int .i64 at_]) ∧ Below w.heap.size w w' := by
  have has := as_fault ⟨pb, po, none⟩ ⟨w.heap.size, 0, none⟩ (.pointer none) (w.alloc (.cells #[.pointer none] 105)) (hH.below (below_alloc' (Below.refl _ _) _)) (by simp) (by simp)
  have HAS := hide has
  clear has
  have hn := fun X => run_eql_iface_nil_left (P := Tryd.prog) X 105 (.pointer (some ⟨pb, po, none⟩)) Tryd.underlying29
  go_enter Tryd.func55, Tryd.ntmps55
  go_wp2_with
    (go_at_call 76
     refine HAS.out.mono ?_
     rintro e w1 ⟨rfl, hw1⟩
     have hB0 : Below w.heap.size w w1 := by
       rw [hw1]
       refine Below.setCell ?_ (by simp) _
       exact below_alloc' (below_alloc' (below_alloc' (below_alloc' (below_alloc' (Below.refl _ _) _) _) _) _) _
     have hf1 : w1.cell? ⟨w.heap.size, 0, none⟩ = some (.pointer (some ⟨pb, po, none⟩)) := by
       rw [hw1, World.cell?_setCell_same (u := .pointer none)]
       rw [World.cell?_alloc_lt _ _ ⟨w.heap.size, 0, none⟩ (by simp; omega), World.cell?_alloc_lt _ _ ⟨w.heap.size, 0, none⟩ (by simp; omega), World.cell?_alloc_lt _ _ ⟨w.heap.size, 0, none⟩ (by simp; omega), World.cell?_alloc_lt _ _ ⟨w.heap.size, 0, none⟩ (by simp)]
       simp
     clear hw1
     have hat1 : w1.cell? ⟨pb, po, none⟩ = some (.int .i64 at_) := (hB0.cell (p := ⟨pb, po, none⟩) hpb).trans hat
     have hS1 := hS.below hB0
     have e1 := hS1.cell 1 (by decide)
     have e2 := hS1.cell 2 (by decide)
     have e3 := hS1.cell 3 (by decide)
     have e4 := hS1.cell 4 (by decide)
     have e5 := hS1.cell 5 (by decide)
     have e6 := hS1.cell 6 (by decide)
     have e7 := hS1.cell 7 (by decide)
     have e8 := hS1.cell 8 (by decide)
     simp only [glob] at e1 e2 e3 e4 e5 e6 e7 e8)
  clear e1 e2 e3 e4 e5 e6 e7 e8
  go_loopw [3, 26] (fun at3 i wr => ∃ k : Nat, k < c ∧ i = .int .i64 k ∧ at3 = .int .i64 at_ ∧ Below (w1.heap.size + 1) (w1.alloc (.cells #[.iface 161 (.pointer (some (a 1))), .iface 161 (.pointer (some (a 2))), .iface 161 (.pointer (some (a 3))), .iface 161 (.pointer (some (a 4))), .iface 161 (.pointer (some (a 5))), .iface 161 (.pointer (some (a 6))), .iface 161 (.pointer (some (a 7))), .iface 161 (.pointer (some (a 8)))] 29)) wr) (fun _ i _ => 8 - (intOf i).toNat)
  case atStart => exact ⟨0, by omega, rfl, rfl, Below.refl _ _⟩
  case round =>
    obtain ⟨k, hk, rfl, rfl, hB⟩ := hrel
    have hcell : wr.cell? ⟨w1.heap.size, k, none⟩ = some (.iface 161 (.pointer (some (a (k + 1))))) := by
      rw [hB.cell (p := ⟨w1.heap.size, k, none⟩) (by show w1.heap.size < _; omega), World.cell?_alloc_at _ _ _ _ rfl]
      have hk8 : k < 8 := by omega
      clear hk hB
      match k, hk8 with
      | 0, _ => rfl
      | 1, _ => rfl
      | 2, _ => rfl
      | 3, _ => rfl
      | 4, _ => rfl
      | 5, _ => rfl
      | 6, _ => rfl
      | 7, _ => rfl
    have hSr : Sent codes wr a := hS.below (below_trans (below_alloc' hB0 _) (hB.mono (by simp)))
    have herr1 : wr.cell? ⟨pb, po + 1, none⟩ = some (.iface 161 (.pointer (some (a c)))) := ((below_trans (below_alloc' hB0 _) (hB.mono (by simp))).cell (p := ⟨pb, po + 1, none⟩) hpb).trans herr
    have his := is_fault wr a hSr pb po c (k + 1) (mem_codes h1 h8) (mem_codes (by omega) (by omega)) herr1
    clear herr1
    by_cases e : c = k + 1
    · rw [decide_eq_true e] at his
      have HIS := hide his
      clear his
      have HE := hide e
      clear e
      go_wp2_with (go_at_call 77; refine HIS.out.mono ?_; rintro e w2 ⟨rfl, rfl⟩)
      go_ret2
      refine ⟨?_, ?_⟩
      · have := HE.out
        subst this
        rfl
      · exact (below_alloc' hB0 _).trans (hB.mono (by have := hB0.size; omega))
    · rw [decide_eq_false e] at his
      have HIS := hide his
      clear his
      have hk2 : k + 1 < c := by omega
      clear e
      go_wp2_with (go_at_call 77; refine HIS.out.mono ?_; rintro e w2 ⟨rfl, rfl⟩)
      go_roundw
      case rel => exact ⟨k + 1, hk2, by go_num, rfl, hB⟩
      case measure => simp [intOf]; omega

set_option maxHeartbeats 1000000 in
/-- coded: is the error's code this one? -/
theorem coded_any (w : World) (a : Nat → Addr) (hS : Sent codes w a) (hH : Handle w) (c : Nat) (hc : c ≤ 8) (x : Int) :
    Calls Tryd.prog 24 #[errC a c, .int .i64 x] w fun e w' => e = .returned (.bool (decide ((c : Int) = x))) ∧ Below w.heap.size w w' := by
  by_cases h0 : c = 0
  · subst h0
    have e0 : errC a ((0 : Nat) : Int) = .nilIface := rfl
    rw [e0]
    by_cases hx : x = 0
    · subst hx
      go_enter Tryd.func24, Tryd.ntmps24
      go_wp2_with (go_at_call 55; refine (code_nil _).mono ?_; rintro e w' ⟨rfl, rfl⟩)
      go_ret
      exact ⟨rfl, Below.refl _ _⟩
    · have h1 : (0 == x) = false := by simpa using fun h : 0 = x => hx h.symm
      have h2 : decide (((0 : Nat) : Int) = x) = false := decide_eq_false (fun h => hx h.symm)
      rw [h2]
      clear hx h2
      go_enter Tryd.func24, Tryd.ntmps24
      go_wp2_with (go_at_call 55; refine (code_nil _).mono ?_; rintro e w' ⟨rfl, rfl⟩)
      go_ret
      exact ⟨rfl, Below.refl _ _⟩
  · have e0 : errC a (c : Int) = .iface 161 (.pointer (some (a c))) := by unfold errC; rw [if_neg (by omega)]; rfl
    rw [e0]
    have hcode := code_sent w a hS hH c (by omega) hc
    have HC := hide hcode
    clear hcode e0 h0
    generalize a c = a0 at HC ⊢
    have hcc : ∃ y : Int, y = (c : Int) := ⟨_, rfl⟩
    obtain ⟨y, hy⟩ := hcc
    rw [← hy] at HC ⊢
    clear hy hc
    by_cases hx : y = x
    · subst hx
      rw [decide_eq_true rfl]
      go_enter Tryd.func24, Tryd.ntmps24
      go_wp2_with (go_at_call 55; refine HC.out.mono ?_; rintro e w' ⟨rfl, hb⟩)
      go_ret
      exact ⟨rfl, hb⟩
    · have h1 : (y == x) = false := by simpa using hx
      rw [decide_eq_false hx]
      clear hx
      go_enter Tryd.func24, Tryd.ntmps24
      go_wp2_with (go_at_call 55; refine HC.out.mono ?_; rintro e w' ⟨rfl, hb⟩)
      go_ret
      exact ⟨rfl, hb⟩
end Go.Proofs.YtieeefgkdfijdaaDoor

/- The walks of secret.Perfect and the closed fact pad. No condition. -/
namespace Go.Proofs.YtieeefgkdfijdaaDoor
open Go.RowKit Go.Deep

/-- are all rows like the first one? -/
def isPerfect (t : List (List Int)) : Bool := t.all fun r => decide (r = t.getD 0 [])
theorem top_nat {K : List Int} {L : List (List Int)} (hg : GoodCipher K L) : ∃ N : Nat, (N : Int) = topOf L.flatten 0 := ⟨(topOf L.flatten 0).toNat, by have := hg.top; omega⟩
theorem signs_lists {K : List Int} {L : List (List Int)} (N : Nat) (hN : (N : Int) = topOf L.flatten 0) :
    ((List.range (L.getD 0 []).length).map fun j => (List.range (N + 1)).map fun i => sgn K L j (i : Nat) L.length) = signsOf K L := by
  unfold signsOf signTab signRow
  rw [← hN]
  rfl
theorem signs_row (K : List Int) (L : List (List Int)) (N : Nat) (hN : (N : Int) = topOf L.flatten 0) (m : Nat) (hm : m < (L.getD 0 []).length) : (signsOf K L).getD m [] = (List.range (N + 1)).map fun i => sgn K L m (i : Nat) L.length := by
  rw [← signs_lists N hN, getD_eq _ _ _ (by simpa using hm), List.getElem_map, List.getElem_range]
theorem signsOf_len (K : List Int) (L : List (List Int)) : (signsOf K L).length = (L.getD 0 []).length := by simp [signsOf, signTab]

set_option maxRecDepth 100000 in
set_option maxHeartbeats 4000000 in
theorem perfect_err (Ka La : Option Addr) (K : List Int) (L : List (List Int)) (kc lc : Nat) (w : World) (a : Nat → Addr) (hE : Env [2, 3] w a) (hK : Ints w Ka K) (hL : Lists w La L) (h : ccode K L ≠ 0) :
    Calls Tryd.prog 22 #[.agg #[.slice Ka K.length kc, .slice La L.length lc]] w fun e w' => e = .returned (.tuple #[.bool false, errC a (ccode K L)]) ∧ Below w.heap.size w w' := by
  have hv := fun w' (hb : Below w.heap.size w w') => secValid_any Ka La K L kc lc w' a (hE.below hb) (hK.below hb) (hL.below hb)
  rw [errC_pos a _ h] at hv ⊢
  have HV := hide hv
  clear hv h
  generalize a (ccode K L).toNat = a0 at HV ⊢
  go_enter Tryd.func22, Tryd.ntmps22
  go_wp2_with (go_at_call 25; refine Calls.mono (HV.out _ (by first | exact Below.refl _ _ | exact below_alloc' (Below.refl _ _) _)) ?_; rintro e w1 ⟨rfl, hb1⟩)
  go_ret2
  exact ⟨rfl, below_trans (below_alloc' (Below.refl _ _) _) hb1⟩

set_option maxRecDepth 100000 in
set_option maxHeartbeats 4000000 in
theorem perfect_ok (Ka La : Option Addr) (K : List Int) (L : List (List Int)) (kc lc : Nat) (w : World) (a : Nat → Addr) (hE : Env [2, 3] w a) (hK : Ints w Ka K) (hL : Lists w La L) (hg : GoodCipher K L) (h0 : ccode K L = 0) :
    Calls Tryd.prog 22 #[.agg #[.slice Ka K.length kc, .slice La L.length lc]] w fun e w' => e = .returned (.tuple #[.bool (isPerfect (signsOf K L)), .nilIface]) ∧ Below w.heap.size w w' := by
  obtain ⟨N, hN⟩ := top_nat hg
  have hv := fun w' (hb : Below w.heap.size w w') => secValid_any Ka La K L kc lc w' a (hE.below hb) (hK.below hb) (hL.below hb)
  rw [h0, errC_zero] at hv
  have HV := hide hv
  have hsi := fun w' (hb : Below w.heap.size w w') => signs_ok Ka La K L kc lc w' (hK.below hb) (hL.below hb) hg N hN
  have hM0 := (hg.row 0 (by have := (keys_good hg.keys).2.2.2; have := hg.len; omega)).pos
  have hM16 := (hg.row 0 (by have := (keys_good hg.keys).2.2.2; have := hg.len; omega)).most
  have hT15 := hg.top
  rw [← hN] at hT15
  have hrows := fun m hm => signs_row K L N hN m hm
  have htl := signsOf_len K L
  generalize (L.getD 0 []).length = M at hsi hM0 hM16 hrows htl
  have HSI := hide hsi
  have HROWS := hide hrows
  have HTL := hide htl
  clear hv hsi hrows htl
  have HN := hide hN
  clear h0 hg hN
  go_enter Tryd.func22, Tryd.ntmps22
  go_wp2_with (first
    | (go_at_call 25; refine Calls.mono (HV.out _ (by first | exact Below.refl _ _ | exact below_alloc' (Below.refl _ _) _)) ?_; rintro e w1 ⟨rfl, hb1⟩; obtain ⟨k1, k2⟩ := below_cells hb1
       have hz1 : w.heap.size < w1.heap.size := by (have := hb1.size; simp at this; omega)
       have y0 : w1.cell? ⟨w.heap.size, 0, none⟩ = some (.slice Ka K.length kc) := by rw [k1 _ _ (by simp)]; simp
       have y1 : w1.cell? ⟨w.heap.size, 1, none⟩ = some (.slice La L.length lc) := by rw [k1 _ _ (by simp)]; simp
       have hB1 : Below w.heap.size w w1 := below_trans (below_alloc' (Below.refl _ _) _) hb1
       clear k1 k2)
    | (go_at_call 53; refine Calls.mono (HSI.out w1 hB1) ?_; intro e w2 hpost; obtain ⟨B, rfl, hB, hT, hb2⟩ := hpost))
  have hB2 : Below w.heap.size w w2 := below_trans hB1 hb2
  have hc0 : w2.cell? ⟨B, 0, none⟩ = some (.slice (some ⟨B + 1, 0, none⟩) (N + 1) (N + 1)) := hT.outer.cell hM0
  go_loopw [17] (fun v wr => ∃ i : Nat, i ≤ M ∧ v = .int .i64 i ∧ Hid (∀ j, j < i → (signsOf K L).getD j [] = (signsOf K L).getD 0 []) ∧ Below w2.heap.size w2 wr) (fun v _ => M - (intOf v).toNat)
  case atStart => exact ⟨0, Nat.zero_le _, rfl, hide (fun j h => absurd h (by omega)), Below.refl _ _⟩
  case round =>
    obtain ⟨i, hi, rfl, HE, hBi⟩ := hrel
    obtain ⟨wi, rfl⟩ : ∃ wi : World, wi = wr := ⟨_, rfl⟩
    have i0 : (0 : Int) ≤ (i : Int) := Int.natCast_nonneg _
    have hTi : Tab wi B M (N + 1) (fun m s => sgn K L m (s : Nat) L.length) := hT.below hBi hT.lt
    by_cases hiM : i < M
    · have c1 : wi.cell? ⟨B, i, none⟩ = some (.slice (some ⟨B + 1 + i, 0, none⟩) (N + 1) (N + 1)) := hTi.outer.cell hiM
      have c2 : wi.cell? ⟨B, 0, none⟩ = some (.slice (some ⟨B + 1, 0, none⟩) (N + 1) (N + 1)) := hTi.outer.cell hM0
      have hIi := Ints.ofRow (f := fun s => sgn K L i (s : Nat) L.length) (hTi.inner i hiM) (by omega)
      have hI0 := Ints.ofRow (f := fun s => sgn K L 0 (s : Nat) L.length) (hTi.inner 0 hM0) (by omega)
      have hRi := HROWS.out i hiM
      have hR0 := HROWS.out 0 hM0
      have hli : ((List.range (N + 1)).map fun s => sgn K L i (s : Nat) L.length).length = N + 1 := by simp
      have hl0 : ((List.range (N + 1)).map fun s => sgn K L 0 (s : Nat) L.length).length = N + 1 := by simp
      have hcall := PSecretTable.slices_Equal_int_int.calls (N + 1 + 1) (some ⟨B + 1 + i, 0, none⟩) (N + 1) ((List.range (N + 1)).map fun s => sgn K L i (s : Nat) L.length) (some ⟨B + 1, 0, none⟩) (N + 1) ((List.range (N + 1)).map fun s => sgn K L 0 (s : Nat) L.length) _ wi hIi.toC (by rw [hli]; exact Nat.le_refl _) (by simpa using hI0.toC) (by rw [hl0]; exact Nat.le_refl _) (by have := equal_f ((List.range (N + 1)).map fun s => sgn K L i (s : Nat) L.length) ((List.range (N + 1)).map fun s => sgn K L 0 (s : Nat) L.length) (by rw [hli]; omega); rw [hli] at this; exact this)
      rw [hli, hl0, ← hRi, ← hR0] at hcall
      have HCALL := hide hcall
      clear hcall hIi hI0 hRi hR0 hli hl0
      have i1 : (i : Int) < (M : Int) := by omega
      have m0 : (0 : Int) < (M : Int) := by omega
      by_cases he : (signsOf K L).getD i [] = (signsOf K L).getD 0 []
      · rw [decide_eq_true he] at HCALL
        have HEQ := hide he
        clear he
        go_wp2_with (go_at_call 54; refine Calls.mono HCALL.out ?_; rintro e w4 ⟨rfl, hd4⟩; have hb4 := drawn_below hd4)
        go_roundw
        case rel => exact ⟨i + 1, by omega, by go_num, hide (fun j hj => by
          by_cases e : j = i
          · rw [e]; exact HEQ.out
          · exact HE.out j (by omega)), hBi.trans (hb4.mono hBi.size)⟩
        case measure => simp [intOf]; omega
      · rw [decide_eq_false he] at HCALL
        have hnot : isPerfect (signsOf K L) = false := by
          unfold isPerfect
          rw [Bool.eq_false_iff]
          intro h
          rw [List.all_eq_true] at h
          have hlt : i < (signsOf K L).length := by rw [HTL.out]; exact hiM
          have h2 := h _ (List.getElem_mem hlt)
          rw [decide_eq_true_eq] at h2
          exact he (by rw [getD_eq _ i _ hlt]; exact h2)
        have HNOT := hide hnot
        clear he hnot
        go_wp2_with (go_at_call 54; refine Calls.mono HCALL.out ?_; rintro e w4 ⟨rfl, hd4⟩; have hb4 := drawn_below hd4)
        go_ret2
        exact ⟨by rw [HNOT.out]; rfl, hB2.trans ((hBi.trans (hb4.mono hBi.size)).mono hB2.size)⟩
    · obtain rfl : i = M := by omega
      have hyes : isPerfect (signsOf K L) = true := by
        unfold isPerfect
        rw [List.all_eq_true]
        intro r hr
        obtain ⟨j, hj, rfl⟩ := List.getElem_of_mem hr
        rw [decide_eq_true_eq, ← HE.out j (by rw [← HTL.out]; exact hj), getD_eq _ j _ hj]
      have HYES := hide hyes
      clear hyes
      go_wp2_with (fail)
      go_ret2
      exact ⟨by rw [HYES.out]; rfl, hB2.trans (hBi.mono hB2.size)⟩
end Go.Proofs.YtieeefgkdfijdaaDoor

/- The walk of the closed fact pad. No condition. -/
namespace Go.Proofs.YtieeefgkdfijdaaDoor
open Go.RowKit Go.Deep

theorem Ints.lit (w : World) (l : List Int) (t : TypeId) (hl : l.length ≤ 9223372036854775807) : Ints (w.alloc (.cells (intCells l).toArray t)) (some ⟨w.heap.size, 0, none⟩) l :=
  ⟨hl, fun i hi => ⟨w.heap.size, 0, rfl, by simp, by
    have := intCells_at l i hi
    simpa using this⟩⟩

theorem pad_code : ccode [1, 1] [[0, 1], [1, 0]] = 0 := by decide +kernel
theorem pad_perfect : isPerfect (signsOf [1, 1] [[0, 1], [1, 0]]) = true := by decide +kernel
set_option maxRecDepth 100000 in
set_option maxHeartbeats 4000000 in
theorem pad_any (w : World) (a : Nat → Addr) (hE : Env [2, 3] w a) :
    Calls Tryd.prog 17 #[] w fun e w' => e = .returned (.bool true) ∧ Below w.heap.size w w' := by
  have hK := Ints.lit w [1, 1] 3 (by decide)
  have h1 := Ints.lit (w.alloc (.cells #[.int .i64 1, .int .i64 1] 3)) [0, 1] 3 (by decide)
  have h2 := Ints.lit ((w.alloc (.cells #[.int .i64 1, .int .i64 1] 3)).alloc (.cells #[.int .i64 0, .int .i64 1] 3)) [1, 0] 3 (by decide)
  obtain ⟨W3, hW3⟩ : ∃ W3, W3 = ((w.alloc (.cells #[.int .i64 1, .int .i64 1] 3)).alloc (.cells #[.int .i64 0, .int .i64 1] 3)).alloc (.cells #[.int .i64 1, .int .i64 0] 3) := ⟨_, rfl⟩
  have hs3 : W3.heap.size = w.heap.size + 1 + 1 + 1 := by rw [hW3]; simp
  have hB3 : Below w.heap.size w W3 := by rw [hW3]; exact below_alloc' (below_alloc' (below_alloc' (Below.refl _ _) _) _) _
  have hK3 : Ints W3 (some ⟨w.heap.size, 0, none⟩) [1, 1] := by rw [hW3]; exact (hK.below (below_alloc' (Below.refl _ _) _)).below (below_alloc' (Below.refl _ _) _)
  have h13 : Ints W3 (some ⟨w.heap.size + 1, 0, none⟩) [0, 1] := by rw [hW3]; simpa [intCells] using h1.below (below_alloc' (Below.refl _ _) (.cells #[.int .i64 1, .int .i64 0] 3))
  have h23 : Ints W3 (some ⟨w.heap.size + 1 + 1, 0, none⟩) [1, 0] := by rw [hW3]; simpa [intCells] using h2
  have hL : Lists (W3.alloc (.cells #[.slice (some ⟨w.heap.size + 1, 0, none⟩) 2 2, .slice (some ⟨w.heap.size + 1 + 1, 0, none⟩) 2 2] 33)) (some ⟨w.heap.size + 1 + 1 + 1, 0, none⟩) [[0, 1], [1, 0]] := ⟨by decide, fun i hi => by
    have hi' : i = 0 ∨ i = 1 := by simp at hi; omega
    rcases hi' with rfl | rfl
    · exact ⟨w.heap.size + 1 + 1 + 1, 0, some ⟨w.heap.size + 1, 0, none⟩, 2, rfl, by simp [hs3], by rw [← hs3]; simp, by decide, h13.below (below_alloc' (Below.refl _ _) _)⟩
    · exact ⟨w.heap.size + 1 + 1 + 1, 0, some ⟨w.heap.size + 1 + 1, 0, none⟩, 2, rfl, by simp [hs3], by rw [← hs3]; simp, by decide, h23.below (below_alloc' (Below.refl _ _) _)⟩⟩
  have hp := perfect_ok (some ⟨w.heap.size, 0, none⟩) (some ⟨w.heap.size + 1 + 1 + 1, 0, none⟩) [1, 1] [[0, 1], [1, 0]] 2 2 _ a (hE.below (below_alloc' hB3 _)) (hK3.below (below_alloc' (Below.refl _ _) _)) hL (ccode_zero pad_code) pad_code
  rw [pad_perfect, hW3] at hp
  have HP := hide hp
  have hB4 := below_alloc' hB3 (.cells #[.slice (some ⟨w.heap.size + 1, 0, none⟩) 2 2, .slice (some ⟨w.heap.size + 1 + 1, 0, none⟩) 2 2] 33)
  rw [hW3] at hB4
  clear hp hL h13 h23 hK3 hB3 hs3 hW3 hK h1 h2
  go_enter Tryd.func17, Tryd.ntmps17
  go_wp2_with (go_at_call 22; refine Calls.mono HP.out ?_; rintro e w4 ⟨rfl, hb4⟩)
  go_ret
  exact ⟨rfl, below_trans hB4 hb4⟩
end Go.Proofs.YtieeefgkdfijdaaDoor

/- The walk of secret.Share at bad arguments, and the contracts of what the law SecretShare calls. No condition. -/
namespace Go.Proofs.YtieeefgkdfijdaaDoor
open Go.RowKit Go.Deep Go.Shelf Go.Proofs.YtieeefgkdfijdaaDoorW.PrintWords

attribute [local go_sem] Oper.semAt_some

theorem errC_eight (a : Nat → Addr) : errC a 8 = .iface 161 (.pointer (some (a 8))) := rfl
set_option maxRecDepth 100000 in
set_option maxHeartbeats 4000000 in
theorem share_err (A : Option Addr) (l : List Int) (c : Nat) (p n : Int) (w : World) (a : Nat → Addr) (hE : Env [2, 3, 8] w a) (hA : Ints w A l) (he : shErr p l n ≠ 0) :
    Calls Tryd.prog 35 #[.int .i64 p, .slice A l.length c, .int .i64 n] w fun e w' => e = .returned (.tuple #[.slice none 0 0, errC a (shErr p l n)]) ∧ Below w.heap.size w w' := by
  have hlen := hA.len
  have hw0 : Below w.heap.size w (w.alloc (.cells #[.int .i64 p] 3)) := below_alloc' (Below.refl _ _) _
  have HW0 := hide hw0
  have HPX := hide (fun w' (hb : Below (w.alloc (.cells #[.int .i64 p] 3)).heap.size (w.alloc (.cells #[.int .i64 p] 3)) w') => show w'.cell? ⟨w.heap.size, 0, none⟩ = some (.int .i64 p) by
    rw [hb.cell (p := ⟨w.heap.size, 0, none⟩) (by simp)]; simp)
  have HEN := hide (fun w' (hb : Below (w.alloc (.cells #[.int .i64 p] 3)).heap.size (w.alloc (.cells #[.int .i64 p] 3)) w') =>
    (⟨(hE.below (below_trans hw0 hb)).cell 2 (by decide), (hE.below (below_trans hw0 hb)).cell 3 (by decide), (hE.below (below_trans hw0 hb)).cell 8 (by decide)⟩ : w'.cell? ⟨glob 2, 0, none⟩ = _ ∧ w'.cell? ⟨glob 3, 0, none⟩ = _ ∧ w'.cell? ⟨glob 8, 0, none⟩ = _))
  have HF := hide (fun w' => fieldC_ok p w')
  have HEL := hide (fun w' (hb : Below (w.alloc (.cells #[.int .i64 p] 3)).heap.size (w.alloc (.cells #[.int .i64 p] 3)) w') => elements_any A l c p 0 w' (hA.below (below_trans hw0 hb)))
  have HFI := hide (fun W (hW : Below (w.alloc (.cells #[.int .i64 p] 3)).heap.size (w.alloc (.cells #[.int .i64 p] 3)) W) w' (hm : Marked w.heap.size W w') => show Below w.heap.size w w' from (below_trans HW0.out hW).trans hm.1)
  obtain ⟨r, hr⟩ : ∃ r, shErr p l n = r := ⟨_, rfl⟩
  rw [hr] at he ⊢
  simp only [glob] at HEN
  have hf0 : fieldOf p = true → 2 ≤ p ∧ p ≤ 997 := fieldOf_range
  unfold shErr at hr
  cases hf : fieldOf p
  · rw [if_pos hf] at hr
    rw [hf] at HF
    subst hr
    clear hf he hw0 hf0
    refine callsIn_wide (n := 3) |>.1 ?_
    refine callsIn_of_wp_marks Tryd.func35 rfl trivial ?_ rfl
    refine wpIn_wide.2 ?_
    simp only [Tryd.ntmps35, List.size_toArray, List.length_cons, List.length_nil, Nat.reduceAdd, Nat.reduceSub, Array.replicate_succ, Array.replicate_zero, List.push_toArray, List.append_toArray, List.nil_append, List.cons_append]
    go_wp2_with (first
      | (go_at_call 63; refine Calls.mono (HF.out _) ?_; rintro e w1 ⟨rfl, hb1⟩; have y1 := HPX.out w1 hb1; obtain ⟨g2, g3, g8⟩ := HEN.out w1 hb1)
      | (go_at_call 64; refine Calls.mono (HEL.out w1 hb1) ?_; rintro e w2 ⟨rfl, hb2⟩; have hB2 := below_trans hb1 hb2; have y2 := HPX.out w2 hB2; obtain ⟨k2, k3, k8⟩ := HEN.out w2 hB2))
    go_region
    all_goals go_wp2_with (fail)
    all_goals exact leaves_marks w [] _ List.nodup_nil (fun D h => absurd h List.not_mem_nil) (fun w' hm => ⟨_, results_tmp2 rfl _ _ _, rfl, HFI.out _ (below_drewN' hb1 1) w' hm⟩)
  · obtain ⟨p2, p997⟩ := hf0 hf
    rw [hf] at HF
    rw [if_neg (by rw [hf]; decide)] at hr
    clear hf0 hf
    by_cases c1 : n < 1
    · rw [if_pos ((.inl c1))] at hr
      subst hr
      clear he
      refine callsIn_wide (n := 3) |>.1 ?_
      refine callsIn_of_wp_marks Tryd.func35 rfl trivial ?_ rfl
      refine wpIn_wide.2 ?_
      simp only [Tryd.ntmps35, List.size_toArray, List.length_cons, List.length_nil, Nat.reduceAdd, Nat.reduceSub, Array.replicate_succ, Array.replicate_zero, List.push_toArray, List.append_toArray, List.nil_append, List.cons_append]
      go_wp2_with (first
        | (go_at_call 63; refine Calls.mono (HF.out _) ?_; rintro e w1 ⟨rfl, hb1⟩; have y1 := HPX.out w1 hb1; obtain ⟨g2, g3, g8⟩ := HEN.out w1 hb1)
        | (go_at_call 64; refine Calls.mono (HEL.out w1 hb1) ?_; rintro e w2 ⟨rfl, hb2⟩; have hB2 := below_trans hb1 hb2; have y2 := HPX.out w2 hB2; obtain ⟨k2, k3, k8⟩ := HEN.out w2 hB2))
      go_region
      all_goals go_wp2_with (fail)
      all_goals exact leaves_marks w [] _ List.nodup_nil (fun D h => absurd h List.not_mem_nil) (fun w' hm => ⟨_, results_tmp2 rfl _ _ _, rfl, HFI.out _ (below_drewN' hb1 1) w' hm⟩)
    by_cases c2 : n > p - 1
    · rw [if_pos ((.inr (.inl c2)))] at hr
      subst hr
      clear he
      refine callsIn_wide (n := 3) |>.1 ?_
      refine callsIn_of_wp_marks Tryd.func35 rfl trivial ?_ rfl
      refine wpIn_wide.2 ?_
      simp only [Tryd.ntmps35, List.size_toArray, List.length_cons, List.length_nil, Nat.reduceAdd, Nat.reduceSub, Array.replicate_succ, Array.replicate_zero, List.push_toArray, List.append_toArray, List.nil_append, List.cons_append]
      go_wp2_with (first
        | (go_at_call 63; refine Calls.mono (HF.out _) ?_; rintro e w1 ⟨rfl, hb1⟩; have y1 := HPX.out w1 hb1; obtain ⟨g2, g3, g8⟩ := HEN.out w1 hb1)
        | (go_at_call 64; refine Calls.mono (HEL.out w1 hb1) ?_; rintro e w2 ⟨rfl, hb2⟩; have hB2 := below_trans hb1 hb2; have y2 := HPX.out w2 hB2; obtain ⟨k2, k3, k8⟩ := HEN.out w2 hB2))
      go_region
      all_goals go_wp2_with (fail)
      all_goals exact leaves_marks w [] _ List.nodup_nil (fun D h => absurd h List.not_mem_nil) (fun w' hm => ⟨_, results_tmp2 rfl _ _ _, rfl, HFI.out _ (below_drewN' hb1 1) w' hm⟩)
    by_cases c3 : n > 24
    · rw [if_pos ((.inr (.inr (.inl c3))))] at hr
      subst hr
      clear he
      refine callsIn_wide (n := 3) |>.1 ?_
      refine callsIn_of_wp_marks Tryd.func35 rfl trivial ?_ rfl
      refine wpIn_wide.2 ?_
      simp only [Tryd.ntmps35, List.size_toArray, List.length_cons, List.length_nil, Nat.reduceAdd, Nat.reduceSub, Array.replicate_succ, Array.replicate_zero, List.push_toArray, List.append_toArray, List.nil_append, List.cons_append]
      go_wp2_with (first
        | (go_at_call 63; refine Calls.mono (HF.out _) ?_; rintro e w1 ⟨rfl, hb1⟩; have y1 := HPX.out w1 hb1; obtain ⟨g2, g3, g8⟩ := HEN.out w1 hb1)
        | (go_at_call 64; refine Calls.mono (HEL.out w1 hb1) ?_; rintro e w2 ⟨rfl, hb2⟩; have hB2 := below_trans hb1 hb2; have y2 := HPX.out w2 hB2; obtain ⟨k2, k3, k8⟩ := HEN.out w2 hB2))
      go_region
      all_goals go_wp2_with (fail)
      all_goals exact leaves_marks w [] _ List.nodup_nil (fun D h => absurd h List.not_mem_nil) (fun w' hm => ⟨_, results_tmp2 rfl _ _ _, rfl, HFI.out _ (below_drewN' hb1 1) w' hm⟩)
    by_cases c4 : (l.length : Int) < 1
    · rw [if_pos ((.inr (.inr (.inr (.inl (by omega))))))] at hr
      subst hr
      clear he
      refine callsIn_wide (n := 3) |>.1 ?_
      refine callsIn_of_wp_marks Tryd.func35 rfl trivial ?_ rfl
      refine wpIn_wide.2 ?_
      simp only [Tryd.ntmps35, List.size_toArray, List.length_cons, List.length_nil, Nat.reduceAdd, Nat.reduceSub, Array.replicate_succ, Array.replicate_zero, List.push_toArray, List.append_toArray, List.nil_append, List.cons_append]
      go_wp2_with (first
        | (go_at_call 63; refine Calls.mono (HF.out _) ?_; rintro e w1 ⟨rfl, hb1⟩; have y1 := HPX.out w1 hb1; obtain ⟨g2, g3, g8⟩ := HEN.out w1 hb1)
        | (go_at_call 64; refine Calls.mono (HEL.out w1 hb1) ?_; rintro e w2 ⟨rfl, hb2⟩; have hB2 := below_trans hb1 hb2; have y2 := HPX.out w2 hB2; obtain ⟨k2, k3, k8⟩ := HEN.out w2 hB2))
      go_region
      all_goals go_wp2_with (fail)
      all_goals exact leaves_marks w [] _ List.nodup_nil (fun D h => absurd h List.not_mem_nil) (fun w' hm => ⟨_, results_tmp2 rfl _ _ _, rfl, HFI.out _ (below_drewN' hb1 1) w' hm⟩)
    by_cases c5 : (l.length : Int) > 12
    · rw [if_pos ((.inr (.inr (.inr (.inr (by omega))))))] at hr
      subst hr
      clear he
      refine callsIn_wide (n := 3) |>.1 ?_
      refine callsIn_of_wp_marks Tryd.func35 rfl trivial ?_ rfl
      refine wpIn_wide.2 ?_
      simp only [Tryd.ntmps35, List.size_toArray, List.length_cons, List.length_nil, Nat.reduceAdd, Nat.reduceSub, Array.replicate_succ, Array.replicate_zero, List.push_toArray, List.append_toArray, List.nil_append, List.cons_append]
      go_wp2_with (first
        | (go_at_call 63; refine Calls.mono (HF.out _) ?_; rintro e w1 ⟨rfl, hb1⟩; have y1 := HPX.out w1 hb1; obtain ⟨g2, g3, g8⟩ := HEN.out w1 hb1)
        | (go_at_call 64; refine Calls.mono (HEL.out w1 hb1) ?_; rintro e w2 ⟨rfl, hb2⟩; have hB2 := below_trans hb1 hb2; have y2 := HPX.out w2 hB2; obtain ⟨k2, k3, k8⟩ := HEN.out w2 hB2))
      go_region
      all_goals go_wp2_with (fail)
      all_goals exact leaves_marks w [] _ List.nodup_nil (fun D h => absurd h List.not_mem_nil) (fun w' hm => ⟨_, results_tmp2 rfl _ _ _, rfl, HFI.out _ (below_drewN' hb1 1) w' hm⟩)
    have hn : ¬ (n < 1 ∨ n > p - 1 ∨ n > 24 ∨ l.length = 0 ∨ 12 < l.length) := by omega
    rw [if_neg hn] at hr
    cases hi : inside l p 0
    · rw [hi, if_neg (by decide)] at hr
      rw [hi] at HEL
      subst hr
      clear he hi hn
      refine callsIn_wide (n := 3) |>.1 ?_
      refine callsIn_of_wp_marks Tryd.func35 rfl trivial ?_ rfl
      refine wpIn_wide.2 ?_
      simp only [Tryd.ntmps35, List.size_toArray, List.length_cons, List.length_nil, Nat.reduceAdd, Nat.reduceSub, Array.replicate_succ, Array.replicate_zero, List.push_toArray, List.append_toArray, List.nil_append, List.cons_append]
      go_wp2_with (first
        | (go_at_call 63; refine Calls.mono (HF.out _) ?_; rintro e w1 ⟨rfl, hb1⟩; have y1 := HPX.out w1 hb1; obtain ⟨g2, g3, g8⟩ := HEN.out w1 hb1)
        | (go_at_call 64; refine Calls.mono (HEL.out w1 hb1) ?_; rintro e w2 ⟨rfl, hb2⟩; have hB2 := below_trans hb1 hb2; have y2 := HPX.out w2 hB2; obtain ⟨k2, k3, k8⟩ := HEN.out w2 hB2))
      go_region
      all_goals go_wp2_with (fail)
      all_goals exact leaves_marks w [] _ List.nodup_nil (fun D h => absurd h List.not_mem_nil) (fun w' hm => ⟨_, results_tmp2 rfl _ _ _, rfl, HFI.out _ (below_drewN' hB2 1) w' hm⟩)
    · rw [hi, if_pos rfl] at hr
      exact absurd hr.symm he
end Go.Proofs.YtieeefgkdfijdaaDoor

/- The walk of secret.Join. No condition. -/
namespace Go.Proofs.YtieeefgkdfijdaaDoor
open Go.RowKit Go.Deep Go.Sort Go.Proofs.YtieeefgkdfijdaaDoorW.PrintWords

/-- the numbers in order -/
def sorted (l : List Int) : List Int := l.mergeSort fun x y => decide (x ≤ y)
theorem sorted_length (l : List Int) : (sorted l).length = l.length := List.length_mergeSort l
theorem sorted_nodup (l : List Int) : (sorted l).Nodup ↔ l.Nodup := (List.mergeSort_perm l _).nodup_iff
theorem sorted_le (l : List Int) : (sorted l).Pairwise (fun a b => a ≤ b) := by
  have h := List.pairwise_mergeSort (le := fun (x y : Int) => decide (x ≤ y)) (fun a b c h1 h2 => by simp at *; omega) (fun a b => by simp; omega) l
  exact h.imp fun h => by simpa using h
theorem compact_less (l : List Int) : ((Lib.compact (sorted l)).length < l.length) ↔ ¬ l.Nodup := by
  have hs := sorted_le l
  have hl := sorted_length l
  rw [← sorted_nodup l, ← hl]
  generalize sorted l = s at hs
  have hg : ∀ j, j < s.length → s.toArray[j]! = s.getD j 0 := fun j hj => by
    rw [getD_eq s j 0 hj]
    simp [getElem!_pos, hj]
  have hk : ∀ j, 0 < j → j < s.length → (Lib.keeps s.toArray j = true ↔ s.getD j 0 ≠ s.getD (j - 1) 0) := fun j h0 hj => by
    unfold Lib.keeps
    rw [hg j hj, hg (j - 1) (by omega)]
    simp only [decide_eq_true_eq]
    constructor
    · rintro (h | h)
      · omega
      · exact h
    · exact fun h => .inr h
  constructor
  · intro hlt hn
    have := Lib.compact_all s (fun j hj => by
      rcases Nat.eq_zero_or_pos j with h0 | h0
      · subst h0; simp [Lib.keeps]
      · rw [hk j h0 hj, getD_eq s j 0 hj, getD_eq s (j - 1) 0 (by omega)]
        exact fun e => (List.pairwise_iff_getElem.1 hn) (j - 1) j (by omega) hj (by omega) e.symm)
    rw [this] at hlt
    omega
  · intro hn
    rcases Nat.lt_or_ge (Lib.compact s).length s.length with h | h
    · exact h
    · exfalso
      apply hn
      have hall : ∀ j, j ∈ List.range s.length → Lib.keeps s.toArray j = true := by
        rw [← List.length_filter_eq_length_iff]
        have h1 : (Lib.compact s).length = ((List.range s.length).filter (Lib.keeps s.toArray)).length := by
          unfold Lib.compact Lib.compactUpTo
          rw [List.length_map]
        have h2 := List.length_filter_le (Lib.keeps s.toArray) (List.range s.length)
        rw [List.length_range] at h2 ⊢
        omega
      rw [List.Nodup, List.pairwise_iff_getElem]
      intro i j hi hj hij e
      have h3 := (hk j (by omega) hj).1 (hall j (List.mem_range.2 hj))
      rw [getD_eq s j 0 hj, getD_eq s (j - 1) 0 (by omega)] at h3
      have h4 : s[j - 1] ≤ s[j] := (List.pairwise_iff_getElem.1 hs) (j - 1) j (by omega) hj (by omega)
      have h5 : s[i] ≤ s[j - 1] := by
        rcases Nat.lt_or_ge i (j - 1) with h6 | h6
        · exact (List.pairwise_iff_getElem.1 hs) i (j - 1) hi (by omega) h6
        · obtain rfl : i = j - 1 := by omega
          exact Int.le_refl _
      omega

/-- a copy that the call owns -/
theorem clone_ok (A : Option Addr) (l : List Int) (c : Nat) (w : World) (hA : Ints w A l) (h0 : 0 < l.length) (hl : l.length ≤ 2000000) :
    Calls Tryd.prog 50 #[.slice A l.length c] w fun e w' => ∃ g d, e = .returned (.slice (some ⟨g, 0, none⟩) l.length d) ∧ w.heap.size ≤ g ∧ l.length ≤ d ∧ w'.ownsRow w.heap.size 3 1 (.slice (some ⟨g, 0, none⟩) l.length d) l.length (l.map (Value.int .i64)) ∧ Below w.heap.size w w' := by
  obtain ⟨b, off, rfl, _, _⟩ := hA.at_ 0 h0
  have hc : ∀ j, j < l.length → w.cell? ⟨b, off + j, none⟩ = some (.int .i64 (l.getD j 0)) := fun j hj => by
    obtain ⟨b1, off1, e, _, h⟩ := hA.at_ j hj
    injection e with e
    injection e with e1 e2 _
    subst e1 e2
    exact h
  refine (Tryd.slices_Clone_int b off l.length c l w (Nat.le_refl _) (by omega) hc).mono ?_
  rintro e w' ⟨v, rfl, ho, hne, hb⟩
  rw [List.take_length] at ho
  obtain ⟨g, d, rfl, hg, _, hd, _⟩ := Lib.holds_of_ownsRow ho hne
  exact ⟨g, d, rfl, hg, hd, ho, hb⟩
/-- put in order in its place -/
theorem sort_ok (base g n d : Nat) (l : List Int) (w0 w : World) (hg : base ≤ g) (ho : w.ownsRow base 3 1 (.slice (some ⟨g, 0, none⟩) n d) n (l.map (Value.int .i64))) (hb : Below base w0 w) (hl : l.length ≤ 2000000) :
    Calls Tryd.prog 69 #[.slice (some ⟨g, 0, none⟩) n d] w fun e w' => e = .returned (.tuple #[]) ∧ w'.ownsRow base 3 1 (.slice (some ⟨g, 0, none⟩) n d) n ((sorted l).map (Value.int .i64)) ∧ Below base w0 w' := by
  obtain ⟨g', d', e0, _, hgl, _, _, hln, hH⟩ := Lib.holds_of_ownsRow ho (by simp)
  injection e0 with e1 e2 e3
  injection e1 with e1
  injection e1 with e1
  subst e1 e3
  subst hln
  refine (Tryd.slices_Sort_int g 0 d l w hH hgl (by omega)).mono ?_
  rintro e w' ⟨rfl, q, os, rfl⟩
  have h1 := Lib.ownsRow_putRow (q := q) (ys := sorted l) (k := l.length) ho (sorted_length l) (Nat.le_refl _)
  have h2 := Lib.below_putRow (enc := Value.int .i64) (q := q) (d := (sorted l).toArray) hb hg
  rw [List.take_of_length_le (by rw [sorted_length]; omega)] at h1
  exact ⟨rfl, Lib.ownsRow_grow h1 0 os, h2.trans (Lib.below_grow base _ (Nat.le_of_lt (Nat.lt_of_le_of_lt hg (h1.lt g rfl).2)) 0 os)⟩
/-- how many stay when equal neighbours are made one -/
theorem compact_ok (base g n d : Nat) (l : List Int) (w0 w : World) (hg : base ≤ g) (hd : n ≤ d) (ho : w.ownsRow base 3 1 (.slice (some ⟨g, 0, none⟩) n d) n (l.map (Value.int .i64))) (hb : Below base w0 w) (hl : l.length ≤ 2000000) :
    Calls Tryd.prog 70 #[.slice (some ⟨g, 0, none⟩) n d] w fun e w' => e = .returned (.slice (some ⟨g, 0, none⟩) (Lib.compact l).length d) ∧ Below base w0 w' := by
  obtain ⟨g', d', e0, _, hgl, _, _, hln, hH⟩ := Lib.holds_of_ownsRow ho (by simp)
  injection e0 with e1 e2 e3
  injection e1 with e1
  injection e1 with e1
  subst e1 e3
  subst hln
  refine (Tryd.slices_Compact_int g 0 d l w hH (by omega) hd).mono ?_
  rintro e w' ⟨rfl, q, rfl⟩
  exact ⟨rfl, Lib.below_putRow (enc := Value.int .i64) (q := q) hb hg⟩

theorem own_below {w w' : World} {base e size n : Nat} {v : Value} {xs : List Value} (h : w.ownsRow base e size v n xs) (hb : Below w.heap.size w w') : w'.ownsRow base e size v n xs := h.kept (grown_of_below hb) (by cases v.ownBlock <;> simp)
/-- what is below a later heap's size is below an earlier one -/
theorem below_of1 {w w1 a b : World} (h : Below w.heap.size w a) (h1 : Below w.heap.size w w1) (k : Below w1.heap.size a b) : Below w.heap.size w b := h.trans (k.mono h1.size)
theorem step_up {p u y : Int} (hp : 2 ≤ p ∧ p ≤ 997) (hu : 0 ≤ u ∧ u < p) (hy : 0 ≤ y ∧ y < p) {a : Int} (h : Eqm p u a) : (0 ≤ (wrap64 (u * y)).tmod p ∧ (wrap64 (u * y)).tmod p < p) ∧ Eqm p ((wrap64 (u * y)).tmod p) (a * y) := by
  rw [mul_mod_small hp ⟨hu.1, by omega⟩ ⟨hy.1, by omega⟩]
  exact ⟨mod_range hp.1 _, (Eqm.mod p _).trans (h.mul (Eqm.refl p y))⟩
theorem step_down {p v z : Int} (hp : 2 ≤ p ∧ p ≤ 997) (hv : 0 ≤ v ∧ v < p) {a : Int} (h : Eqm p v a) : (0 ≤ (wrap64 (v * (z % p))).tmod p ∧ (wrap64 (v * (z % p))).tmod p < p) ∧ Eqm p ((wrap64 (v * (z % p))).tmod p) (a * z) := by
  have hz := mod_range hp.1 z
  rw [mul_mod_small hp ⟨hv.1, by omega⟩ ⟨hz.1, by omega⟩]
  exact ⟨mod_range hp.1 _, (Eqm.mod p _).trans (h.mul (Eqm.mod p z))⟩
theorem step_sum {p s u r : Int} (hp : 2 ≤ p ∧ p ≤ 997) (hs : 0 ≤ s ∧ s < p) (hu : 0 ≤ u ∧ u < p) (hr : 0 ≤ r ∧ r < p) {a b c : Int} (h : Eqm p s a) (h2 : Eqm p u b) (h3 : Eqm p r c) : (0 ≤ (wrap64 (s + wrap64 (u * r))).tmod p ∧ (wrap64 (s + wrap64 (u * r))).tmod p < p) ∧ Eqm p ((wrap64 (s + wrap64 (u * r))).tmod p) (a + b * c) := by
  have m := mul_le_997 (x := u) (y := r) ⟨hu.1, by omega⟩ ⟨hr.1, by omega⟩
  have w1 : wrap64 (u * r) = u * r := by unfold wrap64; omega
  have w2 : wrap64 (s + u * r) = s + u * r := by unfold wrap64; omega
  rw [w1, w2, tmod_small _ _ (by omega)]
  exact ⟨mod_range hp.1 _, (Eqm.mod p _).trans (h.add (h2.mul h3))⟩
/-- what Join gives at good arguments -/
def RetJoin (p : Int) (at_ vs : List Int) (w : World) (e : Ending) (w' : World) : Prop := e = .returned (.tuple #[.int .i64 (joinV p at_ vs), .nilIface]) ∧ Below w.heap.size w w'
set_option maxRecDepth 100000 in
set_option maxHeartbeats 4000000 in
theorem join_ok (A B : Option Addr) (at_ vs : List Int) (c d : Nat) (p : Int) (w : World) (hA : Ints w A at_) (hB : Ints w B vs) (h0 : jErr p at_ vs = 0) :
    Calls Tryd.prog 45 #[.int .i64 p, .slice A at_.length c, .slice B vs.length d] w fun e w' => RetJoin p at_ vs w e w' := by
  unfold jErr at h0
  have hf : fieldOf p = true := by
    cases h : fieldOf p
    · rw [if_pos h] at h0; cases h0
    · rfl
  rw [if_neg (by rw [hf]; decide)] at h0
  have hr : ¬ (at_.length = 0 ∨ 12 < at_.length) := fun h => by rw [if_pos h] at h0; cases h0
  rw [if_neg hr] at h0
  have hg : inside at_ p 1 = true ∧ inside vs p 0 = true ∧ at_.length = vs.length ∧ at_.Nodup := by
    rcases Classical.em (inside at_ p 1 = true ∧ inside vs p 0 = true ∧ at_.length = vs.length ∧ at_.Nodup) with h | h
    · exact h
    · rw [if_neg h] at h0; cases h0
  clear h0
  obtain ⟨g1, g2, g3, g4⟩ := hg
  obtain ⟨p2, p997⟩ := fieldOf_range hf
  have HF := hide (fun w' => fieldC_ok p w')
  have HE1 := hide (fun w' (hb : Below w.heap.size w w') => elements_any A at_ c p 1 w' (hA.below hb))
  have HE2 := hide (fun w' (hb : Below w.heap.size w w') => elements_any B vs d p 0 w' (hB.below hb))
  rw [hf] at HF
  rw [g1] at HE1
  rw [g2] at HE2
  have HCL := hide (fun w' (hb : Below w.heap.size w w') => clone_ok A at_ c w' (hA.below hb) (by omega) (by omega))
  have hcl := compact_less at_
  have hcn : ¬ (Lib.compact (sorted at_)).length < at_.length := fun h => (hcl.1 h) g4
  have l1 : 1 ≤ (at_.length : Int) := by omega
  have l12 : (at_.length : Int) ≤ 12 := by omega
  have le : ((vs.length : Int) != (at_.length : Int)) = false := by rw [g3]; simp
  have lc : ¬ ((Lib.compact (sorted at_)).length : Int) < (at_.length : Int) := by omega
  have hcc : decide ((Lib.compact (sorted at_)).length < at_.length) = false := decide_eq_false (by omega)
  have HG := hide (And.intro hf (And.intro g1 (And.intro g2 (And.intro g3 g4))))
  have HL := hide hr
  clear hf g1 g2 g3 g4 hcl hcn hr
  go_enter Tryd.func45, Tryd.ntmps45
  go_wp2_with (first
    | (go_at_call 63; refine Calls.mono (HF.out _) ?_; rintro e w1 ⟨rfl, hB1⟩)
    | (go_at_call 50; refine Calls.mono (HCL.out w1 hB1) ?_; rintro e w2 ⟨g, dd, rfl, hg2, hd2, ho2, b2⟩; have hg0 := Nat.le_trans hB1.size hg2)
    | (go_at_call 69; refine Calls.mono (sort_ok w1.heap.size g at_.length dd at_ w1 w2 hg2 ho2 b2 (by omega)) ?_; rintro e w3 ⟨rfl, ho3, b3⟩; have hB3 := below_trans hB1 b3)
    | (go_at_call 64; refine Calls.mono (HE1.out w3 hB3) ?_; rintro e w30 ⟨rfl, b30⟩; have hB30 := below_trans hB3 b30; have hBq := b3.trans (b30.mono b3.size); clear HE1)
    | (go_at_call 64; refine Calls.mono (HE2.out w30 hB30) ?_; rintro e w31 ⟨rfl, b31⟩; have hB31 := below_trans hB30 b31; have ho31 := own_below (own_below ho3 b30) b31)
    | (go_at_call 70; refine Calls.mono (compact_ok w1.heap.size g at_.length dd (sorted at_) w31 w31 hg2 hd2 ho31 (Below.refl _ _) (by rw [sorted_length]; omega)) ?_; rintro e w4 ⟨rfl, b4⟩; have hB4 := below_of1 hB31 hB1 b4))
  have hp : 2 ≤ p ∧ p ≤ 997 := ⟨p2, p997⟩
  have HP := hide hp
  have pne : p ≠ 0 := by omega
  have HA4 := hide (fun w' (hb : Below w.heap.size w w') => hA.below hb)
  have HBB := hide (fun w' (hb : Below w.heap.size w w') => hB.below hb)
  have HX := hide (fun i hi => inside_get HG.out.2.1 i hi)
  have HV := hide (fun i hi => inside_get HG.out.2.2.1 i hi)
  have hLV : at_.length = vs.length := HG.out.2.2.2.1
  have HLV := hide hLV
  clear hp hLV
  go_loopw [9, 61] (fun sv iv wr => ∃ i : Nat, i ≤ at_.length ∧ iv = .int .i64 i ∧ (∃ s, sv = .int .i64 s ∧ (0 ≤ s ∧ s < p) ∧ Hid (Eqm p s (sumTo (fun i => vs.getD i 0 * prodTo (skip (fun j => at_.getD j 0) i (at_.getD i 0)) at_.length ^ (p.toNat - 2) * prodTo (skip (fun j => at_.getD j 0) i 0) at_.length) i))) ∧ Below w4.heap.size w4 wr) (fun _ iv _ => at_.length - (intOf iv).toNat)
  case atStart => exact ⟨0, Nat.zero_le _, rfl, ⟨0, rfl, ⟨by omega, by omega⟩, hide (Eqm.refl _ _)⟩, Below.refl _ _⟩
  case round =>
    obtain ⟨i, hi, rfl, ⟨s, rfl, hs, HS⟩, hBi⟩ := hrel
    obtain ⟨wi, rfl⟩ : ∃ wi : World, wi = wr := ⟨_, rfl⟩
    have hBw := below_trans hB4 hBi
    have i0 : (0 : Int) ≤ (i : Int) := Int.natCast_nonneg _
    by_cases hil : i < at_.length
    · have i1 : (i : Int) < (at_.length : Int) := by omega
      have i2 : (i : Int) < (vs.length : Int) := by have := HLV.out; omega
      obtain ⟨b, off, rfl, _, dx⟩ := (HA4.out wi hBw).at_ i hil
      obtain ⟨b', off', rfl, _, dv⟩ := (HBB.out wi hBw).at_ i (by omega)
      have hx := HX.out i hil
      have hv := HV.out i (by omega)
      obtain ⟨x, hxe⟩ : ∃ x, at_.getD i 0 = x := ⟨_, rfl⟩
      obtain ⟨v, hve⟩ : ∃ v, vs.getD i 0 = v := ⟨_, rfl⟩
      rw [hxe] at dx hx
      rw [hve] at dv hv
      have HXE := hide hxe
      have HVE := hide hve
      have HAW := hide (HA4.out wi hBw)
      clear hxe hve
      go_wp2_with (fail)
      go_loop [12, 13, 72] (fun uv dv kv => ∃ k : Nat, k ≤ at_.length ∧ kv = .int .i64 k ∧ (∃ u d, uv = .int .i64 u ∧ dv = .int .i64 d ∧ (0 ≤ u ∧ u < p) ∧ (0 ≤ d ∧ d < p) ∧ Hid (Eqm p u (v * prodTo (skip (fun j => at_.getD j 0) i 0) k)) ∧ Hid (Eqm p d (prodTo (skip (fun j => at_.getD j 0) i x) k)))) (fun _ _ kv => at_.length - (intOf kv).toNat)
      case atStart => exact ⟨0, Nat.zero_le _, rfl, v, 1, rfl, rfl, hv, ⟨by omega, by omega⟩, hide (Eqm.of_eq (by simp [prodTo])), hide (Eqm.refl _ _)⟩
      case round =>
        obtain ⟨k, hk, rfl, u, d, rfl, rfl, hu, hd, HU, HD⟩ := hrel
        have k0 : (0 : Int) ≤ (k : Int) := Int.natCast_nonneg _
        by_cases hkl : k < at_.length
        · have k1 : (k : Int) < (at_.length : Int) := by omega
          obtain ⟨b2, off2, e2, _, dy⟩ := HAW.out.at_ k hkl
          injection e2 with e2
          injection e2 with e3 e4 _
          subst e3 e4
          have hy := HX.out k hkl
          obtain ⟨y, hye⟩ : ∃ y, at_.getD k 0 = y := ⟨_, rfl⟩
          rw [hye] at dy hy
          have HYE := hide hye
          clear hye
          by_cases hki : k = i
          · subst hki
            have kk : ((k : Int) != (k : Int)) = false := by simp
            go_wp2_with (fail)
            go_round
            case rel => exact ⟨k + 1, by omega, by go_num, u, d, rfl, rfl, hu, hd, hide (by rw [prodTo, skip, if_pos rfl, Int.mul_one]; exact HU.out), hide (by rw [prodTo, skip, if_pos rfl, Int.mul_one]; exact HD.out)⟩
            case measure => simp [intOf]; omega
          · have kk : ((k : Int) != (i : Int)) = true := by rw [bne_iff_ne]; omega
            have su := step_up (y := y) HP.out hu ⟨by omega, by omega⟩ HU.out
            have sd := step_down (z := y - x) HP.out hd HD.out
            have SU := hide su
            have SD := hide sd
            clear su sd
            go_wp2_with (fail)
            go_round
            case rel => exact ⟨k + 1, by omega, by go_num, _, _, rfl, rfl, SU.out.1, SD.out.1, hide (SU.out.2.trans (Eqm.of_eq (by rw [prodTo, skip, if_neg hki, HYE.out]; grind))), hide (SD.out.2.trans (Eqm.of_eq (by rw [prodTo, skip, if_neg hki, HYE.out])))⟩
            case measure => simp [intOf]; omega
        · obtain rfl : k = at_.length := by omega
          go_wp2_with (go_at_call 71; refine Calls.mono (power_ok p HP.out d (p - 2) wi ⟨by omega, by omega⟩ hd) ?_; rintro e w5 ⟨r, rfl, hr, hre, b5⟩)
          have st := step_sum HP.out hs hu hr HS.out HU.out hre
          go_roundw
          case rel => exact ⟨i + 1, by omega, by go_num, ⟨_, rfl, st.1, hide (st.2.trans (Eqm.trans ((Eqm.refl p _).add ((Eqm.refl p _).mul (HD.out.pow _))) (Eqm.of_eq (by rw [sumTo, HXE.out, HVE.out, show (p - 2).toNat = p.toNat - 2 by omega]; grind))))⟩, hBi.trans (b5.mono hBi.size)⟩
          case measure => simp [intOf]; omega
    · obtain rfl : i = at_.length := by omega
      go_wp2_with (fail)
      have hfin : s = joinV p at_ vs := Eqm.eq (HS.out.trans (Eqm.mod p _).symm) hs (mod_range p2 _)
      subst hfin
      go_ret2
      exact ⟨rfl, hBw⟩
end Go.Proofs.YtieeefgkdfijdaaDoor

/- The walk of demonref1.SameInts. No condition. -/
namespace Go.Proofs.YtieeefgkdfijdaaDoor
open Go.RowKit Go.Deep

/-- two lists are alike ahead of place k -/
structure AlikeTo (l m : List Int) (k : Nat) : Prop where
  out : ∀ j, j < k → l.getD j 0 = m.getD j 0
theorem AlikeTo.zero (l m : List Int) : AlikeTo l m 0 := ⟨fun j h => absurd h (by omega)⟩
theorem AlikeTo.succ {l m : List Int} {k : Nat} (h : AlikeTo l m k) (hk : l.getD k 0 = m.getD k 0) : AlikeTo l m (k + 1) :=
  ⟨fun j hj => by
    by_cases e : j = k
    · rw [e]; exact hk
    · exact h.out j (by omega)⟩
theorem AlikeTo.eq {l m : List Int} (h : AlikeTo l m l.length) (hl : l.length = m.length) : l = m := by
  apply List.ext_getElem hl
  intro i h1 h2
  have := h.out i h1
  simpa [List.getD_eq_getElem?_getD, h1, h2] using this

set_option maxHeartbeats 1000000 in
theorem same_any (A B : Option Addr) (l m : List Int) (c d : Nat) (w : World) (hA : Ints w A l) (hB : Ints w B m) :
    Calls Tryd.prog 21 #[.slice A l.length c, .slice B m.length d] w fun e w' => e = .returned (.bool (decide (l = m))) ∧ Below w.heap.size w w' := by
  have hl := hA.len
  have hm := hB.len
  by_cases he : l.length = m.length
  · have HE := hide he
    have h1 : ((l.length : Int) != (m.length : Int)) = false := by rw [he]; simp
    have h2 : (l.length != m.length) = false := by rw [he]; simp
    clear he
    go_enter Tryd.func21, Tryd.ntmps21
    go_wp2
    go_loopw [5] (fun i wr => ∃ k : Nat, k ≤ l.length ∧ i = .int .i64 k ∧ AlikeTo l m k ∧ Below w.heap.size w wr) (fun i _ => l.length - (intOf i).toNat)
    case atStart => exact ⟨0, Nat.zero_le _, rfl, AlikeTo.zero _ _, Below.refl _ _⟩
    case round =>
      obtain ⟨k, hk, rfl, ha, hb⟩ := hrel
      by_cases hlt : k < l.length
      · have hlt2 : k < m.length := by rw [← HE.out]; exact hlt
        obtain ⟨b, o, rfl, hbl, c1⟩ := (hA.below hb).at_ k hlt
        obtain ⟨b', o', rfl, hbl', c2⟩ := (hB.below hb).at_ k hlt2
        by_cases hx : l.getD k 0 = m.getD k 0
        · have ha' := ha.succ hx
          have hx' : ((l.getD k 0) != (m.getD k 0)) = false := by rw [hx]; simp
          generalize l.getD k 0 = x at c1 hx'
          generalize m.getD k 0 = y at c2 hx'
          clear hx
          go_wp2
          go_quiet (fail)
          go_wp2
          go_roundw
          case rel => exact ⟨k + 1, by omega, by go_num, ha', below_drewN' hb _⟩
          case measure => simp [intOf]; omega
        · have hne : l ≠ m := fun e => hx (by rw [e])
          have hx' : ((l.getD k 0) != (m.getD k 0)) = true := by simpa using hx
          generalize l.getD k 0 = x at c1 hx'
          generalize m.getD k 0 = y at c2 hx'
          clear hx
          go_wp2
          go_quiet (fail)
          go_wp2
          go_ret
          exact ⟨ret_bool (decide_eq_false hne).symm, below_drewN' hb _⟩
      · obtain rfl : k = l.length := by omega
        have heq := ha.eq HE.out
        have HQ := hide (decide_eq_true heq)
        clear heq
        go_wp2
        go_ret
        exact ⟨ret_bool HQ.out.symm, hb⟩
  · have h1 : ((l.length : Int) != (m.length : Int)) = true := by rw [bne_iff_ne]; omega
    have h2 : (l.length != m.length) = true := by rw [bne_iff_ne]; exact he
    have hne : l ≠ m := fun e => he (by rw [e])
    have HQ := hide (decide_eq_false hne)
    clear he hne
    go_enter Tryd.func21, Tryd.ntmps21
    go_wp2
    go_ret
    exact ⟨ret_bool HQ.out.symm, Below.refl _ _⟩
end Go.Proofs.YtieeefgkdfijdaaDoor

/- The walk of the law SecretShare. Condition: the variables read as laid. -/
namespace Go.Proofs.YtieeefgkdfijdaaDoor
open Go.RowKit Go.Deep Go.Proofs.YtieeefgkdfijdaaDoorW.PrintWords

theorem intsS_ok (A : Option Addr) (l : List Int) (c : Nat) (w : World) (hA : Ints w A l) (hc : l.length ≤ c) (hl : l.length ≤ 2000000) :
    Calls Tryd.prog 31 #[.slice A l.length c] w fun e w' => RetInts l w e w' := by
  refine (PSecretShare.demonlaw3_ints.calls A c l l w hA.toC hc (by unfold PSecretShare.demonlaw3_ints.f; simp; omega)).mono ?_
  rintro e w' ⟨v, rfl, hR, hb⟩
  obtain ⟨B, d, rfl, hI, hd⟩ := Ints.ofR hR
  exact ⟨B, d, rfl, hI, hd, hb⟩
theorem shareError_ok (A : Option Addr) (l : List Int) (c : Nat) (p n : Int) (w : World) (hA : Ints w A l) (hc : l.length ≤ c) (hl : l.length ≤ 2000000) :
    Calls Tryd.prog 33 #[.int .i64 p, .slice A l.length c, .int .i64 n] w fun e w' => e = .returned (.int .i64 (shErr p l n)) ∧ Below w.heap.size w w' := by
  refine (PSecretShare.demonref3_ShareError.calls 41 p A c l n (shErr p l n) w hA.toC hc (shareError_f p l n hl)).mono ?_
  rintro e w' ⟨rfl, h⟩
  exact ⟨rfl, drawn_below h⟩
theorem valueAt_ok (A : Option Addr) (l : List Int) (c : Nat) (p x : Int) (w : World) (hA : Ints w A l) (hc : l.length ≤ c) (hp : 2 ≤ p ∧ p ≤ 997) (hx : 0 ≤ x ∧ x ≤ 1000) (hl : l.length ≤ 2000000) (hin : inside l p 0 = true) :
    Calls Tryd.prog 34 #[.int .i64 p, .slice A l.length c, .int .i64 x] w fun e w' => e = .returned (.int .i64 (horner p x l)) ∧ Below w.heap.size w w' := by
  refine (PSecretShare.demonref3_ValueAt.calls (l.length + 1) p A c l x (horner p x l) w hA.toC hc (valueAt_f p l x hp hx hl hin)).mono ?_
  rintro e w' ⟨rfl, h⟩
  exact ⟨rfl, drawn_below h⟩
theorem shErr_nat (p : Int) (l : List Int) (n : Int) : ∃ c : Nat, shErr p l n = (c : Int) ∧ c ≤ 8 := by
  unfold shErr
  split
  · exact ⟨8, rfl, by decide⟩
  · split
    · exact ⟨2, rfl, by decide⟩
    · split
      · exact ⟨0, rfl, by decide⟩
      · exact ⟨3, rfl, by decide⟩
theorem shErr_zero {p n : Int} {l : List Int} (he : shErr p l n = 0) : (2 ≤ p ∧ p ≤ 997) ∧ (1 ≤ n ∧ n ≤ p - 1 ∧ n ≤ 24) ∧ inside l p 0 = true := by
  have hf : fieldOf p = true := by
    cases h : fieldOf p
    · unfold shErr at he; rw [if_pos h] at he; cases he
    · rfl
  have hr : ¬ (n < 1 ∨ n > p - 1 ∨ n > 24 ∨ l.length = 0 ∨ 12 < l.length) := fun h => by
    unfold shErr at he; rw [if_neg (by rw [hf]; decide), if_pos h] at he; cases he
  have hin : inside l p 0 = true := by
    cases h : inside l p 0
    · unfold shErr at he; rw [if_neg (by rw [hf]; decide), if_neg hr, h] at he; cases he
    · rfl
  exact ⟨fieldOf_range hf, by omega, hin⟩
/-- the first k shares -/
def sharesTo (p : Int) (l : List Int) (k : Nat) : List Int := (List.range k).map fun x => horner p ((x + 1 : Nat) : Int) l
theorem sharesTo_length (p : Int) (l : List Int) (k : Nat) : (sharesTo p l k).length = k := by simp [sharesTo]
theorem sharesTo_succ (p : Int) (l : List Int) (k : Nat) : sharesTo p l (k + 1) = sharesTo p l k ++ [horner p ((k : Int) + 1) l] := by simp [sharesTo, List.range_succ]
theorem same_self (A B : Option Addr) (l : List Int) (n c d : Nat) (w : World) (hA : Ints w A l) (hB : Ints w B l) (hn : l.length = n) :
    Calls Tryd.prog 21 #[.slice A n c, .slice B n d] w fun e w' => e = .returned (.bool true) ∧ Below w.heap.size w w' := by
  subst hn
  have := same_any A B l l c d w hA hB
  rwa [decide_eq_true rfl] at this
theorem sub238 {c : Nat} (h : c ∈ [2, 3, 8]) : c ∈ codes := by
  simp at h
  rcases h with rfl | rfl | rfl <;> simp [codes]

set_option maxRecDepth 100000 in
set_option maxHeartbeats 8000000 in
theorem law_share (p : Int) (A : Option Addr) (l : List Int) (cap : Nat) (n : Int) (w : World) (a : Nat → Addr) (hS : Sent codes w a) (hH : Handle w) (hA : Ints w A l) (hc : l.length ≤ cap) :
    Calls Tryd.prog 7 #[.int .i64 p, .slice A l.length cap, .int .i64 n] w fun e w' => e = .returned (.bool true) ∧ Below w.heap.size w w' := by
  have hlen := hA.len
  have HE : Hid (∀ w', Below w.heap.size w w' → Env [2, 3, 8] w' a) := hide fun w' hb => (hS.toEnv.sub (fun c h => sub238 h)).below hb
  have HPAD := hide (fun w' (hb : Below w.heap.size w w') => pad_any w' a ((HE.out w' hb).sub (fun c h => by simp at h ⊢; omega)))
  by_cases hlong : (l.length : Int) > 100
  · go_enter Tryd.func7, Tryd.ntmps7
    go_wp2_with (go_at_call 17; refine Calls.mono (HPAD.out _ (Below.refl _ _)) ?_; rintro e w1 ⟨rfl, hB1⟩)
    go_ret
    exact ⟨rfl, hB1⟩
  · have hl2 : l.length ≤ 100 := by omega
    have HCI := hide (fun w' (hb : Below w.heap.size w w') => intsS_ok A l cap w' (hA.below hb) hc (by omega))
    have HSE := hide (fun w' (hb : Below w.heap.size w w') => shareError_ok A l cap p n w' (hA.below hb) hc (by omega))
    by_cases h0 : shErr p l n = 0
    · obtain ⟨hp, hn, hin⟩ := shErr_zero h0
      have HVA := hide (fun (x : Int) w' (hx : 0 ≤ x ∧ x ≤ 1000) (hb : Below w.heap.size w w') => valueAt_ok A l cap p x w' (hA.below hb) hc hp hx (by omega) hin)
      have HSH := hide (fun (B : Option Addr) (c : Nat) w' (hI : Ints w' B l) (hb : Below w.heap.size w w') => share_ok B l c p n w' a ((HE.out w' hb).sub (fun c h => by simp at h ⊢; omega)) hI h0)
      have HCD := hide (fun w' (hb : Below w.heap.size w w') => coded_any w' a (hS.below hb) (hH.below hb) 0 (by decide) 0)
      rw [h0] at HSE
      obtain ⟨n1, n2, n3⟩ := hn
      clear h0 hin hp
      go_enter Tryd.func7, Tryd.ntmps7
      go_wp2_with (first
        | (go_at_call 17; refine Calls.mono (HPAD.out _ (Below.refl _ _)) ?_; rintro e w1 ⟨rfl, hB1⟩)
        | (go_at_call 33; refine Calls.mono (HSE.out w1 hB1) ?_; rintro e w2 ⟨rfl, b2⟩; have hB2 := below_trans hB1 b2))
      go_loopw [9, 10] (fun v xv wr => ∃ k : Nat, (k : Int) ≤ n ∧ xv = .int .i64 ((k : Int) + 1) ∧ wr.ownsRow w2.heap.size 3 1 v k (intCells (sharesTo p l k)) ∧ Below w2.heap.size w2 wr) (fun _ xv _ => (n + 1 - intOf xv).toNat)
      case atStart => exact ⟨0, by omega, rfl, nil_own _ _ _ _, Below.refl _ _⟩
      case round =>
        obtain ⟨k, hk, rfl, hown, hBk⟩ := hrel
        obtain ⟨wi, rfl⟩ : ∃ wi : World, wi = wr := ⟨_, rfl⟩
        obtain ⟨A9, c9, rfl, hc9, _⟩ := own_shape hown
        have hBi := below_trans hB2 hBk
        have HO := hide hown
        clear hown
        by_cases hkn : (k : Int) + 1 ≤ n
        · have hs := sharesTo_succ p l k
          generalize hyy : horner p ((k : Int) + 1) l = yy at hs
          have HV := HVA.out ((k : Int) + 1) wi ⟨by omega, by omega⟩ hBi
          rw [hyy] at HV
          have HVV := hide HV
          have HS := hide hs
          have HC3 := hide (show ((sharesTo p l k).length + 1) * 8 ≤ 140737488355328 by rw [sharesTo_length]; omega)
          clear hyy hs HV
          go_wp2_with (first
            | (go_at_call 34; refine Calls.mono HVV.out ?_; rintro e w4 ⟨rfl, b4⟩; have HOA := hide (HO.out.kept (grown_of_below b4) (by cases (Value.slice A9 k c9).ownBlock <;> simp)); have HSZ := hide (Nat.le_succ_of_le (Nat.le_trans hBk.size b4.size)))
            | (at_builtin; refine wp_app_ints _ rfl _ _ rfl w2.heap.size (.slice A9 k c9) _ rfl (own_list (HOA.out.alloc _)) _ 1 1 [yy] rfl rfl (ints_one (b := w4.heap.size) (by simp) (by simp)) HC3.out (by rw [World.size_alloc]; exact HSZ.out) ?_; intro A' c' w5 hc5 ho5 hg5 hob5))
          have hb5 : Below w2.heap.size w2 w5 := ((hBk.trans (b4.mono hBk.size)).alloc (Nat.le_trans hBk.size b4.size) _).grown hg5 (by rw [World.size_alloc]; exact HSZ.out) (fun j hj => (HOA.out.lt j hj).1)
          rw [← HS.out, sharesTo_length] at ho5
          go_roundw
          case rel => exact ⟨k + 1, by omega, by go_num, by rw [sharesTo_length]; exact ho5, hb5⟩
          case measure => simp [intOf]; omega
        · obtain rfl : n = (k : Int) := by omega
          have hIw : Ints wi A9 (sharesTo p l k) := Ints.own (c := c9) (e := 3) (base := w2.heap.size) (by rw [sharesTo_length]; exact HO.out)
          have HIW := hide hIw
          clear hIw
          have hsh := fun B c w' hI hb => HSH.out B c w' hI hb
          simp only [RetShare, Int.toNat_natCast] at hsh
          have HS2 := hide hsh
          clear hsh
          go_wp2_with (first
            | (go_at_call 31; refine Calls.mono (HCI.out wi hBi) ?_; rintro e w3 ⟨B, d, rfl, hI, hd, b3⟩; have hB3 := below_trans hBi b3)
            | (go_at_call 35; refine Calls.mono (HS2.out B d w3 hI hB3) ?_; rintro e w4 ⟨B4, d4, rfl, hI4, hd4, b4⟩; have hB4 := below_trans hB3 b4)
            | (go_at_call 24; refine Calls.mono (HCD.out w4 hB4) ?_; rintro e w5 ⟨rfl, b5⟩; have hB5 := below_trans hB4 b5)
            | (go_at_call 21; refine Calls.mono (same_self B4 A9 (sharesTo p l k) k d4 c9 w5 (hI4.below b5) (HIW.out.below (below_trans b3 (below_trans b4 b5))) (sharesTo_length p l k)) ?_; rintro e w6 ⟨rfl, b6⟩; have hB6 := below_trans hB5 b6))
          go_ret
          exact ⟨rfl, hB6⟩
    · obtain ⟨c, hc', hc8⟩ := shErr_nat p l n
      have hc0 : 0 < c := by
        rcases Nat.eq_zero_or_pos c with h | h
        · subst h; exact absurd hc' h0
        · exact h
      have hsh := fun (B : Option Addr) (x : Nat) w' (hI : Ints w' B l) (hb : Below w.heap.size w w') => share_err B l x p n w' a (HE.out w' hb) hI h0
      have hcd := fun w' (hb : Below w.heap.size w w') => coded_any w' a (hS.below hb) (hH.below hb) c hc8 c
      rw [hc'] at hsh HSE
      rw [decide_eq_true rfl] at hcd
      have he : errC a (c : Int) = .iface 161 (.pointer (some (a c))) := errC_pos a c (by omega)
      rw [he] at hsh hcd
      have HSH := hide hsh
      have HCD := hide hcd
      have HSM := hide (fun w' => same_any none none [] [] 0 0 w' (Ints.nil _ _) (Ints.nil _ _))
      clear hsh hcd he hc' h0
      have hci : 0 < (c : Int) := by omega
      have hcn : ((c : Int) == 0) = false := by rw [beq_eq_false_iff_ne]; omega
      go_enter Tryd.func7, Tryd.ntmps7
      go_wp2_with (first
        | (go_at_call 17; refine Calls.mono (HPAD.out _ (Below.refl _ _)) ?_; rintro e w1 ⟨rfl, hB1⟩)
        | (go_at_call 33; refine Calls.mono (HSE.out w1 hB1) ?_; rintro e w2 ⟨rfl, b2⟩; have hB2 := below_trans hB1 b2)
        | (go_at_call 31; refine Calls.mono (HCI.out w2 hB2) ?_; rintro e w3 ⟨B, d, rfl, hI, hd, b3⟩; have hB3 := below_trans hB2 b3)
        | (go_at_call 35; refine Calls.mono (HSH.out B d w3 hI hB3) ?_; rintro e w4 ⟨rfl, b4⟩; have hB4 := below_trans hB3 b4)
        | (go_at_call 24; refine Calls.mono (HCD.out w4 hB4) ?_; rintro e w5 ⟨rfl, b5⟩; have hB5 := below_trans hB4 b5)
        | (go_at_call 21; refine Calls.mono (HSM.out w5) ?_; rintro e w6 ⟨rfl, b6⟩; have hB6 := below_trans hB5 b6))
      go_ret
      exact ⟨rfl, hB6⟩
end Go.Proofs.YtieeefgkdfijdaaDoor

/- The walk of secret.Join at bad arguments, and of the law SecretJoin. Condition: the variables read as laid. -/
namespace Go.Proofs.YtieeefgkdfijdaaDoor
open Go.RowKit Go.Deep Go.Proofs.YtieeefgkdfijdaaDoorW.PrintWords

set_option maxRecDepth 100000 in
set_option maxHeartbeats 4000000 in
theorem join_err (A B : Option Addr) (at_ vs : List Int) (c d : Nat) (p : Int) (w : World) (a : Nat → Addr) (hE : Env [2, 3, 8] w a) (hA : Ints w A at_) (hB : Ints w B vs) (he : jErr p at_ vs ≠ 0) (hl : at_.length ≤ 2000000) :
    Calls Tryd.prog 45 #[.int .i64 p, .slice A at_.length c, .slice B vs.length d] w fun e w' => e = .returned (.tuple #[.int .i64 0, errC a (jErr p at_ vs)]) ∧ Below w.heap.size w w' := by
  have HF := hide (fun w' => fieldC_ok p w')
  have HE1 := hide (fun w' (hb : Below w.heap.size w w') => elements_any A at_ c p 1 w' (hA.below hb))
  have HE2 := hide (fun w' (hb : Below w.heap.size w w') => elements_any B vs d p 0 w' (hB.below hb))
  have HEN := hide (fun w' (hb : Below w.heap.size w w') => (⟨(hE.below hb).cell 2 (by decide), (hE.below hb).cell 3 (by decide), (hE.below hb).cell 8 (by decide)⟩ : w'.cell? ⟨glob 2, 0, none⟩ = _ ∧ w'.cell? ⟨glob 3, 0, none⟩ = _ ∧ w'.cell? ⟨glob 8, 0, none⟩ = _))
  simp only [glob] at HEN
  have hlen := hA.len
  have hlenv := hB.len
  obtain ⟨r, hr⟩ : ∃ r, jErr p at_ vs = r := ⟨_, rfl⟩
  rw [hr] at he ⊢
  unfold jErr at hr
  cases hf : fieldOf p
  · rw [if_pos hf] at hr
    rw [hf] at HF
    subst hr
    clear hf he
    have HCL : True := trivial
    go_enter Tryd.func45, Tryd.ntmps45
    go_wp2_with (first
      | (go_at_call 63; refine Calls.mono (HF.out _) ?_; rintro e w1 ⟨rfl, hB1⟩; obtain ⟨k12, k13, k18⟩ := HEN.out w1 hB1)
      | (go_at_call 50; refine Calls.mono (HCL.out w1 hB1) ?_; rintro e w2 ⟨g, dd, rfl, hg2, hd2, ho2, b2⟩; have hg0 := Nat.le_trans hB1.size hg2)
      | (go_at_call 69; refine Calls.mono (sort_ok w1.heap.size g at_.length dd at_ w1 w2 hg2 ho2 b2 (by omega)) ?_; rintro e w3 ⟨rfl, ho3, b3⟩; have hB3 := below_trans hB1 b3; obtain ⟨k32, k33, k38⟩ := HEN.out w3 hB3)
      | (go_at_call 64; refine Calls.mono (HE1.out w3 hB3) ?_; rintro e w30 ⟨rfl, b30⟩; have hB30 := below_trans hB3 b30; obtain ⟨k42, k43, k48⟩ := HEN.out w30 hB30; clear HE1)
      | (go_at_call 64; refine Calls.mono (HE2.out w30 hB30) ?_; rintro e w31 ⟨rfl, b31⟩; have hB31 := below_trans hB30 b31; have ho31 := own_below (own_below ho3 b30) b31; obtain ⟨k52, k53, k58⟩ := HEN.out w31 hB31)
      | (go_at_call 70; refine Calls.mono (compact_ok w1.heap.size g at_.length dd (sorted at_) w31 w31 hg2 hd2 ho31 (Below.refl _ _) (by rw [sorted_length]; omega)) ?_; rintro e w4 ⟨rfl, b4⟩; have hB4 := below_of1 hB31 hB1 b4; obtain ⟨k62, k63, k68⟩ := HEN.out w4 hB4))
    go_region
    all_goals go_wp2_with (fail)
    all_goals go_ret2
    all_goals exact ⟨rfl, below_drewN' hB1 1⟩
  · rw [if_neg (by rw [hf]; decide)] at hr
    rw [hf] at HF
    by_cases c1 : (at_.length : Int) < 1
    · rw [if_pos (.inl (by omega))] at hr
      subst hr
      clear hf he
      go_enter Tryd.func45, Tryd.ntmps45
      go_wp2_with (first
        | (go_at_call 63; refine Calls.mono (HF.out _) ?_; rintro e w1 ⟨rfl, hB1⟩; obtain ⟨k12, k13, k18⟩ := HEN.out w1 hB1)
        | (go_at_call 50; refine Calls.mono (HCL.out w1 hB1) ?_; rintro e w2 ⟨g, dd, rfl, hg2, hd2, ho2, b2⟩; have hg0 := Nat.le_trans hB1.size hg2)
        | (go_at_call 69; refine Calls.mono (sort_ok w1.heap.size g at_.length dd at_ w1 w2 hg2 ho2 b2 (by omega)) ?_; rintro e w3 ⟨rfl, ho3, b3⟩; have hB3 := below_trans hB1 b3; obtain ⟨k32, k33, k38⟩ := HEN.out w3 hB3)
        | (go_at_call 64; refine Calls.mono (HE1.out w3 hB3) ?_; rintro e w30 ⟨rfl, b30⟩; have hB30 := below_trans hB3 b30; obtain ⟨k42, k43, k48⟩ := HEN.out w30 hB30; clear HE1)
        | (go_at_call 64; refine Calls.mono (HE2.out w30 hB30) ?_; rintro e w31 ⟨rfl, b31⟩; have hB31 := below_trans hB30 b31; have ho31 := own_below (own_below ho3 b30) b31; obtain ⟨k52, k53, k58⟩ := HEN.out w31 hB31)
        | (go_at_call 70; refine Calls.mono (compact_ok w1.heap.size g at_.length dd (sorted at_) w31 w31 hg2 hd2 ho31 (Below.refl _ _) (by rw [sorted_length]; omega)) ?_; rintro e w4 ⟨rfl, b4⟩; have hB4 := below_of1 hB31 hB1 b4; obtain ⟨k62, k63, k68⟩ := HEN.out w4 hB4))
      go_region
      all_goals go_wp2_with (fail)
      all_goals go_ret2
      all_goals exact ⟨rfl, below_drewN' hB1 1⟩
    by_cases c2 : 12 < (at_.length : Int)
    · rw [if_pos (.inr (by omega))] at hr
      subst hr
      clear hf he
      have c1' : 1 ≤ (at_.length : Int) := by omega
      go_enter Tryd.func45, Tryd.ntmps45
      go_wp2_with (first
        | (go_at_call 63; refine Calls.mono (HF.out _) ?_; rintro e w1 ⟨rfl, hB1⟩; obtain ⟨k12, k13, k18⟩ := HEN.out w1 hB1)
        | (go_at_call 50; refine Calls.mono (HCL.out w1 hB1) ?_; rintro e w2 ⟨g, dd, rfl, hg2, hd2, ho2, b2⟩; have hg0 := Nat.le_trans hB1.size hg2)
        | (go_at_call 69; refine Calls.mono (sort_ok w1.heap.size g at_.length dd at_ w1 w2 hg2 ho2 b2 (by omega)) ?_; rintro e w3 ⟨rfl, ho3, b3⟩; have hB3 := below_trans hB1 b3; obtain ⟨k32, k33, k38⟩ := HEN.out w3 hB3)
        | (go_at_call 64; refine Calls.mono (HE1.out w3 hB3) ?_; rintro e w30 ⟨rfl, b30⟩; have hB30 := below_trans hB3 b30; obtain ⟨k42, k43, k48⟩ := HEN.out w30 hB30; clear HE1)
        | (go_at_call 64; refine Calls.mono (HE2.out w30 hB30) ?_; rintro e w31 ⟨rfl, b31⟩; have hB31 := below_trans hB30 b31; have ho31 := own_below (own_below ho3 b30) b31; obtain ⟨k52, k53, k58⟩ := HEN.out w31 hB31)
        | (go_at_call 70; refine Calls.mono (compact_ok w1.heap.size g at_.length dd (sorted at_) w31 w31 hg2 hd2 ho31 (Below.refl _ _) (by rw [sorted_length]; omega)) ?_; rintro e w4 ⟨rfl, b4⟩; have hB4 := below_of1 hB31 hB1 b4; obtain ⟨k62, k63, k68⟩ := HEN.out w4 hB4))
      go_region
      all_goals go_wp2_with (fail)
      all_goals go_ret2
      all_goals exact ⟨rfl, below_drewN' hB1 1⟩
    rw [if_neg (by omega)] at hr
    have l1 : 1 ≤ (at_.length : Int) := by omega
    have l12 : (at_.length : Int) ≤ 12 := by omega
    have h3 : r = 3 ∧ ¬ (inside at_ p 1 = true ∧ inside vs p 0 = true ∧ at_.length = vs.length ∧ at_.Nodup) := by
      rcases Classical.em (inside at_ p 1 = true ∧ inside vs p 0 = true ∧ at_.length = vs.length ∧ at_.Nodup) with h | h
      · rw [if_pos h] at hr; exact absurd hr.symm he
      · rw [if_neg h] at hr; exact ⟨hr.symm, h⟩
    obtain ⟨rfl, hn⟩ := h3
    clear hr he hf c1 c2
    have HCL := hide (fun w' (hb : Below w.heap.size w w') => clone_ok A at_ c w' (hA.below hb) (by omega) (by omega))
    by_cases e1 : (vs.length : Int) = at_.length
    · have ne1 : ((vs.length : Int) != (at_.length : Int)) = false := by rw [e1]; simp
      cases q1 : inside at_ p 1
      · rw [q1] at HE1
        have HX := hide e1
        clear hn q1 e1
        go_enter Tryd.func45, Tryd.ntmps45
        go_wp2_with (first
          | (go_at_call 63; refine Calls.mono (HF.out _) ?_; rintro e w1 ⟨rfl, hB1⟩; obtain ⟨k12, k13, k18⟩ := HEN.out w1 hB1)
          | (go_at_call 50; refine Calls.mono (HCL.out w1 hB1) ?_; rintro e w2 ⟨g, dd, rfl, hg2, hd2, ho2, b2⟩; have hg0 := Nat.le_trans hB1.size hg2)
          | (go_at_call 69; refine Calls.mono (sort_ok w1.heap.size g at_.length dd at_ w1 w2 hg2 ho2 b2 (by omega)) ?_; rintro e w3 ⟨rfl, ho3, b3⟩; have hB3 := below_trans hB1 b3; obtain ⟨k32, k33, k38⟩ := HEN.out w3 hB3)
          | (go_at_call 64; refine Calls.mono (HE1.out w3 hB3) ?_; rintro e w30 ⟨rfl, b30⟩; have hB30 := below_trans hB3 b30; obtain ⟨k42, k43, k48⟩ := HEN.out w30 hB30; clear HE1)
          | (go_at_call 64; refine Calls.mono (HE2.out w30 hB30) ?_; rintro e w31 ⟨rfl, b31⟩; have hB31 := below_trans hB30 b31; have ho31 := own_below (own_below ho3 b30) b31; obtain ⟨k52, k53, k58⟩ := HEN.out w31 hB31)
          | (go_at_call 70; refine Calls.mono (compact_ok w1.heap.size g at_.length dd (sorted at_) w31 w31 hg2 hd2 ho31 (Below.refl _ _) (by rw [sorted_length]; omega)) ?_; rintro e w4 ⟨rfl, b4⟩; have hB4 := below_of1 hB31 hB1 b4; obtain ⟨k62, k63, k68⟩ := HEN.out w4 hB4))
        go_region
        all_goals go_wp2_with (fail)
        all_goals go_ret2
        all_goals exact ⟨rfl, below_drewN' hB30 1⟩
      · cases q2 : inside vs p 0
        · rw [q1] at HE1
          rw [q2] at HE2
          have HX := hide e1
          clear hn q1 q2 e1
          go_enter Tryd.func45, Tryd.ntmps45
          go_wp2_with (first
            | (go_at_call 63; refine Calls.mono (HF.out _) ?_; rintro e w1 ⟨rfl, hB1⟩; obtain ⟨k12, k13, k18⟩ := HEN.out w1 hB1)
            | (go_at_call 50; refine Calls.mono (HCL.out w1 hB1) ?_; rintro e w2 ⟨g, dd, rfl, hg2, hd2, ho2, b2⟩; have hg0 := Nat.le_trans hB1.size hg2)
            | (go_at_call 69; refine Calls.mono (sort_ok w1.heap.size g at_.length dd at_ w1 w2 hg2 ho2 b2 (by omega)) ?_; rintro e w3 ⟨rfl, ho3, b3⟩; have hB3 := below_trans hB1 b3; obtain ⟨k32, k33, k38⟩ := HEN.out w3 hB3)
            | (go_at_call 64; refine Calls.mono (HE1.out w3 hB3) ?_; rintro e w30 ⟨rfl, b30⟩; have hB30 := below_trans hB3 b30; obtain ⟨k42, k43, k48⟩ := HEN.out w30 hB30; clear HE1)
            | (go_at_call 64; refine Calls.mono (HE2.out w30 hB30) ?_; rintro e w31 ⟨rfl, b31⟩; have hB31 := below_trans hB30 b31; have ho31 := own_below (own_below ho3 b30) b31; obtain ⟨k52, k53, k58⟩ := HEN.out w31 hB31)
            | (go_at_call 70; refine Calls.mono (compact_ok w1.heap.size g at_.length dd (sorted at_) w31 w31 hg2 hd2 ho31 (Below.refl _ _) (by rw [sorted_length]; omega)) ?_; rintro e w4 ⟨rfl, b4⟩; have hB4 := below_of1 hB31 hB1 b4; obtain ⟨k62, k63, k68⟩ := HEN.out w4 hB4))
          go_region
          all_goals go_wp2_with (fail)
          all_goals go_ret2
          all_goals exact ⟨rfl, below_drewN' hB31 1⟩
        · rw [q1] at HE1
          rw [q2] at HE2
          have hnn : ¬ at_.Nodup := fun h => hn ⟨q1, q2, by omega, h⟩
          have hlt := (compact_less at_).2 hnn
          have hltd : decide ((Lib.compact (sorted at_)).length < at_.length) = true := decide_eq_true hlt
          have HX := hide e1
          clear hn q1 q2 e1 hnn
          go_enter Tryd.func45, Tryd.ntmps45
          go_wp2_with (first
            | (go_at_call 63; refine Calls.mono (HF.out _) ?_; rintro e w1 ⟨rfl, hB1⟩; obtain ⟨k12, k13, k18⟩ := HEN.out w1 hB1)
            | (go_at_call 50; refine Calls.mono (HCL.out w1 hB1) ?_; rintro e w2 ⟨g, dd, rfl, hg2, hd2, ho2, b2⟩; have hg0 := Nat.le_trans hB1.size hg2)
            | (go_at_call 69; refine Calls.mono (sort_ok w1.heap.size g at_.length dd at_ w1 w2 hg2 ho2 b2 (by omega)) ?_; rintro e w3 ⟨rfl, ho3, b3⟩; have hB3 := below_trans hB1 b3; obtain ⟨k32, k33, k38⟩ := HEN.out w3 hB3)
            | (go_at_call 64; refine Calls.mono (HE1.out w3 hB3) ?_; rintro e w30 ⟨rfl, b30⟩; have hB30 := below_trans hB3 b30; obtain ⟨k42, k43, k48⟩ := HEN.out w30 hB30; clear HE1)
            | (go_at_call 64; refine Calls.mono (HE2.out w30 hB30) ?_; rintro e w31 ⟨rfl, b31⟩; have hB31 := below_trans hB30 b31; have ho31 := own_below (own_below ho3 b30) b31; obtain ⟨k52, k53, k58⟩ := HEN.out w31 hB31)
            | (go_at_call 70; refine Calls.mono (compact_ok w1.heap.size g at_.length dd (sorted at_) w31 w31 hg2 hd2 ho31 (Below.refl _ _) (by rw [sorted_length]; omega)) ?_; rintro e w4 ⟨rfl, b4⟩; have hB4 := below_of1 hB31 hB1 b4; obtain ⟨k62, k63, k68⟩ := HEN.out w4 hB4))
          go_region
          all_goals go_wp2_with (fail)
          all_goals go_ret2
          all_goals exact ⟨rfl, below_drewN' hB4 1⟩
    · have ne1 : ((vs.length : Int) != (at_.length : Int)) = true := by rw [bne_iff_ne]; exact e1
      have HX := hide e1
      clear hn e1
      go_enter Tryd.func45, Tryd.ntmps45
      go_wp2_with (first
        | (go_at_call 63; refine Calls.mono (HF.out _) ?_; rintro e w1 ⟨rfl, hB1⟩; obtain ⟨k12, k13, k18⟩ := HEN.out w1 hB1)
        | (go_at_call 50; refine Calls.mono (HCL.out w1 hB1) ?_; rintro e w2 ⟨g, dd, rfl, hg2, hd2, ho2, b2⟩; have hg0 := Nat.le_trans hB1.size hg2)
        | (go_at_call 69; refine Calls.mono (sort_ok w1.heap.size g at_.length dd at_ w1 w2 hg2 ho2 b2 (by omega)) ?_; rintro e w3 ⟨rfl, ho3, b3⟩; have hB3 := below_trans hB1 b3; obtain ⟨k32, k33, k38⟩ := HEN.out w3 hB3)
        | (go_at_call 64; refine Calls.mono (HE1.out w3 hB3) ?_; rintro e w30 ⟨rfl, b30⟩; have hB30 := below_trans hB3 b30; obtain ⟨k42, k43, k48⟩ := HEN.out w30 hB30; clear HE1)
        | (go_at_call 64; refine Calls.mono (HE2.out w30 hB30) ?_; rintro e w31 ⟨rfl, b31⟩; have hB31 := below_trans hB30 b31; have ho31 := own_below (own_below ho3 b30) b31; obtain ⟨k52, k53, k58⟩ := HEN.out w31 hB31)
        | (go_at_call 70; refine Calls.mono (compact_ok w1.heap.size g at_.length dd (sorted at_) w31 w31 hg2 hd2 ho31 (Below.refl _ _) (by rw [sorted_length]; omega)) ?_; rintro e w4 ⟨rfl, b4⟩; have hB4 := below_of1 hB31 hB1 b4; obtain ⟨k62, k63, k68⟩ := HEN.out w4 hB4))
      go_region
      all_goals go_wp2_with (fail)
      all_goals go_ret2
      all_goals exact ⟨rfl, below_drewN' hB3 1⟩
theorem jErr_nat (p : Int) (l m : List Int) : ∃ c : Nat, jErr p l m = (c : Int) ∧ c ≤ 8 := by
  unfold jErr
  split
  · exact ⟨8, rfl, by decide⟩
  · split
    · exact ⟨2, rfl, by decide⟩
    · split
      · exact ⟨0, rfl, by decide⟩
      · exact ⟨3, rfl, by decide⟩
set_option maxRecDepth 100000 in
set_option maxHeartbeats 8000000 in
theorem law_join (p : Int) (A B : Option Addr) (at_ vs : List Int) (cap d : Nat) (w : World) (a : Nat → Addr) (hS : Sent codes w a) (hH : Handle w) (hA : Ints w A at_) (hB : Ints w B vs) (hc : at_.length ≤ cap) (hd : vs.length ≤ d) :
    Calls Tryd.prog 11 #[.int .i64 p, .slice A at_.length cap, .slice B vs.length d] w fun e w' => e = .returned (.bool true) ∧ Below w.heap.size w w' := by
  have hlen := hA.len
  have hlenv := hB.len
  have HE : Hid (∀ w', Below w.heap.size w w' → Env [2, 3, 8] w' a) := hide fun w' hb => (hS.toEnv.sub (fun c h => sub238 h)).below hb
  have HPAD := hide (fun w' (hb : Below w.heap.size w w') => pad_any w' a ((HE.out w' hb).sub (fun c h => by simp at h ⊢; omega)))
  by_cases hlong : 100 < (at_.length : Int)
  · go_enter Tryd.func11, Tryd.ntmps11
    go_wp2_with (go_at_call 17; refine Calls.mono (HPAD.out _ (Below.refl _ _)) ?_; rintro e w1 ⟨rfl, hB1⟩)
    go_ret
    exact ⟨rfl, hB1⟩
  by_cases hlong2 : 100 < (vs.length : Int)
  · go_enter Tryd.func11, Tryd.ntmps11
    go_wp2_with (go_at_call 17; refine Calls.mono (HPAD.out _ (Below.refl _ _)) ?_; rintro e w1 ⟨rfl, hB1⟩)
    go_ret
    exact ⟨rfl, hB1⟩
  have HC1 := hide (fun w' (hb : Below w.heap.size w w') => intsS_ok A at_ cap w' (hA.below hb) hc (by omega))
  have HC2 := hide (fun w' (hb : Below w.heap.size w w') => intsS_ok B vs d w' (hB.below hb) hd (by omega))
  have HJE := hide (fun w' (hb : Below w.heap.size w w') => joinError_ok A at_ cap p B vs d w' (hA.below hb) (hB.below hb) hc hd (by omega) (by omega))
  by_cases h0 : jErr p at_ vs = 0
  · have HJO := hide (fun w' (hb : Below w.heap.size w w') => joinOf_ok A B at_ vs cap d p w' (hA.below hb) (hB.below hb) hc hd h0)
    have HJN := hide (fun (A' B' : Option Addr) (c' d' : Nat) w' (h1 : Ints w' A' at_) (h2 : Ints w' B' vs) => join_ok A' B' at_ vs c' d' p w' h1 h2 h0)
    have HCD := hide (fun w' (hb : Below w.heap.size w w') => coded_any w' a (hS.below hb) (hH.below hb) 0 (by decide) 0)
    rw [h0] at HJE
    clear h0
    go_enter Tryd.func11, Tryd.ntmps11
    go_wp2_with (first
      | (go_at_call 17; refine Calls.mono (HPAD.out _ (Below.refl _ _)) ?_; rintro e w1 ⟨rfl, hB1⟩)
      | (go_at_call 46; refine Calls.mono (HJE.out w1 hB1) ?_; rintro e w2 ⟨rfl, b2⟩; have hB2 := below_trans hB1 b2)
      | (go_at_call 47; refine Calls.mono (HJO.out w2 hB2) ?_; rintro e w3 ⟨rfl, b3⟩; have hB3 := below_trans hB2 b3)
      | (go_at_call 31; refine Calls.mono (HC1.out w3 hB3) ?_; rintro e w4 ⟨A4, c4, rfl, hI4, hc4, b4⟩; have hB4 := below_trans hB3 b4; clear HC1)
      | (go_at_call 31; refine Calls.mono (HC2.out w4 hB4) ?_; rintro e w5 ⟨A5, c5, rfl, hI5, hc5, b5⟩; have hB5 := below_trans hB4 b5)
      | (go_at_call 45; refine Calls.mono (HJN.out A4 A5 c4 c5 w5 (hI4.below b5) hI5) ?_; rintro e w6 ⟨rfl, b6⟩; have hB6 := below_trans hB5 b6)
      | (go_at_call 24; refine Calls.mono (HCD.out w6 hB6) ?_; rintro e w7 ⟨rfl, b7⟩; have hB7 := below_trans hB6 b7))
    go_ret
    exact ⟨rfl, hB7⟩
  · obtain ⟨c, hc', hc8⟩ := jErr_nat p at_ vs
    have hc0 : 0 < c := by
      rcases Nat.eq_zero_or_pos c with h | h
      · subst h; exact absurd hc' h0
      · exact h
    have hjn := fun (A' B' : Option Addr) (c' d' : Nat) w' (h1 : Ints w' A' at_) (h2 : Ints w' B' vs) (hb : Below w.heap.size w w') => join_err A' B' at_ vs c' d' p w' a (HE.out w' hb) h1 h2 h0 (by omega)
    have hcd := fun w' (hb : Below w.heap.size w w') => coded_any w' a (hS.below hb) (hH.below hb) c hc8 c
    rw [hc'] at hjn HJE
    rw [decide_eq_true rfl] at hcd
    have he : errC a (c : Int) = .iface 161 (.pointer (some (a c))) := errC_pos a c (by omega)
    rw [he] at hjn hcd
    have HJN := hide hjn
    have HCD := hide hcd
    clear hjn hcd he hc' h0
    have hci : 0 < (c : Int) := by omega
    have hcn : ((c : Int) == 0) = false := by rw [beq_eq_false_iff_ne]; omega
    go_enter Tryd.func11, Tryd.ntmps11
    go_wp2_with (first
      | (go_at_call 17; refine Calls.mono (HPAD.out _ (Below.refl _ _)) ?_; rintro e w1 ⟨rfl, hB1⟩)
      | (go_at_call 46; refine Calls.mono (HJE.out w1 hB1) ?_; rintro e w3 ⟨rfl, b2⟩; have hB3 := below_trans hB1 b2)
      | (go_at_call 31; refine Calls.mono (HC1.out w3 hB3) ?_; rintro e w4 ⟨A4, c4, rfl, hI4, hc4, b4⟩; have hB4 := below_trans hB3 b4; clear HC1)
      | (go_at_call 31; refine Calls.mono (HC2.out w4 hB4) ?_; rintro e w5 ⟨A5, c5, rfl, hI5, hc5, b5⟩; have hB5 := below_trans hB4 b5)
      | (go_at_call 45; refine Calls.mono (HJN.out A4 A5 c4 c5 w5 (hI4.below b5) hI5 hB5) ?_; rintro e w6 ⟨rfl, b6⟩; have hB6 := below_trans hB5 b6)
      | (go_at_call 24; refine Calls.mono (HCD.out w6 hB6) ?_; rintro e w7 ⟨rfl, b7⟩; have hB7 := below_trans hB6 b7))
    go_ret
    exact ⟨rfl, hB7⟩
end Go.Proofs.YtieeefgkdfijdaaDoor

/- What a row's list of laid variables gives a walk: the sentinels' cells, their blocks, none twice, and the handle of the type error; the closing of a law's row. No condition. -/
namespace Go.Proofs.YtieeefgkdfijdaaDoor
open Go.ChangeShapes Go.WideShapes Go.RowKit

theorem tr_own : ownKnob Tryd.prog.godebug = none := by kernel_rfl
theorem tr_laidOut : laidOutB Tryd.prog = true := by kernel_rfl
theorem tr_star : "*" ++ "errors.errorString" = "*errors.errorString" := by decide
theorem tr_row (u : TypeId) (h : Tryd.prog.typeName? 3 u = some "*errors.errorString") : u = 161 :=
  typeName_ptr_named (nm := "errors.errorString") (by rw [tr_star]; kernel_rfl) (by kernel_rfl) (by decide) u (by rw [tr_star]; exact h)
theorem tr_cells1 : Tryd.prog.cellsOf 184 = 1 := by kernel_rfl
theorem tr_cells2 : Tryd.prog.cellsOf 9 = 1 := by kernel_rfl

/-- a sentinel's datum -/
def sdat (x : String × List UInt8) : String × DataW Unit := (x.1, .iface "*errors.errorString" (.ptr (.agg [.lit (.string x.2)])))

theorem sents_gen {P : Program} {nm : String} {ti tp te ts : TypeId} {ms : Array (String × TypeId)} {f : Field} (hi : P.underlying ti = some (.interface ms)) (hrow : ∀ u, P.typeName? 3 u = some nm → u = tp)
    (hp : P.underlying tp = some (.pointer te)) (he : P.underlying te = some (.struct #[f])) (hft : f.type = ts) (hfo : f.offset = 0) (hs : P.underlying ts = some .string) (hc : P.cellsOf te = 1) (hcs : P.cellsOf ts = 1) {W : World} :
    ∀ (L : List (String × List UInt8)) (ps : List MemPlace), DataW.LaidVars P W (L.map fun x => (x.1, .iface nm (.ptr (.agg [.lit (.string x.2)])))) ps → ps.Nodup →
    (∀ b off, MemPlace.cell b off ∈ ps → (∃ c t, W.heap[b]? = some (.cells c t (0, 0))) ∧ ∀ u v, W.cell? ⟨b, off, none⟩ = some (.iface u v) → Value.okWide P W .any 0 u v) →
    (∀ x, x ∈ L → ∃ g, P.globalNamed x.1 = some g ∧ (P.globals[g]?).map (·.type) = some ti) →
    ∃ bs : List Addr, bs.length = L.length ∧ bs.Nodup ∧ (∀ b, b ∈ bs → MemPlace.cell b.block b.off ∈ ps) ∧ ∀ i (hi : i < L.length) (hj : i < bs.length), W.var? P (L[i]).1 = some #[.iface tp (.pointer (some bs[i]))] ∧ ∃ c t, W.heap[(bs[i]).block]? = some (.cells c t (0, 0))
  | [], _, _, _, _, _ => ⟨[], rfl, List.nodup_nil, fun b h => absurd h (by simp), fun i hi _ => absurd hi (by simp)⟩
  | x :: L, ps, hv, hnd, hrows, hg => by
    obtain ⟨g0, t0, cs0, f0, p0, q0, hg0, ht0, hv0, hd0, hrest, e0⟩ := hv
    subst e0
    obtain ⟨g, hg1, ht1⟩ := hg x (List.mem_cons_self ..)
    obtain rfl := Option.some.inj (hg1.symm.trans hg0)
    obtain rfl := Option.some.inj (ht1.symm.trans ht0)
    have hqnd : q0.Nodup := List.Nodup.sublist (List.sublist_append_right _ _) hnd
    obtain ⟨bs, hlen, hbnd, hmem, hall⟩ := sents_gen hi hrow hp he hft hfo hs hc hcs L q0 hrest hqnd (fun b off hm => hrows b off (List.mem_append_right _ hm)) (fun y hy => hg y (List.mem_cons_of_mem _ hy))
    obtain ⟨l0⟩ := cs0
    have ok0 : ∀ u v, l0 = [.iface u v] → Value.okWide P W .any 0 u v := fun u v e => by
      subst e
      exact (hrows g 0 (by simp [MemPlace.row])).2 u v (by simpa using World.var?_cell hg0 hv0 0)
    obtain ⟨a0, s0, rfl, hc0, hs0, hz0, rfl⟩ := errorString_of_trod hi hrow hp he hft hfo hs hc hcs hd0 ok0
    have ha0 : MemPlace.cell a0.block a0.off ∈ MemPlace.row a0 1 := by simp [MemPlace.row]
    refine ⟨a0 :: bs, by simp [hlen], ?_, ?_, ?_⟩
    · refine List.nodup_cons.2 ⟨fun hin => ?_, hbnd⟩
      have h1 := hmem a0 hin
      exact (List.nodup_append.1 hnd).2.2 _ (List.mem_append_right _ ha0) _ h1 rfl
    · intro b hb
      rcases List.mem_cons.1 hb with rfl | hb
      · exact List.mem_append_left _ (List.mem_append_right _ ha0)
      · exact List.mem_append_right _ (hmem b hb)
    · intro i hi hj
      cases i with
      | zero => exact ⟨hv0, (hrows a0.block a0.off (List.mem_append_left _ (List.mem_append_right _ ha0))).1⟩
      | succ i => exact hall i (by simpa using hi) (by simpa using hj)

theorem sents_of_vars {W : World} (L : List (String × List UInt8)) (ps : List MemPlace) (h : DataW.LaidVars Tryd.prog W (L.map sdat) ps) (hnd : ps.Nodup)
    (hrows : ∀ b off, MemPlace.cell b off ∈ ps → (∃ c t, W.heap[b]? = some (.cells c t (0, 0))) ∧ ∀ u v, W.cell? ⟨b, off, none⟩ = some (.iface u v) → Value.okWide Tryd.prog W .any 0 u v)
    (hg : ∀ x, x ∈ L → ∃ g, Tryd.prog.globalNamed x.1 = some g ∧ (Tryd.prog.globals[g]?).map (·.type) = some 29) :
    ∃ bs : List Addr, bs.length = L.length ∧ bs.Nodup ∧ (∀ b, b ∈ bs → MemPlace.cell b.block b.off ∈ ps) ∧ ∀ i (hi : i < L.length) (hj : i < bs.length), W.var? Tryd.prog (L[i]).1 = some #[.iface 161 (.pointer (some bs[i]))] ∧ ∃ c t, W.heap[(bs[i]).block]? = some (.cells c t (0, 0)) :=
  sents_gen Tryd.underlying29 tr_row Tryd.underlying161 Tryd.underlying184 rfl rfl Tryd.underlying9 tr_cells1 tr_cells2 L ps h hnd hrows hg

def names8 : List (String × List UInt8) := [("demon/api.ErrText", [100, 101, 109, 111, 110, 58, 32, 116, 101, 120, 116]), ("demon/api.ErrBound", [100, 101, 109, 111, 110, 58, 32, 98, 111, 117, 110, 100]),
  ("demon/api.ErrShape", [100, 101, 109, 111, 110, 58, 32, 115, 104, 97, 112, 101]), ("demon/api.ErrZero", [100, 101, 109, 111, 110, 58, 32, 122, 101, 114, 111]), ("demon/api.ErrName", [100, 101, 109, 111, 110, 58, 32, 110, 97, 109, 101]),
  ("demon/api.ErrNone", [100, 101, 109, 111, 110, 58, 32, 110, 111, 110, 101]), ("demon/api.ErrOrder", [100, 101, 109, 111, 110, 58, 32, 111, 114, 100, 101, 114]), ("demon/api.ErrKind", [100, 101, 109, 111, 110, 58, 32, 107, 105, 110, 100])]
theorem glob1 : Tryd.prog.globalNamed "demon/api.ErrText" = some 3 := by kernel_rfl
theorem glob2 : Tryd.prog.globalNamed "demon/api.ErrBound" = some 0 := by kernel_rfl
theorem glob3 : Tryd.prog.globalNamed "demon/api.ErrShape" = some 1 := by kernel_rfl
theorem glob4 : Tryd.prog.globalNamed "demon/api.ErrZero" = some 4 := by kernel_rfl
theorem glob5 : Tryd.prog.globalNamed "demon/api.ErrName" = some 5 := by kernel_rfl
theorem glob6 : Tryd.prog.globalNamed "demon/api.ErrNone" = some 6 := by kernel_rfl
theorem glob7 : Tryd.prog.globalNamed "demon/api.ErrOrder" = some 7 := by kernel_rfl
theorem glob8 : Tryd.prog.globalNamed "demon/api.ErrKind" = some 2 := by kernel_rfl
theorem globT (g : Nat) (h : g ∈ [3, 0, 1, 4, 5, 6, 7, 2]) : (Tryd.prog.globals[g]?).map (·.type) = some 29 := by
  have e : ([3, 0, 1, 4, 5, 6, 7, 2].map fun g => (Tryd.prog.globals[g]?).map (·.type)) = List.replicate 8 (some 29) := by kernel_rfl
  have h1 : (Tryd.prog.globals[g]?).map (·.type) ∈ List.replicate 8 (some 29) := by rw [← e]; exact List.mem_map.2 ⟨g, h, rfl⟩
  exact (List.mem_replicate.1 h1).2

theorem names8_glob : ∀ x, x ∈ names8 → ∃ g, Tryd.prog.globalNamed x.1 = some g ∧ (Tryd.prog.globals[g]?).map (·.type) = some 29 := by
  intro x hx
  simp only [names8, List.mem_cons, List.not_mem_nil, or_false] at hx
  rcases hx with rfl | rfl | rfl | rfl | rfl | rfl | rfl | rfl
  · exact ⟨_, glob1, globT _ (by decide)⟩
  · exact ⟨_, glob2, globT _ (by decide)⟩
  · exact ⟨_, glob3, globT _ (by decide)⟩
  · exact ⟨_, glob4, globT _ (by decide)⟩
  · exact ⟨_, glob5, globT _ (by decide)⟩
  · exact ⟨_, glob6, globT _ (by decide)⟩
  · exact ⟨_, glob7, globT _ (by decide)⟩
  · exact ⟨_, glob8, globT _ (by decide)⟩

theorem list8 {α : Type} {l : List α} (h : l.length = 8) : ∃ a b c d e f g i, l = [a, b, c, d, e, f, g, i] := by
  match l, h with
  | [a, b, c, d, e, f, g, i], _ => exact ⟨a, b, c, d, e, f, g, i, rfl⟩
theorem list2 {α : Type} {l : List α} (h : l.length = 2) : ∃ a b, l = [a, b] := by
  match l, h with
  | [a, b], _ => exact ⟨a, b, rfl⟩

/-- the codes' places, out of eight -/
def at8 (a1 a2 a3 a4 a5 a6 a7 a8 : Addr) : Nat → Addr
  | 1 => a1 | 2 => a2 | 3 => a3 | 4 => a4 | 5 => a5 | 6 => a6 | 7 => a7 | _ => a8

theorem sent8 {W : World} (h : laidMet Tryd.prog (names8.map sdat) W) : ∃ a, Sent [1, 2, 3, 4, 5, 6, 7, 8] W a := by
  obtain ⟨ps, hv, hnd, hrows⟩ := h
  obtain ⟨bs, hlen, hbnd, _, hall⟩ := sents_of_vars names8 ps hv hnd hrows names8_glob
  obtain ⟨a1, a2, a3, a4, a5, a6, a7, a8, rfl⟩ := list8 hlen
  have x1 := hall 0 (by decide) (by simp)
  have x2 := hall 1 (by decide) (by simp)
  have x3 := hall 2 (by decide) (by simp)
  have x4 := hall 3 (by decide) (by simp)
  have x5 := hall 4 (by decide) (by simp)
  have x6 := hall 5 (by decide) (by simp)
  have x7 := hall 6 (by decide) (by simp)
  have x8 := hall 7 (by decide) (by simp)
  refine ⟨at8 a1 a2 a3 a4 a5 a6 a7 a8, ⟨⟨?_⟩, ?_, ?_⟩⟩
  · intro c hc
    simp only [List.mem_cons, List.not_mem_nil, or_false] at hc
    rcases hc with rfl | rfl | rfl | rfl | rfl | rfl | rfl | rfl
    · show W.cell? ⟨3, 0, none⟩ = some (.iface 161 (.pointer (some a1)))
      simpa using World.var?_cell glob1 x1.1 0
    · show W.cell? ⟨0, 0, none⟩ = some (.iface 161 (.pointer (some a2)))
      simpa using World.var?_cell glob2 x2.1 0
    · show W.cell? ⟨1, 0, none⟩ = some (.iface 161 (.pointer (some a3)))
      simpa using World.var?_cell glob3 x3.1 0
    · show W.cell? ⟨4, 0, none⟩ = some (.iface 161 (.pointer (some a4)))
      simpa using World.var?_cell glob4 x4.1 0
    · show W.cell? ⟨5, 0, none⟩ = some (.iface 161 (.pointer (some a5)))
      simpa using World.var?_cell glob5 x5.1 0
    · show W.cell? ⟨6, 0, none⟩ = some (.iface 161 (.pointer (some a6)))
      simpa using World.var?_cell glob6 x6.1 0
    · show W.cell? ⟨7, 0, none⟩ = some (.iface 161 (.pointer (some a7)))
      simpa using World.var?_cell glob7 x7.1 0
    · show W.cell? ⟨2, 0, none⟩ = some (.iface 161 (.pointer (some a8)))
      simpa using World.var?_cell glob8 x8.1 0
  · intro c hc
    simp only [List.mem_cons, List.not_mem_nil, or_false] at hc
    rcases hc with rfl | rfl | rfl | rfl | rfl | rfl | rfl | rfl
    · exact x1.2
    · exact x2.2
    · exact x3.2
    · exact x4.2
    · exact x5.2
    · exact x6.2
    · exact x7.2
    · exact x8.2
  · intro c hc d hd e
    clear hall x1 x2 x3 x4 x5 x6 x7 x8
    simp only [List.nodup_cons, List.mem_cons, List.not_mem_nil, or_false, not_or] at hbnd
    simp only [List.mem_cons, List.not_mem_nil, or_false] at hc hd
    rcases hc with rfl | rfl | rfl | rfl | rfl | rfl | rfl | rfl <;> rcases hd with rfl | rfl | rfl | rfl | rfl | rfl | rfl | rfl <;> first
      | rfl
      | (exfalso; simp only [at8] at e; simp_all)

theorem tr_et : Tryd.prog.globalNamed "errors.errorType" = some 8 := by kernel_rfl
theorem tr_rt : (Tryd.prog.cutTypes.find? (·.1 == "internal/reflectlite.rtype")).map (·.2) = some 139 := by kernel_rfl
theorem tr_size : Tryd.prog.types.size = 200 := by kernel_rfl
theorem tr_oneRow : ((List.range 200).filter fun t => Tryd.prog.rowNamed t [101, 114, 114, 111, 114]) = [29] := by kernel_rfl
theorem tr_handle : typeHandle Tryd.prog 29 = .pointer (some ⟨9, 29, none⟩) := by kernel_rfl

theorem handle_of_laid {W : World} (h : handlesMet Tryd.prog [("errors.errorType", Rows.laid_errors_errorType)] W) : Handle W := by
  obtain ⟨name, u, ty, e1, e2, e3, e4, e5⟩ := h _ (List.mem_singleton.2 rfl)
  have en : name = [101, 114, 114, 111, 114] := (Option.some.inj e1).symm
  subst en
  obtain rfl := Option.some.inj (tr_rt.symm.trans e2)
  have hm : ty ∈ (List.range 200).filter fun t => Tryd.prog.rowNamed t [101, 114, 114, 111, 114] := List.mem_filter.2 ⟨List.mem_range.2 (by rw [← tr_size]; exact e3), e4⟩
  rw [tr_oneRow] at hm
  obtain rfl := List.mem_singleton.1 hm
  rw [tr_handle] at e5
  have := World.var?_cell tr_et e5 0
  simpa [Handle] using this

/-- ALL NINE: what the list of a law with coded gives -/
theorem full_of_laid {W : World} (h : laidMetH Tryd.prog [("errors.errorType", Rows.laid_errors_errorType), ("demon/api.ErrText", Rows.laid_demon_api_ErrText), ("demon/api.ErrBound", Rows.laid_demon_api_ErrBound), ("demon/api.ErrShape", Rows.laid_demon_api_ErrShape), ("demon/api.ErrZero", Rows.laid_demon_api_ErrZero), ("demon/api.ErrName", Rows.laid_demon_api_ErrName), ("demon/api.ErrNone", Rows.laid_demon_api_ErrNone), ("demon/api.ErrOrder", Rows.laid_demon_api_ErrOrder), ("demon/api.ErrKind", Rows.laid_demon_api_ErrKind)] W) :
    ∃ a, Sent [1, 2, 3, 4, 5, 6, 7, 8] W a ∧ Handle W := by
  have h' : laidMet Tryd.prog (names8.map sdat) W ∧ handlesMet Tryd.prog [("errors.errorType", Rows.laid_errors_errorType)] W := h
  obtain ⟨a, ha⟩ := sent8 h'.1
  exact ⟨a, ha, handle_of_laid h'.2⟩

/-! ### the closing of a law's row -/
theorem trodAll_below {H : Type} {enc : TypeId × Value → H} {W W' : World} (hb : Below W.heap.size W W') :
    ∀ (ts : List TypeId) (vs : List Value) (ds : List (DataW H)) (ps : List MemPlace), (∀ t, t ∈ ts → Tryd.prog.readableRec t = true ∧ t < Tryd.prog.types.size) →
      DataW.TrodAll enc Tryd.prog W 0 (fun _ => true) true ts vs ds ps → (∀ x ∈ ps, x.block < W.heap.size) → DataW.TrodAll enc Tryd.prog W' 0 (fun b => decide (b < W.heap.size)) true ts vs ds ps
  | [], [], [], _, _, h, _ => h
  | t :: ts, v :: vs, d :: ds, ps, hr, h, hlt => by
    obtain ⟨p, q, h1, h2, rfl⟩ := h
    exact ⟨p, q, Below.trod tr_laidOut (hr t (List.mem_cons_self ..)).1 (hr t (List.mem_cons_self ..)).2 h1 hb (fun x hx => hlt x (List.mem_append_left _ hx)),
      trodAll_below hb ts vs ds q (fun u hu => hr u (List.mem_cons_of_mem _ hu)) h2 (fun x hx => hlt x (List.mem_append_right _ hx)), rfl⟩
  | [], [], _ :: _, _, _, h, _ => h.elim
  | [], _ :: _, [], _, _, h, _ => h.elim
  | [], _ :: _, _ :: _, _, _, h, _ => h.elim
  | _ :: _, [], [], _, _, h, _ => h.elim
  | _ :: _, [], _ :: _, _, _, h, _ => h.elim
  | _ :: _, _ :: _, [], _, _, h, _ => h.elim

/-- a law's call that gives true and leaves what was there: what its row asks behind it -/
theorem post_true {H : Type} {enc : TypeId × Value → H} {f : Func} {s : ChangeSpec} {W W' : World} {args : Array Value} {ds gs : List (DataW H)} {before : List MemPlace}
    (hf : f.resultTypes = #[4]) (hvars : s.vars = []) (hfn : (s.fn H (ds ++ gs)) = { results := [.lit (.bool true)], args := ds }) (hr : ∀ t, t ∈ f.params.toList → Tryd.prog.readableRec t = true ∧ t < Tryd.prog.types.size)
    (hW : DataW.Whole enc Tryd.prog f.params.toList s.vars false W args.toList ds gs before) (hb : Below W.heap.size W W') : s.post enc Tryd.prog f false true false false W args (.bool true) W' := by
  have hlt := hW.lt
  have hW' := hW
  obtain ⟨p, q, hA, hV, rfl, _, _⟩ := hW
  refine ⟨ds, gs, p ++ q, [], p, [], hW', ?_, ?_, ?_, hb.frame _, fun h => by cases h⟩
  · rw [hfn, hf]; exact trodAll_mk1 (shut_bool Tryd.underlying4 true)
  · rw [hfn]; exact trodAll_below hb _ _ _ _ hr hA (fun x hx => hlt x (List.mem_append_left _ hx))
  · rw [hfn, hvars]; rfl
end Go.Proofs.YtieeefgkdfijdaaDoor

/- A law's arguments opened into our readings: whole numbers, slices of them, of pairs, of lists. No condition. -/
namespace Go.Proofs.YtieeefgkdfijdaaDoor
open Go.ChangeShapes Go.WideShapes Go.RowKit Go.Deep Go.Joins

section
variable {H : Type} {enc : TypeId × Value → H} {P : Program} {W : World} {base : Nat} {held : Bool}

theorem wf_range {n : Int} (h : (Lit.int .i64 n).wf = true) : -9223372036854775808 ≤ n ∧ n ≤ 9223372036854775807 := by
  have := bounds_i64 h
  omega

theorem spot_none {a : Addr} {v : Value} (h : W.cell? (a.add 0) = some v) : a = ⟨a.block, a.off, none⟩ := by
  obtain ⟨b, off, spot⟩ := a
  have hs : spot = none := World.cell?_spot h
  subst hs
  rfl

/-- a slice of whole numbers that came in -/
theorem open_ints_arg {fuel : Nat} {v : Value} {y : DataW H × List MemPlace} (h : DataW.trod enc Tryd.prog W base (fun _ => true) held fuel 33 [v] = some y) :
    ∃ A l cap, v = .slice A l.length cap ∧ Ints W A l ∧ l.length ≤ cap ∧ ∀ x, x ∈ l → -9223372036854775808 ≤ x ∧ x ≤ 9223372036854775807 := by
  have c3 : Tryd.prog.cellsOf 3 = 1 := by kernel_rfl
  rcases open_ints Tryd.underlying33 Tryd.underlying3 c3 h with ⟨hcs, _⟩ | ⟨a, len, cap, zs, hcs, hb, hl, hm, hz, _, hcell, hwz⟩
  · exact ⟨none, [], 0, by simpa using hcs, Ints.nil _ _, Nat.le_refl _, by simp⟩
  · simp only [if_true] at hz
    have hlen : (zs.take len).length = len := by rw [List.length_take]; omega
    refine ⟨some a, zs.take len, cap, by rw [hlen]; simpa using hcs, ⟨by rw [hlen]; simp only [maxLen] at hm; omega, fun i hi => ?_⟩, by rw [hlen]; exact hl, fun x hx => wf_range (hwz x (List.mem_of_mem_take hx))⟩
    rw [hlen] at hi
    have hc := hcell i (by rw [hz]; omega)
    have hs := spot_none (hcell 0 (by rw [hz]; omega))
    rw [hs, addr_add] at hc
    refine ⟨a.block, a.off, by rw [← hs], World.block_lt_of_cell? W ⟨a.block, a.off + i, none⟩ hc, ?_⟩
    rw [hc]
    have e : (zs.take len).getD i 0 = zs.getD i 0 := by
      simp [List.getD_eq_getElem?_getD, hi]
    rw [e]

/-- a slice of pairs that came in -/
theorem open_pairs_gen {t e q : TypeId} (ht : P.underlying t = some (.slice e)) (he : P.underlying e = some (.array 2 q)) (hq : P.underlying q = some (.int .i64)) (c2 : P.cellsOf e = 2) (c1 : P.cellsOf q = 1) {fuel : Nat} {v : Value} {y : DataW H × List MemPlace} (h : DataW.trod enc P W base (fun _ => true) held fuel t [v] = some y) :
    ∃ A l cap, v = .slice A l.length cap ∧ Pairs W A l ∧ l.length ≤ cap ∧ ∀ p, p ∈ l → (-9223372036854775808 ≤ p.1 ∧ p.1 ≤ 9223372036854775807) ∧ (-9223372036854775808 ≤ p.2 ∧ p.2 ≤ 9223372036854775807) := by
  rcases open_slice ht h with ⟨hcs, _⟩ | ⟨a, len, cap, m, n, D, Pl, hcs, hb, hl, hm, hmm, _, hx⟩
  · exact ⟨none, [], 0, by simpa using hcs, Pairs.nil _ _, Nat.le_refl _, by simp⟩
  · simp only [if_true] at hmm
    subst hmm
    have each : ∀ i, i < len → ∃ p : Int × Int, W.cell? (a.add (i * 2)) = some (.int .i64 p.1) ∧ W.cell? ((a.add (i * 2)).add 1) = some (.int .i64 p.2) ∧ (-9223372036854775808 ≤ p.1 ∧ p.1 ≤ 9223372036854775807) ∧ (-9223372036854775808 ≤ p.2 ∧ p.2 ≤ 9223372036854775807) := by
      intro i hi
      obtain ⟨cs', hc, htr⟩ := hx i (by omega)
      rw [c2] at hc
      obtain ⟨_, hcl, hat⟩ := World.cells?_some hc
      obtain ⟨xs, m', _, _, hlen', hxl, hel⟩ := DataW.trod_array he htr
      obtain ⟨u0, u1, rfl⟩ := list2 hcl
      have e0 := hel 0 (by decide)
      have e1 := hel 1 (by decide)
      rw [c1] at e0 e1
      have f0 : xs[0]? = some (xs[0]'(by omega)) := List.getElem?_eq_getElem (by omega)
      have f1 : xs[1]? = some (xs[1]'(by omega)) := List.getElem?_eq_getElem (by omega)
      rw [f0] at e0
      rw [f1] at e1
      obtain ⟨p0, g0, _, w0⟩ := DataW.trod_int hq e0
      obtain ⟨p1, g1, _, w1⟩ := DataW.trod_int hq e1
      have h0 := hat 0 (by decide)
      have h1 := hat 1 (by decide)
      have q0 : u0 = .int .i64 p0 := by
        change [u0] = _ at g0
        injection g0
      have q1 : u1 = .int .i64 p1 := by
        change [u1] = _ at g1
        injection g1
      subst q0 q1
      exact ⟨(p0, p1), h0, h1, wf_range w0, wf_range w1⟩
    obtain ⟨f, hf⟩ := choose_lt each
    have hlen : ((List.range len).map f).length = len := by simp
    refine ⟨some a, (List.range len).map f, m, by rw [hlen]; simpa using hcs, ⟨by rw [hlen]; simp only [maxLen] at hm; omega, fun i hi => ?_⟩, by rw [hlen]; exact hl, fun p hp => ?_⟩
    · rw [hlen] at hi
      obtain ⟨g0, g1, _, _⟩ := hf i hi
      have hs := spot_none (hf 0 (by omega)).1
      rw [hs, addr_add] at g0
      rw [hs, addr_add, addr_add] at g1
      have e : ((List.range len).map f).getD i (0, 0) = f i := by simp [List.getD_eq_getElem?_getD, hi]
      rw [e]
      exact ⟨a.block, a.off, by rw [← hs], World.block_lt_of_cell? W ⟨a.block, a.off + i * 2, none⟩ g0, g0, g1⟩
    · obtain ⟨i, hi, rfl⟩ := List.mem_map.1 hp
      obtain ⟨_, _, r0, r1⟩ := hf i (List.mem_range.1 hi)
      exact ⟨r0, r1⟩
theorem open_pairs_arg {fuel : Nat} {v : Value} {y : DataW H × List MemPlace} (h : DataW.trod enc Tryd.prog W base (fun _ => true) held fuel 22 [v] = some y) :
    ∃ A l cap, v = .slice A l.length cap ∧ Pairs W A l ∧ l.length ≤ cap ∧ ∀ p, p ∈ l → (-9223372036854775808 ≤ p.1 ∧ p.1 ≤ 9223372036854775807) ∧ (-9223372036854775808 ≤ p.2 ∧ p.2 ≤ 9223372036854775807) :=
  open_pairs_gen Tryd.underlying22 Tryd.underlying75 Tryd.underlying3 (by kernel_rfl) (by kernel_rfl) h

/-- a slice of lists that came in -/
theorem open_lists_arg {fuel : Nat} {v : Value} {y : DataW H × List MemPlace} (h : DataW.trod enc Tryd.prog W base (fun _ => true) held fuel 37 [v] = some y) :
    ∃ A l cap, v = .slice A l.length cap ∧ Lists W A l ∧ l.length ≤ cap ∧ ∀ r, r ∈ l → ∀ x, x ∈ r → -9223372036854775808 ≤ x ∧ x ≤ 9223372036854775807 := by
  have c1 : Tryd.prog.cellsOf 33 = 1 := by kernel_rfl
  rcases open_slice1 Tryd.underlying37 c1 h with ⟨hcs, _⟩ | ⟨a, len, cap, m, n, V, D, Pl, hcs, hb, hl, hm, hmm, _, hx⟩
  · exact ⟨none, [], 0, by simpa using hcs, Lists.nil _ _, Nat.le_refl _, by simp⟩
  · simp only [if_true] at hmm
    subst hmm
    have each : ∀ i, i < len → ∃ q : Option Addr × List Int × Nat, W.cell? (a.add i) = some (.slice q.1 q.2.1.length q.2.2) ∧ q.2.1.length ≤ q.2.2 ∧ Ints W q.1 q.2.1 ∧ ∀ x, x ∈ q.2.1 → -9223372036854775808 ≤ x ∧ x ≤ 9223372036854775807 := by
      intro i hi
      obtain ⟨hc, ht⟩ := hx i (by omega)
      obtain ⟨A, l, c, e, h1, h2, h3⟩ := open_ints_arg ht
      exact ⟨(A, l, c), by rw [hc, e], h2, h1, h3⟩
    obtain ⟨f, hf⟩ := choose_lt each
    have hlen : ((List.range len).map fun i => (f i).2.1).length = len := by simp
    refine ⟨some a, (List.range len).map fun i => (f i).2.1, m, by rw [hlen]; simpa using hcs, ⟨by rw [hlen]; simp only [maxLen] at hm; omega, fun i hi => ?_⟩, by rw [hlen]; exact hl, fun r hr => ?_⟩
    · rw [hlen] at hi
      obtain ⟨g0, g1, g2, _⟩ := hf i hi
      have hs := spot_none (hf 0 (by omega)).1
      rw [hs, addr_add] at g0
      have e : ((List.range len).map fun i => (f i).2.1).getD i [] = (f i).2.1 := by simp [List.getD_eq_getElem?_getD, hi]
      rw [e]
      exact ⟨a.block, a.off, (f i).1, (f i).2.2, by rw [← hs], World.block_lt_of_cell? W ⟨a.block, a.off + i, none⟩ g0, g0, g1, g2⟩
    · obtain ⟨i, hi, rfl⟩ := List.mem_map.1 hr
      exact (hf i (List.mem_range.1 hi)).2.2.2
end
end Go.Proofs.YtieeefgkdfijdaaDoor
