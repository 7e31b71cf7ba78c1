/- Words, plain laws and walks behind the law OrderParts, part 3. No condition. -/
import Derived.Test.YtcnecmcbjpehcaaDoorFlatOrderPartsa
import Derived.Test.YtcnecmcbjpehcaaDoorFlatOrderPartsb
import Derived.Deep.RegionHeld3
import Derived.Deep.QuietTactic
import Derived.BigQuiet

/- The walks of errors.As with a target of the type **api.Fault: at a sentinel it is false, at a fault true (after the kit's worked Toyas). Condition: the handle of the type error is laid. -/
namespace Go.Proofs.YtcnecmcbjpehcaaDoor
open Go.RowKit Go.Deep Go.Extern.Stop Go.Stop Go.Extern

/-! ### closed facts on the model's entries for internal/reflectlite, at this program's types -/
def kindExt : TypeId → Sem Value := fun t => do pure (.int .u8 (← Rtype.kind t))
def vTypeExt : TypeId → Addr → Nat → Nat → Sem Value := fun t _ _ _ => ReflectliteType.toType t
def unpackExt : Array Value → Sem Value := fun args => ReflectliteValue.unpack (args.getD 0 (.tuple #[]))
theorem as_valueOfT (t : Addr) (w : World) : (unpackExt #[.iface 87 (.pointer (some t))]).run Tryd.prog w
    = .ok (.agg #[.pointer (some ⟨9, 87, none⟩), .pointer (some ⟨w.heap.size, 0, none⟩), .int .u64 150]) (w.alloc (.cells #[.pointer (some t)] 87)) := by kernel_rfl
theorem as_typeT (a : Addr) (w : World) : (ReflectliteValue.methodAny (ReflectliteValue.valueError "reflectlite.Value.Type" 0) vTypeExt #[.agg #[.pointer (some ⟨9, 87, none⟩), .pointer (some a), .int .u64 150]]).run Tryd.prog w
    = .ok (.iface 120 (.agg #[.pointer (some ⟨9, 87, none⟩)])) w := by kernel_rfl
theorem as_methodKind (h : Value) (w : World) : (Go.method 294 120 (.agg #[h]) "Kind").run Tryd.prog w = .ok (115, h) w := by kernel_rfl
theorem as_kindT (w : World) : (ReflectliteType.abiMethod kindExt #[.pointer (some ⟨9, 87, none⟩)]).run Tryd.prog w = .ok (.int .u8 22) w := by kernel_rfl
theorem as_kindF (w : World) : (ReflectliteType.abiMethod kindExt #[.pointer (some ⟨9, 75, none⟩)]).run Tryd.prog w = .ok (.int .u8 22) w := by kernel_rfl
theorem rlm (z : Sem Value) (f : TypeId → Addr → Nat → Nat → Sem Value) (v : Value) :
    ReflectliteValue.method z f #[v] = (do match ← ReflectliteValue.parts v with | none => z | some (t, a, fl) => f t a fl (fl % 32)) := rfl
theorem as_partsT (a : Addr) (w : World) : (ReflectliteValue.parts (.agg #[.pointer (some ⟨9, 87, none⟩), .pointer (some a), .int .u64 150])).run Tryd.prog w = .ok (some (87, a, 150)) w := by kernel_rfl
theorem as_isNilT (a p : Addr) (W : World) (ha : W.cell? a = some (.pointer (some p))) :
    (ReflectliteValue.method (ReflectliteValue.valueError "reflectlite.Value.IsNil" 0) ReflectliteValue.isNil #[.agg #[.pointer (some ⟨9, 87, none⟩), .pointer (some a), .int .u64 150]]).run Tryd.prog W = .ok (.bool false) W := by
  rw [rlm]
  simp only [Sem.run_bind, as_partsT, Result.andThen]
  simp [ReflectliteValue.isNil, loadVar, isAgg, underlying, Tryd.underlying87, ha, Result.andThen]
theorem as_methodElem (h : Value) (w : World) : (Go.method 294 120 (.agg #[h]) "Elem").run Tryd.prog w = .ok (126, .agg #[h]) w := by kernel_rfl
theorem as_methodImplements (h : Value) (w : World) : (Go.method 294 120 (.agg #[h]) "Implements").run Tryd.prog w = .ok (127, .agg #[h]) w := by kernel_rfl
theorem as_methodAssignableTo (h : Value) (w : World) : (Go.method 294 120 (.agg #[h]) "AssignableTo").run Tryd.prog w = .ok (124, .agg #[h]) w := by kernel_rfl
theorem as_elemT (w : World) : (ReflectliteType.method ReflectliteType.elem #[.agg #[.pointer (some ⟨9, 87, none⟩)]]).run Tryd.prog w = .ok (.iface 120 (.agg #[.pointer (some ⟨9, 75, none⟩)])) w := by kernel_rfl
theorem as_implementsF (w : World) : (ReflectliteType.relation "Implements" ReflectliteType.implements_ #[.agg #[.pointer (some ⟨9, 75, none⟩)], .iface 120 (.agg #[.pointer (some ⟨9, 27, none⟩)])]).run Tryd.prog w = .ok (.bool true) w := by kernel_rfl
theorem as_typeOfF (v : Value) (w : World) : (ReflectliteType.typeOf #[.iface 75 v]).run Tryd.prog w = .ok (.iface 120 (.agg #[.pointer (some ⟨9, 75, none⟩)])) w := by kernel_rfl
theorem as_assignF (w : World) : (ReflectliteType.relation "AssignableTo" ReflectliteType.assignableTo #[.agg #[.pointer (some ⟨9, 75, none⟩)], .iface 120 (.agg #[.pointer (some ⟨9, 75, none⟩)])]).run Tryd.prog w = .ok (.bool true) w := by kernel_rfl
theorem as_assignE (w : World) : (ReflectliteType.relation "AssignableTo" ReflectliteType.assignableTo #[.agg #[.pointer (some ⟨9, 155, none⟩)], .iface 120 (.agg #[.pointer (some ⟨9, 75, none⟩)])]).run Tryd.prog w = .ok (.bool false) w := by kernel_rfl
theorem as_valueOfF (e : Addr) (w : World) : (unpackExt #[.iface 75 (.pointer (some e))]).run Tryd.prog w
    = .ok (.agg #[.pointer (some ⟨9, 75, none⟩), .pointer (some ⟨w.heap.size, 0, none⟩), .int .u64 150]) (w.alloc (.cells #[.pointer (some e)] 75)) := by kernel_rfl
theorem as_elemOfT (w : World) : (Rtype.elem? 87).run Tryd.prog w = .ok (some 75) w := by kernel_rfl
theorem as_mkF (p : Addr) (w : World) : (ReflectliteValue.mk 75 p ReflectliteValue.flagAddr).run Tryd.prog w = .ok (.agg #[.pointer (some ⟨9, 75, none⟩), .pointer (some p), .int .u64 406]) w := by kernel_rfl
theorem as_elemVT (a p : Addr) (W : World) (ha : W.cell? a = some (.pointer (some p))) :
    (ReflectliteValue.method (ReflectliteValue.valueError "reflectlite.Value.Elem" 0) ReflectliteValue.elem #[.agg #[.pointer (some ⟨9, 87, none⟩), .pointer (some a), .int .u64 150]]).run Tryd.prog W
      = .ok (.agg #[.pointer (some ⟨9, 75, none⟩), .pointer (some p), .int .u64 406]) W := by
  rw [rlm]
  simp only [Sem.run_bind, as_partsT, Result.andThen]
  simp [ReflectliteValue.elem, loadVar, isAgg, underlying, Tryd.underlying87, ha, Result.andThen, as_elemOfT, as_mkF]
theorem rls (v x : Value) : ReflectliteValue.set #[v, x] = (do
    let (some (dst, a, fl), some (src, b, _)) := (← ReflectliteValue.parts v, ← ReflectliteValue.parts x)
      | unsupported (.noEntry "extern/(internal/reflectlite.Value).Set.zeroValue")
    if fl / ReflectliteValue.flagAddr % 2 == 0 then unsupported (.noEntry "extern/(internal/reflectlite.Value).Set.unaddressable")
    let val ← loadVar src b
    if ← Rtype.directlyAssignable dst src then storeVar dst a val
    else if ← Rtype.implements dst src then
      if (← Rtype.kind src) == 20 then
        match val with
        | .nilIface => unsupported (.noEntry "extern/reflectlite: a nil value of one interface type handed on as a value of another")
        | _ => storeVar dst a val
      else storeVar dst a (.iface src val)
    else panicString ("reflectlite.Set: value of type " ++ (← Rtype.spelt src) ++ " is not assignable to type " ++ (← Rtype.spelt dst))
    pure (.tuple #[])) := rfl
theorem as_partsFa (a : Addr) (w : World) : (ReflectliteValue.parts (.agg #[.pointer (some ⟨9, 75, none⟩), .pointer (some a), .int .u64 406])).run Tryd.prog w = .ok (some (75, a, 406)) w := by kernel_rfl
theorem as_partsF (a : Addr) (w : World) : (ReflectliteValue.parts (.agg #[.pointer (some ⟨9, 75, none⟩), .pointer (some a), .int .u64 150])).run Tryd.prog w = .ok (some (75, a, 150)) w := by kernel_rfl
theorem as_directF (w : World) : (Rtype.directlyAssignable 75 75).run Tryd.prog w = .ok true w := by kernel_rfl
theorem as_setF (ta b e : Addr) (old : Value) (W : World) (hb : W.cell? b = some (.pointer (some e))) (ht : W.cell? ta = some old) (hf : W.frozen? ta = false) :
    (ReflectliteValue.set #[.agg #[.pointer (some ⟨9, 75, none⟩), .pointer (some ta), .int .u64 406], .agg #[.pointer (some ⟨9, 75, none⟩), .pointer (some b), .int .u64 150]]).run Tryd.prog W
      = .ok (.tuple #[]) (W.setCell ta (.pointer (some e))) := by
  rw [rls]
  simp only [Sem.run_bind, as_partsFa, as_partsF, Result.andThen]
  simp [ReflectliteValue.flagAddr, loadVar, isAgg, underlying, Tryd.underlying75, hb, Result.andThen, as_directF, storeVar, Value.cells, storeCells, Addr.add]
  rw [run_store Tryd.prog W ta _ _ (by rfl)]
  simp [ht, hf]

theorem no_as_E (v : Value) (xT : TypeId) (w : World) : (Instr.typeAssert (.iface 155 v) xT 124 true).run Tryd.prog w = .ok (.tuple #[.nilIface, .bool false]) w := run_typeAssert_lacksB Tryd.underlying124 (by kernel_rfl) (by kernel_rfl) v xT w

set_option maxHeartbeats 4000000 in
/-- errors.As at a sentinel: false; what was there is as it was -/
theorem as_sent (e t : Addr) (w : World) (hg : Handle w) :
    Calls Tryd.prog 54 #[.iface 155 (.pointer (some e)), .iface 87 (.pointer (some t))] w fun ev w' => ev = .returned (.bool false) ∧ Below w.heap.size w w' := by
  have h6 := @run_callFunc_extern Tryd.prog 67 _ unpackExt Tryd.func67 (by kernel_rfl) (by kernel_rfl) (by kernel_rfl) (by kernel_rfl)
  have h7 := @run_callFunc_extern Tryd.prog 68 _ (ReflectliteValue.methodAny (ReflectliteValue.valueError "reflectlite.Value.Type" 0) vTypeExt) Tryd.func68 (by kernel_rfl) (by kernel_rfl) (by kernel_rfl) (by kernel_rfl)
  have h8 := @run_callFunc_extern Tryd.prog 69 _ (ReflectliteValue.method (ReflectliteValue.valueError "reflectlite.Value.IsNil" 0) ReflectliteValue.isNil) Tryd.func69 (by kernel_rfl) (by kernel_rfl) (by kernel_rfl) (by kernel_rfl)
  have h27 := @run_callFunc_extern Tryd.prog 115 _ (ReflectliteType.abiMethod kindExt) Tryd.func115 (by kernel_rfl) (by kernel_rfl) (by kernel_rfl) (by kernel_rfl)
  have h37 := @run_callFunc_extern Tryd.prog 126 _ (ReflectliteType.method ReflectliteType.elem) Tryd.func126 (by kernel_rfl) (by kernel_rfl) (by kernel_rfl) (by kernel_rfl)
  have h38 := @run_callFunc_extern Tryd.prog 127 _ (ReflectliteType.relation "Implements" ReflectliteType.implements_) Tryd.func127 (by kernel_rfl) (by kernel_rfl) (by kernel_rfl) (by kernel_rfl)
  have h10 := @run_callFunc_extern Tryd.prog 71 _ ReflectliteType.typeOf Tryd.func71 (by kernel_rfl) (by kernel_rfl) (by kernel_rfl) (by kernel_rfl)
  have h35 := @run_callFunc_extern Tryd.prog 124 _ (ReflectliteType.relation "AssignableTo" ReflectliteType.assignableTo) Tryd.func124 (by kernel_rfl) (by kernel_rfl) (by kernel_rfl) (by kernel_rfl)
  have tO := is_typeOf
  have mA := as_methodAssignableTo
  have aE := as_assignE
  have f6 := as_valueOfT
  have f7 := as_typeT
  have mK := as_methodKind
  have mE := as_methodElem
  have mI := as_methodImplements
  have kT := as_kindT
  have kF := as_kindF
  have eT := as_elemT
  have iF := as_implementsF
  have nA := no_as_E
  have uE := no_unwrap_E
  have vE := no_unwraps_E
  have n8 := as_isNilT ⟨w.heap.size, 0, none⟩ t ((w.alloc (.cells #[.pointer (some t)] 87)).alloc (.cells #[.pointer (some ⟨9, 87, none⟩), .pointer (some ⟨w.heap.size, 0, none⟩), .int .u64 150] 101)) (by simp)
  have hlt : 8 < w.heap.size := World.block_lt_of_cell? w _ hg
  have hg2 : ((w.alloc (.cells #[.pointer (some t)] 87)).alloc (.cells #[.pointer (some ⟨9, 87, none⟩), .pointer (some ⟨w.heap.size, 0, none⟩), .int .u64 150] 101)).cell? ⟨8, 0, none⟩ = some (.iface 120 (.agg #[.pointer (some ⟨9, 27, none⟩)])) := by
    rw [World.cell?_alloc_lt _ _ ⟨8, 0, none⟩ (by simp; omega), World.cell?_alloc_lt _ _ ⟨8, 0, none⟩ hlt]; exact hg
  go_enter Tryd.func54, Tryd.ntmps54
  go_wp2
  refine wp_loop_rounds 1 ?_
  rw [rounds_succ]
  go_wp2
  go_ret
  exact ⟨rfl, below_alloc' (below_alloc' (below_alloc' (Below.refl _ _) _) _) _⟩

set_option maxHeartbeats 4000000 in
/-- errors.As at a fault: true; the target points to it -/
theorem as_fault (e t : Addr) (old : Value) (w : World) (hg : Handle w) (ht0 : w.cell? t = some old) (hf0 : w.frozen? t = false) :
    Calls Tryd.prog 54 #[.iface 75 (.pointer (some e)), .iface 87 (.pointer (some t))] w fun ev w' => ev = .returned (.bool true) ∧ w' = ((((w.alloc (.cells #[.pointer (some t)] 87)).alloc (.cells #[.pointer (some ⟨9, 87, none⟩), .pointer (some ⟨w.heap.size, 0, none⟩), .int .u64 150] 101)).alloc (.cells #[.pointer (some ⟨9, 87, none⟩), .pointer (some ⟨w.heap.size, 0, none⟩), .int .u64 150] 101)).alloc (.cells #[.pointer (some e)] 75)).setCell t (.pointer (some e)) := by
  have h6 := @run_callFunc_extern Tryd.prog 67 _ unpackExt Tryd.func67 (by kernel_rfl) (by kernel_rfl) (by kernel_rfl) (by kernel_rfl)
  have h7 := @run_callFunc_extern Tryd.prog 68 _ (ReflectliteValue.methodAny (ReflectliteValue.valueError "reflectlite.Value.Type" 0) vTypeExt) Tryd.func68 (by kernel_rfl) (by kernel_rfl) (by kernel_rfl) (by kernel_rfl)
  have h8 := @run_callFunc_extern Tryd.prog 69 _ (ReflectliteValue.method (ReflectliteValue.valueError "reflectlite.Value.IsNil" 0) ReflectliteValue.isNil) Tryd.func69 (by kernel_rfl) (by kernel_rfl) (by kernel_rfl) (by kernel_rfl)
  have h27 := @run_callFunc_extern Tryd.prog 115 _ (ReflectliteType.abiMethod kindExt) Tryd.func115 (by kernel_rfl) (by kernel_rfl) (by kernel_rfl) (by kernel_rfl)
  have h37 := @run_callFunc_extern Tryd.prog 126 _ (ReflectliteType.method ReflectliteType.elem) Tryd.func126 (by kernel_rfl) (by kernel_rfl) (by kernel_rfl) (by kernel_rfl)
  have h38 := @run_callFunc_extern Tryd.prog 127 _ (ReflectliteType.relation "Implements" ReflectliteType.implements_) Tryd.func127 (by kernel_rfl) (by kernel_rfl) (by kernel_rfl) (by kernel_rfl)
  have h10 := @run_callFunc_extern Tryd.prog 71 _ ReflectliteType.typeOf Tryd.func71 (by kernel_rfl) (by kernel_rfl) (by kernel_rfl) (by kernel_rfl)
  have h35 := @run_callFunc_extern Tryd.prog 124 _ (ReflectliteType.relation "AssignableTo" ReflectliteType.assignableTo) Tryd.func124 (by kernel_rfl) (by kernel_rfl) (by kernel_rfl) (by kernel_rfl)
  have h11 := @run_callFunc_extern Tryd.prog 79 _ (ReflectliteValue.method (ReflectliteValue.valueError "reflectlite.Value.Elem" 0) ReflectliteValue.elem) Tryd.func79 (by kernel_rfl) (by kernel_rfl) (by kernel_rfl) (by kernel_rfl)
  have h12 := @run_callFunc_extern Tryd.prog 80 _ ReflectliteValue.set Tryd.func80 (by kernel_rfl) (by kernel_rfl) (by kernel_rfl) (by kernel_rfl)
  have tO := as_typeOfF
  have mA := as_methodAssignableTo
  have aE := as_assignF
  have vF := as_valueOfF
  have f6 := as_valueOfT
  have f7 := as_typeT
  have mK := as_methodKind
  have mE := as_methodElem
  have mI := as_methodImplements
  have kT := as_kindT
  have kF := as_kindF
  have eT := as_elemT
  have iF := as_implementsF
  have n8 := as_isNilT ⟨w.heap.size, 0, none⟩ t ((w.alloc (.cells #[.pointer (some t)] 87)).alloc (.cells #[.pointer (some ⟨9, 87, none⟩), .pointer (some ⟨w.heap.size, 0, none⟩), .int .u64 150] 101)) (by simp)
  have hlt : 8 < w.heap.size := World.block_lt_of_cell? w _ hg
  have hg2 : ((w.alloc (.cells #[.pointer (some t)] 87)).alloc (.cells #[.pointer (some ⟨9, 87, none⟩), .pointer (some ⟨w.heap.size, 0, none⟩), .int .u64 150] 101)).cell? ⟨8, 0, none⟩ = some (.iface 120 (.agg #[.pointer (some ⟨9, 27, none⟩)])) := by
    rw [World.cell?_alloc_lt _ _ ⟨8, 0, none⟩ (by simp; omega), World.cell?_alloc_lt _ _ ⟨8, 0, none⟩ hlt]; exact hg
  have htl : t.block < w.heap.size := World.block_lt_of_cell? w _ ht0
  have el := as_elemVT ⟨w.heap.size, 0, none⟩ t (((w.alloc (.cells #[.pointer (some t)] 87)).alloc (.cells #[.pointer (some ⟨9, 87, none⟩), .pointer (some ⟨w.heap.size, 0, none⟩), .int .u64 150] 101)).alloc (.cells #[.pointer (some ⟨9, 87, none⟩), .pointer (some ⟨w.heap.size, 0, none⟩), .int .u64 150] 101)) (by rw [World.cell?_alloc_lt _ _ ⟨w.heap.size, 0, none⟩ (by simp; omega)]; simp)
  have st := as_setF t ⟨w.heap.size + 1 + 1 + 1, 0, none⟩ e old ((((w.alloc (.cells #[.pointer (some t)] 87)).alloc (.cells #[.pointer (some ⟨9, 87, none⟩), .pointer (some ⟨w.heap.size, 0, none⟩), .int .u64 150] 101)).alloc (.cells #[.pointer (some ⟨9, 87, none⟩), .pointer (some ⟨w.heap.size, 0, none⟩), .int .u64 150] 101)).alloc (.cells #[.pointer (some e)] 75))
    (by rw [World.cell?_alloc_at _ _ _ _ (by simp)]; rfl)
    (by rw [World.cell?_alloc_lt _ _ t (by simp; omega), World.cell?_alloc_lt _ _ t (by simp; omega), World.cell?_alloc_lt _ _ t (by simp; omega), World.cell?_alloc_lt _ _ t htl]; exact ht0)
    (by rw [World.frozen?_alloc_old _ _ t (by simp; omega), World.frozen?_alloc_old _ _ t (by simp; omega), World.frozen?_alloc_old _ _ t (by simp; omega), World.frozen?_alloc_old _ _ t (Nat.ne_of_lt htl)]; exact hf0)
  go_enter Tryd.func54, Tryd.ntmps54
  go_wp2
  refine wp_loop_rounds 1 ?_
  rw [rounds_succ]
  go_wp2
  go_ret
  exact ⟨rfl, rfl⟩
end Go.Proofs.YtcnecmcbjpehcaaDoor

/- The walks of plain.Code and coded. Condition: the variables read as laid. -/
namespace Go.Proofs.YtcnecmcbjpehcaaDoor
open Go.RowKit Go.Deep

def codes : List Nat := [1, 2, 3, 4, 5, 6, 7, 8]
theorem mem_codes {c : Nat} (h1 : 1 ≤ c) (h8 : c ≤ 8) : c ∈ codes := by
  unfold codes
  simp
  omega

theorem code_nil (w : World) : Calls Tryd.prog 45 #[.nilIface] w fun e w' => e = .returned (.tuple #[.int .i64 0, .int .i64 (-1)]) ∧ w = w' := by
  go_enter Tryd.func45, Tryd.ntmps45
  go_wp2
  go_ret2
  exact ⟨rfl, rfl⟩

set_option maxHeartbeats 4000000 in
theorem code_sent (w : World) (a : Nat → Addr) (hS : Sent codes w a) (hH : Handle w) (c : Nat) (h1 : 1 ≤ c) (h8 : c ≤ 8) :
    Calls Tryd.prog 45 #[.iface 155 (.pointer (some (a c)))] w fun e w' => e = .returned (.tuple #[.int .i64 c, .int .i64 (-1)]) ∧ Below w.heap.size w w' := by
  have has := as_sent (a c) ⟨w.heap.size, 0, none⟩ (w.alloc (.cells #[.pointer none] 75)) (hH.below (below_alloc' (Below.refl _ _) _))
  have HAS := hide has
  clear has
  have hn := fun X => run_eql_iface_nil_left (P := Tryd.prog) X 155 (.pointer (some (a c))) Tryd.underlying27
  go_enter Tryd.func45, Tryd.ntmps45
  go_wp2_with
    (go_at_call 54
     refine HAS.out.mono ?_
     rintro e w1 ⟨rfl, hb1⟩
     have hS1 := hS.below (below_trans (below_alloc' (Below.refl _ _) (.cells #[.pointer none] 75)) hb1)
     have e1 := hS1.cell 1 (by decide)
     have e2 := hS1.cell 2 (by decide)
     have e3 := hS1.cell 3 (by decide)
     have e4 := hS1.cell 4 (by decide)
     have e5 := hS1.cell 5 (by decide)
     have e6 := hS1.cell 6 (by decide)
     have e7 := hS1.cell 7 (by decide)
     have e8 := hS1.cell 8 (by decide)
     simp only [glob] at e1 e2 e3 e4 e5 e6 e7 e8)
  clear e1 e2 e3 e4 e5 e6 e7 e8
  have hB0 : Below w.heap.size w w1 := below_trans (below_alloc' (Below.refl _ _) (.cells #[.pointer none] 75)) hb1
  clear hb1
  go_loopw [3, 26] (fun at3 i wr => ∃ k : Nat, k < c ∧ i = .int .i64 k ∧ at3 = .int .i64 (-1) ∧ Below (w1.heap.size + 1) (w1.alloc (.cells #[.iface 155 (.pointer (some (a 1))), .iface 155 (.pointer (some (a 2))), .iface 155 (.pointer (some (a 3))), .iface 155 (.pointer (some (a 4))), .iface 155 (.pointer (some (a 5))), .iface 155 (.pointer (some (a 6))), .iface 155 (.pointer (some (a 7))), .iface 155 (.pointer (some (a 8)))] 27)) wr) (fun _ i _ => 8 - (intOf i).toNat)
  case atStart => exact ⟨0, by omega, rfl, rfl, Below.refl _ _⟩
  case round =>
    obtain ⟨k, hk, rfl, rfl, hB⟩ := hrel
    have hcell : wr.cell? ⟨w1.heap.size, k, none⟩ = some (.iface 155 (.pointer (some (a (k + 1))))) := by
      rw [hB.cell (p := ⟨w1.heap.size, k, none⟩) (by show w1.heap.size < _; omega), World.cell?_alloc_at _ _ _ _ rfl]
      have hk8 : k < 8 := by omega
      clear hk hB
      match k, hk8 with
      | 0, _ => rfl
      | 1, _ => rfl
      | 2, _ => rfl
      | 3, _ => rfl
      | 4, _ => rfl
      | 5, _ => rfl
      | 6, _ => rfl
      | 7, _ => rfl
    have hSr : Sent codes wr a := hS.below (below_trans (below_alloc' hB0 _) (hB.mono (by simp)))
    have his := is_sent wr a hSr c (k + 1) (mem_codes h1 h8) (mem_codes (by omega) (by omega))
    by_cases e : c = k + 1
    · rw [decide_eq_true e] at his
      have HIS := hide his
      clear his
      have HE := hide e
      clear e
      go_wp2_with (go_at_call 55; refine HIS.out.mono ?_; rintro e w2 ⟨rfl, rfl⟩)
      go_ret2
      refine ⟨?_, ?_⟩
      · have := HE.out
        subst this
        rfl
      · exact (below_alloc' hB0 _).trans (hB.mono (by have := hB0.size; omega))
    · rw [decide_eq_false e] at his
      have HIS := hide his
      clear his
      have hk2 : k + 1 < c := by omega
      clear e
      go_wp2_with (go_at_call 55; refine HIS.out.mono ?_; rintro e w2 ⟨rfl, rfl⟩)
      go_roundw
      case rel => exact ⟨k + 1, hk2, by go_num, rfl, hB⟩
      case measure => simp [intOf]; omega

set_option maxHeartbeats 4000000 in
theorem code_fault (w : World) (a : Nat → Addr) (hS : Sent codes w a) (hH : Handle w) (c : Nat) (h1 : 1 ≤ c) (h8 : c ≤ 8) (pb po : Nat) (at_ : Int) (hpb : pb < w.heap.size) (hat : w.cell? ⟨pb, po, none⟩ = some (.int .i64 at_)) (herr : w.cell? ⟨pb, po + 1, none⟩ = some (.iface 155 (.pointer (some (a c))))) :
    Calls Tryd.prog 45 #[.iface 75 (.pointer (some ⟨pb, po, none⟩))] w fun e w' => e = .returned (.tuple #[.int .i64 c, .int .i64 at_]) ∧ Below w.heap.size w w' := by
  have has := as_fault ⟨pb, po, none⟩ ⟨w.heap.size, 0, none⟩ (.pointer none) (w.alloc (.cells #[.pointer none] 75)) (hH.below (below_alloc' (Below.refl _ _) _)) (by simp) (by simp)
  have HAS := hide has
  clear has
  have hn := fun X => run_eql_iface_nil_left (P := Tryd.prog) X 75 (.pointer (some ⟨pb, po, none⟩)) Tryd.underlying27
  go_enter Tryd.func45, Tryd.ntmps45
  go_wp2_with
    (go_at_call 54
     refine HAS.out.mono ?_
     rintro e w1 ⟨rfl, hw1⟩
     have hB0 : Below w.heap.size w w1 := by
       rw [hw1]
       refine Below.setCell ?_ (by simp) _
       exact below_alloc' (below_alloc' (below_alloc' (below_alloc' (below_alloc' (Below.refl _ _) _) _) _) _) _
     have hf1 : w1.cell? ⟨w.heap.size, 0, none⟩ = some (.pointer (some ⟨pb, po, none⟩)) := by
       rw [hw1, World.cell?_setCell_same (u := .pointer none)]
       rw [World.cell?_alloc_lt _ _ ⟨w.heap.size, 0, none⟩ (by simp; omega), World.cell?_alloc_lt _ _ ⟨w.heap.size, 0, none⟩ (by simp; omega), World.cell?_alloc_lt _ _ ⟨w.heap.size, 0, none⟩ (by simp; omega), World.cell?_alloc_lt _ _ ⟨w.heap.size, 0, none⟩ (by simp)]
       simp
     clear hw1
     have hat1 : w1.cell? ⟨pb, po, none⟩ = some (.int .i64 at_) := (hB0.cell (p := ⟨pb, po, none⟩) hpb).trans hat
     have hS1 := hS.below hB0
     have e1 := hS1.cell 1 (by decide)
     have e2 := hS1.cell 2 (by decide)
     have e3 := hS1.cell 3 (by decide)
     have e4 := hS1.cell 4 (by decide)
     have e5 := hS1.cell 5 (by decide)
     have e6 := hS1.cell 6 (by decide)
     have e7 := hS1.cell 7 (by decide)
     have e8 := hS1.cell 8 (by decide)
     simp only [glob] at e1 e2 e3 e4 e5 e6 e7 e8)
  clear e1 e2 e3 e4 e5 e6 e7 e8
  go_loopw [3, 26] (fun at3 i wr => ∃ k : Nat, k < c ∧ i = .int .i64 k ∧ at3 = .int .i64 at_ ∧ Below (w1.heap.size + 1) (w1.alloc (.cells #[.iface 155 (.pointer (some (a 1))), .iface 155 (.pointer (some (a 2))), .iface 155 (.pointer (some (a 3))), .iface 155 (.pointer (some (a 4))), .iface 155 (.pointer (some (a 5))), .iface 155 (.pointer (some (a 6))), .iface 155 (.pointer (some (a 7))), .iface 155 (.pointer (some (a 8)))] 27)) wr) (fun _ i _ => 8 - (intOf i).toNat)
  case atStart => exact ⟨0, by omega, rfl, rfl, Below.refl _ _⟩
  case round =>
    obtain ⟨k, hk, rfl, rfl, hB⟩ := hrel
    have hcell : wr.cell? ⟨w1.heap.size, k, none⟩ = some (.iface 155 (.pointer (some (a (k + 1))))) := by
      rw [hB.cell (p := ⟨w1.heap.size, k, none⟩) (by show w1.heap.size < _; omega), World.cell?_alloc_at _ _ _ _ rfl]
      have hk8 : k < 8 := by omega
      clear hk hB
      match k, hk8 with
      | 0, _ => rfl
      | 1, _ => rfl
      | 2, _ => rfl
      | 3, _ => rfl
      | 4, _ => rfl
      | 5, _ => rfl
      | 6, _ => rfl
      | 7, _ => rfl
    have hSr : Sent codes wr a := hS.below (below_trans (below_alloc' hB0 _) (hB.mono (by simp)))
    have herr1 : wr.cell? ⟨pb, po + 1, none⟩ = some (.iface 155 (.pointer (some (a c)))) := ((below_trans (below_alloc' hB0 _) (hB.mono (by simp))).cell (p := ⟨pb, po + 1, none⟩) hpb).trans herr
    have his := is_fault wr a hSr pb po c (k + 1) (mem_codes h1 h8) (mem_codes (by omega) (by omega)) herr1
    clear herr1
    by_cases e : c = k + 1
    · rw [decide_eq_true e] at his
      have HIS := hide his
      clear his
      have HE := hide e
      clear e
      go_wp2_with (go_at_call 55; refine HIS.out.mono ?_; rintro e w2 ⟨rfl, rfl⟩)
      go_ret2
      refine ⟨?_, ?_⟩
      · have := HE.out
        subst this
        rfl
      · exact (below_alloc' hB0 _).trans (hB.mono (by have := hB0.size; omega))
    · rw [decide_eq_false e] at his
      have HIS := hide his
      clear his
      have hk2 : k + 1 < c := by omega
      clear e
      go_wp2_with (go_at_call 55; refine HIS.out.mono ?_; rintro e w2 ⟨rfl, rfl⟩)
      go_roundw
      case rel => exact ⟨k + 1, hk2, by go_num, rfl, hB⟩
      case measure => simp [intOf]; omega

set_option maxHeartbeats 1000000 in
/-- coded: is the error's code this one? -/
theorem coded_any (w : World) (a : Nat → Addr) (hS : Sent codes w a) (hH : Handle w) (c : Nat) (hc : c ≤ 8) (x : Int) :
    Calls Tryd.prog 19 #[errC a c, .int .i64 x] w fun e w' => e = .returned (.bool (decide ((c : Int) = x))) ∧ Below w.heap.size w w' := by
  by_cases h0 : c = 0
  · subst h0
    have e0 : errC a ((0 : Nat) : Int) = .nilIface := rfl
    rw [e0]
    by_cases hx : x = 0
    · subst hx
      go_enter Tryd.func19, Tryd.ntmps19
      go_wp2_with (go_at_call 45; refine (code_nil _).mono ?_; rintro e w' ⟨rfl, rfl⟩)
      go_ret
      exact ⟨rfl, Below.refl _ _⟩
    · have h1 : (0 == x) = false := by simpa using fun h : 0 = x => hx h.symm
      have h2 : decide (((0 : Nat) : Int) = x) = false := decide_eq_false (fun h => hx h.symm)
      rw [h2]
      clear hx h2
      go_enter Tryd.func19, Tryd.ntmps19
      go_wp2_with (go_at_call 45; refine (code_nil _).mono ?_; rintro e w' ⟨rfl, rfl⟩)
      go_ret
      exact ⟨rfl, Below.refl _ _⟩
  · have e0 : errC a (c : Int) = .iface 155 (.pointer (some (a c))) := by unfold errC; rw [if_neg (by omega)]; rfl
    rw [e0]
    have hcode := code_sent w a hS hH c (by omega) hc
    have HC := hide hcode
    clear hcode e0 h0
    generalize a c = a0 at HC ⊢
    have hcc : ∃ y : Int, y = (c : Int) := ⟨_, rfl⟩
    obtain ⟨y, hy⟩ := hcc
    rw [← hy] at HC ⊢
    clear hy hc
    by_cases hx : y = x
    · subst hx
      rw [decide_eq_true rfl]
      go_enter Tryd.func19, Tryd.ntmps19
      go_wp2_with (go_at_call 45; refine HC.out.mono ?_; rintro e w' ⟨rfl, hb⟩)
      go_ret
      exact ⟨rfl, hb⟩
    · have h1 : (y == x) = false := by simpa using hx
      rw [decide_eq_false hx]
      clear hx
      go_enter Tryd.func19, Tryd.ntmps19
      go_wp2_with (go_at_call 45; refine HC.out.mono ?_; rintro e w' ⟨rfl, hb⟩)
      go_ret
      exact ⟨rfl, hb⟩
end Go.Proofs.YtcnecmcbjpehcaaDoor

/- The walk of demonref1.SameInts. No condition. -/
namespace Go.Proofs.YtcnecmcbjpehcaaDoor
open Go.RowKit Go.Deep

/-- two lists are alike ahead of place k -/
structure AlikeTo (l m : List Int) (k : Nat) : Prop where
  out : ∀ j, j < k → l.getD j 0 = m.getD j 0
theorem AlikeTo.zero (l m : List Int) : AlikeTo l m 0 := ⟨fun j h => absurd h (by omega)⟩
theorem AlikeTo.succ {l m : List Int} {k : Nat} (h : AlikeTo l m k) (hk : l.getD k 0 = m.getD k 0) : AlikeTo l m (k + 1) :=
  ⟨fun j hj => by
    by_cases e : j = k
    · rw [e]; exact hk
    · exact h.out j (by omega)⟩
theorem AlikeTo.eq {l m : List Int} (h : AlikeTo l m l.length) (hl : l.length = m.length) : l = m := by
  apply List.ext_getElem hl
  intro i h1 h2
  have := h.out i h1
  simpa [List.getD_eq_getElem?_getD, h1, h2] using this

set_option maxHeartbeats 1000000 in
theorem same_any (A B : Option Addr) (l m : List Int) (c d : Nat) (w : World) (hA : Ints w A l) (hB : Ints w B m) :
    Calls Tryd.prog 25 #[.slice A l.length c, .slice B m.length d] w fun e w' => e = .returned (.bool (decide (l = m))) ∧ Below w.heap.size w w' := by
  have hl := hA.len
  have hm := hB.len
  by_cases he : l.length = m.length
  · have HE := hide he
    have h1 : ((l.length : Int) != (m.length : Int)) = false := by rw [he]; simp
    have h2 : (l.length != m.length) = false := by rw [he]; simp
    clear he
    go_enter Tryd.func25, Tryd.ntmps25
    go_wp2
    go_loopw [5] (fun i wr => ∃ k : Nat, k ≤ l.length ∧ i = .int .i64 k ∧ AlikeTo l m k ∧ Below w.heap.size w wr) (fun i _ => l.length - (intOf i).toNat)
    case atStart => exact ⟨0, Nat.zero_le _, rfl, AlikeTo.zero _ _, Below.refl _ _⟩
    case round =>
      obtain ⟨k, hk, rfl, ha, hb⟩ := hrel
      by_cases hlt : k < l.length
      · have hlt2 : k < m.length := by rw [← HE.out]; exact hlt
        obtain ⟨b, o, rfl, hbl, c1⟩ := (hA.below hb).at_ k hlt
        obtain ⟨b', o', rfl, hbl', c2⟩ := (hB.below hb).at_ k hlt2
        by_cases hx : l.getD k 0 = m.getD k 0
        · have ha' := ha.succ hx
          have hx' : ((l.getD k 0) != (m.getD k 0)) = false := by rw [hx]; simp
          generalize l.getD k 0 = x at c1 hx'
          generalize m.getD k 0 = y at c2 hx'
          clear hx
          go_wp2
          go_quiet (fail)
          go_wp2
          go_roundw
          case rel => exact ⟨k + 1, by omega, by go_num, ha', below_drewN' hb _⟩
          case measure => simp [intOf]; omega
        · have hne : l ≠ m := fun e => hx (by rw [e])
          have hx' : ((l.getD k 0) != (m.getD k 0)) = true := by simpa using hx
          generalize l.getD k 0 = x at c1 hx'
          generalize m.getD k 0 = y at c2 hx'
          clear hx
          go_wp2
          go_quiet (fail)
          go_wp2
          go_ret
          exact ⟨ret_bool (decide_eq_false hne).symm, below_drewN' hb _⟩
      · obtain rfl : k = l.length := by omega
        have heq := ha.eq HE.out
        have HQ := hide (decide_eq_true heq)
        clear heq
        go_wp2
        go_ret
        exact ⟨ret_bool HQ.out.symm, hb⟩
  · have h1 : ((l.length : Int) != (m.length : Int)) = true := by rw [bne_iff_ne]; omega
    have h2 : (l.length != m.length) = true := by rw [bne_iff_ne]; exact he
    have hne : l ≠ m := fun e => he (by rw [e])
    have HQ := hide (decide_eq_false hne)
    clear he hne
    go_enter Tryd.func25, Tryd.ntmps25
    go_wp2
    go_ret
    exact ⟨ret_bool HQ.out.symm, Below.refl _ _⟩
end Go.Proofs.YtcnecmcbjpehcaaDoor

/- The walks of order.lists, Above, the closed fact unlike, and of the law OrderAbove. Condition: the variables read as laid. -/
namespace Go.Proofs.YtcnecmcbjpehcaaDoor
open Go.RowKit Go.Deep Go.Proofs.YtcnecmcbjpehcaaDoorW.PrintWords

set_option maxHeartbeats 2000000 in
theorem lists_any (A B : Option Addr) (p q : List Int) (c d : Nat) (w : World) (a : Nat → Addr) (hE : Env [2, 3] w a) (hA : Ints w A p) (hB : Ints w B q) (hc : p.length ≤ c) (hd : q.length ≤ d) :
    Calls Tryd.prog 43 #[.slice A p.length c, .slice B q.length d] w fun e w' => e = .returned (errC a (lErr p q)) ∧ Below w.heap.size w w' := by
  have HN1 := hide (fun w' (hb : Below w.heap.size w w') => numbers_any A p c w' (hA.below hb))
  have HN2 := hide (fun w' (hb : Below w.heap.size w w') => numbers_any B q d w' (hB.below hb))
  have HEN := hide (fun w' (hb : Below w.heap.size w w') => (⟨(hE.below hb).cell 2 (by decide), (hE.below hb).cell 3 (by decide)⟩ : w'.cell? ⟨glob 2, 0, none⟩ = _ ∧ w'.cell? ⟨glob 3, 0, none⟩ = _))
  simp only [glob] at HEN
  obtain ⟨y2, y3⟩ := HEN.out w (Below.refl _ _)
  have hlen := hA.len
  have hlenb := hB.len
  obtain ⟨r, hr⟩ : ∃ r, lErr p q = r := ⟨_, rfl⟩
  rw [hr]
  unfold lErr at hr
  by_cases c1 : 16 < (p.length : Int)
  · rw [if_pos (.inl (by omega))] at hr
    subst hr
    go_enter Tryd.func43, Tryd.ntmps43
    go_wp2_with (first
      | (go_at_call 46; refine Calls.mono (HN1.out _ (Below.refl _ _)) ?_; rintro e w1 ⟨rfl, hB1⟩; obtain ⟨k12, k13⟩ := HEN.out w1 hB1; clear HN1)
      | (go_at_call 46; refine Calls.mono (HN2.out w1 hB1) ?_; rintro e w2 ⟨rfl, b2⟩; have hB2 := below_trans hB1 b2; obtain ⟨k22, k23⟩ := HEN.out w2 hB2)
      | (go_at_call 41; refine Calls.mono (HT1.out w2 hB2) ?_; rintro e w3 ⟨rfl, b3⟩; have hB3 := below_trans hB2 b3; clear HT1)
      | (go_at_call 41; refine Calls.mono (HT2.out w3 hB3) ?_; rintro e w4 ⟨rfl, b4⟩; have hB4 := below_trans hB3 b4; obtain ⟨k42, k43⟩ := HEN.out w4 hB4))
    go_ret
    exact ⟨rfl, Below.refl _ _⟩
  by_cases c2 : 16 < (q.length : Int)
  · rw [if_pos (.inr (by omega))] at hr
    subst hr
    go_enter Tryd.func43, Tryd.ntmps43
    go_wp2_with (first
      | (go_at_call 46; refine Calls.mono (HN1.out _ (Below.refl _ _)) ?_; rintro e w1 ⟨rfl, hB1⟩; obtain ⟨k12, k13⟩ := HEN.out w1 hB1; clear HN1)
      | (go_at_call 46; refine Calls.mono (HN2.out w1 hB1) ?_; rintro e w2 ⟨rfl, b2⟩; have hB2 := below_trans hB1 b2; obtain ⟨k22, k23⟩ := HEN.out w2 hB2)
      | (go_at_call 41; refine Calls.mono (HT1.out w2 hB2) ?_; rintro e w3 ⟨rfl, b3⟩; have hB3 := below_trans hB2 b3; clear HT1)
      | (go_at_call 41; refine Calls.mono (HT2.out w3 hB3) ?_; rintro e w4 ⟨rfl, b4⟩; have hB4 := below_trans hB3 b4; obtain ⟨k42, k43⟩ := HEN.out w4 hB4))
    go_ret
    exact ⟨rfl, Below.refl _ _⟩
  rw [if_neg (by omega)] at hr
  by_cases c3 : p.length = 0
  · have b3 : ((p.length : Int) == 0) = true := by rw [beq_iff_eq]; omega
    rw [if_neg (fun g => g.2.2.1 c3)] at hr
    subst hr
    have C3 := hide c3
    clear c3
    go_enter Tryd.func43, Tryd.ntmps43
    go_wp2_with (first
      | (go_at_call 46; refine Calls.mono (HN1.out _ (Below.refl _ _)) ?_; rintro e w1 ⟨rfl, hB1⟩; obtain ⟨k12, k13⟩ := HEN.out w1 hB1; clear HN1)
      | (go_at_call 46; refine Calls.mono (HN2.out w1 hB1) ?_; rintro e w2 ⟨rfl, b2⟩; have hB2 := below_trans hB1 b2; obtain ⟨k22, k23⟩ := HEN.out w2 hB2)
      | (go_at_call 41; refine Calls.mono (HT1.out w2 hB2) ?_; rintro e w3 ⟨rfl, b3⟩; have hB3 := below_trans hB2 b3; clear HT1)
      | (go_at_call 41; refine Calls.mono (HT2.out w3 hB3) ?_; rintro e w4 ⟨rfl, b4⟩; have hB4 := below_trans hB3 b4; obtain ⟨k42, k43⟩ := HEN.out w4 hB4))
    go_ret
    exact ⟨rfl, Below.refl _ _⟩
  have b3 : ((p.length : Int) == 0) = false := by rw [beq_eq_false_iff_ne]; omega
  by_cases c4 : (p.length : Int) = q.length
  · have b4 : ((p.length : Int) != (q.length : Int)) = false := by rw [c4]; simp
    cases n1 : numb p
    · rw [n1] at HN1
      rw [if_neg (fun g => by rw [n1] at g; exact absurd g.1 (by decide))] at hr
      subst hr
      have C4 := hide c4
      clear c4 n1
      go_enter Tryd.func43, Tryd.ntmps43
      go_wp2_with (first
        | (go_at_call 46; refine Calls.mono (HN1.out _ (Below.refl _ _)) ?_; rintro e w1 ⟨rfl, hB1⟩; obtain ⟨k12, k13⟩ := HEN.out w1 hB1; clear HN1)
        | (go_at_call 46; refine Calls.mono (HN2.out w1 hB1) ?_; rintro e w2 ⟨rfl, b2⟩; have hB2 := below_trans hB1 b2; obtain ⟨k22, k23⟩ := HEN.out w2 hB2)
        | (go_at_call 41; refine Calls.mono (HT1.out w2 hB2) ?_; rintro e w3 ⟨rfl, b3⟩; have hB3 := below_trans hB2 b3; clear HT1)
        | (go_at_call 41; refine Calls.mono (HT2.out w3 hB3) ?_; rintro e w4 ⟨rfl, b4⟩; have hB4 := below_trans hB3 b4; obtain ⟨k42, k43⟩ := HEN.out w4 hB4))
      go_ret
      exact ⟨rfl, hB1⟩
    · cases n2 : numb q
      · rw [n1] at HN1
        rw [n2] at HN2
        rw [if_neg (fun g => by rw [n2] at g; exact absurd g.2.1 (by decide))] at hr
        subst hr
        have C4 := hide c4
        clear c4 n1 n2
        go_enter Tryd.func43, Tryd.ntmps43
        go_wp2_with (first
          | (go_at_call 46; refine Calls.mono (HN1.out _ (Below.refl _ _)) ?_; rintro e w1 ⟨rfl, hB1⟩; obtain ⟨k12, k13⟩ := HEN.out w1 hB1; clear HN1)
          | (go_at_call 46; refine Calls.mono (HN2.out w1 hB1) ?_; rintro e w2 ⟨rfl, b2⟩; have hB2 := below_trans hB1 b2; obtain ⟨k22, k23⟩ := HEN.out w2 hB2)
          | (go_at_call 41; refine Calls.mono (HT1.out w2 hB2) ?_; rintro e w3 ⟨rfl, b3⟩; have hB3 := below_trans hB2 b3; clear HT1)
          | (go_at_call 41; refine Calls.mono (HT2.out w3 hB3) ?_; rintro e w4 ⟨rfl, b4⟩; have hB4 := below_trans hB3 b4; obtain ⟨k42, k43⟩ := HEN.out w4 hB4))
        go_ret
        exact ⟨rfl, hB2⟩
      · have HT1 := hide (fun w' (hb : Below w.heap.size w w') => total_ok A p c w' (hA.below hb) hc (numb_small n1 (by omega)))
        have HT2 := hide (fun w' (hb : Below w.heap.size w w') => total_ok B q d w' (hB.below hb) hd (numb_small n2 (by omega)))
        rw [n1] at HN1
        rw [n2] at HN2
        by_cases c5 : p.sum = q.sum
        · have b5 : (p.sum != q.sum) = false := by rw [c5]; simp
          rw [if_pos ⟨n1, n2, c3, by omega, c5⟩] at hr
          subst hr
          have C4 := hide c4
          have C5 := hide c5
          clear c4 c5 n1 n2 c3
          go_enter Tryd.func43, Tryd.ntmps43
          go_wp2_with (first
            | (go_at_call 46; refine Calls.mono (HN1.out _ (Below.refl _ _)) ?_; rintro e w1 ⟨rfl, hB1⟩; obtain ⟨k12, k13⟩ := HEN.out w1 hB1; clear HN1)
            | (go_at_call 46; refine Calls.mono (HN2.out w1 hB1) ?_; rintro e w2 ⟨rfl, b2⟩; have hB2 := below_trans hB1 b2; obtain ⟨k22, k23⟩ := HEN.out w2 hB2)
            | (go_at_call 41; refine Calls.mono (HT1.out w2 hB2) ?_; rintro e w3 ⟨rfl, b3⟩; have hB3 := below_trans hB2 b3; clear HT1)
            | (go_at_call 41; refine Calls.mono (HT2.out w3 hB3) ?_; rintro e w4 ⟨rfl, b4⟩; have hB4 := below_trans hB3 b4; obtain ⟨k42, k43⟩ := HEN.out w4 hB4))
          go_ret
          exact ⟨rfl, hB4⟩
        · have b5 : (p.sum != q.sum) = true := by rw [bne_iff_ne]; exact c5
          rw [if_neg (fun g => c5 g.2.2.2.2)] at hr
          subst hr
          have C4 := hide c4
          clear c4 c5 n1 n2 c3
          go_enter Tryd.func43, Tryd.ntmps43
          go_wp2_with (first
            | (go_at_call 46; refine Calls.mono (HN1.out _ (Below.refl _ _)) ?_; rintro e w1 ⟨rfl, hB1⟩; obtain ⟨k12, k13⟩ := HEN.out w1 hB1; clear HN1)
            | (go_at_call 46; refine Calls.mono (HN2.out w1 hB1) ?_; rintro e w2 ⟨rfl, b2⟩; have hB2 := below_trans hB1 b2; obtain ⟨k22, k23⟩ := HEN.out w2 hB2)
            | (go_at_call 41; refine Calls.mono (HT1.out w2 hB2) ?_; rintro e w3 ⟨rfl, b3⟩; have hB3 := below_trans hB2 b3; clear HT1)
            | (go_at_call 41; refine Calls.mono (HT2.out w3 hB3) ?_; rintro e w4 ⟨rfl, b4⟩; have hB4 := below_trans hB3 b4; obtain ⟨k42, k43⟩ := HEN.out w4 hB4))
          go_ret
          exact ⟨rfl, hB4⟩
  · have b4 : ((p.length : Int) != (q.length : Int)) = true := by rw [bne_iff_ne]; exact c4
    rw [if_neg (fun g => c4 (by have := g.2.2.2.1; omega))] at hr
    subst hr
    go_enter Tryd.func43, Tryd.ntmps43
    go_wp2_with (first
      | (go_at_call 46; refine Calls.mono (HN1.out _ (Below.refl _ _)) ?_; rintro e w1 ⟨rfl, hB1⟩; obtain ⟨k12, k13⟩ := HEN.out w1 hB1; clear HN1)
      | (go_at_call 46; refine Calls.mono (HN2.out w1 hB1) ?_; rintro e w2 ⟨rfl, b2⟩; have hB2 := below_trans hB1 b2; obtain ⟨k22, k23⟩ := HEN.out w2 hB2)
      | (go_at_call 41; refine Calls.mono (HT1.out w2 hB2) ?_; rintro e w3 ⟨rfl, b3⟩; have hB3 := below_trans hB2 b3; clear HT1)
      | (go_at_call 41; refine Calls.mono (HT2.out w3 hB3) ?_; rintro e w4 ⟨rfl, b4⟩; have hB4 := below_trans hB3 b4; obtain ⟨k42, k43⟩ := HEN.out w4 hB4))
    go_ret
    exact ⟨rfl, Below.refl _ _⟩
theorem lErr_zero {p q : List Int} (h : lErr p q = 0) : (p.length ≤ 16 ∧ q.length ≤ 16) ∧ numb p = true ∧ numb q = true ∧ 0 < p.length ∧ p.length = q.length ∧ p.sum = q.sum := by
  unfold lErr at h
  by_cases c1 : 16 < p.length ∨ 16 < q.length
  · rw [if_pos c1] at h; cases h
  · rw [if_neg c1] at h
    rcases Classical.em (numb p = true ∧ numb q = true ∧ p.length ≠ 0 ∧ p.length = q.length ∧ p.sum = q.sum) with g | g
    · exact ⟨by omega, g.1, g.2.1, by have := g.2.2.1; omega, g.2.2.2.1, g.2.2.2.2⟩
    · rw [if_neg g] at h; cases h
theorem lErr_nat (p q : List Int) : ∃ c : Nat, lErr p q = (c : Int) ∧ c ≤ 8 := by
  unfold lErr
  split
  · exact ⟨2, rfl, by decide⟩
  · split
    · exact ⟨0, rfl, by decide⟩
    · exact ⟨3, rfl, by decide⟩
theorem errC_pos' (a : Nat → Addr) {c : Int} (h : c ≠ 0) : errC a c = .iface 155 (.pointer (some (a c.toNat))) := by unfold errC; rw [if_neg h]; rfl
/-- order.Above at right lists -/
theorem aboveP_ok (A B : Option Addr) (p q : List Int) (c d : Nat) (w : World) (a : Nat → Addr) (hE : Env [2, 3] w a) (hA : Ints w A p) (hB : Ints w B q) (hc : p.length ≤ c) (hd : q.length ≤ d) (h0 : lErr p q = 0) :
    Calls Tryd.prog 17 #[.slice A p.length c, .slice B q.length d] w fun e w' => e = .returned (.tuple #[.bool (aboveB p q), .nilIface]) ∧ Below w.heap.size w w' := by
  obtain ⟨h1, n1, n2, h2, h3, _⟩ := lErr_zero h0
  have hl := lists_any A B p q c d w a hE hA hB hc hd
  rw [h0, errC_zero] at hl
  have HL := hide hl
  have HAB := hide (fun w' (hb : Below w.heap.size w w') => above_ok A B p q c d w' (hA.below hb) (hB.below hb) (numb_small n1 (by omega)) (numb_small n2 (by omega)) h2 h3)
  clear hl h0 h1 n1 n2 h2 h3
  generalize aboveB p q = r at HAB ⊢
  go_enter Tryd.func17, Tryd.ntmps17
  go_wp2_with (first
    | (go_at_call 43; refine Calls.mono HL.out ?_; rintro e w1 ⟨rfl, b1⟩)
    | (go_at_call 44; refine Calls.mono (HAB.out w1 b1) ?_; rintro e w2 ⟨rfl, b2⟩; have hB2 := below_trans b1 b2))
  go_ret2
  exact ⟨rfl, hB2⟩
theorem aboveP_err (A B : Option Addr) (p q : List Int) (c d : Nat) (w : World) (a : Nat → Addr) (hE : Env [2, 3] w a) (hA : Ints w A p) (hB : Ints w B q) (hc : p.length ≤ c) (hd : q.length ≤ d) (h0 : lErr p q ≠ 0) :
    Calls Tryd.prog 17 #[.slice A p.length c, .slice B q.length d] w fun e w' => e = .returned (.tuple #[.bool false, errC a (lErr p q)]) ∧ Below w.heap.size w w' := by
  have hl := lists_any A B p q c d w a hE hA hB hc hd
  rw [errC_pos' a h0] at hl ⊢
  generalize a (lErr p q).toNat = x at hl ⊢
  have HL := hide hl
  clear hl h0
  go_enter Tryd.func17, Tryd.ntmps17
  go_wp2_with (go_at_call 43; refine Calls.mono HL.out ?_; rintro e w1 ⟨rfl, b1⟩)
  go_ret2
  exact ⟨rfl, b1⟩
theorem Ints.lit (w : World) (l : List Int) (t : TypeId) (hl : l.length ≤ 9223372036854775807) : Ints (w.alloc (.cells (intCells l).toArray t)) (some ⟨w.heap.size, 0, none⟩) l :=
  ⟨hl, fun i hi => ⟨w.heap.size, 0, rfl, by simp, by
    have := intCells_at l i hi
    simpa using this⟩⟩
theorem unlike_fact : lErr [0, 4] [2, 2] = 0 := by decide +kernel
theorem sorted_two {x y : Int} (h : x ≤ y) (l : List Int) (hl : l = [x, y]) : falls l = [y, x] := by
  subst hl
  exact (falls_unique (l := [x, y]) (m := [y, x]) (List.Perm.swap _ _ _) (by simp [h])).symm
theorem unlike_above : aboveB [0, 4] [2, 2] = true := by
  unfold aboveB
  rw [sorted_two (by decide : (0 : Int) ≤ 4) _ rfl, sorted_two (by decide : (2 : Int) ≤ 2) _ rfl]
  decide +kernel
theorem unlike_any (w : World) (a : Nat → Addr) (hE : Env [2, 3] w a) :
    Calls Tryd.prog 10 #[] w fun e w' => e = .returned (.bool true) ∧ Below w.heap.size w w' := by
  have h1 := Ints.lit w [0, 4] 3 (by decide)
  have h2 := Ints.lit (w.alloc (.cells #[.int .i64 0, .int .i64 4] 3)) [2, 2] 3 (by decide)
  have hB : Below w.heap.size w ((w.alloc (.cells #[.int .i64 0, .int .i64 4] 3)).alloc (.cells #[.int .i64 2, .int .i64 2] 3)) := below_alloc' (below_alloc' (Below.refl _ _) _) _
  have hp := aboveP_ok (some ⟨w.heap.size, 0, none⟩) (some ⟨w.heap.size + 1, 0, none⟩) [0, 4] [2, 2] 2 2 ((w.alloc (.cells #[.int .i64 0, .int .i64 4] 3)).alloc (.cells #[.int .i64 2, .int .i64 2] 3)) a (hE.below hB) (h1.below (below_alloc' (Below.refl _ _) _)) (by simpa [intCells] using h2) (by decide) (by decide) unlike_fact
  rw [unlike_above] at hp
  have HP := hide hp
  have HB := hide hB
  clear hp hB h1 h2
  go_enter Tryd.func10, Tryd.ntmps10
  go_wp2_with (go_at_call 17; refine Calls.mono HP.out ?_; rintro e w4 ⟨rfl, hb4⟩)
  go_ret
  exact ⟨rfl, below_trans HB.out hb4⟩
theorem ints_ok (A : Option Addr) (l : List Int) (c : Nat) (w : World) (hA : Ints w A l) (hc : l.length ≤ c) (hl : l.length ≤ 2000000) :
    Calls Tryd.prog 18 #[.slice A l.length c] w fun e w' => RetInts l w e w' := by
  refine (POrderAbove.demonlaw4_ints.calls A c l l w hA.toC hc (by unfold POrderAbove.demonlaw4_ints.f; simp; omega)).mono ?_
  rintro e w' ⟨v, rfl, hR, hb⟩
  obtain ⟨B, d, rfl, hI, hd⟩ := Ints.ofR hR
  exact ⟨B, d, rfl, hI, hd, hb⟩
theorem listsError_ok (A B : Option Addr) (p q : List Int) (c d : Nat) (w : World) (hA : Ints w A p) (hB : Ints w B q) (hc : p.length ≤ c) (hd : q.length ≤ d) (hp : p.length ≤ 2000000) (hq : q.length ≤ 2000000) :
    Calls Tryd.prog 16 #[.slice A p.length c, .slice B q.length d] w fun e w' => e = .returned (.int .i64 (lErr p q)) ∧ Below w.heap.size w w' := by
  obtain ⟨k, hk⟩ := (listsError_f p q hp hq).rounds
  refine (POrderAbove.demonref4_ListsError.calls k A c p B d q (lErr p q) w hA.toC hc hB.toC hd hk).mono ?_
  rintro e w' ⟨rfl, h⟩
  exact ⟨rfl, drawn_below h⟩
theorem isAbove_ok (A B : Option Addr) (p q : List Int) (c d : Nat) (w : World) (hA : Ints w A p) (hB : Ints w B q) (hc : p.length ≤ c) (hd : q.length ≤ d) (h0 : lErr p q = 0) :
    Calls Tryd.prog 20 #[.slice A p.length c, .slice B q.length d] w fun e w' => e = .returned (.bool (aboveB p q)) ∧ Below w.heap.size w w' := by
  obtain ⟨h1, n1, n2, h2, h3, _⟩ := lErr_zero h0
  obtain ⟨k, hk⟩ := (isAbove_f (numb_small n1 (by omega)) (numb_small n2 (by omega)) h3).rounds
  exact POrderAbove.demonref4_IsAbove.calls k A c p B d q (aboveB p q) w hA.toC hc hB.toC hd hk
theorem sub23 {c : Nat} (h : c ∈ [2, 3]) : c ∈ codes := by
  simp at h
  rcases h with rfl | rfl <;> simp [codes]

set_option maxRecDepth 100000 in
set_option maxHeartbeats 8000000 in
theorem law_above (A B : Option Addr) (p q : List Int) (c d : Nat) (w : World) (a : Nat → Addr) (hS : Sent codes w a) (hH : Handle w) (hA : Ints w A p) (hB : Ints w B q) (hc : p.length ≤ c) (hd : q.length ≤ d) :
    Calls Tryd.prog 4 #[.slice A p.length c, .slice B q.length d] w fun e w' => e = .returned (.bool true) ∧ Below w.heap.size w w' := by
  have hlen := hA.len
  have hlenb := hB.len
  have HE : Hid (∀ w', Below w.heap.size w w' → Env [2, 3] w' a) := hide fun w' hb => (hS.toEnv.sub (fun c h => sub23 h)).below hb
  have HUN := hide (fun w' (hb : Below w.heap.size w w') => unlike_any w' a (HE.out w' hb))
  by_cases hl1 : 200 < (p.length : Int)
  · go_enter Tryd.func4, Tryd.ntmps4
    go_wp2_with (go_at_call 10; refine Calls.mono (HUN.out _ (Below.refl _ _)) ?_; rintro e w1 ⟨rfl, hB1⟩)
    go_ret
    exact ⟨rfl, hB1⟩
  by_cases hl2 : 200 < (q.length : Int)
  · go_enter Tryd.func4, Tryd.ntmps4
    go_wp2_with (go_at_call 10; refine Calls.mono (HUN.out _ (Below.refl _ _)) ?_; rintro e w1 ⟨rfl, hB1⟩)
    go_ret
    exact ⟨rfl, hB1⟩
  have HC1 := hide (fun w' (hb : Below w.heap.size w w') => ints_ok A p c w' (hA.below hb) hc (by omega))
  have HC2 := hide (fun w' (hb : Below w.heap.size w w') => ints_ok B q d w' (hB.below hb) hd (by omega))
  have HLE := hide (fun w' (hb : Below w.heap.size w w') => listsError_ok A B p q c d w' (hA.below hb) (hB.below hb) hc hd (by omega) (by omega))
  by_cases h0 : lErr p q = 0
  · have HIA := hide (fun w' (hb : Below w.heap.size w w') => isAbove_ok A B p q c d w' (hA.below hb) (hB.below hb) hc hd h0)
    have HAP := hide (fun (A' B' : Option Addr) (x y : Nat) w' (h1 : Ints w' A' p) (h2 : Ints w' B' q) (hx : p.length ≤ x) (hy : q.length ≤ y) (hb : Below w.heap.size w w') => aboveP_ok A' B' p q x y w' a (HE.out w' hb) h1 h2 hx hy h0)
    have HCD := hide (fun w' (hb : Below w.heap.size w w') => coded_any w' a (hS.below hb) (hH.below hb) 0 (by decide) 0)
    rw [h0] at HLE
    clear h0
    generalize aboveB p q = r at HIA HAP
    go_enter Tryd.func4, Tryd.ntmps4
    go_wp2_with (first
      | (go_at_call 10; refine Calls.mono (HUN.out _ (Below.refl _ _)) ?_; rintro e w1 ⟨rfl, hB1⟩)
      | (go_at_call 16; refine Calls.mono (HLE.out w1 hB1) ?_; rintro e w2 ⟨rfl, b2⟩; have hB2 := below_trans hB1 b2)
      | (go_at_call 18; refine Calls.mono (HC1.out w2 hB2) ?_; rintro e w3 ⟨A3, c3, rfl, hI3, hc3, b3⟩; have hB3 := below_trans hB2 b3; clear HC1)
      | (go_at_call 18; refine Calls.mono (HC2.out w3 hB3) ?_; rintro e w4 ⟨A4, c4, rfl, hI4, hc4, b4⟩; have hB4 := below_trans hB3 b4)
      | (go_at_call 17; refine Calls.mono (HAP.out A3 A4 c3 c4 w4 (hI3.below b4) hI4 hc3 hc4 hB4) ?_; rintro e w5 ⟨rfl, b5⟩; have hB5 := below_trans hB4 b5)
      | (go_at_call 19; refine Calls.mono (HCD.out w5 hB5) ?_; rintro e w6 ⟨rfl, b6⟩; have hB6 := below_trans hB5 b6)
      | (go_at_call 20; refine Calls.mono (HIA.out w6 hB6) ?_; rintro e w7 ⟨rfl, b7⟩; have hB7 := below_trans hB6 b7))
    go_ret
    exact ⟨by simp, hB7⟩
  · obtain ⟨cc, hc', hc8⟩ := lErr_nat p q
    have hc0 : 0 < cc := by
      rcases Nat.eq_zero_or_pos cc with h | h
      · subst h; exact absurd hc' h0
      · exact h
    have hap := fun (A' B' : Option Addr) (x y : Nat) w' (h1 : Ints w' A' p) (h2 : Ints w' B' q) (hx : p.length ≤ x) (hy : q.length ≤ y) (hb : Below w.heap.size w w') => aboveP_err A' B' p q x y w' a (HE.out w' hb) h1 h2 hx hy h0
    have hcd := fun w' (hb : Below w.heap.size w w') => coded_any w' a (hS.below hb) (hH.below hb) cc hc8 cc
    rw [hc'] at hap HLE
    rw [decide_eq_true rfl] at hcd
    have he : errC a (cc : Int) = .iface 155 (.pointer (some (a cc))) := errC_pos' a (by omega)
    rw [he] at hap hcd
    have HAP := hide hap
    have HCD := hide hcd
    clear hap hcd he hc' h0
    have hci : 0 < (cc : Int) := by omega
    have hcn : ((cc : Int) == 0) = false := by rw [beq_eq_false_iff_ne]; omega
    go_enter Tryd.func4, Tryd.ntmps4
    go_wp2_with (first
      | (go_at_call 10; refine Calls.mono (HUN.out _ (Below.refl _ _)) ?_; rintro e w1 ⟨rfl, hB1⟩)
      | (go_at_call 16; refine Calls.mono (HLE.out w1 hB1) ?_; rintro e w2 ⟨rfl, b2⟩; have hB2 := below_trans hB1 b2)
      | (go_at_call 18; refine Calls.mono (HC1.out w2 hB2) ?_; rintro e w3 ⟨A3, c3, rfl, hI3, hc3, b3⟩; have hB3 := below_trans hB2 b3; clear HC1)
      | (go_at_call 18; refine Calls.mono (HC2.out w3 hB3) ?_; rintro e w4 ⟨A4, c4, rfl, hI4, hc4, b4⟩; have hB4 := below_trans hB3 b4)
      | (go_at_call 17; refine Calls.mono (HAP.out A3 A4 c3 c4 w4 (hI3.below b4) hI4 hc3 hc4 hB4) ?_; rintro e w5 ⟨rfl, b5⟩; have hB5 := below_trans hB4 b5)
      | (go_at_call 19; refine Calls.mono (HCD.out w5 hB5) ?_; rintro e w6 ⟨rfl, b6⟩; have hB6 := below_trans hB5 b6))
    go_ret
    exact ⟨rfl, hB6⟩
end Go.Proofs.YtcnecmcbjpehcaaDoor

/- The walk of demonref4.SquareError. No condition. -/
namespace Go.Proofs.YtcnecmcbjpehcaaDoor
open Go.RowKit Go.Deep Go.Proofs.YtcnecmcbjpehcaaDoorW.PrintWords

theorem sumS_ok (A : Option Addr) (l : List Int) (c : Nat) (w : World) (hA : Ints w A l) (hc : l.length ≤ c) (hs : Small l) :
    Calls Tryd.prog 30 #[.slice A l.length c] w fun e w' => e = .returned (.int .i64 l.sum) ∧ Drawn0 w w' := by
  obtain ⟨k, hk⟩ := (sumS_f hs).rounds
  exact POrderSpread.demonref1_Sum.calls k A c l l.sum w hA.toC hc hk
theorem numbersS_ok (A : Option Addr) (l : List Int) (c : Nat) (w : World) (hA : Ints w A l) (hc : l.length ≤ c) (hl : l.length ≤ 2000000) :
    Calls Tryd.prog 27 #[.slice A l.length c] w fun e w' => e = .returned (.bool (numb l)) ∧ Drawn0 w w' := by
  obtain ⟨k, hk⟩ := (numbersS_f l hl).rounds
  exact POrderSpread.demonref4_Numbers.calls k A c l (numb l) w hA.toC hc hk
theorem quiet_drawn {f : FuncId} {args : Array Value} {w : World} {n : Nat} {v : Value} (h : Calls Tryd.prog f args (w.drewN n) fun e w' => e = .returned v ∧ Drawn0 (w.drewN n) w') :
    Calls Tryd.prog f args (w.drewN n) fun e w'' => e = .returned v ∧ ∃ m, w'' = w.drewN m :=
  h.mono fun _ _ ⟨he, hm⟩ => by
    obtain ⟨⟨k, rfl⟩⟩ := hm
    exact ⟨he, n + k, by rw [World.drewN_drewN]⟩
theorem goodAt_bad {m : List (List Int)} {i : Nat} (hi : i < m.length) (h : goodAt m i = false) : (List.range m.length).all (goodAt m) = false := by
  rw [List.all_eq_false]
  exact ⟨i, List.mem_range.2 hi, by rw [h]; decide⟩
theorem goodRow_bad {m : List (List Int)} {i : Nat} (hi : i < m.length) (h : goodRow m.length (m.getD i []) = false) : m.all (goodRow m.length) = false := by
  rw [List.all_eq_false]
  exact ⟨m.getD i [], by rw [getDL_eq m i hi]; exact List.getElem_mem hi, by rw [h]; decide⟩
theorem takeRow {m : List (List Int)} {i : Nat} (hi : i < m.length) (h : (m.take i).all (goodRow m.length) = true) (hg : goodRow m.length (m.getD i []) = true) : (m.take (i + 1)).all (goodRow m.length) = true := by
  rw [takeL_at m i hi, List.all_append, h]
  simp only [List.all_cons, List.all_nil, hg, Bool.and_true]
theorem rangeAt {m : List (List Int)} {i : Nat} (h : (List.range i).all (goodAt m) = true) (hg : goodAt m i = true) : (List.range (i + 1)).all (goodAt m) = true := by
  rw [List.range_succ, List.all_append, h]
  simp [hg]

set_option maxRecDepth 100000 in
set_option maxHeartbeats 4000000 in
theorem squareError_ok (A : Option Addr) (m : List (List Int)) (c : Nat) (w : World) (hA : Lists w A m) (_hc : m.length ≤ c) (hr : ∀ r, r ∈ m → r.length ≤ 2000000) :
    Calls Tryd.prog 26 #[.slice A m.length c] w fun e w' => e = .returned (.int .i64 (sqErr m)) ∧ Below w.heap.size w w' := by
  have hlen := hA.len
  obtain ⟨r, hrr⟩ : ∃ r, sqErr m = r := ⟨_, rfl⟩
  rw [hrr]
  unfold sqErr at hrr
  by_cases c1 : 8 < (m.length : Int)
  · rw [if_pos (by omega)] at hrr
    subst hrr
    go_enter Tryd.func26, Tryd.ntmps26
    go_wp2_with (fail)
    go_ret
    exact ⟨rfl, Below.refl _ _⟩
  rw [if_neg (by omega)] at hrr
  by_cases c2 : m.length = 0
  · rw [if_pos c2] at hrr
    subst hrr
    have b2 : ((m.length : Int) == 0) = true := by rw [beq_iff_eq]; omega
    have C2 := hide c2
    clear c2
    go_enter Tryd.func26, Tryd.ntmps26
    go_wp2_with (fail)
    go_ret
    exact ⟨rfl, Below.refl _ _⟩
  rw [if_neg c2] at hrr
  have b2 : ((m.length : Int) == 0) = false := by rw [beq_eq_false_iff_ne]; omega
  have HR := hide hrr
  have HRL := hide hr
  clear hrr hr
  go_enter Tryd.func26, Tryd.ntmps26
  go_wp2_with (fail)
  go_loopw [3] (fun v wr => ∃ i : Nat, i ≤ m.length ∧ v = .int .i64 i ∧ Hid ((m.take i).all (goodRow m.length) = true) ∧ Below w.heap.size w wr) (fun v _ => m.length - (intOf v).toNat)
  case atStart => exact ⟨0, Nat.zero_le _, rfl, hide rfl, Below.refl _ _⟩
  case round =>
    obtain ⟨i, hi, rfl, HT, hBi⟩ := hrel
    obtain ⟨wi, rfl⟩ : ∃ wi : World, wi = wr := ⟨_, rfl⟩
    have i0 : (0 : Int) ≤ (i : Int) := Int.natCast_nonneg _
    by_cases hil : i < m.length
    · have i1 : (i : Int) < (m.length : Int) := by omega
      obtain ⟨b, off, A', c', rfl, hb, d1, hle, hI⟩ := (hA.below hBi).at_ i hil
      have hnum := numbersS_ok A' (m.getD i []) c' wi hI hle (HRL.out _ (by rw [getDL_eq m i hil]; exact List.getElem_mem _))
      have hbad : (numb (m.getD i []) && decide ((m.getD i []).length = m.length)) = false → m.all (goodRow m.length) = false := fun h => goodRow_bad hil h
      have hnx : (numb (m.getD i []) && decide ((m.getD i []).length = m.length)) = true → (m.take (i + 1)).all (goodRow m.length) = true := fun h => takeRow hil HT.out h
      have HB := hide hbad
      have HNX := hide hnx
      clear hbad hnx
      generalize m.getD i [] = ri at d1 hle hI hnum HB HNX
      generalize numb ri = q at hnum HB HNX
      by_cases hl : (ri.length : Int) = m.length
      · have hne : ((ri.length : Int) != (m.length : Int)) = false := by rw [hl]; simp
        have hl' : ri.length = m.length := by omega
        have HL := hide hl'
        have HNUM := hide hnum
        clear hnum hl hl'
        generalize ri.length = n1 at d1 hle hne HL HNUM HB HNX
        cases q
        · go_wp2_with (go_at_call 27; refine Calls.mono HNUM.out ?_; rintro e w1 ⟨rfl, hw1⟩; have hb1 := drawn_below hw1; have d1' := (hb1.cell (p := ⟨b, off + i, none⟩) hb).trans d1)
          go_ret
          exact ⟨ret_int (by rw [← HR.out, HB.out (by rfl), Bool.false_and]; rfl), below_trans hBi hb1⟩
        · go_wp2_with (go_at_call 27; refine Calls.mono HNUM.out ?_; rintro e w1 ⟨rfl, hw1⟩; have hb1 := drawn_below hw1; have d1' := (hb1.cell (p := ⟨b, off + i, none⟩) hb).trans d1)
          go_roundw
          case rel => exact ⟨i + 1, by omega, by go_num, hide (HNX.out (by rw [HL.out]; simp)), below_trans hBi hb1⟩
          case measure => simp [intOf]; omega
      · have hne : ((ri.length : Int) != (m.length : Int)) = true := by rw [bne_iff_ne]; exact hl
        have hl' : ¬ ri.length = m.length := by omega
        have HL := hide hl'
        have HNUM := hide hnum
        clear hnum hl hl'
        generalize ri.length = n1 at d1 hle hne HL HNUM HB HNX
        have hfin : r = 3 := by rw [← HR.out, HB.out (by rw [decide_eq_false HL.out, Bool.and_false]), Bool.false_and]; rfl
        have HFIN := hide hfin
        clear hfin
        cases q
        all_goals
          go_wp2_with (go_at_call 27; refine Calls.mono HNUM.out ?_; rintro e w1 ⟨rfl, hw1⟩; have hb1 := drawn_below hw1; have d1' := (hb1.cell (p := ⟨b, off + i, none⟩) hb).trans d1)
          go_ret
          exact ⟨ret_int HFIN.out.symm, below_trans hBi hb1⟩
    · obtain rfl : i = m.length := by omega
      have hall := HT.out
      rw [List.take_length] at hall
      have hrr := HR.out
      rw [hall, Bool.true_and] at hrr
      have HALL := hide hall
      have HR2 := hide hrr
      clear hall hrr HT
      go_wp2_with (fail)
      go_loopw [5, 6, 7] (fun v _ _ wr => ∃ i : Nat, i ≤ m.length ∧ v = .int .i64 i ∧ Hid ((List.range i).all (goodAt m) = true) ∧ Below w.heap.size w wr) (fun v _ _ _ => m.length - (intOf v).toNat)
      case atStart => exact ⟨0, Nat.zero_le _, rfl, hide rfl, hBi⟩
      case round =>
        obtain ⟨i, hi2, rfl, HT, hBi2⟩ := hrel
        obtain ⟨wj, rfl⟩ : ∃ wj : World, wj = wr := ⟨_, rfl⟩
        have i0 : (0 : Int) ≤ (i : Int) := Int.natCast_nonneg _
        by_cases hil : i < m.length
        · have i1 : (i : Int) < (m.length : Int) := by omega
          go_wp2_with (fail)
          go_loop [6, 7] (fun dv jv => ∃ j : Nat, j ≤ m.length ∧ jv = .int .i64 j ∧ dv = .int .i64 (colTo m i j)) (fun _ jv => m.length - (intOf jv).toNat)
          case atStart => exact ⟨0, Nat.zero_le _, rfl, rfl⟩
          case round =>
            obtain ⟨j, hj, rfl, rfl⟩ := hrel
            have j0 : (0 : Int) ≤ (j : Int) := Int.natCast_nonneg _
            by_cases hjl : j < m.length
            · have j1 : (j : Int) < (m.length : Int) := by omega
              obtain ⟨b, off, A', c', rfl, hb, d1, hle, hI⟩ := (hA.below hBi2).at_ j hjl
              obtain ⟨g1, g2⟩ := goodRow_get HALL.out j hjl
              obtain ⟨b2, off2, rfl, hb2, d2⟩ := hI.at_ i (by omega)
              have hx := numb_get g1 i (by omega)
              have hcb := colTo_bound HALL.out i hil j (by omega)
              have hcs := colTo_succ m i j hjl
              rw [g2] at d1
              have i2 : (i : Int) < (m.length : Int) := by omega
              generalize (m.getD j []).getD i 0 = x at d2 hx hcs
              generalize colTo m i j = s at hcb hcs
              have HCS := hide hcs
              clear hcs g1 g2 hI hle
              go_wp2_with (fail)
              go_round
              case rel => exact ⟨j + 1, by omega, by go_num, by rw [HCS.out]⟩
              case measure => simp [intOf]; omega
            · obtain rfl : j = m.length := by omega
              have m0 : 0 < m.length := by omega
              have m1 : (0 : Int) < (m.length : Int) := by omega
              obtain ⟨b, off, A1, c1', rfl, hb, d1, hle1, hI1⟩ := (hA.below hBi2).at_ i hil
              obtain ⟨b', off', A0, c0, e0, _, d0, hle0, hI0⟩ := (hA.below hBi2).at_ 0 m0
              injection e0 with e0
              injection e0 with e1 e2 _
              subst e1 e2
              have d0' : wj.cell? ⟨b, off, none⟩ = some (.slice A0 (m.getD 0 []).length c0) := d0
              obtain ⟨g1, g2⟩ := goodRow_get HALL.out i hil
              obtain ⟨g3, g4⟩ := goodRow_get HALL.out 0 m0
              have hs1 := fun w' (h : Below wj.heap.size wj w') => sumS_ok A1 (m.getD i []) c1' w' (hI1.below h) hle1 (numb_small g1 (by omega))
              have hs0 := fun w' (h : Below wj.heap.size wj w') => sumS_ok A0 (m.getD 0 []) c0 w' (hI0.below h) hle0 (numb_small g3 (by omega))
              have hnx : (decide ((m.getD i []).sum = (m.getD 0 []).sum) && decide (colTo m i m.length = (m.getD 0 []).sum)) = true → (List.range (i + 1)).all (goodAt m) = true := fun h => rangeAt HT.out h
              have hbd : (decide ((m.getD i []).sum = (m.getD 0 []).sum) && decide (colTo m i m.length = (m.getD 0 []).sum)) = false → r = 3 := fun h => by rw [← HR2.out, if_neg (by rw [goodAt_bad hil h]; decide)]
              rw [g2] at d1 hs1
              rw [g4] at d0' hs0
              clear d0 hI0 hI1 g1 g2 g3 g4 hle1 hle0
              generalize (m.getD i []).sum = x at hs1 hnx hbd
              generalize (m.getD 0 []).sum = y at hs0 hnx hbd
              generalize colTo m i m.length = z at hnx hbd
              have HNX := hide hnx
              have HBD := hide hbd
              have HS1 := hide hs1
              have HS0 := hide hs0
              clear hnx hbd hs1 hs0
              by_cases hxy : x = y
              · have bxy : (x != y) = false := by rw [hxy]; simp
                by_cases hzy : z = y
                · have bzy : (z != y) = false := by rw [hzy]; simp
                  have hn := HNX.out (by rw [decide_eq_true hxy, decide_eq_true hzy]; rfl)
                  have HN2 := hide hn
                  clear hxy hzy hn
                  go_wp2_with (fail)
                  go_quiet ((first
                    | (go_at_call 30; with_reducible exact quiet_drawn (HS1.out _ (below_drewN' (Below.refl _ _) _)))
                    | (go_at_call 30; with_reducible exact quiet_drawn (HS0.out _ (below_drewN' (Below.refl _ _) _)))))
                  go_wp2_with (fail)
                  go_roundw
                  case rel => exact ⟨i + 1, by omega, by go_num, HN2, below_drewN' hBi2 _⟩
                  case measure => simp [intOf]; omega
                · have bzy : (z != y) = true := by rw [bne_iff_ne]; exact hzy
                  have hn := HBD.out (by rw [decide_eq_false hzy, Bool.and_false])
                  have HN2 := hide hn
                  clear hxy hzy hn
                  go_wp2_with (fail)
                  go_quiet ((first
                    | (go_at_call 30; with_reducible exact quiet_drawn (HS1.out _ (below_drewN' (Below.refl _ _) _)))
                    | (go_at_call 30; with_reducible exact quiet_drawn (HS0.out _ (below_drewN' (Below.refl _ _) _)))))
                  go_wp2_with (fail)
                  go_ret
                  exact ⟨ret_int HN2.out.symm, below_drewN' hBi2 _⟩
              · have bxy : (x != y) = true := by rw [bne_iff_ne]; exact hxy
                have hn := HBD.out (by rw [decide_eq_false hxy, Bool.false_and])
                have HN2 := hide hn
                clear hn
                go_wp2_with (fail)
                go_quiet ((first
                  | (go_at_call 30; with_reducible exact quiet_drawn (HS1.out _ (below_drewN' (Below.refl _ _) _)))
                  | (go_at_call 30; with_reducible exact quiet_drawn (HS0.out _ (below_drewN' (Below.refl _ _) _)))))
                go_wp2_with (fail)
                go_ret
                exact ⟨ret_int HN2.out.symm, below_drewN' hBi2 _⟩
        · obtain rfl : i = m.length := by omega
          have hfin : r = 0 := by rw [← HR2.out, if_pos HT.out]
          subst hfin
          go_wp2_with (fail)
          go_ret
          exact ⟨rfl, hBi2⟩
end Go.Proofs.YtcnecmcbjpehcaaDoor

/- The walks of order.square and order.Spread. Condition: the variables read as laid. -/
namespace Go.Proofs.YtcnecmcbjpehcaaDoor
open Go.RowKit Go.Deep Go.Proofs.YtcnecmcbjpehcaaDoorW.PrintWords

theorem totalD_ok (A : Option Addr) (l : List Int) (c : Nat) (w : World) (hA : Ints w A l) (hc : l.length ≤ c) (hs : Small l) :
    Calls Tryd.prog 41 #[.slice A l.length c] w fun e w' => e = .returned (.int .i64 l.sum) ∧ Drawn0 w w' := by
  obtain ⟨k, hk⟩ := (total_f hs).rounds
  exact POrderAbove.dist_Total.calls k A c l l.sum w hA.toC hc hk
theorem ret_err3 (a : Nat → Addr) {r : Int} (h : r = 3) : (Ending.returned (.iface 155 (.pointer (some (a 3))))) = .returned (errC a r) := by subst h; rfl

set_option maxRecDepth 100000 in
set_option maxHeartbeats 4000000 in
theorem square_any (A : Option Addr) (m : List (List Int)) (c : Nat) (w : World) (a : Nat → Addr) (hE : Env [2, 3] w a) (hA : Lists w A m) :
    Calls Tryd.prog 39 #[.slice A m.length c] w fun e w' => e = .returned (errC a (sqErr m)) ∧ Below w.heap.size w w' := by
  have HEN := hide (fun w' (hb : Below w.heap.size w w') => (⟨(hE.below hb).cell 2 (by decide), (hE.below hb).cell 3 (by decide)⟩ : w'.cell? ⟨glob 2, 0, none⟩ = _ ∧ w'.cell? ⟨glob 3, 0, none⟩ = _))
  simp only [glob] at HEN
  obtain ⟨y2, y3⟩ := HEN.out w (Below.refl _ _)
  have hlen := hA.len
  obtain ⟨r, hrr⟩ : ∃ r, sqErr m = r := ⟨_, rfl⟩
  rw [hrr]
  unfold sqErr at hrr
  by_cases c1 : 8 < (m.length : Int)
  · rw [if_pos (by omega)] at hrr
    subst hrr
    go_enter Tryd.func39, Tryd.ntmps39
    go_wp2_with (fail)
    go_ret
    exact ⟨rfl, Below.refl _ _⟩
  rw [if_neg (by omega)] at hrr
  by_cases c2 : m.length = 0
  · rw [if_pos c2] at hrr
    subst hrr
    have b2 : ((m.length : Int) == 0) = true := by rw [beq_iff_eq]; omega
    have C2 := hide c2
    clear c2
    go_enter Tryd.func39, Tryd.ntmps39
    go_wp2_with (fail)
    go_ret
    exact ⟨rfl, Below.refl _ _⟩
  rw [if_neg c2] at hrr
  have b2 : ((m.length : Int) == 0) = false := by rw [beq_eq_false_iff_ne]; omega
  have HR := hide hrr
  clear hrr
  go_enter Tryd.func39, Tryd.ntmps39
  go_wp2_with (fail)
  go_loopw [20] (fun v wr => ∃ i : Nat, i ≤ m.length ∧ v = .int .i64 i ∧ Hid ((m.take i).all (goodRow m.length) = true) ∧ Below w.heap.size w wr) (fun v _ => m.length - (intOf v).toNat)
  case atStart => exact ⟨0, Nat.zero_le _, rfl, hide rfl, Below.refl _ _⟩
  case round =>
    obtain ⟨i, hi, rfl, HT, hBi⟩ := hrel
    obtain ⟨wi, rfl⟩ : ∃ wi : World, wi = wr := ⟨_, rfl⟩
    have i0 : (0 : Int) ≤ (i : Int) := Int.natCast_nonneg _
    by_cases hil : i < m.length
    · have i1 : (i : Int) < (m.length : Int) := by omega
      obtain ⟨b, off, A', c', rfl, hb, d1, hle, hI⟩ := (hA.below hBi).at_ i hil
      obtain ⟨k2, k3⟩ := HEN.out wi hBi
      have hnum := numbers_any A' (m.getD i []) c' wi hI
      have hbad : (numb (m.getD i []) && decide ((m.getD i []).length = m.length)) = false → m.all (goodRow m.length) = false := fun h => goodRow_bad hil h
      have hnx : (numb (m.getD i []) && decide ((m.getD i []).length = m.length)) = true → (m.take (i + 1)).all (goodRow m.length) = true := fun h => takeRow hil HT.out h
      have HB := hide hbad
      have HNX := hide hnx
      clear hbad hnx
      generalize m.getD i [] = ri at d1 hle hI hnum HB HNX
      generalize numb ri = q at hnum HB HNX
      by_cases hl : (ri.length : Int) = m.length
      · have hne : ((ri.length : Int) != (m.length : Int)) = false := by rw [hl]; simp
        have hl' : ri.length = m.length := by omega
        have HL := hide hl'
        have HNUM := hide hnum
        clear hnum hl hl' hI
        generalize ri.length = n1 at d1 hle hne HL HNUM HB HNX
        cases q
        · go_wp2_with (go_at_call 46; refine Calls.mono HNUM.out ?_; rintro e w1 ⟨rfl, hb1⟩; obtain ⟨z2, z3⟩ := HEN.out w1 (below_trans hBi hb1))
          go_ret
          exact ⟨ret_err3 a (by rw [← HR.out, HB.out (by rfl), Bool.false_and]; rfl), below_trans hBi hb1⟩
        · go_wp2_with (go_at_call 46; refine Calls.mono HNUM.out ?_; rintro e w1 ⟨rfl, hb1⟩; obtain ⟨z2, z3⟩ := HEN.out w1 (below_trans hBi hb1))
          go_roundw
          case rel => exact ⟨i + 1, by omega, by go_num, hide (HNX.out (by rw [HL.out]; simp)), below_trans hBi hb1⟩
          case measure => simp [intOf]; omega
      · have hne : ((ri.length : Int) != (m.length : Int)) = true := by rw [bne_iff_ne]; exact hl
        have hl' : ¬ ri.length = m.length := by omega
        have HL := hide hl'
        clear hnum hl hl' hI
        generalize ri.length = n1 at d1 hle hne HL HB HNX
        have hfin : r = 3 := by rw [← HR.out, HB.out (by rw [decide_eq_false HL.out, Bool.and_false]), Bool.false_and]; rfl
        have HFIN := hide hfin
        clear hfin
        go_wp2_with (fail)
        go_ret
        exact ⟨ret_err3 a HFIN.out, hBi⟩
    · obtain rfl : i = m.length := by omega
      have hall := HT.out
      rw [List.take_length] at hall
      have hrr := HR.out
      rw [hall, Bool.true_and] at hrr
      have HALL := hide hall
      have HR2 := hide hrr
      clear hall hrr HT
      go_wp2_with (fail)
      go_loopw [38] (fun v wr => ∃ i : Nat, i ≤ m.length ∧ v = .int .i64 i ∧ Hid ((List.range i).all (goodAt m) = true) ∧ Below w.heap.size w wr) (fun v _ => m.length - (intOf v).toNat)
      case atStart => exact ⟨0, Nat.zero_le _, rfl, hide rfl, hBi⟩
      case round =>
        obtain ⟨i, hi2, rfl, HT, hBi2⟩ := hrel
        obtain ⟨wj, rfl⟩ : ∃ wj : World, wj = wr := ⟨_, rfl⟩
        have i0 : (0 : Int) ≤ (i : Int) := Int.natCast_nonneg _
        by_cases hil : i < m.length
        · have i1 : (i : Int) < (m.length : Int) := by omega
          obtain ⟨b, off, A1, c1', rfl, hb, d1, hle1, hI1⟩ := (hA.below hBi2).at_ i hil
          have g2 := (goodRow_get HALL.out i hil).2
          rw [g2] at d1
          go_wp2_with (fail)
          go_loop [7, 45] (fun dv jv => ∃ j : Nat, j ≤ m.length ∧ jv = .int .i64 j ∧ dv = .int .i64 (colTo m i j)) (fun _ jv => m.length - (intOf jv).toNat)
          case atStart => exact ⟨0, Nat.zero_le _, rfl, rfl⟩
          case round =>
            obtain ⟨j, hj, rfl, rfl⟩ := hrel
            have j0 : (0 : Int) ≤ (j : Int) := Int.natCast_nonneg _
            by_cases hjl : j < m.length
            · have j1 : (j : Int) < (m.length : Int) := by omega
              obtain ⟨b', off', A', c', e0, hb', dd, hle, hI⟩ := (hA.below hBi2).at_ j hjl
              injection e0 with e0
              injection e0 with e1 e2 _
              subst e1 e2
              obtain ⟨g1, g2'⟩ := goodRow_get HALL.out j hjl
              obtain ⟨b2, off2, rfl, hb2, d2⟩ := hI.at_ i (by omega)
              have hx := numb_get g1 i (by omega)
              have hcb := colTo_bound HALL.out i hil j (by omega)
              have hcs := colTo_succ m i j hjl
              rw [g2'] at dd
              generalize (m.getD j []).getD i 0 = x at d2 hx hcs
              generalize colTo m i j = s at hcb hcs
              have HCS := hide hcs
              clear hcs g1 g2' hI hle
              go_wp2_with (fail)
              go_round
              case rel => exact ⟨j + 1, by omega, by go_num, by rw [HCS.out]⟩
              case measure => simp [intOf]; omega
            · obtain rfl : j = m.length := by omega
              have m0 : 0 < m.length := by omega
              have m1 : (0 : Int) < (m.length : Int) := by omega
              obtain ⟨b', off', A0, c0, e0, _, d0, hle0, hI0⟩ := (hA.below hBi2).at_ 0 m0
              injection e0 with e0
              injection e0 with e1 e2 _
              subst e1 e2
              have d0' : wj.cell? ⟨b, off, none⟩ = some (.slice A0 (m.getD 0 []).length c0) := d0
              obtain ⟨g1, _⟩ := goodRow_get HALL.out i hil
              obtain ⟨g3, g4⟩ := goodRow_get HALL.out 0 m0
              have hs1 := fun w' (h : Below wj.heap.size wj w') => totalD_ok A1 (m.getD i []) c1' w' (hI1.below h) hle1 (numb_small g1 (by omega))
              have hs0 := fun w' (h : Below wj.heap.size wj w') => totalD_ok A0 (m.getD 0 []) c0 w' (hI0.below h) hle0 (numb_small g3 (by omega))
              have hnx : (decide ((m.getD i []).sum = (m.getD 0 []).sum) && decide (colTo m i m.length = (m.getD 0 []).sum)) = true → (List.range (i + 1)).all (goodAt m) = true := fun h => rangeAt HT.out h
              have hbd : (decide ((m.getD i []).sum = (m.getD 0 []).sum) && decide (colTo m i m.length = (m.getD 0 []).sum)) = false → r = 3 := fun h => by rw [← HR2.out, if_neg (by rw [goodAt_bad hil h]; decide)]
              rw [g2] at hs1
              rw [g4] at d0' hs0
              have HEJ := hide (fun n => HEN.out (wj.drewN n) (below_drewN' hBi2 _))
              clear d0 hI0 hI1 g1 g2 g3 g4 hle1 hle0
              generalize (m.getD i []).sum = x at hs1 hnx hbd
              generalize (m.getD 0 []).sum = y at hs0 hnx hbd
              generalize colTo m i m.length = z at hnx hbd
              have HNX := hide hnx
              have HBD := hide hbd
              have HS1 := hide hs1
              have HS0 := hide hs0
              clear hnx hbd hs1 hs0
              by_cases hxy : x = y
              · have bxy : (x != y) = false := by rw [hxy]; simp
                by_cases hzy : z = y
                · have bzy : (z != y) = false := by rw [hzy]; simp
                  have hn := HNX.out (by rw [decide_eq_true hxy, decide_eq_true hzy]; rfl)
                  have HN2 := hide hn
                  clear hxy hzy hn
                  go_wp2_with (fail)
                  go_quiet ((first
                    | (go_at_call 41; with_reducible exact quiet_drawn (HS1.out _ (below_drewN' (Below.refl _ _) _)))
                    | (go_at_call 41; with_reducible exact quiet_drawn (HS0.out _ (below_drewN' (Below.refl _ _) _)))))
                  go_wp2_with (fail)
                  go_roundw
                  case rel => exact ⟨i + 1, by omega, by go_num, HN2, below_drewN' hBi2 _⟩
                  case measure => simp [intOf]; omega
                · have bzy : (z != y) = true := by rw [bne_iff_ne]; exact hzy
                  have hn := HBD.out (by rw [decide_eq_false hzy, Bool.and_false])
                  have HN2 := hide hn
                  clear hxy hzy hn
                  go_wp2_with (fail)
                  go_quiet ((first
                    | (go_at_call 41; with_reducible exact quiet_drawn (HS1.out _ (below_drewN' (Below.refl _ _) _)))
                    | (go_at_call 41; with_reducible exact quiet_drawn (HS0.out _ (below_drewN' (Below.refl _ _) _)))))
                  obtain ⟨z2, z3⟩ := HEJ.out nq
                  go_wp2_with (fail)
                  go_ret
                  exact ⟨ret_err3 a HN2.out, below_drewN' hBi2 _⟩
              · have bxy : (x != y) = true := by rw [bne_iff_ne]; exact hxy
                have hn := HBD.out (by rw [decide_eq_false hxy, Bool.false_and])
                have HN2 := hide hn
                clear hn
                go_wp2_with (fail)
                go_quiet ((first
                  | (go_at_call 41; with_reducible exact quiet_drawn (HS1.out _ (below_drewN' (Below.refl _ _) _)))
                  | (go_at_call 41; with_reducible exact quiet_drawn (HS0.out _ (below_drewN' (Below.refl _ _) _)))))
                obtain ⟨z2, z3⟩ := HEJ.out nq
                go_wp2_with (fail)
                go_ret
                exact ⟨ret_err3 a HN2.out, below_drewN' hBi2 _⟩
        · obtain rfl : i = m.length := by omega
          have hfin : r = 0 := by rw [← HR2.out, if_pos HT.out]
          subst hfin
          go_wp2_with (fail)
          go_ret
          exact ⟨rfl, hBi2⟩
end Go.Proofs.YtcnecmcbjpehcaaDoor

/- The walk of order.Spread. Condition: the variables read as laid. -/
namespace Go.Proofs.YtcnecmcbjpehcaaDoor
open Go.RowKit Go.Deep Go.Proofs.YtcnecmcbjpehcaaDoorW.PrintWords

theorem sqErr_zero {m : List (List Int)} (h : sqErr m = 0) : m.length ≤ 8 ∧ 0 < m.length ∧ m.all (goodRow m.length) = true ∧ (List.range m.length).all (goodAt m) = true := by
  unfold sqErr at h
  by_cases c1 : 8 < m.length
  · rw [if_pos c1] at h; cases h
  rw [if_neg c1] at h
  by_cases c2 : m.length = 0
  · rw [if_pos c2] at h; cases h
  rw [if_neg c2] at h
  by_cases c3 : (m.all (goodRow m.length) && (List.range m.length).all (goodAt m)) = true
  · rw [Bool.and_eq_true] at c3
    exact ⟨by omega, by omega, c3.1, c3.2⟩
  · rw [if_neg c3] at h; cases h
theorem sqErr_nat (m : List (List Int)) : ∃ c : Nat, sqErr m = (c : Int) ∧ c ≤ 8 := by
  unfold sqErr
  split
  · exact ⟨2, rfl, by omega⟩
  split
  · exact ⟨3, rfl, by omega⟩
  split
  · exact ⟨0, rfl, by omega⟩
  · exact ⟨3, rfl, by omega⟩
theorem spread_len (m : List (List Int)) (w : List Int) : (spreadOf m w).length = m.length := by unfold spreadOf; rw [List.length_map]
theorem spread_succ {m : List (List Int)} (w : List Int) {i : Nat} (h : i < m.length) : spreadOf (m.take (i + 1)) w = spreadOf (m.take i) w ++ [dotTo (m.getD i []) w w.length] := by
  unfold spreadOf
  rw [takeL_at m i h, List.map_append]
  rfl
theorem spread_takelen {m : List (List Int)} (w : List Int) {i : Nat} (h : i ≤ m.length) : (spreadOf (m.take i) w).length = i := by rw [spread_len, List.length_take]; omega

set_option maxHeartbeats 2000000 in
theorem spread_err1 (A B : Option Addr) (m : List (List Int)) (W : List Int) (c d : Nat) (w : World) (a : Nat → Addr) (hE : Env [2, 3] w a) (hA : Lists w A m) (h : sqErr m ≠ 0) :
    Calls Tryd.prog 29 #[.slice A m.length c, .slice B W.length d] w fun e w' => e = .returned (.tuple #[.slice none 0 0, errC a (sqErr m)]) ∧ Below w.heap.size w w' := by
  have hs := square_any A m c w a hE hA
  have he := errC_pos' a h
  rw [he] at hs ⊢
  generalize a (sqErr m).toNat = x at hs
  have HS := hide hs
  clear hs he h
  go_enter Tryd.func29, Tryd.ntmps29
  go_wp2_with (go_at_call 39; refine Calls.mono HS.out ?_; rintro e w1 ⟨rfl, hb1⟩)
  go_ret2
  exact ⟨rfl, hb1⟩
set_option maxHeartbeats 2000000 in
theorem spread_err3 (A B : Option Addr) (m : List (List Int)) (W : List Int) (c d : Nat) (w : World) (a : Nat → Addr) (hE : Env [2, 3] w a) (hA : Lists w A m) (hB : Ints w B W) (h : sqErr m = 0) (hbad : ¬ (W.length = m.length ∧ numb W = true)) :
    Calls Tryd.prog 29 #[.slice A m.length c, .slice B W.length d] w fun e w' => e = .returned (.tuple #[.slice none 0 0, errC a 3]) ∧ Below w.heap.size w w' := by
  have hs := square_any A m c w a hE hA
  rw [h, errC_zero] at hs
  have HS := hide hs
  have HEN := hide (fun w' (hb : Below w.heap.size w w') => ((hE.below hb).cell 3 (by decide) : w'.cell? ⟨glob 3, 0, none⟩ = _))
  simp only [glob] at HEN
  have hlen := hB.len
  have hlena := hA.len
  by_cases hl : (W.length : Int) = m.length
  · have hne : ((W.length : Int) != (m.length : Int)) = false := by rw [hl]; simp
    have hn : numb W = false := by
      cases hq : numb W with
      | false => rfl
      | true => exact absurd ⟨by omega, hq⟩ hbad
    have hnum := fun w' (hb : Below w.heap.size w w') => numbers_any B W d w' (hB.below hb)
    rw [hn] at hnum
    have HN := hide hnum
    clear hs hnum hn h hbad
    go_enter Tryd.func29, Tryd.ntmps29
    go_wp2_with (first
      | (go_at_call 39; refine Calls.mono HS.out ?_; rintro e w1 ⟨rfl, hb1⟩)
      | (go_at_call 46; refine Calls.mono (HN.out _ hb1) ?_; rintro e w2 ⟨rfl, b2⟩; have hB2 := below_trans hb1 b2))
    have z3 := HEN.out w2 hB2
    go_quiet (fail)
    go_wp2_with (fail)
    go_ret2
    exact ⟨rfl, below_drewN' hB2 _⟩
  · have hne : ((W.length : Int) != (m.length : Int)) = true := by rw [bne_iff_ne]; exact hl
    clear hs h hbad
    go_enter Tryd.func29, Tryd.ntmps29
    go_wp2_with (go_at_call 39; refine Calls.mono HS.out ?_; rintro e w1 ⟨rfl, hb1⟩)
    have z3 := HEN.out w1 hb1
    go_quiet (fail)
    go_wp2_with (fail)
    go_ret2
    exact ⟨rfl, below_drewN' hb1 _⟩

set_option maxRecDepth 100000 in
set_option maxHeartbeats 4000000 in
theorem spread_ok (A B : Option Addr) (m : List (List Int)) (W : List Int) (c d : Nat) (w : World) (a : Nat → Addr) (hE : Env [2, 3] w a) (hA : Lists w A m) (hB : Ints w B W) (h : sqErr m = 0) (hl : W.length = m.length) (hn : numb W = true) :
    Calls Tryd.prog 29 #[.slice A m.length c, .slice B W.length d] w fun e w' => ∃ X x, e = .returned (.tuple #[.slice X (spreadOf m W).length x, .nilIface]) ∧ Ints w' X (spreadOf m W) ∧ (spreadOf m W).length ≤ x ∧ Below w.heap.size w w' := by
  have hs := square_any A m c w a hE hA
  rw [h, errC_zero] at hs
  have HS := hide hs
  have hnum := fun w' (hb : Below w.heap.size w w') => numbers_any B W d w' (hB.below hb)
  rw [hn] at hnum
  have HN := hide hnum
  obtain ⟨h8, h0, hall, _⟩ := sqErr_zero h
  have hne : ((m.length : Int) != (m.length : Int)) = false := by simp
  have HLW := hide hl
  have HNW := hide hn
  have HALL := hide hall
  rw [hl] at HN ⊢
  clear hs hnum hn h hall hl
  go_enter Tryd.func29, Tryd.ntmps29
  go_wp2_with (first
    | (go_at_call 39; refine Calls.mono HS.out ?_; rintro e w1 ⟨rfl, hb1⟩)
    | (go_at_call 46; refine Calls.mono (HN.out _ hb1) ?_; rintro e w2 ⟨rfl, b2⟩; have hB2 := below_trans hb1 b2))
  go_loopw [7, 31] (fun ov iv wr => ∃ i : Nat, i ≤ m.length ∧ iv = .int .i64 i ∧ wr.ownsRow w2.heap.size 3 1 ov i (intCells (spreadOf (m.take i) W)) ∧ Below w2.heap.size w2 wr) (fun _ iv _ => m.length - (intOf iv).toNat)
  case atStart => exact ⟨0, Nat.zero_le _, rfl, nil_own _ _ _ _, Below.refl _ _⟩
  case round =>
    obtain ⟨i, hi, rfl, hown, hBk⟩ := hrel
    obtain ⟨wi, rfl⟩ : ∃ wi : World, wi = wr := ⟨_, rfl⟩
    obtain ⟨A9, c9, rfl, hc9, _⟩ := own_shape hown
    have hBi := below_trans hB2 hBk
    have HO := hide hown
    clear hown
    have i0 : (0 : Int) ≤ (i : Int) := Int.natCast_nonneg _
    by_cases hil : i < m.length
    · have i1 : (i : Int) < (m.length : Int) := by omega
      obtain ⟨b, off, A1, c1', rfl, hb, d1, hle1, hI1⟩ := (hA.below hBi).at_ i hil
      obtain ⟨g1, g2⟩ := goodRow_get HALL.out i hil
      rw [g2] at d1
      go_wp2_with (fail)
      go_loop [10, 37] (fun dv jv => ∃ j : Nat, j ≤ m.length ∧ jv = .int .i64 j ∧ dv = .int .i64 (dotTo (m.getD i []) W j)) (fun _ jv => m.length - (intOf jv).toNat)
      case atStart => exact ⟨0, Nat.zero_le _, rfl, rfl⟩
      case round =>
        obtain ⟨j, hj, rfl, rfl⟩ := hrel
        have j0 : (0 : Int) ≤ (j : Int) := Int.natCast_nonneg _
        have hdb := dotTo_bound g1 HNW.out (by rw [g2, HLW.out]) j (by rw [HLW.out]; exact hj)
        by_cases hjl : j < m.length
        · have j1 : (j : Int) < (m.length : Int) := by omega
          obtain ⟨b1, o1, rfl, hb1', e1⟩ := hI1.at_ j (by omega)
          obtain ⟨b2', o2, rfl, hb2', e2⟩ := (hB.below hBi).at_ j (by rw [HLW.out]; exact hjl)
          have hx := mul_bound (numb_get g1 j (by omega)) (numb_get HNW.out j (by rw [HLW.out]; exact hjl))
          have hds := dotTo_succ (m.getD i []) W j
          generalize hpp : (m.getD i []).getD j 0 * W.getD j 0 = p at hx hds
          have w1' : IntKind.i64.wrap ((m.getD i []).getD j 0 * W.getD j 0) = p := by rw [hpp]; exact IntWalk.i64_in _ (by omega)
          have w2' : IntKind.i64.wrap (dotTo (m.getD i []) W j + p) = dotTo (m.getD i []) W (j + 1) := by rw [hds]; exact IntWalk.i64_in _ (by omega)
          clear hpp hds hx
          generalize (m.getD i []).getD j 0 = x at e1 w1'
          generalize W.getD j 0 = y at e2 w1'
          generalize hq : dotTo (m.getD i []) W (j + 1) = s1 at w2'
          have HQ := hide hq
          clear hq
          generalize dotTo (m.getD i []) W j = s at w2' hdb ⊢
          go_wp2_with (fail)
          go_round
          case rel => exact ⟨j + 1, by omega, by go_num, by rw [HQ.out]⟩
          case measure => simp [intOf]; omega
        · obtain rfl : j = m.length := by omega
          have hss := spread_succ W hil
          rw [HLW.out] at hss
          have hfit : dotTo (m.getD i []) W m.length ≤ 134217728 := by omega
          generalize dotTo (m.getD i []) W m.length = s at hss hfit hdb
          have HSS := hide hss
          have HC3 := hide (show ((spreadOf (m.take i) W).length + 1) * 8 ≤ 140737488355328 by rw [spread_takelen W (by omega)]; omega)
          have HSZ := hide hBk.size
          have HO1 := hide (own_list HO.out)
          clear hss hdb g1 g2 hle1 hI1
          go_wp2_with (at_builtin; refine wp_app_ints _ rfl _ _ rfl w2.heap.size (.slice A9 i c9) _ rfl (HO1.out.alloc _) _ 1 1 [s] rfl rfl (ints_one (b := wi.heap.size) (by simp) (by simp)) HC3.out (by rw [World.size_alloc]; exact Nat.le_succ_of_le HSZ.out) ?_; intro A' c' w5 hc5 ho5 hg5 hob5)
          have hb5 : Below w2.heap.size w2 w5 := (hBk.alloc hBk.size _).grown hg5 (by rw [World.size_alloc]; exact Nat.le_succ_of_le HSZ.out) (fun j hj => (HO.out.lt j hj).1)
          rw [← HSS.out, spread_takelen W (by omega)] at ho5
          go_roundw
          case rel => exact ⟨i + 1, by omega, by go_num, by rw [spread_takelen W (show i ≤ m.length by omega)]; exact ho5, hb5⟩
          case measure => simp [intOf]; omega
    · obtain rfl : i = m.length := by omega
      have hoo := HO.out
      rw [List.take_length] at hoo
      have HIW := hide (show Ints wi A9 (spreadOf m W) from Ints.own (c := c9) (e := 3) (base := w2.heap.size) (by rw [spread_len]; exact hoo))
      clear hoo
      go_wp2_with (fail)
      go_ret2
      exact ⟨A9, c9, by rw [spread_len]; rfl, HIW.out, by rw [spread_len]; exact hc9, hBi⟩
end Go.Proofs.YtcnecmcbjpehcaaDoor
