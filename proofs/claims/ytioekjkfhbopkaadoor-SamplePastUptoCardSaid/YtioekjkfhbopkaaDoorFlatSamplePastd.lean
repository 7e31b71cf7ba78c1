/- Words, plain laws and walks behind the law SamplePast, part 4. No condition. -/
import Derived.Test.YtioekjkfhbopkaaDoorFlatSamplePastc
import Derived.Test.YtioekjkfhbopkaaDoorFlatSamplePastb

/- The walks of errors.As with a target of the type **api.Fault: at a sentinel it is false, at a fault true (after the kit's worked Toyas). Condition: the handle of the type error is laid. -/
namespace Go.Proofs.YtioekjkfhbopkaaDoor
open Go.RowKit Go.Deep Go.Extern.Stop Go.Stop Go.Extern

/-! ### closed facts on the model's entries for internal/reflectlite, at this program's types -/
def kindExt : TypeId → Sem Value := fun t => do pure (.int .u8 (← Rtype.kind t))
def vTypeExt : TypeId → Addr → Nat → Nat → Sem Value := fun t _ _ _ => ReflectliteType.toType t
def unpackExt : Array Value → Sem Value := fun args => ReflectliteValue.unpack (args.getD 0 (.tuple #[]))
theorem as_valueOfT (t : Addr) (w : World) : (unpackExt #[.iface 104 (.pointer (some t))]).run Tryd.prog w
    = .ok (.agg #[.pointer (some ⟨12, 104, none⟩), .pointer (some ⟨w.heap.size, 0, none⟩), .int .u64 150]) (w.alloc (.cells #[.pointer (some t)] 104)) := by kernel_rfl
theorem as_typeT (a : Addr) (w : World) : (ReflectliteValue.methodAny (ReflectliteValue.valueError "reflectlite.Value.Type" 0) vTypeExt #[.agg #[.pointer (some ⟨12, 104, none⟩), .pointer (some a), .int .u64 150]]).run Tryd.prog w
    = .ok (.iface 138 (.agg #[.pointer (some ⟨12, 104, none⟩)])) w := by kernel_rfl
theorem as_methodKind (h : Value) (w : World) : (Go.method 299 138 (.agg #[h]) "Kind").run Tryd.prog w = .ok (115, h) w := by kernel_rfl
theorem as_kindT (w : World) : (ReflectliteType.abiMethod kindExt #[.pointer (some ⟨12, 104, none⟩)]).run Tryd.prog w = .ok (.int .u8 22) w := by kernel_rfl
theorem as_kindF (w : World) : (ReflectliteType.abiMethod kindExt #[.pointer (some ⟨12, 67, none⟩)]).run Tryd.prog w = .ok (.int .u8 22) w := by kernel_rfl
theorem rlm (z : Sem Value) (f : TypeId → Addr → Nat → Nat → Sem Value) (v : Value) :
    ReflectliteValue.method z f #[v] = (do match ← ReflectliteValue.parts v with | none => z | some (t, a, fl) => f t a fl (fl % 32)) := rfl
theorem as_partsT (a : Addr) (w : World) : (ReflectliteValue.parts (.agg #[.pointer (some ⟨12, 104, none⟩), .pointer (some a), .int .u64 150])).run Tryd.prog w = .ok (some (104, a, 150)) w := by kernel_rfl
theorem as_isNilT (a p : Addr) (W : World) (ha : W.cell? a = some (.pointer (some p))) :
    (ReflectliteValue.method (ReflectliteValue.valueError "reflectlite.Value.IsNil" 0) ReflectliteValue.isNil #[.agg #[.pointer (some ⟨12, 104, none⟩), .pointer (some a), .int .u64 150]]).run Tryd.prog W = .ok (.bool false) W := by
  rw [rlm]
  simp only [Sem.run_bind, as_partsT, Result.andThen]
  simp [ReflectliteValue.isNil, loadVar, isAgg, underlying, Tryd.underlying104, ha, Result.andThen]
theorem as_methodElem (h : Value) (w : World) : (Go.method 299 138 (.agg #[h]) "Elem").run Tryd.prog w = .ok (126, .agg #[h]) w := by kernel_rfl
theorem as_methodImplements (h : Value) (w : World) : (Go.method 299 138 (.agg #[h]) "Implements").run Tryd.prog w = .ok (127, .agg #[h]) w := by kernel_rfl
theorem as_methodAssignableTo (h : Value) (w : World) : (Go.method 299 138 (.agg #[h]) "AssignableTo").run Tryd.prog w = .ok (124, .agg #[h]) w := by kernel_rfl
theorem as_elemT (w : World) : (ReflectliteType.method ReflectliteType.elem #[.agg #[.pointer (some ⟨12, 104, none⟩)]]).run Tryd.prog w = .ok (.iface 138 (.agg #[.pointer (some ⟨12, 67, none⟩)])) w := by kernel_rfl
theorem as_implementsF (w : World) : (ReflectliteType.relation "Implements" ReflectliteType.implements_ #[.agg #[.pointer (some ⟨12, 67, none⟩)], .iface 138 (.agg #[.pointer (some ⟨12, 27, none⟩)])]).run Tryd.prog w = .ok (.bool true) w := by kernel_rfl
theorem as_typeOfF (v : Value) (w : World) : (ReflectliteType.typeOf #[.iface 67 v]).run Tryd.prog w = .ok (.iface 138 (.agg #[.pointer (some ⟨12, 67, none⟩)])) w := by kernel_rfl
theorem as_assignF (w : World) : (ReflectliteType.relation "AssignableTo" ReflectliteType.assignableTo #[.agg #[.pointer (some ⟨12, 67, none⟩)], .iface 138 (.agg #[.pointer (some ⟨12, 67, none⟩)])]).run Tryd.prog w = .ok (.bool true) w := by kernel_rfl
theorem as_assignE (w : World) : (ReflectliteType.relation "AssignableTo" ReflectliteType.assignableTo #[.agg #[.pointer (some ⟨12, 160, none⟩)], .iface 138 (.agg #[.pointer (some ⟨12, 67, none⟩)])]).run Tryd.prog w = .ok (.bool false) w := by kernel_rfl
theorem as_valueOfF (e : Addr) (w : World) : (unpackExt #[.iface 67 (.pointer (some e))]).run Tryd.prog w
    = .ok (.agg #[.pointer (some ⟨12, 67, none⟩), .pointer (some ⟨w.heap.size, 0, none⟩), .int .u64 150]) (w.alloc (.cells #[.pointer (some e)] 67)) := by kernel_rfl
theorem as_elemOfT (w : World) : (Rtype.elem? 104).run Tryd.prog w = .ok (some 67) w := by kernel_rfl
theorem as_mkF (p : Addr) (w : World) : (ReflectliteValue.mk 67 p ReflectliteValue.flagAddr).run Tryd.prog w = .ok (.agg #[.pointer (some ⟨12, 67, none⟩), .pointer (some p), .int .u64 406]) w := by kernel_rfl
theorem as_elemVT (a p : Addr) (W : World) (ha : W.cell? a = some (.pointer (some p))) :
    (ReflectliteValue.method (ReflectliteValue.valueError "reflectlite.Value.Elem" 0) ReflectliteValue.elem #[.agg #[.pointer (some ⟨12, 104, none⟩), .pointer (some a), .int .u64 150]]).run Tryd.prog W
      = .ok (.agg #[.pointer (some ⟨12, 67, none⟩), .pointer (some p), .int .u64 406]) W := by
  rw [rlm]
  simp only [Sem.run_bind, as_partsT, Result.andThen]
  simp [ReflectliteValue.elem, loadVar, isAgg, underlying, Tryd.underlying104, ha, Result.andThen, as_elemOfT, as_mkF]
theorem rls (v x : Value) : ReflectliteValue.set #[v, x] = (do
    let (some (dst, a, fl), some (src, b, _)) := (← ReflectliteValue.parts v, ← ReflectliteValue.parts x)
      | unsupported (.noEntry "extern/(internal/reflectlite.Value).Set.zeroValue")
    if fl / ReflectliteValue.flagAddr % 2 == 0 then unsupported (.noEntry "extern/(internal/reflectlite.Value).Set.unaddressable")
    let val ← loadVar src b
    if ← Rtype.directlyAssignable dst src then storeVar dst a val
    else if ← Rtype.implements dst src then
      if (← Rtype.kind src) == 20 then
        match val with
        | .nilIface => unsupported (.noEntry "extern/reflectlite: a nil value of one interface type handed on as a value of another")
        | _ => storeVar dst a val
      else storeVar dst a (.iface src val)
    else panicString ("reflectlite.Set: value of type " ++ (← Rtype.spelt src) ++ " is not assignable to type " ++ (← Rtype.spelt dst))
    pure (.tuple #[])) := rfl
theorem as_partsFa (a : Addr) (w : World) : (ReflectliteValue.parts (.agg #[.pointer (some ⟨12, 67, none⟩), .pointer (some a), .int .u64 406])).run Tryd.prog w = .ok (some (67, a, 406)) w := by kernel_rfl
theorem as_partsF (a : Addr) (w : World) : (ReflectliteValue.parts (.agg #[.pointer (some ⟨12, 67, none⟩), .pointer (some a), .int .u64 150])).run Tryd.prog w = .ok (some (67, a, 150)) w := by kernel_rfl
theorem as_directF (w : World) : (Rtype.directlyAssignable 67 67).run Tryd.prog w = .ok true w := by kernel_rfl
theorem as_setF (ta b e : Addr) (old : Value) (W : World) (hb : W.cell? b = some (.pointer (some e))) (ht : W.cell? ta = some old) (hf : W.frozen? ta = false) :
    (ReflectliteValue.set #[.agg #[.pointer (some ⟨12, 67, none⟩), .pointer (some ta), .int .u64 406], .agg #[.pointer (some ⟨12, 67, none⟩), .pointer (some b), .int .u64 150]]).run Tryd.prog W
      = .ok (.tuple #[]) (W.setCell ta (.pointer (some e))) := by
  rw [rls]
  simp only [Sem.run_bind, as_partsFa, as_partsF, Result.andThen]
  simp [ReflectliteValue.flagAddr, loadVar, isAgg, underlying, Tryd.underlying67, hb, Result.andThen, as_directF, storeVar, Value.cells, storeCells, Addr.add]
  rw [run_store Tryd.prog W ta _ _ (by rfl)]
  simp [ht, hf]

theorem no_as_E (v : Value) (xT : TypeId) (w : World) : (Instr.typeAssert (.iface 160 v) xT 142 true).run Tryd.prog w = .ok (.tuple #[.nilIface, .bool false]) w := run_typeAssert_lacksB Tryd.underlying142 (by kernel_rfl) (by kernel_rfl) v xT w

set_option maxHeartbeats 4000000 in
/-- errors.As at a sentinel: false; what was there is as it was -/
theorem as_sent (e t : Addr) (w : World) (hg : Handle w) :
    Calls Tryd.prog 66 #[.iface 160 (.pointer (some e)), .iface 104 (.pointer (some t))] w fun ev w' => ev = .returned (.bool false) ∧ Below w.heap.size w w' := by
  have h6 := @run_callFunc_extern Tryd.prog 83 _ unpackExt Tryd.func83 (by kernel_rfl) (by kernel_rfl) (by kernel_rfl) (by kernel_rfl)
  have h7 := @run_callFunc_extern Tryd.prog 84 _ (ReflectliteValue.methodAny (ReflectliteValue.valueError "reflectlite.Value.Type" 0) vTypeExt) Tryd.func84 (by kernel_rfl) (by kernel_rfl) (by kernel_rfl) (by kernel_rfl)
  have h8 := @run_callFunc_extern Tryd.prog 85 _ (ReflectliteValue.method (ReflectliteValue.valueError "reflectlite.Value.IsNil" 0) ReflectliteValue.isNil) Tryd.func85 (by kernel_rfl) (by kernel_rfl) (by kernel_rfl) (by kernel_rfl)
  have h27 := @run_callFunc_extern Tryd.prog 115 _ (ReflectliteType.abiMethod kindExt) Tryd.func115 (by kernel_rfl) (by kernel_rfl) (by kernel_rfl) (by kernel_rfl)
  have h37 := @run_callFunc_extern Tryd.prog 126 _ (ReflectliteType.method ReflectliteType.elem) Tryd.func126 (by kernel_rfl) (by kernel_rfl) (by kernel_rfl) (by kernel_rfl)
  have h38 := @run_callFunc_extern Tryd.prog 127 _ (ReflectliteType.relation "Implements" ReflectliteType.implements_) Tryd.func127 (by kernel_rfl) (by kernel_rfl) (by kernel_rfl) (by kernel_rfl)
  have h10 := @run_callFunc_extern Tryd.prog 87 _ ReflectliteType.typeOf Tryd.func87 (by kernel_rfl) (by kernel_rfl) (by kernel_rfl) (by kernel_rfl)
  have h35 := @run_callFunc_extern Tryd.prog 124 _ (ReflectliteType.relation "AssignableTo" ReflectliteType.assignableTo) Tryd.func124 (by kernel_rfl) (by kernel_rfl) (by kernel_rfl) (by kernel_rfl)
  have tO := is_typeOf
  have mA := as_methodAssignableTo
  have aE := as_assignE
  have f6 := as_valueOfT
  have f7 := as_typeT
  have mK := as_methodKind
  have mE := as_methodElem
  have mI := as_methodImplements
  have kT := as_kindT
  have kF := as_kindF
  have eT := as_elemT
  have iF := as_implementsF
  have nA := no_as_E
  have uE := no_unwrap_E
  have vE := no_unwraps_E
  have n8 := as_isNilT ⟨w.heap.size, 0, none⟩ t ((w.alloc (.cells #[.pointer (some t)] 104)).alloc (.cells #[.pointer (some ⟨12, 104, none⟩), .pointer (some ⟨w.heap.size, 0, none⟩), .int .u64 150] 124)) (by simp)
  have hlt : 8 < w.heap.size := World.block_lt_of_cell? w _ hg
  have hg2 : ((w.alloc (.cells #[.pointer (some t)] 104)).alloc (.cells #[.pointer (some ⟨12, 104, none⟩), .pointer (some ⟨w.heap.size, 0, none⟩), .int .u64 150] 124)).cell? ⟨8, 0, none⟩ = some (.iface 138 (.agg #[.pointer (some ⟨12, 27, none⟩)])) := by
    rw [World.cell?_alloc_lt _ _ ⟨8, 0, none⟩ (by simp; omega), World.cell?_alloc_lt _ _ ⟨8, 0, none⟩ hlt]; exact hg
  go_enter Tryd.func66, Tryd.ntmps66
  go_wp2
  refine wp_loop_rounds 1 ?_
  rw [rounds_succ]
  go_wp2
  go_ret
  exact ⟨rfl, below_alloc' (below_alloc' (below_alloc' (Below.refl _ _) _) _) _⟩

set_option maxHeartbeats 4000000 in
/-- errors.As at a fault: true; the target points to it -/
theorem as_fault (e t : Addr) (old : Value) (w : World) (hg : Handle w) (ht0 : w.cell? t = some old) (hf0 : w.frozen? t = false) :
    Calls Tryd.prog 66 #[.iface 67 (.pointer (some e)), .iface 104 (.pointer (some t))] w fun ev w' => ev = .returned (.bool true) ∧ w' = ((((w.alloc (.cells #[.pointer (some t)] 104)).alloc (.cells #[.pointer (some ⟨12, 104, none⟩), .pointer (some ⟨w.heap.size, 0, none⟩), .int .u64 150] 124)).alloc (.cells #[.pointer (some ⟨12, 104, none⟩), .pointer (some ⟨w.heap.size, 0, none⟩), .int .u64 150] 124)).alloc (.cells #[.pointer (some e)] 67)).setCell t (.pointer (some e)) := by
  have h6 := @run_callFunc_extern Tryd.prog 83 _ unpackExt Tryd.func83 (by kernel_rfl) (by kernel_rfl) (by kernel_rfl) (by kernel_rfl)
  have h7 := @run_callFunc_extern Tryd.prog 84 _ (ReflectliteValue.methodAny (ReflectliteValue.valueError "reflectlite.Value.Type" 0) vTypeExt) Tryd.func84 (by kernel_rfl) (by kernel_rfl) (by kernel_rfl) (by kernel_rfl)
  have h8 := @run_callFunc_extern Tryd.prog 85 _ (ReflectliteValue.method (ReflectliteValue.valueError "reflectlite.Value.IsNil" 0) ReflectliteValue.isNil) Tryd.func85 (by kernel_rfl) (by kernel_rfl) (by kernel_rfl) (by kernel_rfl)
  have h27 := @run_callFunc_extern Tryd.prog 115 _ (ReflectliteType.abiMethod kindExt) Tryd.func115 (by kernel_rfl) (by kernel_rfl) (by kernel_rfl) (by kernel_rfl)
  have h37 := @run_callFunc_extern Tryd.prog 126 _ (ReflectliteType.method ReflectliteType.elem) Tryd.func126 (by kernel_rfl) (by kernel_rfl) (by kernel_rfl) (by kernel_rfl)
  have h38 := @run_callFunc_extern Tryd.prog 127 _ (ReflectliteType.relation "Implements" ReflectliteType.implements_) Tryd.func127 (by kernel_rfl) (by kernel_rfl) (by kernel_rfl) (by kernel_rfl)
  have h10 := @run_callFunc_extern Tryd.prog 87 _ ReflectliteType.typeOf Tryd.func87 (by kernel_rfl) (by kernel_rfl) (by kernel_rfl) (by kernel_rfl)
  have h35 := @run_callFunc_extern Tryd.prog 124 _ (ReflectliteType.relation "AssignableTo" ReflectliteType.assignableTo) Tryd.func124 (by kernel_rfl) (by kernel_rfl) (by kernel_rfl) (by kernel_rfl)
  have h11 := @run_callFunc_extern Tryd.prog 93 _ (ReflectliteValue.method (ReflectliteValue.valueError "reflectlite.Value.Elem" 0) ReflectliteValue.elem) Tryd.func93 (by kernel_rfl) (by kernel_rfl) (by kernel_rfl) (by kernel_rfl)
  have h12 := @run_callFunc_extern Tryd.prog 94 _ ReflectliteValue.set Tryd.func94 (by kernel_rfl) (by kernel_rfl) (by kernel_rfl) (by kernel_rfl)
  have tO := as_typeOfF
  have mA := as_methodAssignableTo
  have aE := as_assignF
  have vF := as_valueOfF
  have f6 := as_valueOfT
  have f7 := as_typeT
  have mK := as_methodKind
  have mE := as_methodElem
  have mI := as_methodImplements
  have kT := as_kindT
  have kF := as_kindF
  have eT := as_elemT
  have iF := as_implementsF
  have n8 := as_isNilT ⟨w.heap.size, 0, none⟩ t ((w.alloc (.cells #[.pointer (some t)] 104)).alloc (.cells #[.pointer (some ⟨12, 104, none⟩), .pointer (some ⟨w.heap.size, 0, none⟩), .int .u64 150] 124)) (by simp)
  have hlt : 8 < w.heap.size := World.block_lt_of_cell? w _ hg
  have hg2 : ((w.alloc (.cells #[.pointer (some t)] 104)).alloc (.cells #[.pointer (some ⟨12, 104, none⟩), .pointer (some ⟨w.heap.size, 0, none⟩), .int .u64 150] 124)).cell? ⟨8, 0, none⟩ = some (.iface 138 (.agg #[.pointer (some ⟨12, 27, none⟩)])) := by
    rw [World.cell?_alloc_lt _ _ ⟨8, 0, none⟩ (by simp; omega), World.cell?_alloc_lt _ _ ⟨8, 0, none⟩ hlt]; exact hg
  have htl : t.block < w.heap.size := World.block_lt_of_cell? w _ ht0
  have el := as_elemVT ⟨w.heap.size, 0, none⟩ t (((w.alloc (.cells #[.pointer (some t)] 104)).alloc (.cells #[.pointer (some ⟨12, 104, none⟩), .pointer (some ⟨w.heap.size, 0, none⟩), .int .u64 150] 124)).alloc (.cells #[.pointer (some ⟨12, 104, none⟩), .pointer (some ⟨w.heap.size, 0, none⟩), .int .u64 150] 124)) (by rw [World.cell?_alloc_lt _ _ ⟨w.heap.size, 0, none⟩ (by simp; omega)]; simp)
  have st := as_setF t ⟨w.heap.size + 1 + 1 + 1, 0, none⟩ e old ((((w.alloc (.cells #[.pointer (some t)] 104)).alloc (.cells #[.pointer (some ⟨12, 104, none⟩), .pointer (some ⟨w.heap.size, 0, none⟩), .int .u64 150] 124)).alloc (.cells #[.pointer (some ⟨12, 104, none⟩), .pointer (some ⟨w.heap.size, 0, none⟩), .int .u64 150] 124)).alloc (.cells #[.pointer (some e)] 67))
    (by rw [World.cell?_alloc_at _ _ _ _ (by simp)]; rfl)
    (by rw [World.cell?_alloc_lt _ _ t (by simp; omega), World.cell?_alloc_lt _ _ t (by simp; omega), World.cell?_alloc_lt _ _ t (by simp; omega), World.cell?_alloc_lt _ _ t htl]; exact ht0)
    (by rw [World.frozen?_alloc_old _ _ t (by simp; omega), World.frozen?_alloc_old _ _ t (by simp; omega), World.frozen?_alloc_old _ _ t (by simp; omega), World.frozen?_alloc_old _ _ t (Nat.ne_of_lt htl)]; exact hf0)
  go_enter Tryd.func66, Tryd.ntmps66
  go_wp2
  refine wp_loop_rounds 1 ?_
  rw [rounds_succ]
  go_wp2
  go_ret
  exact ⟨rfl, rfl⟩
end Go.Proofs.YtioekjkfhbopkaaDoor

/- The walks of plain.Code and coded. Condition: the variables read as laid. -/
namespace Go.Proofs.YtioekjkfhbopkaaDoor
open Go.RowKit Go.Deep

def codes : List Nat := [1, 2, 3, 4, 5, 6, 7, 8]
theorem mem_codes {c : Nat} (h1 : 1 ≤ c) (h8 : c ≤ 8) : c ∈ codes := by
  unfold codes
  simp
  omega

theorem code_nil (w : World) : Calls Tryd.prog 39 #[.nilIface] w fun e w' => e = .returned (.tuple #[.int .i64 0, .int .i64 (-1)]) ∧ w = w' := by
  go_enter Tryd.func39, Tryd.ntmps39
  go_wp2
  go_ret2
  exact ⟨rfl, rfl⟩

set_option maxHeartbeats 4000000 in
theorem code_sent (w : World) (a : Nat → Addr) (hS : Sent codes w a) (hH : Handle w) (c : Nat) (h1 : 1 ≤ c) (h8 : c ≤ 8) :
    Calls Tryd.prog 39 #[.iface 160 (.pointer (some (a c)))] w fun e w' => e = .returned (.tuple #[.int .i64 c, .int .i64 (-1)]) ∧ Below w.heap.size w w' := by
  have has := as_sent (a c) ⟨w.heap.size, 0, none⟩ (w.alloc (.cells #[.pointer none] 67)) (hH.below (below_alloc' (Below.refl _ _) _))
  have HAS := hide has
  clear has
  have hn := fun X => run_eql_iface_nil_left (P := Tryd.prog) X 160 (.pointer (some (a c))) Tryd.underlying27
  go_enter Tryd.func39, Tryd.ntmps39
  go_wp2_with
    (go_at_call 66
     refine HAS.out.mono ?_
     rintro e w1 ⟨rfl, hb1⟩
     have hS1 := hS.below (below_trans (below_alloc' (Below.refl _ _) (.cells #[.pointer none] 67)) hb1)
     have e1 := hS1.cell 1 (by decide)
     have e2 := hS1.cell 2 (by decide)
     have e3 := hS1.cell 3 (by decide)
     have e4 := hS1.cell 4 (by decide)
     have e5 := hS1.cell 5 (by decide)
     have e6 := hS1.cell 6 (by decide)
     have e7 := hS1.cell 7 (by decide)
     have e8 := hS1.cell 8 (by decide)
     simp only [glob] at e1 e2 e3 e4 e5 e6 e7 e8)
  clear e1 e2 e3 e4 e5 e6 e7 e8
  have hB0 : Below w.heap.size w w1 := below_trans (below_alloc' (Below.refl _ _) (.cells #[.pointer none] 67)) hb1
  clear hb1
  go_loopw [3, 26] (fun at3 i wr => ∃ k : Nat, k < c ∧ i = .int .i64 k ∧ at3 = .int .i64 (-1) ∧ Below (w1.heap.size + 1) (w1.alloc (.cells #[.iface 160 (.pointer (some (a 1))), .iface 160 (.pointer (some (a 2))), .iface 160 (.pointer (some (a 3))), .iface 160 (.pointer (some (a 4))), .iface 160 (.pointer (some (a 5))), .iface 160 (.pointer (some (a 6))), .iface 160 (.pointer (some (a 7))), .iface 160 (.pointer (some (a 8)))] 27)) wr) (fun _ i _ => 8 - (intOf i).toNat)
  case atStart => exact ⟨0, by omega, rfl, rfl, Below.refl _ _⟩
  case round =>
    obtain ⟨k, hk, rfl, rfl, hB⟩ := hrel
    have hcell : wr.cell? ⟨w1.heap.size, k, none⟩ = some (.iface 160 (.pointer (some (a (k + 1))))) := by
      rw [hB.cell (p := ⟨w1.heap.size, k, none⟩) (by show w1.heap.size < _; omega), World.cell?_alloc_at _ _ _ _ rfl]
      have hk8 : k < 8 := by omega
      clear hk hB
      match k, hk8 with
      | 0, _ => rfl
      | 1, _ => rfl
      | 2, _ => rfl
      | 3, _ => rfl
      | 4, _ => rfl
      | 5, _ => rfl
      | 6, _ => rfl
      | 7, _ => rfl
    have hSr : Sent codes wr a := hS.below (below_trans (below_alloc' hB0 _) (hB.mono (by simp)))
    have his := is_sent wr a hSr c (k + 1) (mem_codes h1 h8) (mem_codes (by omega) (by omega))
    by_cases e : c = k + 1
    · rw [decide_eq_true e] at his
      have HIS := hide his
      clear his
      have HE := hide e
      clear e
      go_wp2_with (go_at_call 67; refine HIS.out.mono ?_; rintro e w2 ⟨rfl, rfl⟩)
      go_ret2
      refine ⟨?_, ?_⟩
      · have := HE.out
        subst this
        rfl
      · exact (below_alloc' hB0 _).trans (hB.mono (by have := hB0.size; omega))
    · rw [decide_eq_false e] at his
      have HIS := hide his
      clear his
      have hk2 : k + 1 < c := by omega
      clear e
      go_wp2_with (go_at_call 67; refine HIS.out.mono ?_; rintro e w2 ⟨rfl, rfl⟩)
      go_roundw
      case rel => exact ⟨k + 1, hk2, by go_num, rfl, hB⟩
      case measure => simp [intOf]; omega

set_option maxHeartbeats 4000000 in
theorem code_fault (w : World) (a : Nat → Addr) (hS : Sent codes w a) (hH : Handle w) (c : Nat) (h1 : 1 ≤ c) (h8 : c ≤ 8) (pb po : Nat) (at_ : Int) (hpb : pb < w.heap.size) (hat : w.cell? ⟨pb, po, none⟩ = some (.int .i64 at_)) (herr : w.cell? ⟨pb, po + 1, none⟩ = some (.iface 160 (.pointer (some (a c))))) :
    Calls Tryd.prog 39 #[.iface 67 (.pointer (some ⟨pb, po, none⟩))] w fun e w' => e = .returned (.tuple #[.int .i64 c, .int .i64 at_]) ∧ Below w.heap.size w w' := by
  have has := as_fault ⟨pb, po, none⟩ ⟨w.heap.size, 0, none⟩ (.pointer none) (w.alloc (.cells #[.pointer none] 67)) (hH.below (below_alloc' (Below.refl _ _) _)) (by simp) (by simp)
  have HAS := hide has
  clear has
  have hn := fun X => run_eql_iface_nil_left (P := Tryd.prog) X 67 (.pointer (some ⟨pb, po, none⟩)) Tryd.underlying27
  go_enter Tryd.func39, Tryd.ntmps39
  go_wp2_with
    (go_at_call 66
     refine HAS.out.mono ?_
     rintro e w1 ⟨rfl, hw1⟩
     have hB0 : Below w.heap.size w w1 := by
       rw [hw1]
       refine Below.setCell ?_ (by simp) _
       exact below_alloc' (below_alloc' (below_alloc' (below_alloc' (below_alloc' (Below.refl _ _) _) _) _) _) _
     have hf1 : w1.cell? ⟨w.heap.size, 0, none⟩ = some (.pointer (some ⟨pb, po, none⟩)) := by
       rw [hw1, World.cell?_setCell_same (u := .pointer none)]
       rw [World.cell?_alloc_lt _ _ ⟨w.heap.size, 0, none⟩ (by simp; omega), World.cell?_alloc_lt _ _ ⟨w.heap.size, 0, none⟩ (by simp; omega), World.cell?_alloc_lt _ _ ⟨w.heap.size, 0, none⟩ (by simp; omega), World.cell?_alloc_lt _ _ ⟨w.heap.size, 0, none⟩ (by simp)]
       simp
     clear hw1
     have hat1 : w1.cell? ⟨pb, po, none⟩ = some (.int .i64 at_) := (hB0.cell (p := ⟨pb, po, none⟩) hpb).trans hat
     have hS1 := hS.below hB0
     have e1 := hS1.cell 1 (by decide)
     have e2 := hS1.cell 2 (by decide)
     have e3 := hS1.cell 3 (by decide)
     have e4 := hS1.cell 4 (by decide)
     have e5 := hS1.cell 5 (by decide)
     have e6 := hS1.cell 6 (by decide)
     have e7 := hS1.cell 7 (by decide)
     have e8 := hS1.cell 8 (by decide)
     simp only [glob] at e1 e2 e3 e4 e5 e6 e7 e8)
  clear e1 e2 e3 e4 e5 e6 e7 e8
  go_loopw [3, 26] (fun at3 i wr => ∃ k : Nat, k < c ∧ i = .int .i64 k ∧ at3 = .int .i64 at_ ∧ Below (w1.heap.size + 1) (w1.alloc (.cells #[.iface 160 (.pointer (some (a 1))), .iface 160 (.pointer (some (a 2))), .iface 160 (.pointer (some (a 3))), .iface 160 (.pointer (some (a 4))), .iface 160 (.pointer (some (a 5))), .iface 160 (.pointer (some (a 6))), .iface 160 (.pointer (some (a 7))), .iface 160 (.pointer (some (a 8)))] 27)) wr) (fun _ i _ => 8 - (intOf i).toNat)
  case atStart => exact ⟨0, by omega, rfl, rfl, Below.refl _ _⟩
  case round =>
    obtain ⟨k, hk, rfl, rfl, hB⟩ := hrel
    have hcell : wr.cell? ⟨w1.heap.size, k, none⟩ = some (.iface 160 (.pointer (some (a (k + 1))))) := by
      rw [hB.cell (p := ⟨w1.heap.size, k, none⟩) (by show w1.heap.size < _; omega), World.cell?_alloc_at _ _ _ _ rfl]
      have hk8 : k < 8 := by omega
      clear hk hB
      match k, hk8 with
      | 0, _ => rfl
      | 1, _ => rfl
      | 2, _ => rfl
      | 3, _ => rfl
      | 4, _ => rfl
      | 5, _ => rfl
      | 6, _ => rfl
      | 7, _ => rfl
    have hSr : Sent codes wr a := hS.below (below_trans (below_alloc' hB0 _) (hB.mono (by simp)))
    have herr1 : wr.cell? ⟨pb, po + 1, none⟩ = some (.iface 160 (.pointer (some (a c)))) := ((below_trans (below_alloc' hB0 _) (hB.mono (by simp))).cell (p := ⟨pb, po + 1, none⟩) hpb).trans herr
    have his := is_fault wr a hSr pb po c (k + 1) (mem_codes h1 h8) (mem_codes (by omega) (by omega)) herr1
    clear herr1
    by_cases e : c = k + 1
    · rw [decide_eq_true e] at his
      have HIS := hide his
      clear his
      have HE := hide e
      clear e
      go_wp2_with (go_at_call 67; refine HIS.out.mono ?_; rintro e w2 ⟨rfl, rfl⟩)
      go_ret2
      refine ⟨?_, ?_⟩
      · have := HE.out
        subst this
        rfl
      · exact (below_alloc' hB0 _).trans (hB.mono (by have := hB0.size; omega))
    · rw [decide_eq_false e] at his
      have HIS := hide his
      clear his
      have hk2 : k + 1 < c := by omega
      clear e
      go_wp2_with (go_at_call 67; refine HIS.out.mono ?_; rintro e w2 ⟨rfl, rfl⟩)
      go_roundw
      case rel => exact ⟨k + 1, hk2, by go_num, rfl, hB⟩
      case measure => simp [intOf]; omega

set_option maxHeartbeats 1000000 in
/-- coded: is the error's code this one? -/
theorem coded_any (w : World) (a : Nat → Addr) (hS : Sent codes w a) (hH : Handle w) (c : Nat) (hc : c ≤ 8) (x : Int) :
    Calls Tryd.prog 18 #[errC a c, .int .i64 x] w fun e w' => e = .returned (.bool (decide ((c : Int) = x))) ∧ Below w.heap.size w w' := by
  by_cases h0 : c = 0
  · subst h0
    have e0 : errC a ((0 : Nat) : Int) = .nilIface := rfl
    rw [e0]
    by_cases hx : x = 0
    · subst hx
      go_enter Tryd.func18, Tryd.ntmps18
      go_wp2_with (go_at_call 39; refine (code_nil _).mono ?_; rintro e w' ⟨rfl, rfl⟩)
      go_ret
      exact ⟨rfl, Below.refl _ _⟩
    · have h1 : (0 == x) = false := by simpa using fun h : 0 = x => hx h.symm
      have h2 : decide (((0 : Nat) : Int) = x) = false := decide_eq_false (fun h => hx h.symm)
      rw [h2]
      clear hx h2
      go_enter Tryd.func18, Tryd.ntmps18
      go_wp2_with (go_at_call 39; refine (code_nil _).mono ?_; rintro e w' ⟨rfl, rfl⟩)
      go_ret
      exact ⟨rfl, Below.refl _ _⟩
  · have e0 : errC a (c : Int) = .iface 160 (.pointer (some (a c))) := by unfold errC; rw [if_neg (by omega)]; rfl
    rw [e0]
    have hcode := code_sent w a hS hH c (by omega) hc
    have HC := hide hcode
    clear hcode e0 h0
    generalize a c = a0 at HC ⊢
    have hcc : ∃ y : Int, y = (c : Int) := ⟨_, rfl⟩
    obtain ⟨y, hy⟩ := hcc
    rw [← hy] at HC ⊢
    clear hy hc
    by_cases hx : y = x
    · subst hx
      rw [decide_eq_true rfl]
      go_enter Tryd.func18, Tryd.ntmps18
      go_wp2_with (go_at_call 39; refine HC.out.mono ?_; rintro e w' ⟨rfl, hb⟩)
      go_ret
      exact ⟨rfl, hb⟩
    · have h1 : (y == x) = false := by simpa using hx
      rw [decide_eq_false hx]
      clear hx
      go_enter Tryd.func18, Tryd.ntmps18
      go_wp2_with (go_at_call 39; refine HC.out.mono ?_; rintro e w' ⟨rfl, hb⟩)
      go_ret
      exact ⟨rfl, hb⟩
end Go.Proofs.YtioekjkfhbopkaaDoor

/- The walk of sample.Draw. Condition: the variables read as laid. -/
namespace Go.Proofs.YtioekjkfhbopkaaDoor
open Go.RowKit Go.Deep Go.Proofs.YtioekjkfhbopkaaDoorW.PrintWords

/-- the row of a depth -/
theorem level_at {W : List Int} (d : Nat) (hd : d ≤ dep W) : (levels W).getD d [] = (leafs (parts W) (dep W) d).map fun (j : Nat) => (j : Int) := by
  unfold levels
  rw [List.getD_eq_getElem?_getD, List.getElem?_map, List.getElem?_range (by omega)]
  simp only [Option.map_some, Option.getD_some]
  rw [← leafTo_all, parts_len]
theorem levels_len (W : List Int) : (levels W).length = dep W + 1 := by simp [levels]
theorem drawB_leaf {l : List Nat} {D v d u : Nat} {bs : List Nat} (h1 : v < (leafs l D d).length) (h2 : (leafs l D d).getD v 0 + 1 < l.length) : drawB l D bs v d u = some ((leafs l D d).getD v 0, u) := by
  cases bs with
  | nil => rw [drawB, if_pos ⟨h1, h2⟩]
  | cons b r => rw [drawB, if_pos h1, if_pos h2]
theorem drawB_end {l : List Nat} {D v d u : Nat} (h : ¬ (v < (leafs l D d).length ∧ (leafs l D d).getD v 0 + 1 < l.length)) : drawB l D [] v d u = none := by
  rw [drawB, if_neg h]
theorem drawB_again {l : List Nat} {D v d u b : Nat} {r : List Nat} (h1 : v < (leafs l D d).length) (h2 : ¬ (leafs l D d).getD v 0 + 1 < l.length) : drawB l D (b :: r) v d u = drawB l D r b 1 (u + 1) := by
  rw [drawB, if_pos h1, if_neg h2]
theorem drawB_next {l : List Nat} {D v d u b : Nat} {r : List Nat} (h1 : ¬ v < (leafs l D d).length) : drawB l D (b :: r) v d u = drawB l D r (2 * (v - (leafs l D d).length) + b) (d + 1) (u + 1) := by
  rw [drawB, if_neg h1]
theorem errC_pos' (a : Nat → Addr) {c : Int} (h : c ≠ 0) : errC a c = .iface 160 (.pointer (some (a c.toNat))) := by unfold errC; rw [if_neg h]; rfl
/-- what Draw answers: which, how many bits, the code -/
def drawRes (W : List Int) (s : ByteArray) : Int × Int × Nat :=
  if wErr W ≠ 0 then (0, 0, (wErr W).toNat) else if 4000 < s.size then (0, 0, 2) else if isBits s = false then (0, 0, 1) else match drawB (parts W) (dep W) (bitsOf s) 0 0 0 with
    | some (k, n) => ((k : Int), (n : Int), 0)
    | none => (0, 0, 6)
/-- what Draw hands back -/
def RetDraw (a : Nat → Addr) (r : Int × Int × Nat) (w : World) (e : Ending) (w' : World) : Prop :=
  e = .returned (.tuple #[.int .i64 r.1, .int .i64 r.2.1, errC a r.2.2]) ∧ Below w.heap.size w w'

set_option maxRecDepth 100000 in
set_option maxHeartbeats 4000000 in
theorem draw_good (A : Option Addr) (W : List Int) (c : Nat) (s : ByteArray) (w : World) (a : Nat → Addr) (hE : Env [2, 3] w a) (hE6 : Env [6] w a) (hA : Ints w A W) (hc : W.length ≤ c) (h0 : wErr W = 0) (hs : s.size ≤ 4000) (hb : isBits s = true) :
    Calls Tryd.prog 17 #[.slice A W.length c, .string s] w fun e w' => RetDraw a (match drawB (parts W) (dep W) (bitsOf s) 0 0 0 with | some (k, n) => ((k : Int), (n : Int), 0) | none => (0, 0, 6)) w e w' := by
  have hg := good_of h0
  have HBITS := hide ((isBits_iff s).1 hb)
  have HISB := hide hb
  have hv := distValid_any A W c w a hE hA
  rw [h0, errC_zero] at hv
  have HV := hide hv
  have HT := hide (fun w' => trim_ok s w' (by omega))
  have hl := fun w' (h : Below w.heap.size w w') => leaves_ok A W c w' (hA.below h) hc hg
  obtain ⟨N1, hN1⟩ : ∃ N1, (levels W).length = N1 := ⟨_, rfl⟩
  rw [hN1] at hl
  have HL := hide hl
  have hN2 : N1 = dep W + 1 := by rw [← hN1, levels_len]
  have hdep := (dep_le hg).2.2
  have hln := hg.len
  have HEN := hide (fun w' (h : Below w.heap.size w w') => (show w'.cell? ⟨3, 0, none⟩ = some (.iface 160 (.pointer (some (a 6)))) from (hE6.below h).cell 6 (by decide)))
  have hnd : 0 < nodesAt (parts W) (dep W) 0 := by rw [nodesAt]; omega
  have hs1 : (s.size : Int) ≤ 4000 := by omega
  clear hv hl h0 hE hE6
  obtain ⟨res, hres⟩ : ∃ res, drawB (parts W) (dep W) (bitsOf s) 0 0 0 = res := ⟨_, rfl⟩
  rw [hres]
  have hres' : drawB (parts W) (dep W) ((bitsOf s).drop 0) 0 0 0 = res := by rw [List.drop_zero]; exact hres
  have HRES := hide hres'
  clear hres hres'
  have hnb : ∀ u, u < s.size → ∃ bb : Nat, bb ≤ 1 ∧ ∃ hlt : u < s.size, ((s[u]'hlt).toNat : Int) = 48 + (bb : Int) ∧ (bitsOf s).drop u = bb :: (bitsOf s).drop (u + 1) := fun u hu => by
    have h1 := HBITS.out u hu
    have h2 := bt_at s (u : Int) (by simpa using hu)
    have h3 := bitsOf_drop s u hu
    have h4 : ((s[u]'hu).toNat : Int) = bt s (u : Int) := h2
    rcases h1 with e | e
    · exact ⟨0, by decide, hu, by rw [h4, e]; rfl, by rw [h3, if_neg (by rw [e]; decide)]⟩
    · exact ⟨1, by decide, hu, by rw [h4, e]; rfl, by rw [h3, if_pos e]⟩
  have HNB := hide hnb
  clear hnb
  have HLV := hide (fun d hd => level_at (W := W) d hd)
  have HLL := hide hN1
  have HN1 := hide hN2
  have HNO := hide (fun d hd => nodes_le' hg d hd)
  have HAN := hide (fun (d v : Nat) h1 h2 => again_nodes (d := d) (v := v) hg h1 h2)
  have HN2 := hide (fun (d v b : Nat) hd hv h1 h2 => next_node (v := v) (d := d) (b := b) (parts_sum hg) hd hv h1 h2)
  have HPL := hide (parts_len W)
  clear hg hb hN1 hN2
  generalize dep W = D at *
  generalize parts W = P at *
  generalize levels W = LV at *
  go_enter Tryd.func17, Tryd.ntmps17
  go_wp2_with (first
    | (go_at_call 36; refine Calls.mono HV.out ?_; rintro e w1 ⟨rfl, hB1⟩)
    | (go_at_call 37; refine Calls.mono (HT.out w1) ?_; rintro e w2 ⟨t, rfl, ht, b2⟩; have ht2 := ht.2 HISB.out; clear ht; subst ht2; have hB2 := below_trans hB1 b2)
    | (go_at_call 38; refine Calls.mono (HL.out _ hB2) ?_; rintro e w3 ⟨B, dB, rfl, hLI, hdB, b3⟩; have hB3 := below_trans hB2 b3))
  have HLI := hide hLI
  clear hLI HV HT HL
  go_loopw [5, 9, 10] (fun uv vv dv wr => ∃ u v d : Nat, uv = .int .i64 u ∧ vv = .int .i64 v ∧ dv = .int .i64 d ∧ u ≤ s.size ∧ d ≤ D ∧ v < nodesAt (P) (D) d ∧ Hid (drawB (P) (D) ((bitsOf s).drop u) v d u = res) ∧ Below w3.heap.size w3 wr) (fun uv _ _ _ => s.size - (intOf uv).toNat)
  case atStart => exact ⟨0, 0, 0, rfl, rfl, rfl, Nat.zero_le _, Nat.zero_le _, hnd, HRES, Below.refl _ _⟩
  case round =>
    obtain ⟨u, v, d, rfl, rfl, rfl, hu, hd, hv, HR, hBk⟩ := hrel
    obtain ⟨wi, rfl⟩ : ∃ wi : World, wi = wr := ⟨_, rfl⟩
    have u0 : (0 : Int) ≤ (u : Int) := Int.natCast_nonneg _
    have v0 : (0 : Int) ≤ (v : Int) := Int.natCast_nonneg _
    have d0 : (0 : Int) ≤ (d : Int) := Int.natCast_nonneg _
    have d1 : (d : Int) < (N1 : Int) := by rw [HN1.out]; omega
    have hv4 := HNO.out d hd
    obtain ⟨b, off, A1, cc, rfl, hbl, hcell, hcc, hrow⟩ := (HLI.out.below hBk).at_ d (by rw [HLL.out, HN1.out]; omega)
    rw [HLV.out d hd] at hcell hcc hrow
    have hag := HAN.out d v
    have hnx := fun b => HN2.out d v b hd hv
    have k6 := HEN.out wi (below_trans hB3 hBk)
    obtain ⟨L, hL⟩ : ∃ L, leafs (P) (D) d = L := ⟨_, rfl⟩
    have hle1 : ∀ h1 h2, drawB (P) (D) ((bitsOf s).drop u) v d u = some (L.getD v 0, u) := fun h1 h2 => by
      have := drawB_leaf (l := P) (D := D) (v := v) (d := d) (u := u) (bs := (bitsOf s).drop u) h1 h2
      rw [hL] at this
      exact this
    have hen1 := fun h => drawB_end (l := P) (D := D) (v := v) (d := d) (u := u) h
    have hag1 := fun (b : Nat) (r : List Nat) h1 h2 => drawB_again (l := P) (D := D) (v := v) (d := d) (u := u) (b := b) (r := r) h1 h2
    have hnx1 := fun (b : Nat) (r : List Nat) h1 => drawB_next (l := P) (D := D) (v := v) (d := d) (u := u) (b := b) (r := r) h1
    rw [hL] at hcell hcc hrow hag hnx hen1 hag1 hnx1
    simp only [hL] at hle1
    have hml : (L.map fun (j : Nat) => (j : Int)).length = L.length := by rw [List.length_map]
    rw [hml] at hcell hcc
    have HROW := hide hrow
    have HLE := hide hle1
    have HEND := hide hen1
    have HAG := hide hag1
    have HNX := hide hnx1
    have HNN := hide hnx
    have HAA := hide hag
    have HML := hide hml
    clear hrow hle1 hen1 hag1 hnx1 hnx hag hml hL
    have hv5 : v ≤ 4096 := by omega
    clear hv hnd HAN HN2 HLV HLL HLI HNO hbl
    by_cases c1 : v < L.length
    · obtain ⟨b2, off2, rfl, _, hk⟩ := HROW.out.at_ v (by rw [HML.out]; exact c1)
      have e1 : (L.map fun (j : Nat) => (j : Int)).getD v 0 = ((L.getD v 0 : Nat) : Int) := by simp [List.getD_eq_getElem?_getD, c1]
      rw [e1] at hk
      clear e1 HROW
      obtain ⟨kk, hkk⟩ : ∃ kk, L.getD v 0 = kk := ⟨_, rfl⟩
      rw [hkk] at hk
      have c1' : (v : Int) < (L.length : Int) := by omega
      by_cases c2 : kk < W.length
      · have hres : some (kk, u) = res := by rw [← HR.out, ← hkk]; exact (HLE.out c1 (by rw [hkk, HPL.out]; omega)).symm
        have c2' : (kk : Int) < (W.length : Int) := by omega
        clear hkk
        subst hres
        go_wp2_with (fail)
        go_ret3
        exact ⟨rfl, below_trans hB3 hBk⟩
      · have c2' : ¬ (kk : Int) < (W.length : Int) := by omega
        have hnl : ¬ L.getD v 0 + 1 < (P).length := by rw [hkk, HPL.out]; omega
        obtain ⟨D1, n1, _⟩ := HAA.out c1 hnl
        have HNL := hide hnl
        clear hnl hkk
        by_cases c3 : u = s.size
        · have hres : none = res := by
            rw [← HR.out, List.drop_eq_nil_of_le (by rw [bitsOf_len]; omega)]
            exact (HEND.out (fun q => HNL.out q.2)).symm
          subst hres
          subst c3
          go_wp2_with (fail)
          go_region
          go_wp2_with (fail)
          go_ret3
          exact ⟨rfl, (below_trans hB3 hBk).drew⟩
        · obtain ⟨bb, hb1, hlt, hsu, hdr⟩ := HNB.out u (by omega)
          have u1 : (u : Int) < (s.size : Int) := by omega
          have c3' : ((u : Int) == (s.size : Int)) = false := by rw [beq_eq_false_iff_ne]; omega
          have hnew : drawB P D ((bitsOf s).drop (u + 1)) bb 1 (u + 1) = res := by
            rw [← HR.out, hdr]
            exact (HAG.out bb ((bitsOf s).drop (u + 1)) c1 HNL.out).symm
          have HNEW := hide hnew
          clear hnew hdr
          go_wp2_with (fail)
          go_roundw
          case rel => exact ⟨u + 1, bb, 1, by go_num, by rw [show (48 : Int) + (bb : Int) - 48 = (bb : Int) by omega], rfl, by omega, D1, by rw [n1]; omega, HNEW.out, hBk⟩
          case measure => simp [intOf]; omega
    · have c1' : ¬ (v : Int) < (L.length : Int) := by omega
      have c1'' : (L.length : Int) ≤ (v : Int) := by omega
      by_cases c3 : u = s.size
      · have hres : none = res := by
          rw [← HR.out, List.drop_eq_nil_of_le (by rw [bitsOf_len]; omega)]
          exact (HEND.out (fun q => c1 q.1)).symm
        subst hres
        subst c3
        go_wp2_with (fail)
        go_region
        go_wp2_with (fail)
        go_ret3
        exact ⟨rfl, (below_trans hB3 hBk).drew⟩
      · obtain ⟨bb, hb1, hlt, hsu, hdr⟩ := HNB.out u (by omega)
        have u1 : (u : Int) < (s.size : Int) := by omega
        have c3' : ((u : Int) == (s.size : Int)) = false := by rw [beq_eq_false_iff_ne]; omega
        obtain ⟨g1, g2⟩ := HNN.out bb c1 hb1
        have hnew : drawB P D ((bitsOf s).drop (u + 1)) (2 * (v - L.length) + bb) (d + 1) (u + 1) = res := by
          rw [← HR.out, hdr]
          exact (HNX.out bb ((bitsOf s).drop (u + 1)) c1).symm
        have HNEW := hide hnew
        have G2 := hide g2
        clear hnew hdr g2
        go_wp2_with (fail)
        go_roundw
        case rel => exact ⟨u + 1, 2 * (v - L.length) + bb, d + 1, by go_num, by congr 1; omega, by go_num, by omega, by omega, G2.out, HNEW.out, hBk⟩
        case measure => simp [intOf]; omega

theorem trim_no (s : ByteArray) (w : World) (hs : s.size ≤ 9223372036854775807) (hb : isBits s = false) :
    Calls Tryd.prog 37 #[.string s, .string ⟨#[48, 49]⟩] w fun e w' => ∃ t : ByteArray, e = .returned (.string t) ∧ t.toList.isEmpty = false ∧ Below w.heap.size w w' := by
  refine (trim_ok s w hs).mono ?_
  rintro e w' ⟨t, rfl, ht, hb2⟩
  refine ⟨t, rfl, ?_, hb2⟩
  cases h : t.toList.isEmpty with
  | false => rfl
  | true =>
    rw [Lib.toList_data, List.isEmpty_iff] at h
    have q : t = ⟨#[]⟩ := by
      have e : t.data = #[] := by
        apply Array.toList_inj.1
        rw [h]
      cases t
      cases e
      rfl
    have := ht.1 q
    rw [hb] at this
    cases this
/-- the errors that the sample functions may give -/
def codesD : List Nat := [1, 2, 3, 6, 7]
set_option maxHeartbeats 2000000 in
theorem draw_anyD (A : Option Addr) (W : List Int) (c : Nat) (s : ByteArray) (w : World) (a : Nat → Addr) (hE : Env codesD w a) (hA : Ints w A W) (hc : W.length ≤ c) (hs : s.size ≤ 9223372036854775807) :
    Calls Tryd.prog 17 #[.slice A W.length c, .string s] w fun e w' => RetDraw a (drawRes W s) w e w' := by
  have hE23 : Env [2, 3] w a := hE.sub (fun c h => by simp at h; rcases h with rfl | rfl <;> simp [codesD])
  have hE6 : Env [6] w a := hE.sub (fun c h => by simp at h; subst h; simp [codesD])
  unfold drawRes
  have hv := distValid_any A W c w a hE23 hA
  by_cases h0 : wErr W = 0
  · rw [if_neg (by simp [h0])]
    rw [h0, errC_zero] at hv
    by_cases h1 : 4000 < s.size
    · rw [if_pos h1]
      have HV := hide hv
      have HEN := hide (fun w' (h : Below w.heap.size w w') => (show w'.cell? ⟨0, 0, none⟩ = some (.iface 160 (.pointer (some (a 2)))) from (hE.below h).cell 2 (by decide)))
      have h1' : (4000 : Int) < (s.size : Int) := by omega
      clear hv h0 hE hE23 hE6
      go_enter Tryd.func17, Tryd.ntmps17
      go_wp2_with (go_at_call 36; refine Calls.mono HV.out ?_; rintro e w1 ⟨rfl, hB1⟩; have k2 := HEN.out w1 hB1)
      go_region
      go_wp2_with (fail)
      go_ret3
      exact ⟨rfl, hB1.drew⟩
    · rw [if_neg h1]
      cases hb : isBits s with
      | false =>
        rw [if_pos rfl]
        have HV := hide hv
        have HT := hide (fun w' => trim_no s w' (by omega) hb)
        have HEN := hide (fun w' (h : Below w.heap.size w w') => (show w'.cell? ⟨2, 0, none⟩ = some (.iface 160 (.pointer (some (a 1)))) from (hE.below h).cell 1 (by decide)))
        have h1' : (s.size : Int) ≤ 4000 := by omega
        clear hv h0 hE hE23 hE6 hb
        go_enter Tryd.func17, Tryd.ntmps17
        go_wp2_with (first
          | (go_at_call 36; refine Calls.mono HV.out ?_; rintro e w1 ⟨rfl, hB1⟩)
          | (go_at_call 37; refine Calls.mono (HT.out w1) ?_; rintro e w2 ⟨t, rfl, ht, b2⟩; have hB2 := below_trans hB1 b2; have k1 := HEN.out w2 hB2))
        go_region
        go_wp2_with (fail)
        go_ret3
        exact ⟨rfl, hB2.drew⟩
      | true =>
        rw [if_neg (by decide)]
        exact draw_good A W c s w a hE23 hE6 hA hc h0 (by omega) hb
  · rw [if_pos h0]
    rw [errC_pos' a h0] at hv
    have he : errC a (((wErr W).toNat : Nat) : Int) = .iface 160 (.pointer (some (a (wErr W).toNat))) := by
      obtain ⟨q, hq, _⟩ := wErr_nat W
      rw [hq] at h0 ⊢
      exact errC_pos' a h0
    have HE := hide he
    have HV := hide hv
    clear hv h0 he hE hE23 hE6
    generalize a (wErr W).toNat = x at HV HE
    go_enter Tryd.func17, Tryd.ntmps17
    go_wp2_with (go_at_call 36; refine Calls.mono HV.out ?_; rintro e w1 ⟨rfl, hB1⟩)
    go_ret3
    exact ⟨by rw [HE.out]; rfl, hB1⟩
theorem codesD_sub {c : Nat} (h : c ∈ codesD) : c ∈ codes := by
  unfold codesD at h
  simp at h
  rcases h with rfl | rfl | rfl | rfl | rfl <;> simp [codes]
theorem draw_any (A : Option Addr) (W : List Int) (c : Nat) (s : ByteArray) (w : World) (a : Nat → Addr) (hE : Env codes w a) (hA : Ints w A W) (hc : W.length ≤ c) (hs : s.size ≤ 9223372036854775807) :
    Calls Tryd.prog 17 #[.slice A W.length c, .string s] w fun e w' => RetDraw a (drawRes W s) w e w' := draw_anyD A W c s w a (hE.sub (fun c h => codesD_sub h)) hA hc hs
end Go.Proofs.YtioekjkfhbopkaaDoor

/- The walks of third and of the law SampleDraw. Condition: the variables read as laid. -/
namespace Go.Proofs.YtioekjkfhbopkaaDoor
open Go.RowKit Go.Deep Go.Proofs.YtioekjkfhbopkaaDoorW.PrintWords

theorem third_fact : drawRes [1, 1, 1] ⟨#[49, 49, 49, 48]⟩ = (2, 4, 0) := by decide +kernel
theorem third_anyD (w : World) (a : Nat → Addr) (hE : Env codesD w a) :
    Calls Tryd.prog 9 #[] w fun e w' => e = .returned (.bool true) ∧ Below w.heap.size w w' := by
  have hI := Ints.lit w [1, 1, 1] 3 (by decide)
  have hB : Below w.heap.size w (w.alloc (.cells #[.int .i64 1, .int .i64 1, .int .i64 1] 3)) := below_alloc' (Below.refl _ _) _
  have hd := draw_anyD (some ⟨w.heap.size, 0, none⟩) [1, 1, 1] 3 ⟨#[49, 49, 49, 48]⟩ (w.alloc (.cells #[.int .i64 1, .int .i64 1, .int .i64 1] 3)) a (hE.below hB) (by simpa [intCells] using hI) (by decide) (by decide)
  rw [third_fact] at hd
  have hd2 : Calls Tryd.prog 17 #[.slice (some ⟨w.heap.size, 0, none⟩) 3 3, .string ⟨#[49, 49, 49, 48]⟩] (w.alloc (.cells #[.int .i64 1, .int .i64 1, .int .i64 1] 3)) fun e w' => e = .returned (.tuple #[.int .i64 2, .int .i64 4, .nilIface]) ∧ Below (w.alloc (.cells #[.int .i64 1, .int .i64 1, .int .i64 1] 3)).heap.size (w.alloc (.cells #[.int .i64 1, .int .i64 1, .int .i64 1] 3)) w' := hd
  have HD := hide hd2
  clear hd2
  have HB := hide hB
  clear hd hB hI
  go_enter Tryd.func9, Tryd.ntmps9
  go_wp2_with (go_at_call 17; refine Calls.mono HD.out ?_; rintro e w4 ⟨rfl, hb4⟩)
  go_ret
  exact ⟨rfl, below_trans HB.out hb4⟩
theorem third_any (w : World) (a : Nat → Addr) (hE : Env codes w a) :
    Calls Tryd.prog 9 #[] w fun e w' => e = .returned (.bool true) ∧ Below w.heap.size w w' := third_anyD w a (hE.sub (fun c h => codesD_sub h))
theorem weightsError_ok (A : Option Addr) (l : List Int) (c : Nat) (w : World) (hA : Ints w A l) (hc : l.length ≤ c) (hl : l.length ≤ 2000000) :
    Calls Tryd.prog 14 #[.slice A l.length c] w fun e w' => e = .returned (.int .i64 (wErr l)) ∧ Below w.heap.size w w' := by
  refine (PSampleDraw.demonref1_WeightsError.calls _ A c l (wErr l) w hA.toC hc (weightsError_f l hl)).mono ?_
  rintro e w' ⟨rfl, h⟩
  exact ⟨rfl, drawn_below h⟩
theorem bits_ok (s : ByteArray) (w : World) (hs : s.size ≤ 2000000) :
    Calls Tryd.prog 15 #[.string s] w fun e w' => e = .returned (.bool (isBits s)) ∧ Below w.heap.size w w' := by
  refine (PSampleDraw.demonref1_Bits.calls _ s (isBits s) w (bits_f s hs)).mono ?_
  rintro e w' ⟨rfl, h⟩
  exact ⟨rfl, drawn_below h⟩
theorem drawOf_ok (A : Option Addr) (W : List Int) (c : Nat) (s : ByteArray) (w : World) (hA : Ints w A W) (hc : W.length ≤ c) (hg : GoodW W) (hs : s.size ≤ 2000000) (hb : isBits s = true) :
    Calls Tryd.prog 16 #[.slice A W.length c, .string s] w fun e w' => e = .returned (.tuple #[.int .i64 (drawn (drawB (parts W) (dep W) (bitsOf s) 0 0 0)).1, .int .i64 (drawn (drawB (parts W) (dep W) (bitsOf s) 0 0 0)).2.1, .bool (drawn (drawB (parts W) (dep W) (bitsOf s) 0 0 0)).2.2]) ∧ Below w.heap.size w w' := by
  obtain ⟨k, hk⟩ := (drawOf_f hg s hs hb).rounds
  exact PSampleDraw.demonref4_DrawOf.calls k A c W s _ _ _ w hA.toC hc hk
theorem ints_ok (A : Option Addr) (l : List Int) (c : Nat) (w : World) (hA : Ints w A l) (hc : l.length ≤ c) (hl : l.length ≤ 2000000) :
    Calls Tryd.prog 13 #[.slice A l.length c] w fun e w' => RetInts l w e w' := by
  refine (PSampleDraw.demonlaw4_ints.calls A c l l w hA.toC hc (by unfold PSampleDraw.demonlaw4_ints.f; simp; omega)).mono ?_
  rintro e w' ⟨v, rfl, hR, hb⟩
  obtain ⟨B, d, rfl, hI, hd⟩ := Ints.ofR hR
  exact ⟨B, d, rfl, hI, hd, hb⟩

set_option maxRecDepth 100000 in
set_option maxHeartbeats 4000000 in
theorem law_draw_weights (A : Option Addr) (W : List Int) (c : Nat) (s : ByteArray) (w : World) (a : Nat → Addr) (hS : Sent codes w a) (hH : Handle w) (hA : Ints w A W) (hc : W.length ≤ c) (hs : s.size ≤ 9223372036854775807) (hl1 : ¬ 400 < (W.length : Int)) (hl2 : ¬ (300 < (s.size : Int) ∧ (s.size : Int) ≤ 4000)) (h0 : wErr W ≠ 0) :
    Calls Tryd.prog 4 #[.slice A W.length c, .string s] w fun e w' => e = .returned (.bool true) ∧ Below w.heap.size w w' := by
  have hlen := hA.len
  have HTH := hide (third_any w a (hS.toEnv))
  have hwe := fun w' (hb : Below w.heap.size w w') => weightsError_ok A W c w' (hA.below hb) hc (by omega)
  have HIN := hide (fun w' (hb : Below w.heap.size w w') => ints_ok A W c w' (hA.below hb) hc (by omega))
  have hdr := fun (A' : Option Addr) (x : Nat) w' (hb : Below w.heap.size w w') (h1 : Ints w' A' W) (hx : W.length ≤ x) => draw_any A' W x s w' a (hS.toEnv.below hb) h1 hx (by omega)
  have hres : drawRes W s = (0, 0, (wErr W).toNat) := by unfold drawRes; rw [if_pos h0]
  obtain ⟨cc, hc', hc8⟩ := wErr_nat W
  rw [hres, hc'] at hdr
  rw [hc'] at hwe h0
  have hci : ¬ (cc : Int) = 0 := h0
  have hcn : ((cc : Int) == 0) = false := by rw [beq_eq_false_iff_ne]; exact h0
  have hcd := fun w' (hb : Below w.heap.size w w') => coded_any w' a (hS.below hb) (hH.below hb) cc hc8 cc
  rw [decide_eq_true rfl] at hcd
  simp only [Int.toNat_natCast] at hdr
  unfold RetDraw at hdr
  rw [errC_pos' a h0] at hdr hcd
  have HCD := hide hcd
  have HDR := hide hdr
  have HWE := hide hwe
  clear hcd hdr hwe hres hc' h0 hci
  have hsz : decide (300 < (s.size : Int)) = false ∨ (300 < (s.size : Int) ∧ decide ((s.size : Int) ≤ 4000) = false) := by
    by_cases h : 300 < (s.size : Int)
    · exact .inr ⟨h, decide_eq_false (fun h' => hl2 ⟨h, h'⟩)⟩
    · exact .inl (decide_eq_false h)
  clear hl2
  rcases hsz with q1 | ⟨q1, q2⟩
  all_goals
    go_enter Tryd.func4, Tryd.ntmps4
    go_wp2_with (first
      | (go_at_call 9; refine Calls.mono HTH.out ?_; rintro e w1 ⟨rfl, hB1⟩)
      | (go_at_call 14; refine Calls.mono (HWE.out _ (by assumption)) ?_; rintro e w2 ⟨rfl, b2⟩; have hB2 : Below w.heap.size w w2 := below_trans (by assumption) b2)
      | (go_at_call 15; refine Calls.mono (HBI.out _) ?_; rintro e w3 ⟨rfl, b3⟩; have hB3 : Below w.heap.size w w3 := below_trans (by assumption) b3)
      | (go_at_call 16; refine Calls.mono (HDO.out _ (by assumption)) ?_; rintro e w31 ⟨rfl, b31⟩; have hB31 : Below w.heap.size w w31 := below_trans (by assumption) b31)
      | (go_at_call 13; refine Calls.mono (HIN.out _ (by assumption)) ?_; rintro e w4 ⟨A4, c4, rfl, hI4, hc4, b4⟩; have hB4 : Below w.heap.size w w4 := below_trans (by assumption) b4)
      | (go_at_call 17; refine Calls.mono (HDR.out A4 c4 _ (by assumption) hI4 hc4) ?_; rintro e w5 ⟨rfl, b5⟩; have hB5 : Below w.heap.size w w5 := below_trans (by assumption) b5)
      | (go_at_call 18; refine Calls.mono (HCD.out _ (by assumption)) ?_; rintro e w6 ⟨rfl, b6⟩; have hB6 : Below w.heap.size w w6 := below_trans (by assumption) b6))
    go_ret
    exact ⟨by simp, hB6⟩
set_option maxRecDepth 100000 in
set_option maxHeartbeats 4000000 in
theorem law_draw_long (A : Option Addr) (W : List Int) (c : Nat) (s : ByteArray) (w : World) (a : Nat → Addr) (hS : Sent codes w a) (hH : Handle w) (hA : Ints w A W) (hc : W.length ≤ c) (hs : s.size ≤ 9223372036854775807) (hl1 : ¬ 400 < (W.length : Int)) (h0 : wErr W = 0) (h4 : (4000 : Int) < s.size) :
    Calls Tryd.prog 4 #[.slice A W.length c, .string s] w fun e w' => e = .returned (.bool true) ∧ Below w.heap.size w w' := by
  have hlen := hA.len
  have HTH := hide (third_any w a (hS.toEnv))
  have hwe := fun w' (hb : Below w.heap.size w w') => weightsError_ok A W c w' (hA.below hb) hc (by omega)
  have HIN := hide (fun w' (hb : Below w.heap.size w w') => ints_ok A W c w' (hA.below hb) hc (by omega))
  have hdr := fun (A' : Option Addr) (x : Nat) w' (hb : Below w.heap.size w w') (h1 : Ints w' A' W) (hx : W.length ≤ x) => draw_any A' W x s w' a (hS.toEnv.below hb) h1 hx (by omega)
  have hres : drawRes W s = (0, 0, 2) := by unfold drawRes; rw [if_neg (by simp [h0]), if_pos (by omega)]
  rw [hres] at hdr
  rw [h0] at hwe
  have hcd := fun w' (hb : Below w.heap.size w w') => coded_any w' a (hS.below hb) (hH.below hb) 2 (by decide) 2
  rw [show decide (((2 : Nat) : Int) = 2) = true from rfl, show errC a ((2 : Nat) : Int) = .iface 160 (.pointer (some (a 2))) from rfl] at hcd
  unfold RetDraw at hdr
  have HCD := hide hcd
  have HDR := hide hdr
  have HWE := hide hwe
  have h3 : (300 : Int) < s.size := by omega
  have h5 : decide ((s.size : Int) ≤ 4000) = false := decide_eq_false (by omega)
  clear hcd hdr hwe hres h0
  go_enter Tryd.func4, Tryd.ntmps4
  go_wp2_with (first
    | (go_at_call 9; refine Calls.mono HTH.out ?_; rintro e w1 ⟨rfl, hB1⟩)
    | (go_at_call 14; refine Calls.mono (HWE.out _ (by assumption)) ?_; rintro e w2 ⟨rfl, b2⟩; have hB2 : Below w.heap.size w w2 := below_trans (by assumption) b2)
    | (go_at_call 15; refine Calls.mono (HBI.out _) ?_; rintro e w3 ⟨rfl, b3⟩; have hB3 : Below w.heap.size w w3 := below_trans (by assumption) b3)
    | (go_at_call 16; refine Calls.mono (HDO.out _ (by assumption)) ?_; rintro e w31 ⟨rfl, b31⟩; have hB31 : Below w.heap.size w w31 := below_trans (by assumption) b31)
    | (go_at_call 13; refine Calls.mono (HIN.out _ (by assumption)) ?_; rintro e w4 ⟨A4, c4, rfl, hI4, hc4, b4⟩; have hB4 : Below w.heap.size w w4 := below_trans (by assumption) b4)
    | (go_at_call 17; refine Calls.mono (HDR.out A4 c4 _ (by assumption) hI4 hc4) ?_; rintro e w5 ⟨rfl, b5⟩; have hB5 : Below w.heap.size w w5 := below_trans (by assumption) b5)
    | (go_at_call 18; refine Calls.mono (HCD.out _ (by assumption)) ?_; rintro e w6 ⟨rfl, b6⟩; have hB6 : Below w.heap.size w w6 := below_trans (by assumption) b6))
  go_ret
  exact ⟨by simp, hB6⟩
set_option maxRecDepth 100000 in
set_option maxHeartbeats 4000000 in
theorem law_draw_text (A : Option Addr) (W : List Int) (c : Nat) (s : ByteArray) (w : World) (a : Nat → Addr) (hS : Sent codes w a) (hH : Handle w) (hA : Ints w A W) (hc : W.length ≤ c) (hs : s.size ≤ 9223372036854775807) (hl1 : ¬ 400 < (W.length : Int)) (h0 : wErr W = 0) (h3 : ¬ (300 : Int) < s.size) (hb : isBits s = false) :
    Calls Tryd.prog 4 #[.slice A W.length c, .string s] w fun e w' => e = .returned (.bool true) ∧ Below w.heap.size w w' := by
  have hlen := hA.len
  have HTH := hide (third_any w a (hS.toEnv))
  have hwe := fun w' (hb : Below w.heap.size w w') => weightsError_ok A W c w' (hA.below hb) hc (by omega)
  have HIN := hide (fun w' (hb : Below w.heap.size w w') => ints_ok A W c w' (hA.below hb) hc (by omega))
  have hdr := fun (A' : Option Addr) (x : Nat) w' (hb : Below w.heap.size w w') (h1 : Ints w' A' W) (hx : W.length ≤ x) => draw_any A' W x s w' a (hS.toEnv.below hb) h1 hx (by omega)
  have hres : drawRes W s = (0, 0, 1) := by unfold drawRes; rw [if_neg (by simp [h0]), if_neg (by omega), if_pos hb]
  rw [hres] at hdr
  rw [h0] at hwe
  have hbi := fun w' => bits_ok s w' (by omega)
  rw [hb] at hbi
  have hcd := fun w' (hb : Below w.heap.size w w') => coded_any w' a (hS.below hb) (hH.below hb) 1 (by decide) 1
  rw [show decide (((1 : Nat) : Int) = 1) = true from rfl, show errC a ((1 : Nat) : Int) = .iface 160 (.pointer (some (a 1))) from rfl] at hcd
  unfold RetDraw at hdr
  have HCD := hide hcd
  have HDR := hide hdr
  have HWE := hide hwe
  have HBI := hide hbi
  have h4 : ¬ (4000 : Int) < s.size := by omega
  clear hcd hdr hwe hres h0 hb hbi
  go_enter Tryd.func4, Tryd.ntmps4
  go_wp2_with (first
    | (go_at_call 9; refine Calls.mono HTH.out ?_; rintro e w1 ⟨rfl, hB1⟩)
    | (go_at_call 14; refine Calls.mono (HWE.out _ (by assumption)) ?_; rintro e w2 ⟨rfl, b2⟩; have hB2 : Below w.heap.size w w2 := below_trans (by assumption) b2)
    | (go_at_call 15; refine Calls.mono (HBI.out _) ?_; rintro e w3 ⟨rfl, b3⟩; have hB3 : Below w.heap.size w w3 := below_trans (by assumption) b3)
    | (go_at_call 16; refine Calls.mono (HDO.out _ (by assumption)) ?_; rintro e w31 ⟨rfl, b31⟩; have hB31 : Below w.heap.size w w31 := below_trans (by assumption) b31)
    | (go_at_call 13; refine Calls.mono (HIN.out _ (by assumption)) ?_; rintro e w4 ⟨A4, c4, rfl, hI4, hc4, b4⟩; have hB4 : Below w.heap.size w w4 := below_trans (by assumption) b4)
    | (go_at_call 17; refine Calls.mono (HDR.out A4 c4 _ (by assumption) hI4 hc4) ?_; rintro e w5 ⟨rfl, b5⟩; have hB5 : Below w.heap.size w w5 := below_trans (by assumption) b5)
    | (go_at_call 18; refine Calls.mono (HCD.out _ (by assumption)) ?_; rintro e w6 ⟨rfl, b6⟩; have hB6 : Below w.heap.size w w6 := below_trans (by assumption) b6))
  go_ret
  exact ⟨by simp, hB6⟩
set_option maxRecDepth 100000 in
set_option maxHeartbeats 4000000 in
theorem law_draw_none (A : Option Addr) (W : List Int) (c : Nat) (s : ByteArray) (w : World) (a : Nat → Addr) (hS : Sent codes w a) (hH : Handle w) (hA : Ints w A W) (hc : W.length ≤ c) (hs : s.size ≤ 9223372036854775807) (hl1 : ¬ 400 < (W.length : Int)) (h0 : wErr W = 0) (h3 : ¬ (300 : Int) < s.size) (hb : isBits s = true) (hr : drawB (parts W) (dep W) (bitsOf s) 0 0 0 = none) :
    Calls Tryd.prog 4 #[.slice A W.length c, .string s] w fun e w' => e = .returned (.bool true) ∧ Below w.heap.size w w' := by
  have hlen := hA.len
  have HTH := hide (third_any w a (hS.toEnv))
  have hwe := fun w' (hb : Below w.heap.size w w') => weightsError_ok A W c w' (hA.below hb) hc (by omega)
  have HIN := hide (fun w' (hb : Below w.heap.size w w') => ints_ok A W c w' (hA.below hb) hc (by omega))
  have hdr := fun (A' : Option Addr) (x : Nat) w' (hb : Below w.heap.size w w') (h1 : Ints w' A' W) (hx : W.length ≤ x) => draw_any A' W x s w' a (hS.toEnv.below hb) h1 hx (by omega)
  have hres : drawRes W s = (0, 0, 6) := by unfold drawRes; rw [if_neg (by simp [h0]), if_neg (by omega), if_neg (by simp [hb]), hr]
  rw [hres] at hdr
  have hdo := fun w' (hb' : Below w.heap.size w w') => drawOf_ok A W c s w' (hA.below hb') hc (good_of h0) (by omega) hb
  rw [hr] at hdo
  rw [h0] at hwe
  have hbi := fun w' => bits_ok s w' (by omega)
  rw [hb] at hbi
  have hcd := fun w' (hb : Below w.heap.size w w') => coded_any w' a (hS.below hb) (hH.below hb) 6 (by decide) 6
  rw [show decide (((6 : Nat) : Int) = 6) = true from rfl, show errC a ((6 : Nat) : Int) = .iface 160 (.pointer (some (a 6))) from rfl] at hcd
  unfold RetDraw at hdr
  unfold drawn at hdo
  have HCD := hide hcd
  have HDR := hide hdr
  have HWE := hide hwe
  have HBI := hide hbi
  have HDO := hide hdo
  have h4 : ¬ (4000 : Int) < s.size := by omega
  clear hcd hdr hwe hres h0 hb hbi hr hdo
  go_enter Tryd.func4, Tryd.ntmps4
  go_wp2_with (first
    | (go_at_call 9; refine Calls.mono HTH.out ?_; rintro e w1 ⟨rfl, hB1⟩)
    | (go_at_call 14; refine Calls.mono (HWE.out _ (by assumption)) ?_; rintro e w2 ⟨rfl, b2⟩; have hB2 : Below w.heap.size w w2 := below_trans (by assumption) b2)
    | (go_at_call 15; refine Calls.mono (HBI.out _) ?_; rintro e w3 ⟨rfl, b3⟩; have hB3 : Below w.heap.size w w3 := below_trans (by assumption) b3)
    | (go_at_call 16; refine Calls.mono (HDO.out _ (by assumption)) ?_; rintro e w31 ⟨rfl, b31⟩; have hB31 : Below w.heap.size w w31 := below_trans (by assumption) b31)
    | (go_at_call 13; refine Calls.mono (HIN.out _ (by assumption)) ?_; rintro e w4 ⟨A4, c4, rfl, hI4, hc4, b4⟩; have hB4 : Below w.heap.size w w4 := below_trans (by assumption) b4)
    | (go_at_call 17; refine Calls.mono (HDR.out A4 c4 _ (by assumption) hI4 hc4) ?_; rintro e w5 ⟨rfl, b5⟩; have hB5 : Below w.heap.size w w5 := below_trans (by assumption) b5)
    | (go_at_call 18; refine Calls.mono (HCD.out _ (by assumption)) ?_; rintro e w6 ⟨rfl, b6⟩; have hB6 : Below w.heap.size w w6 := below_trans (by assumption) b6))
  go_ret
  exact ⟨by simp, hB6⟩
set_option maxRecDepth 100000 in
set_option maxHeartbeats 4000000 in
theorem law_draw_some (A : Option Addr) (W : List Int) (c : Nat) (s : ByteArray) (w : World) (a : Nat → Addr) (hS : Sent codes w a) (hH : Handle w) (hA : Ints w A W) (hc : W.length ≤ c) (hs : s.size ≤ 9223372036854775807) (hl1 : ¬ 400 < (W.length : Int)) (h0 : wErr W = 0) (h3 : ¬ (300 : Int) < s.size) (hb : isBits s = true) (kk n : Nat) (hr : drawB (parts W) (dep W) (bitsOf s) 0 0 0 = some (kk, n)) :
    Calls Tryd.prog 4 #[.slice A W.length c, .string s] w fun e w' => e = .returned (.bool true) ∧ Below w.heap.size w w' := by
  have hlen := hA.len
  have HTH := hide (third_any w a (hS.toEnv))
  have hwe := fun w' (hb : Below w.heap.size w w') => weightsError_ok A W c w' (hA.below hb) hc (by omega)
  have HIN := hide (fun w' (hb : Below w.heap.size w w') => ints_ok A W c w' (hA.below hb) hc (by omega))
  have hdr := fun (A' : Option Addr) (x : Nat) w' (hb : Below w.heap.size w w') (h1 : Ints w' A' W) (hx : W.length ≤ x) => draw_any A' W x s w' a (hS.toEnv.below hb) h1 hx (by omega)
  have hres : drawRes W s = ((kk : Int), (n : Int), 0) := by unfold drawRes; rw [if_neg (by simp [h0]), if_neg (by omega), if_neg (by simp [hb]), hr]
  rw [hres] at hdr
  have hdo := fun w' (hb' : Below w.heap.size w w') => drawOf_ok A W c s w' (hA.below hb') hc (good_of h0) (by omega) hb
  rw [hr] at hdo
  rw [h0] at hwe
  have hbi := fun w' => bits_ok s w' (by omega)
  rw [hb] at hbi
  have hcd := fun w' (hb : Below w.heap.size w w') => coded_any w' a (hS.below hb) (hH.below hb) 0 (by decide) 0
  rw [show decide (((0 : Nat) : Int) = 0) = true from rfl, show errC a ((0 : Nat) : Int) = .nilIface from rfl] at hcd
  unfold RetDraw at hdr
  unfold drawn at hdo
  have HCD := hide hcd
  have HDR := hide hdr
  have HWE := hide hwe
  have HBI := hide hbi
  have HDO := hide hdo
  have h4 : ¬ (4000 : Int) < s.size := by omega
  clear hcd hdr hwe hres h0 hb hbi hr hdo
  go_enter Tryd.func4, Tryd.ntmps4
  go_wp2_with (first
    | (go_at_call 9; refine Calls.mono HTH.out ?_; rintro e w1 ⟨rfl, hB1⟩)
    | (go_at_call 14; refine Calls.mono (HWE.out _ (by assumption)) ?_; rintro e w2 ⟨rfl, b2⟩; have hB2 : Below w.heap.size w w2 := below_trans (by assumption) b2)
    | (go_at_call 15; refine Calls.mono (HBI.out _) ?_; rintro e w3 ⟨rfl, b3⟩; have hB3 : Below w.heap.size w w3 := below_trans (by assumption) b3)
    | (go_at_call 16; refine Calls.mono (HDO.out _ (by assumption)) ?_; rintro e w31 ⟨rfl, b31⟩; have hB31 : Below w.heap.size w w31 := below_trans (by assumption) b31)
    | (go_at_call 13; refine Calls.mono (HIN.out _ (by assumption)) ?_; rintro e w4 ⟨A4, c4, rfl, hI4, hc4, b4⟩; have hB4 : Below w.heap.size w w4 := below_trans (by assumption) b4)
    | (go_at_call 17; refine Calls.mono (HDR.out A4 c4 _ (by assumption) hI4 hc4) ?_; rintro e w5 ⟨rfl, b5⟩; have hB5 : Below w.heap.size w w5 := below_trans (by assumption) b5)
    | (go_at_call 18; refine Calls.mono (HCD.out _ (by assumption)) ?_; rintro e w6 ⟨rfl, b6⟩; have hB6 : Below w.heap.size w w6 := below_trans (by assumption) b6))
  go_ret
  exact ⟨by simp, hB6⟩

set_option maxHeartbeats 2000000 in
theorem law_draw (A : Option Addr) (W : List Int) (c : Nat) (s : ByteArray) (w : World) (a : Nat → Addr) (hS : Sent codes w a) (hH : Handle w) (hA : Ints w A W) (hc : W.length ≤ c) (hs : s.size ≤ 9223372036854775807) :
    Calls Tryd.prog 4 #[.slice A W.length c, .string s] w fun e w' => e = .returned (.bool true) ∧ Below w.heap.size w w' := by
  have hlen := hA.len
  by_cases hl1 : 400 < (W.length : Int)
  · have HTH := hide (third_any w a (hS.toEnv))
    go_enter Tryd.func4, Tryd.ntmps4
    go_wp2_with (go_at_call 9; refine Calls.mono HTH.out ?_; rintro e w1 ⟨rfl, hB1⟩)
    go_ret
    exact ⟨rfl, hB1⟩
  by_cases hl2 : 300 < (s.size : Int) ∧ (s.size : Int) ≤ 4000
  · obtain ⟨hl2a, hl2b⟩ := hl2
    have HTH := hide (third_any w a (hS.toEnv))
    go_enter Tryd.func4, Tryd.ntmps4
    go_wp2_with (go_at_call 9; refine Calls.mono HTH.out ?_; rintro e w1 ⟨rfl, hB1⟩)
    go_ret
    exact ⟨rfl, hB1⟩
  by_cases h0 : wErr W = 0
  · by_cases h4 : (4000 : Int) < s.size
    · exact law_draw_long A W c s w a hS hH hA hc hs hl1 h0 h4
    · have h3 : ¬ (300 : Int) < s.size := fun h => hl2 ⟨h, by omega⟩
      cases hb : isBits s with
      | false => exact law_draw_text A W c s w a hS hH hA hc hs hl1 h0 h3 hb
      | true =>
        cases hr : drawB (parts W) (dep W) (bitsOf s) 0 0 0 with
        | none => exact law_draw_none A W c s w a hS hH hA hc hs hl1 h0 h3 hb hr
        | some p => exact law_draw_some A W c s w a hS hH hA hc hs hl1 h0 h3 hb p.1 p.2 hr
  · exact law_draw_weights A W c s w a hS hH hA hc hs hl1 hl2 h0
end Go.Proofs.YtioekjkfhbopkaaDoor

/- The walk of sample.Valid; what few, lists, RulesError answer in memory. Condition: the variables read as laid. -/
namespace Go.Proofs.YtioekjkfhbopkaaDoor
open Go.RowKit Go.Deep Go.Proofs.YtioekjkfhbopkaaDoorW.PrintWords

theorem fewS_ok (A : Option Addr) (m : List (List Int)) (c : Nat) (w : World) (hA : Lists w A m) (hc : m.length ≤ c) (hl : m.length ≤ 2000000) (hf : m.flatten.length ≤ 2000000) :
    Calls Tryd.prog 10 #[.slice A m.length c] w fun e w' => e = .returned (.bool (fewS m)) ∧ Below w.heap.size w w' :=
  PSamplePast.demonlaw4_few.calls (m.length + 1) A c m (fewS m) w hA.toC hc (few_f m hl hf _ (by omega))
theorem listsS_ok (A : Option Addr) (m : List (List Int)) (c : Nat) (w : World) (hA : Lists w A m) (hc : m.length ≤ c) (hl : m.length ≤ 2000000) (hf : m.flatten.length ≤ 2000000) :
    Calls Tryd.prog 12 #[.slice A m.length c] w fun e w' => ∃ B d, e = .returned (.slice B m.length d) ∧ Lists w' B m ∧ m.length ≤ d ∧ Below w.heap.size w w' := by
  refine (PSamplePast.demonlaw4_lists.calls (m.length + 1) A c m m w hA.toC hc (lists_f m hl hf _ (by omega))).mono ?_
  rintro e w' ⟨v, rfl, hS, hb⟩
  obtain ⟨B, d, rfl, hI, hd⟩ := Lists.ofR (Kd.S_R hS)
  exact ⟨B, d, rfl, hI, hd, hb⟩
theorem rulesError_ok (A : Option Addr) (m : List (List Int)) (c : Nat) (w : World) (hA : Lists w A m) (hc : m.length ≤ c) :
    Calls Tryd.prog 25 #[.slice A m.length c] w fun e w' => e = .returned (.int .i64 (rErr m)) ∧ Below w.heap.size w w' := by
  obtain ⟨k, hk⟩ := (rules_f m).rounds
  refine (PSamplePast.demonref4_RulesError.calls k A c m (rErr m) w hA.toC hc hk).mono ?_
  rintro e w' ⟨rfl, h⟩
  exact ⟨rfl, drawn_below h⟩
theorem isSorted_ok (A : Option Addr) (l : List Int) (c : Nat) (w : World) (hA : Ints w A l) (hc : l.length ≤ c) (hl : l.length ≤ 2000000) :
    Calls Tryd.prog 50 #[.slice A l.length c] w fun e w' => e = .returned (.bool (asc l l.length)) ∧ Below w.heap.size w w' := by
  obtain ⟨k, hk⟩ := (isSorted_f l hl).rounds
  refine (PSamplePast.slices_IsSorted_int_int.calls k A c l _ w hA.toC hc hk).mono ?_
  rintro e w' ⟨rfl, h⟩
  exact ⟨rfl, drawn_below h⟩
theorem max_spec (l : List Int) : ∀ k, 0 < k → k ≤ l.length → (∃ j, j < k ∧ Lib.maxOf (l.take k) = l.getD j 0) ∧ ∀ j, j < k → l.getD j 0 ≤ Lib.maxOf (l.take k) := by
  intro k
  induction k with
  | zero => intro h; omega
  | succ k ih =>
    intro _ hk
    rcases Nat.eq_zero_or_pos k with q | q
    · subst q
      rw [Lib.maxOf_one]
      exact ⟨⟨0, by omega, rfl⟩, fun j hj => by obtain rfl : j = 0 := by omega
                                                exact Int.le_refl _⟩
    · obtain ⟨⟨j, hj, e⟩, h2⟩ := ih q (by omega)
      rw [Lib.maxOf_step l k q (by omega)]
      refine ⟨?_, fun i hi => ?_⟩
      · by_cases g : Lib.maxOf (l.take k) ≤ l.getD k 0
        · exact ⟨k, by omega, Int.max_eq_right g⟩
        · exact ⟨j, by omega, by rw [Int.max_eq_left (by omega), e]⟩
      · by_cases e2 : i = k
        · subst e2; exact Int.le_max_right _ _
        · exact Int.le_trans (h2 i (by omega)) (Int.le_max_left _ _)
theorem min_spec (l : List Int) : ∀ k, 0 < k → k ≤ l.length → (∃ j, j < k ∧ Lib.minOf (l.take k) = l.getD j 0) ∧ ∀ j, j < k → Lib.minOf (l.take k) ≤ l.getD j 0 := by
  intro k
  induction k with
  | zero => intro h; omega
  | succ k ih =>
    intro _ hk
    rcases Nat.eq_zero_or_pos k with q | q
    · subst q
      rw [Lib.minOf_one]
      exact ⟨⟨0, by omega, rfl⟩, fun j hj => by obtain rfl : j = 0 := by omega
                                                exact Int.le_refl _⟩
    · obtain ⟨⟨j, hj, e⟩, h2⟩ := ih q (by omega)
      rw [Lib.minOf_step l k q (by omega)]
      refine ⟨?_, fun i hi => ?_⟩
      · by_cases g : l.getD k 0 ≤ Lib.minOf (l.take k)
        · exact ⟨k, by omega, Int.min_eq_right g⟩
        · exact ⟨j, by omega, by rw [Int.min_eq_left (by omega), e]⟩
      · by_cases e2 : i = k
        · subst e2; exact Int.min_le_right _ _
        · exact Int.le_trans (Int.min_le_left _ _) (h2 i (by omega))
theorem maxL_ok (A : Option Addr) (l : List Int) (c : Nat) (w : World) (hA : Ints w A l) (h0 : 0 < l.length) :
    Calls Tryd.prog 49 #[.slice A l.length c] w fun e w' => e = .returned (.int .i64 (Lib.maxOf l)) ∧ w' = w := by
  obtain ⟨b, off, rfl, _, _⟩ := hA.at_ 0 h0
  have := Tryd.slices_Max_int b off l.length c l w h0 (Nat.le_refl _) hA.len (fun j hj => by
    obtain ⟨b1, off1, e, _, h⟩ := hA.at_ j hj
    injection e with e
    injection e with e1 e2 _
    subst e1 e2
    exact h)
  rw [List.take_length] at this
  exact this
theorem minL_ok (A : Option Addr) (l : List Int) (c : Nat) (w : World) (hA : Ints w A l) (h0 : 0 < l.length) :
    Calls Tryd.prog 48 #[.slice A l.length c] w fun e w' => e = .returned (.int .i64 (Lib.minOf l)) ∧ w' = w := by
  obtain ⟨b, off, rfl, _, _⟩ := hA.at_ 0 h0
  have := Tryd.slices_Min_int b off l.length c l w h0 (Nat.le_refl _) hA.len (fun j hj => by
    obtain ⟨b1, off1, e, _, h⟩ := hA.at_ j hj
    injection e with e
    injection e with e1 e2 _
    subst e1 e2
    exact h)
  rw [List.take_length] at this
  exact this
theorem goodR_minmax {n : Nat} {f : List Int} (hl : f.length = n) (h0 : 0 < f.length) : goodR n f = (decide (0 ≤ Lib.minOf f) && decide (Lib.maxOf f < f.length)) := by
  have m1 := min_spec f f.length h0 (Nat.le_refl _)
  have m2 := max_spec f f.length h0 (Nat.le_refl _)
  rw [List.take_length] at m1 m2
  obtain ⟨⟨j1, hj1, e1⟩, l1⟩ := m1
  obtain ⟨⟨j2, hj2, e2⟩, l2⟩ := m2
  by_cases c1 : 0 ≤ Lib.minOf f
  · by_cases c2 : Lib.maxOf f < f.length
    · rw [decide_eq_true c1, decide_eq_true c2, goodR_range hl h0 (fun j hj => ⟨Int.le_trans c1 (l1 j hj), Int.lt_of_le_of_lt (l2 j hj) c2⟩)]
      rfl
    · rw [decide_eq_false c2, goodR_bad hj2 (.inr (by omega))]
      simp
  · rw [decide_eq_false c1, goodR_bad hj1 (.inl (by omega))]
    rfl

set_option maxRecDepth 100000 in
set_option maxHeartbeats 4000000 in
theorem valid_any (A : Option Addr) (r : List (List Int)) (c : Nat) (w : World) (a : Nat → Addr) (hE : Env [2, 3] w a) (hE7 : Env [7] w a) (hA : Lists w A r) (hc : r.length ≤ c) :
    Calls Tryd.prog 24 #[.slice A r.length c] w fun e w' => e = .returned (errC a (rErr r)) ∧ Below w.heap.size w w' := by
  have hlen := hA.len
  have hen := fun w' (hb : Below w.heap.size w w') => (⟨(hE.below hb).cell 2 (by simp), (hE.below hb).cell 3 (by simp), (hE7.below hb).cell 7 (by simp)⟩ : w'.cell? ⟨0, 0, none⟩ = some (.iface 160 (.pointer (some (a 2)))) ∧ w'.cell? ⟨1, 0, none⟩ = some (.iface 160 (.pointer (some (a 3)))) ∧ w'.cell? ⟨4, 0, none⟩ = some (.iface 160 (.pointer (some (a 7)))))
  have HEN := hide hen
  clear hen hE hE7
  obtain ⟨z2, z3, z7⟩ := HEN.out w (Below.refl _ _)
  by_cases h16 : 16 < r.length
  · have h16' : (16 : Int) < (r.length : Int) := by omega
    have hr : rErr r = 2 := by unfold rErr; rw [if_pos h16]
    rw [hr, errC_two]
    go_enter Tryd.func24, Tryd.ntmps24
    go_wp2_with (fail)
    go_ret
    exact ⟨rfl, Below.refl _ _⟩
  have h16' : (r.length : Int) ≤ 16 := by omega
  have h16n : r.length ≤ 16 := by omega
  clear h16 z2 z3 z7
  go_enter Tryd.func24, Tryd.ntmps24
  go_wp2_with (fail)
  go_loopw [15] (fun iv wr => ∃ i : Nat, i ≤ r.length ∧ iv = .int .i64 i ∧ Hid (∀ j, j < i → (r.getD j []).length ≤ 16) ∧ Below w.heap.size w wr) (fun iv _ => r.length - (intOf iv).toNat)
  case atStart => exact ⟨0, Nat.zero_le _, rfl, hide (fun j h => absurd h (Nat.not_lt_zero _)), Below.refl _ _⟩
  case round =>
    obtain ⟨i, hi, rfl, HS, hB⟩ := hrel
    have i0 : (0 : Int) ≤ (i : Int) := Int.natCast_nonneg _
    obtain ⟨z2, z3, z7⟩ := HEN.out wr hB
    by_cases hil : i < r.length
    · have i1 : (i : Int) < (r.length : Int) := by omega
      obtain ⟨b, off, A1, c1, rfl, hbl, hcell, hcc, hrow⟩ := (hA.below hB).at_ i hil
      by_cases hb : 16 < (r.getD i []).length
      · have hb' : (16 : Int) < ((r.getD i []).length : Int) := by omega
        have hr : rErr r = 2 := by
          unfold rErr
          rw [if_neg (by omega), if_pos (by
            rw [List.any_eq_true]
            exact ⟨r.getD i [], by rw [getDL_eq r i hil]; exact List.getElem_mem hil, decide_eq_true hb⟩)]
        have HR := hide hr
        generalize (r.getD i []).length = n1 at hcell hb'
        clear hr hb
        go_wp2_with (fail)
        go_ret
        exact ⟨by rw [HR.out]; rfl, hB⟩
      · have hb' : ((r.getD i []).length : Int) ≤ 16 := by omega
        have HS2 := hide (fun j (hj : j < i + 1) => (show (r.getD j []).length ≤ 16 from by
          by_cases q : j = i
          · subst q; omega
          · exact HS.out j (by omega)))
        generalize (r.getD i []).length = n1 at hcell hb'
        clear hb
        go_wp2_with (fail)
        go_roundw
        case rel => exact ⟨i + 1, by omega, by go_num, HS2, hB⟩
        case measure => simp [intOf]; omega
    · obtain rfl : i = r.length := by omega
      have h2 : r.any (fun f => decide (16 < f.length)) = false := by
        rw [List.any_eq_false]
        intro f hf
        obtain ⟨j, hj, rfl⟩ := List.getElem_of_mem hf
        have := HS.out j hj
        rw [getDL_eq r j hj] at this
        simpa using this
      by_cases h0 : r.length = 0
      · have hr : rErr r = 3 := by
          unfold rErr
          rw [if_neg (by omega), if_neg (by rw [h2]; decide), if_pos h0]
        have HR := hide hr
        have h0' : ((r.length : Int) == 0) = true := beq_iff_eq.2 (by omega)
        clear hr h2
        go_wp2_with (fail)
        go_ret
        exact ⟨by rw [HR.out]; rfl, hB⟩
      have h0p : 0 < r.length := by omega
      have h0' : ((r.length : Int) == 0) = false := beq_eq_false_iff_ne.2 (by omega)
      have h0i : (0 : Int) < (r.length : Int) := by omega
      have hbad := fun i (hi : i < r.length) hg => rErr_bad (i := i) h16n h2 hi hg
      have hend := rErr_end h16n h2 h0
      have HBAD := hide hbad
      have HEND := hide hend
      have HSM := hide HS.out
      obtain ⟨w2, rfl⟩ : ∃ w2 : World, w2 = wr := ⟨_, rfl⟩
      clear hbad hend h2 h0
      go_wp2_with (fail)
      go_loopw [30] (fun iv wr => ∃ i : Nat, i ≤ r.length ∧ iv = .int .i64 i ∧ Hid (∀ j, j < i → goodR (r.getD 0 []).length (r.getD j []) = true) ∧ Below w.heap.size w wr) (fun iv _ => r.length - (intOf iv).toNat)
      case atStart => exact ⟨0, Nat.zero_le _, rfl, hide (fun j h => absurd h (Nat.not_lt_zero _)), hB⟩
      case round =>
        obtain ⟨i, hi, rfl, HG, hBi⟩ := hrel
        have i0 : (0 : Int) ≤ (i : Int) := Int.natCast_nonneg _
        obtain ⟨z2, z3, z7⟩ := HEN.out wr hBi
        by_cases hil : i < r.length
        · have i1 : (i : Int) < (r.length : Int) := by omega
          obtain ⟨b, off, A1, c1, rfl, hbl, hcell, hcc, hrow⟩ := (hA.below hBi).at_ i hil
          obtain ⟨b', off', A0, c0, e0, _, hcell0, _, _⟩ := (hA.below hBi).at_ 0 h0p
          injection e0 with e0
          injection e0 with e1 e2 _
          subst e1 e2
          rw [Nat.add_zero] at hcell0
          have hs16 := HSM.out i hil
          have HBI := hide (HBAD.out i hil)
          have HGN := hide (fun (hg : goodR (r.getD 0 []).length (r.getD i []) = true) j (hj : j < i + 1) => (show goodR (r.getD 0 []).length (r.getD j []) = true from by
            by_cases q : j = i
            · subst q; exact hg
            · exact HG.out j (by omega)))
          generalize hf : r.getD i [] = f at hcell hcc hrow hs16 HBI HGN
          generalize hn0 : (r.getD 0 []).length = n0 at hcell0 HBI HGN
          by_cases c1e : f.length = n0
          · by_cases c2 : f.length = 0
            · have hr := HBI.out (by unfold goodR; rw [decide_eq_false (by omega : ¬ 0 < f.length)]; simp)
              have HR := hide hr
              have q1 : ((f.length : Int) != (n0 : Int)) = false := by rw [c1e]; exact bne_self_eq_false _
              have q2 : ((f.length : Int) == 0) = true := beq_iff_eq.2 (by omega)
              clear hr hrow hf hn0
              go_wp2_with (fail)
              go_ret
              exact ⟨by rw [HR.out]; rfl, hBi⟩
            · have h0f : 0 < f.length := by omega
              have q2 : ((f.length : Int) == 0) = false := beq_eq_false_iff_ne.2 (by omega)
              have hmm := goodR_minmax c1e h0f
              have HMI := hide (minL_ok A1 f c1 wr hrow h0f)
              have HMA := hide (maxL_ok A1 f c1 wr hrow h0f)
              generalize Lib.minOf f = mi at hmm HMI
              generalize Lib.maxOf f = ma at hmm HMA
              have HMM := hide hmm
              have HN0 := hide hn0
              clear hmm hrow hf hn0 HG c2
              subst c1e
              by_cases c3 : mi < 0
              · have hr := HBI.out (by rw [HMM.out, decide_eq_false (by omega)]; rfl)
                have HR := hide hr
                clear hr
                go_wp2_with (go_at_call 48; refine Calls.mono HMI.out ?_; rintro e w5 ⟨rfl, hw5⟩; subst hw5)
                go_ret
                exact ⟨by rw [HR.out]; rfl, hBi⟩
              · have c3' : (0 : Int) ≤ mi := by omega
                by_cases c4 : ma < (f.length : Int)
                · have hg := HGN.out (by rw [HMM.out, decide_eq_true c3', decide_eq_true c4]; rfl)
                  have HG2 := hide hg
                  clear hg
                  go_wp2_with (first
                    | (go_at_call 48; refine Calls.mono HMI.out ?_; rintro e w5 ⟨rfl, hw5⟩; subst hw5)
                    | (go_at_call 49; refine Calls.mono HMA.out ?_; rintro e w6 ⟨rfl, hw6⟩; subst hw6))
                  go_roundw
                  case rel => exact ⟨i + 1, by omega, by go_num, (by first | exact HG2 | (rw [HN0.out]; exact HG2)), hBi⟩
                  case measure => simp [intOf]; omega
                · have hr := HBI.out (by rw [HMM.out, decide_eq_false c4, Bool.and_false])
                  have HR := hide hr
                  have c4' : (f.length : Int) ≤ ma := by omega
                  clear hr
                  go_wp2_with (first
                    | (go_at_call 48; refine Calls.mono HMI.out ?_; rintro e w5 ⟨rfl, hw5⟩; subst hw5)
                    | (go_at_call 49; refine Calls.mono HMA.out ?_; rintro e w6 ⟨rfl, hw6⟩; subst hw6))
                  go_ret
                  exact ⟨by rw [HR.out]; rfl, hBi⟩
          · have hr := HBI.out (by unfold goodR; rw [decide_eq_false c1e]; simp)
            have HR := hide hr
            have q1 : ((f.length : Int) != (n0 : Int)) = true := bne_iff_ne.2 (by omega)
            clear hr hrow hf hn0
            go_wp2_with (fail)
            go_ret
            exact ⟨by rw [HR.out]; rfl, hBi⟩
        · obtain rfl : i = r.length := by omega
          have hend := HEND.out (all_upto _ HG.out)
          have HE2 := hide hend
          clear hend
          go_wp2_with (fail)
          go_loopw [62] (fun iv wr => ∃ i : Nat, i ≤ r.length ∧ iv = .int .i64 i ∧ Hid (∀ j, j < i → asc (r.getD j []) (r.getD j []).length = true) ∧ Below w.heap.size w wr) (fun iv _ => r.length - (intOf iv).toNat)
          case atStart => exact ⟨0, Nat.zero_le _, rfl, hide (fun j h => absurd h (Nat.not_lt_zero _)), hBi⟩
          case round =>
            obtain ⟨i, hi, rfl, HO, hBk⟩ := hrel
            have i0 : (0 : Int) ≤ (i : Int) := Int.natCast_nonneg _
            by_cases hil : i < r.length
            · have i1 : (i : Int) < (r.length : Int) := by omega
              obtain ⟨b, off, A1, c1, rfl, hbl, hcell, hcc, hrow⟩ := (hA.below hBk).at_ i hil
              have HIS := hide (fun w' (hb : Below wr.heap.size wr w') => isSorted_ok A1 (r.getD i []) c1 w' (hrow.below hb) hcc (by have := HSM.out i hil; omega))
              have hno := fun (q : asc (r.getD i []) (r.getD i []).length = false) => (show rErr r = 7 from by
                rw [HE2.out, if_neg]
                rw [Bool.not_eq_true, List.all_eq_false]
                exact ⟨r.getD i [], by rw [getDL_eq r i hil]; exact List.getElem_mem hil, by rw [q]; decide⟩)
              have HO2 := hide (fun (q : asc (r.getD i []) (r.getD i []).length = true) j (hj : j < i + 1) => (show asc (r.getD j []) (r.getD j []).length = true from by
                by_cases e : j = i
                · subst e; exact q
                · exact HO.out j (by omega)))
              have HNO := hide hno
              clear hno hrow
              cases has : asc (r.getD i []) (r.getD i []).length with
              | true =>
                rw [has] at HIS
                have HO3 := hide (HO2.out has)
                clear has
                generalize (r.getD i []).length = n1 at hcell HIS
                go_wp2_with (go_at_call 50; refine Calls.mono (HIS.out _ (Below.refl _ _)) ?_; rintro e w5 ⟨rfl, b5⟩)
                go_roundw
                case rel => exact ⟨i + 1, by omega, by go_num, HO3, below_trans hBk b5⟩
                case measure => simp [intOf]; omega
              | false =>
                rw [has] at HIS
                have HR := hide (HNO.out has)
                clear has
                generalize (r.getD i []).length = n1 at hcell HIS
                go_wp2_with (go_at_call 50; refine Calls.mono (HIS.out _ (Below.refl _ _)) ?_; rintro e w5 ⟨rfl, b5⟩; obtain ⟨y2, y3, y7⟩ := HEN.out w5 (below_trans hBk b5))
                go_ret
                exact ⟨by rw [HR.out]; rfl, below_trans hBk b5⟩
            · obtain rfl : i = r.length := by omega
              have hr : rErr r = 0 := by rw [HE2.out, if_pos (all_upto _ HO.out)]
              have HR := hide hr
              clear hr
              go_wp2_with (fail)
              go_ret
              exact ⟨by rw [HR.out]; rfl, hBk⟩
end Go.Proofs.YtioekjkfhbopkaaDoor
