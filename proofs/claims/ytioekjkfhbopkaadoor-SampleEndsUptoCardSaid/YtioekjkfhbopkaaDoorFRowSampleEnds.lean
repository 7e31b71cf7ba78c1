/- SampleEnds: for every input the law returns true and leaves its arguments as they were, where what it reads is of bulk at most 1048576: the row, and its tied card. Condition: the listed variables read as the program's text lays them (the card ties that). -/
import Derived.Test.YtioekjkfhbopkaaDoorFlatSampleEndse
namespace Go.Proofs.YtioekjkfhbopkaaDoor
open Go.ChangeShapes Go.WideShapes Go.ChangeAt Go.RowKit Go.Joins

theorem sampleEnds_types : ∀ t, t ∈ Tryd.f8.params.toList → Tryd.prog.readableRec t = true ∧ t < Tryd.prog.types.size := by
  intro t ht
  have e : (Tryd.f8.params.toList.all fun t => Tryd.prog.readableRec t && decide (t < Tryd.prog.types.size)) = true := by kernel_rfl
  have h1 := List.all_eq_true.1 e t ht
  simp only [Bool.and_eq_true, decide_eq_true_eq] at h1
  exact h1

set_option maxRecDepth 100000 in
theorem sampleEnds_contract (H : Type) (enc : TypeId × Value → H) (W : World) (base : Nat) (args : Array Value) (ds gs : List (DataW H)) (before : List MemPlace)
    (hval : ∀ (j : Nat) t v, Tryd.f8.params[j]? = some t → args[j]? = some v → Value.okWide Tryd.prog W .any base t v)
    (hW : DataW.Whole enc Tryd.prog Tryd.f8.params.toList Rows.sampleEndsSpec.vars false W args.toList ds gs before) (hL : laidMetH Tryd.prog Rows.sampleEndsRow.laid W) (hk : Rows.uptoSmall H (ds ++ gs) = true) :
    Calls Tryd.prog 8 args W fun e W' => ∃ v, e = .returned v ∧ Rows.sampleEndsSpec.post enc Tryd.prog Tryd.f8 false true false false W args v W' := by
  have hW' := hW
  obtain ⟨p, q, hA0, hV, rfl, hfz, hnd⟩ := hW
  have hA : DataW.TrodAll enc Tryd.prog W 0 (fun _ => true) true Tryd.f8.params.toList args.toList ds p := hA0
  rw [Tryd.params8] at hA hval
  obtain ⟨v0, vs0, d0, ds0, p0, q0, hargs, rfl, rfl, h0, r0⟩ := trodAll_cons hA
  obtain ⟨v1, vs1, d1, ds1, p1, q1, rfl, rfl, rfl, h1, r1⟩ := trodAll_cons r0
  obtain ⟨rfl, rfl, rfl⟩ := trodAll_nil r1
  obtain rfl : args = #[v0, v1] := by cases args; simp_all
  obtain ⟨rfl, rfl⟩ := trodVars_none hV
  obtain ⟨a, hS, hH⟩ := full_of_laidU hL
  have fin : ∀ W', Below W.heap.size W W' → Rows.sampleEndsSpec.post enc Tryd.prog Tryd.f8 false true false false W #[v0, v1] (.bool true) W' := fun W' hb =>
    post_true rfl rfl rfl sampleEnds_types hW' hb
  obtain ⟨za0, zl0, zk0, rfl⟩ := okWide_slice Tryd.underlying22 (hval 0 22 v0 rfl rfl)
  obtain ⟨fu0, gz0⟩ := h0
  obtain ⟨B0, m, c, hv0, hm, hc, _, bm⟩ := open_lists_bulk (v := .slice za0 zl0 zk0) gz0
  injection hv0 with e0a e0b e0c
  subst e0a e0b e0c
  obtain ⟨s, rfl, rfl, rfl, _⟩ := open_int Tryd.underlying3 (hval 1 3 v1 rfl rfl) h1
  have hbk := bulk_bound hk
  simp only [List.append_nil, Rows.uptoBulkAll] at hbk
  dsimp only at bm
  refine (law_ends za0 m s zk0 W a hS hH hm hc (by omega) (by omega)).mono fun e W' ⟨he, hb⟩ => ?_
  subst he
  exact ⟨_, rfl, fin W' hb⟩

theorem sampleEnds_door (os : Os) : laidMetH Tryd.prog Rows.sampleEndsRow.laid ((doorU os).forCall (fun _ _ => 0) ⟨#[], #[.slice none 0 0, .int .i64 0], []⟩).memory :=
  doorU_laid os _
set_option maxRecDepth 100000 in
theorem sampleEnds_lifted (os : Os) (started : os.Started) (H : Type) (enc : TypeId × Value → H) (F : Stop.Interp) :
    ReturnsInHanded {} Tryd.checked os 8 .any ((Rows.OpenSpec.upto Rows.sampleEndsSpec).preRow enc Tryd.prog Tryd.f8 Rows.sampleEndsUptoRow.domain false Rows.sampleEndsUptoRow.laid) (((Rows.OpenSpec.upto Rows.sampleEndsSpec).at F).post enc Tryd.prog Tryd.f8 false true false false) := by
  refine returnsInHanded_of_row (C := Tryd.checked) (s := Rows.OpenSpec.upto Rows.sampleEndsSpec) tr_own started (by kernel_rfl) Tryd.func8
    (witness_row_atRef (enc := enc) (C := Tryd.checked) false (doorU os) #[.slice none 0 0, .int .i64 0] (doorU_os os) (by kernel_rfl) (by kernel_rfl) (by kernel_rfl)
      (OpenSpec.preRow_of_cond 8 (x := ([.nil, .lit (.int .i64 0)], [], [])) (by kernel_rfl) (by kernel_rfl) (fun k hk => by cases hk; kernel_rfl) (by kernel_rfl) (sampleEnds_door os))) ?_
  intro W base args ds gs before hval hW _ hcond _ hL _ _
  exact sampleEnds_contract H enc W base args ds gs before hval hW hL (hcond _ rfl)

theorem sampleEnds_said : Rows.SampleEndsUptoSaid :=
  OpenClaim.holds_of_cond 8 Tryd.f8 rfl rfl rfl rfl rfl rfl rfl ⟨rfl, rfl, rfl, rfl, rfl⟩ rfl rfl rfl rfl rfl (by kernel_rfl) Tryd.func8 (by kernel_rfl)
    (of_decide_eq_true (by kernel_rfl)) (by unfold Func.isWrapper; rw [if_neg (of_decide_eq_false (by kernel_rfl))]; exact ⟨rfl, rfl⟩)
    (fun os started H enc _ F => by rw [OpenClaim.pre_eq_preRow]; exact sampleEnds_lifted os started H enc F)

theorem sampleEnds_plain (f : FuncId) (fn : Func) (hf : Tryd.pinned.checked.prog.funcNamed "demon/demonlaw4.SampleEnds" = some f) (hfn : Tryd.pinned.checked.prog.funcs[f]? = some fn) :
    true = Tryd.pinned.checked.prog.looks [] ∧ ∀ (j : Nat) t, fn.params[j]? = some t → Tryd.pinned.checked.prog.wantsStandIn t = false := by
  obtain rfl : f = 8 := Option.some.inj ((show Tryd.prog.funcNamed "demon/demonlaw4.SampleEnds" = some 8 by kernel_rfl).symm.trans hf) |>.symm
  obtain rfl : fn = Tryd.f8 := (Option.some.inj (Tryd.func8.symm.trans hfn)).symm
  refine ⟨by kernel_rfl, fun j t ht => ?_⟩
  have e : (Tryd.f8.params.toList.all fun t => !Tryd.prog.wantsStandIn t) = true := by kernel_rfl
  have h1 := List.all_eq_true.1 e t (Array.mem_toList_iff.2 (Array.mem_of_getElem? ht))
  have h2 : Tryd.prog.wantsStandIn t = false := by simpa using h1
  exact h2

/-- the tied card of SampleEnds -/
theorem sampleEnds_card : Rows.SampleEndsUptoCardSaid :=
  Claim7.holds_tied_plain_at .later [] _ _ _ _ sampleEnds_said (fun _ h => by cases h) (by kernel_rfl) (fun _ h => by cases h) sampleEndsUpto_row_tie rfl ⟨rfl, rfl⟩ (by kernel_rfl) rfl sampleEnds_plain (by kernel_rfl)
end Go.Proofs.YtioekjkfhbopkaaDoor
