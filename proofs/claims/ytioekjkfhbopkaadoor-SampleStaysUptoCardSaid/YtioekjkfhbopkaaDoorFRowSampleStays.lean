/- SampleStays: for every input the law returns true and leaves its arguments as they were, where what it reads is of bulk at most 1048576: the row, and its tied card. Condition: the listed variables read as the program's text lays them (the card ties that). -/
import Derived.Test.YtioekjkfhbopkaaDoorFlatSampleStayse
namespace Go.Proofs.YtioekjkfhbopkaaDoor
open Go.ChangeShapes Go.WideShapes Go.ChangeAt Go.RowKit Go.Joins

theorem sampleStays_types : ∀ t, t ∈ Tryd.f3.params.toList → Tryd.prog.readableRec t = true ∧ t < Tryd.prog.types.size := by
  intro t ht
  have e : (Tryd.f3.params.toList.all fun t => Tryd.prog.readableRec t && decide (t < Tryd.prog.types.size)) = true := by kernel_rfl
  have h1 := List.all_eq_true.1 e t ht
  simp only [Bool.and_eq_true, decide_eq_true_eq] at h1
  exact h1

set_option maxRecDepth 100000 in
theorem sampleStays_contract (H : Type) (enc : TypeId × Value → H) (W : World) (base : Nat) (args : Array Value) (ds gs : List (DataW H)) (before : List MemPlace)
    (hval : ∀ (j : Nat) t v, Tryd.f3.params[j]? = some t → args[j]? = some v → Value.okWide Tryd.prog W .any base t v)
    (hW : DataW.Whole enc Tryd.prog Tryd.f3.params.toList Rows.sampleStaysSpec.vars false W args.toList ds gs before) (hL : laidMetH Tryd.prog Rows.sampleStaysRow.laid W) (hk : Rows.uptoSmall H (ds ++ gs) = true) :
    Calls Tryd.prog 3 args W fun e W' => ∃ v, e = .returned v ∧ Rows.sampleStaysSpec.post enc Tryd.prog Tryd.f3 false true false false W args v W' := by
  have hW' := hW
  obtain ⟨p, q, hA0, hV, rfl, hfz, hnd⟩ := hW
  have hA : DataW.TrodAll enc Tryd.prog W 0 (fun _ => true) true Tryd.f3.params.toList args.toList ds p := hA0
  rw [Tryd.params3] at hA hval
  obtain ⟨v0, vs0, d0, ds0, p0, q0, hargs, rfl, rfl, h0, r0⟩ := trodAll_cons hA
  obtain ⟨v1, vs1, d1, ds1, p1, q1, rfl, rfl, rfl, h1, r1⟩ := trodAll_cons r0
  obtain ⟨v2, vs2, d2, ds2, p2, q2, rfl, rfl, rfl, h2, r2⟩ := trodAll_cons r1
  obtain ⟨rfl, rfl, rfl⟩ := trodAll_nil r2
  obtain rfl : args = #[v0, v1, v2] := by cases args; simp_all
  obtain ⟨rfl, rfl⟩ := trodVars_none hV
  obtain ⟨a, hS, hH⟩ := full_of_laidUS hL
  have fin : ∀ W', Below W.heap.size W W' → Rows.sampleStaysSpec.post enc Tryd.prog Tryd.f3 false true false false W #[v0, v1, v2] (.bool true) W' := fun W' hb =>
    post_true rfl rfl rfl sampleStays_types hW' hb
  obtain ⟨za0, zl0, zk0, rfl⟩ := okWide_slice Tryd.underlying22 (hval 0 22 v0 rfl rfl)
  obtain ⟨fu0, gz0⟩ := h0
  obtain ⟨B0, m, c, hv0, hm, hc, _, bm⟩ := open_lists_bulk (v := .slice za0 zl0 zk0) gz0
  injection hv0 with e0a e0b e0c
  subst e0a e0b e0c
  obtain ⟨za1, zl1, zk1, rfl⟩ := okWide_slice Tryd.underlying23 (hval 1 23 v1 rfl rfl)
  obtain ⟨fu1, gz1⟩ := h1
  obtain ⟨B, X, d, hv1, hX, hd, _⟩ := open_ints_arg (v := .slice za1 zl1 zk1) gz1
  injection hv1 with e1a e1b e1c
  subst e1a e1b e1c
  obtain ⟨za2, zl2, zk2, rfl⟩ := okWide_slice Tryd.underlying23 (hval 2 23 v2 rfl rfl)
  obtain ⟨fu2, gz2⟩ := h2
  obtain ⟨C, Y, f, hv2, hY, hf, _⟩ := open_ints_arg (v := .slice za2 zl2 zk2) gz2
  injection hv2 with e2a e2b e2c
  subst e2a e2b e2c
  have hbk := bulk_bound hk
  simp only [List.append_nil, Rows.uptoBulkAll] at hbk
  dsimp only at bm
  refine (law_stays za0 za1 za2 m X Y zk0 zk1 zk2 W a (hS.toEnv) hm hX hY hc hd (by omega) (by omega)).mono fun e W' ⟨he, hb⟩ => ?_
  subst he
  exact ⟨_, rfl, fin W' hb⟩

theorem sampleStays_door (os : Os) : laidMetH Tryd.prog Rows.sampleStaysRow.laid ((doorU os).forCall (fun _ _ => 0) ⟨#[], #[.slice none 0 0, .slice none 0 0, .slice none 0 0], []⟩).memory :=
  doorUS_laid os _
set_option maxRecDepth 100000 in
theorem sampleStays_lifted (os : Os) (started : os.Started) (H : Type) (enc : TypeId × Value → H) (F : Stop.Interp) :
    ReturnsInHanded {} Tryd.checked os 3 .any ((Rows.OpenSpec.upto Rows.sampleStaysSpec).preRow enc Tryd.prog Tryd.f3 Rows.sampleStaysUptoRow.domain false Rows.sampleStaysUptoRow.laid) (((Rows.OpenSpec.upto Rows.sampleStaysSpec).at F).post enc Tryd.prog Tryd.f3 false true false false) := by
  refine returnsInHanded_of_row (C := Tryd.checked) (s := Rows.OpenSpec.upto Rows.sampleStaysSpec) tr_own started (by kernel_rfl) Tryd.func3
    (witness_row_atRef (enc := enc) (C := Tryd.checked) false (doorU os) #[.slice none 0 0, .slice none 0 0, .slice none 0 0] (doorU_os os) (by kernel_rfl) (by kernel_rfl) (by kernel_rfl)
      (OpenSpec.preRow_of_cond 8 (x := ([.nil, .nil, .nil], [], [])) (by kernel_rfl) (by kernel_rfl) (fun k hk => by cases hk; kernel_rfl) (by kernel_rfl) (sampleStays_door os))) ?_
  intro W base args ds gs before hval hW _ hcond _ hL _ _
  exact sampleStays_contract H enc W base args ds gs before hval hW hL (hcond _ rfl)

theorem sampleStays_said : Rows.SampleStaysUptoSaid :=
  OpenClaim.holds_of_cond 3 Tryd.f3 rfl rfl rfl rfl rfl rfl rfl ⟨rfl, rfl, rfl, rfl, rfl⟩ rfl rfl rfl rfl rfl (by kernel_rfl) Tryd.func3 (by kernel_rfl)
    (of_decide_eq_true (by kernel_rfl)) (by unfold Func.isWrapper; rw [if_neg (of_decide_eq_false (by kernel_rfl))]; exact ⟨rfl, rfl⟩)
    (fun os started H enc _ F => by rw [OpenClaim.pre_eq_preRow]; exact sampleStays_lifted os started H enc F)

theorem sampleStays_plain (f : FuncId) (fn : Func) (hf : Tryd.pinned.checked.prog.funcNamed "demon/demonlaw4.SampleStays" = some f) (hfn : Tryd.pinned.checked.prog.funcs[f]? = some fn) :
    true = Tryd.pinned.checked.prog.looks [] ∧ ∀ (j : Nat) t, fn.params[j]? = some t → Tryd.pinned.checked.prog.wantsStandIn t = false := by
  obtain rfl : f = 3 := Option.some.inj ((show Tryd.prog.funcNamed "demon/demonlaw4.SampleStays" = some 3 by kernel_rfl).symm.trans hf) |>.symm
  obtain rfl : fn = Tryd.f3 := (Option.some.inj (Tryd.func3.symm.trans hfn)).symm
  refine ⟨by kernel_rfl, fun j t ht => ?_⟩
  have e : (Tryd.f3.params.toList.all fun t => !Tryd.prog.wantsStandIn t) = true := by kernel_rfl
  have h1 := List.all_eq_true.1 e t (Array.mem_toList_iff.2 (Array.mem_of_getElem? ht))
  have h2 : Tryd.prog.wantsStandIn t = false := by simpa using h1
  exact h2

/-- the tied card of SampleStays -/
theorem sampleStays_card : Rows.SampleStaysUptoCardSaid :=
  Claim7.holds_tied_plain_at .later [] _ _ _ _ sampleStays_said (fun _ h => by cases h) (by kernel_rfl) (fun _ h => by cases h) sampleStaysUpto_row_tie rfl ⟨rfl, rfl⟩ (by kernel_rfl) rfl sampleStays_plain (by kernel_rfl)
end Go.Proofs.YtioekjkfhbopkaaDoor
