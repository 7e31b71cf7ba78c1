/- ZeroValid: for every input the law returns true and leaves its arguments as they were, where what it reads is of bulk at most 1048576: the row, and its tied card. Condition: the listed variables read as the program's text lays them (the card ties that). -/
import Derived.Test.YtehheklbibocjaaDoorFlatZeroValide
namespace Go.Proofs.YtehheklbibocjaaDoor
open Go.ChangeShapes Go.WideShapes Go.ChangeAt Go.RowKit Go.Joins

theorem zeroValid_types : ∀ t, t ∈ Tryd.f6.params.toList → Tryd.prog.readableRec t = true ∧ t < Tryd.prog.types.size := by
  intro t ht
  have e : (Tryd.f6.params.toList.all fun t => Tryd.prog.readableRec t && decide (t < Tryd.prog.types.size)) = true := by kernel_rfl
  have h1 := List.all_eq_true.1 e t ht
  simp only [Bool.and_eq_true, decide_eq_true_eq] at h1
  exact h1

set_option maxRecDepth 100000 in
theorem zeroValid_contract (H : Type) (enc : TypeId × Value → H) (W : World) (base : Nat) (args : Array Value) (ds gs : List (DataW H)) (before : List MemPlace)
    (hval : ∀ (j : Nat) t v, Tryd.f6.params[j]? = some t → args[j]? = some v → Value.okWide Tryd.prog W .any base t v)
    (hW : DataW.Whole enc Tryd.prog Tryd.f6.params.toList Rows.zeroValidSpec.vars false W args.toList ds gs before) (hL : laidMetH Tryd.prog Rows.zeroValidRow.laid W) (hk : Rows.uptoSmall H (ds ++ gs) = true) :
    Calls Tryd.prog 6 args W fun e W' => ∃ v, e = .returned v ∧ Rows.zeroValidSpec.post enc Tryd.prog Tryd.f6 false true false false W args v W' := by
  have hW' := hW
  obtain ⟨p, q, hA0, hV, rfl, hfz, hnd⟩ := hW
  have hA : DataW.TrodAll enc Tryd.prog W 0 (fun _ => true) true Tryd.f6.params.toList args.toList ds p := hA0
  rw [Tryd.params6] at hA hval
  obtain ⟨v0, vs0, d0, ds0, p0, q0, hargs, rfl, rfl, h0, r0⟩ := trodAll_cons hA
  obtain ⟨v1, vs1, d1, ds1, p1, q1, rfl, rfl, rfl, h1, r1⟩ := trodAll_cons r0
  obtain ⟨rfl, rfl, rfl⟩ := trodAll_nil r1
  obtain rfl : args = #[v0, v1] := by cases args; simp_all
  obtain ⟨rfl, rfl⟩ := trodVars_none hV
  obtain ⟨a, hS, hH⟩ := full_of_laid hL
  have fin : ∀ W', Below W.heap.size W W' → Rows.zeroValidSpec.post enc Tryd.prog Tryd.f6 false true false false W #[v0, v1] (.bool true) W' := fun W' hb =>
    post_true rfl rfl rfl zeroValid_types hW' hb
  obtain ⟨ca0, cb0, ya0, yb0, mm0, rfl, rfl, rfl, ga0, gb0⟩ := open_agg2 Tryd.underlying24 (by kernel_rfl) (by kernel_rfl) (hval 0 24 v0 rfl rfl) h0
  obtain ⟨n, ee0, _, wn0⟩ := DataW.trod_int Tryd.underlying3 ga0
  injection ee0 with ee0 _
  subst ee0
  obtain ⟨A, l, c, rfl, hPl, hcc, _⟩ := open_pairs_arg gb0
  obtain ⟨za1, zl1, zk1, rfl⟩ := okWide_slice Tryd.underlying43 (hval 1 43 v1 rfl rfl)
  obtain ⟨fu1, gz1⟩ := h1
  obtain ⟨B1, m, d, hv1, hm, hd, _, bm⟩ := open_lists_bulk (v := .slice za1 zl1 zk1) gz1
  injection hv1 with e1a e1b e1c
  subst e1a e1b e1c
  have hbk := bulk_bound hk
  simp only [List.append_nil, Rows.uptoBulkAll] at hbk
  dsimp only at bm
  refine (law_zv n A l c za1 m zk1 W a hS hH hPl hm hd (by omega) (by omega)).mono fun e W' ⟨he, hb⟩ => ?_
  subst he
  exact ⟨_, rfl, fin W' hb⟩

theorem zeroValid_door (os : Os) : laidMetH Tryd.prog Rows.zeroValidRow.laid ((World.doorLaid Tryd.prog 400 os).forCall (fun _ _ => 0) ⟨#[], #[.agg #[.int .i64 0, .slice none 0 0], .slice none 0 0], []⟩).memory :=
  laidMetH_of_parts3 (fuel := 8) (laidMet_of_run' 8 (by kernel_rfl) (by kernel_rfl)) (by kernel_rfl) (by kernel_rfl)
set_option maxRecDepth 100000 in
theorem zeroValid_lifted (os : Os) (started : os.Started) (H : Type) (enc : TypeId × Value → H) (F : Stop.Interp) :
    ReturnsInHanded {} Tryd.checked os 6 .any ((Rows.OpenSpec.upto Rows.zeroValidSpec).preRow enc Tryd.prog Tryd.f6 Rows.zeroValidUptoRow.domain false Rows.zeroValidUptoRow.laid) (((Rows.OpenSpec.upto Rows.zeroValidSpec).at F).post enc Tryd.prog Tryd.f6 false true false false) := by
  refine returnsInHanded_of_row (C := Tryd.checked) (s := Rows.OpenSpec.upto Rows.zeroValidSpec) tr_own started (by kernel_rfl) Tryd.func6
    (witness_row_atRef (enc := enc) (C := Tryd.checked) false (World.doorLaid Tryd.prog 400 os) #[.agg #[.int .i64 0, .slice none 0 0], .slice none 0 0] rfl (by kernel_rfl) (by kernel_rfl) (by kernel_rfl)
      (OpenSpec.preRow_of_cond 8 (x := ([.agg [.lit (.int .i64 0), .nil], .nil], [], [])) (by kernel_rfl) (by kernel_rfl) (fun k hk => by cases hk; kernel_rfl) (by kernel_rfl) (zeroValid_door os))) ?_
  intro W base args ds gs before hval hW _ hcond _ hL _ _
  exact zeroValid_contract H enc W base args ds gs before hval hW hL (hcond _ rfl)

theorem zeroValid_said : Rows.ZeroValidUptoSaid :=
  OpenClaim.holds_of_cond 6 Tryd.f6 rfl rfl rfl rfl rfl rfl rfl ⟨rfl, rfl, rfl, rfl, rfl⟩ rfl rfl rfl rfl rfl (by kernel_rfl) Tryd.func6 (by kernel_rfl)
    (of_decide_eq_true (by kernel_rfl)) (by unfold Func.isWrapper; rw [if_neg (of_decide_eq_false (by kernel_rfl))]; exact ⟨rfl, rfl⟩)
    (fun os started H enc _ F => by rw [OpenClaim.pre_eq_preRow]; exact zeroValid_lifted os started H enc F)

theorem zeroValid_plain (f : FuncId) (fn : Func) (hf : Tryd.pinned.checked.prog.funcNamed "demon/demonlaw3.ZeroValid" = some f) (hfn : Tryd.pinned.checked.prog.funcs[f]? = some fn) :
    true = Tryd.pinned.checked.prog.looks [] ∧ ∀ (j : Nat) t, fn.params[j]? = some t → Tryd.pinned.checked.prog.wantsStandIn t = false := by
  obtain rfl : f = 6 := Option.some.inj ((show Tryd.prog.funcNamed "demon/demonlaw3.ZeroValid" = some 6 by kernel_rfl).symm.trans hf) |>.symm
  obtain rfl : fn = Tryd.f6 := (Option.some.inj (Tryd.func6.symm.trans hfn)).symm
  refine ⟨by kernel_rfl, fun j t ht => ?_⟩
  have e : (Tryd.f6.params.toList.all fun t => !Tryd.prog.wantsStandIn t) = true := by kernel_rfl
  have h1 := List.all_eq_true.1 e t (Array.mem_toList_iff.2 (Array.mem_of_getElem? ht))
  have h2 : Tryd.prog.wantsStandIn t = false := by simpa using h1
  exact h2

/-- the tied card of ZeroValid -/
theorem zeroValid_card : Rows.ZeroValidUptoCardSaid :=
  Claim7.holds_tied_plain_at .later [] _ _ _ _ zeroValid_said (fun _ h => by cases h) (by kernel_rfl) (fun _ h => by cases h) zeroValidUpto_row_tie rfl ⟨rfl, rfl⟩ (by kernel_rfl) rfl zeroValid_plain (by kernel_rfl)
end Go.Proofs.YtehheklbibocjaaDoor
