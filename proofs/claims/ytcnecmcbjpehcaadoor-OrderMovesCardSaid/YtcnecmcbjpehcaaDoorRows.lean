/-
  NARROWER THAN 'FOR EVERY INPUT', by the rows' own cells (each row's printed sentence says how): OrderBirkhoff: laid · OrderAbove: laid · OrderApply: laid · OrderSpread: laid · OrderParts: laid · OrderMoves: laid · OrderHull: laid.
  DERIVED. THE GIVEN ROWS OF THIS SEAT. 7 by the template 'for every input the law returns true; each argument reads behind the call as it read before'; 0 by the template 'total and deterministic' (their statements: YtcnecmcbjpehcaaDoorTotals.lean).
  GIVEN WITH THE SEED: the statements are not yours to turn. If you find one false, say at which input.
  Laid BY PROGRAM, IN A SANDBOX (cutbox-rows.mjs): the forced cells as the released guide's own fill.sh prints them over the translation c31bedbfc7f7c96e… (all of the seat's roots in one cut). By AI agents, Wed Nov 11 2026. No macro, syntax, notation, axiom, sorry.
-/
import Derived.Test.YtcnecmcbjpehcaaDoorChecked
import GoSem.Claim
import GoSem.ClaimJoined
import GoSem.ClaimMapViews
import Derived.JoinedTies
import Derived.KernelRfl
namespace Go.Proofs.YtcnecmcbjpehcaaDoor
/- THE CELL 'sum', in the pinned program and in every row, IS THE sha256 OF THE DUMP (.gsa) THAT YtcnecmcbjpehcaaDoorProg.lean LOADS. Nothing in Lean hashes anything: it is a label: what it is worth is what the hold of that sum in a sandbox is worth. -/
noncomputable def Tryd.pinned : Pinned := { name := "ytcnecmcbjpehcaadoor", sum := "c31bedbfc7f7c96eae8a7dcedab3a0a361ae8b7cf223bfedfc593c4c9f998a0a", checked := Tryd.checked }
namespace Rows
def none {H : Type} : Left H := { results := [], args := [] }

/- WHAT THE LISTED PACKAGE-LEVEL VARIABLES READ AS WHEN THE CALL BEGINS. Each datum BY PROGRAM (the guide's laid-datum.mjs) off the statement by which the dump's own 'gosem.cut.vars' lays the variable. In a bare row this is a premise. The card (YtcnecmcbjpehcaaDoorCards.lean) ties it to the program's text. -/
def laid_demon_api_ErrBound {H : Type} : DataW H := .iface "*errors.errorString" (.ptr (.agg [.lit (.string [100, 101, 109, 111, 110, 58, 32, 98, 111, 117, 110, 100])]))
def laid_demon_api_ErrShape {H : Type} : DataW H := .iface "*errors.errorString" (.ptr (.agg [.lit (.string [100, 101, 109, 111, 110, 58, 32, 115, 104, 97, 112, 101])]))
def laid_errors_errorType {H : Type} : DataW H := .iface "internal/reflectlite.rtype" (.agg [.ptr (.lit (.string [101, 114, 114, 111, 114]))])
def laid_demon_api_ErrText {H : Type} : DataW H := .iface "*errors.errorString" (.ptr (.agg [.lit (.string [100, 101, 109, 111, 110, 58, 32, 116, 101, 120, 116])]))
def laid_demon_api_ErrZero {H : Type} : DataW H := .iface "*errors.errorString" (.ptr (.agg [.lit (.string [100, 101, 109, 111, 110, 58, 32, 122, 101, 114, 111])]))
def laid_demon_api_ErrName {H : Type} : DataW H := .iface "*errors.errorString" (.ptr (.agg [.lit (.string [100, 101, 109, 111, 110, 58, 32, 110, 97, 109, 101])]))
def laid_demon_api_ErrNone {H : Type} : DataW H := .iface "*errors.errorString" (.ptr (.agg [.lit (.string [100, 101, 109, 111, 110, 58, 32, 110, 111, 110, 101])]))
def laid_demon_api_ErrOrder {H : Type} : DataW H := .iface "*errors.errorString" (.ptr (.agg [.lit (.string [100, 101, 109, 111, 110, 58, 32, 111, 114, 100, 101, 114])]))
def laid_demon_api_ErrKind {H : Type} : DataW H := .iface "*errors.errorString" (.ptr (.agg [.lit (.string [100, 101, 109, 111, 110, 58, 32, 107, 105, 110, 100])]))

/-- 'demonlaw4.OrderBirkhoff': WHATEVER THE INPUT: true; the input reads as it did. -/
def orderBirkhoffSpec : ChangeSpec := { name := "orderBirkhoff", fn := fun _ => fun
  | [d] => { results := [.lit (.bool true)], args := [d] }
  | _ => none }
def orderBirkhoffRow : OpenClaim := { program := "ytcnecmcbjpehcaadoor", sum := "c31bedbfc7f7c96eae8a7dcedab3a0a361ae8b7cf223bfedfc593c4c9f998a0a", func := "demon/demonlaw4.OrderBirkhoff", spec := "orderBirkhoff", unfollowed := true, recurses := true, named := ["demon/api.ErrBound", "demon/api.ErrShape"], apart := false, laid := [("demon/api.ErrBound", laid_demon_api_ErrBound), ("demon/api.ErrShape", laid_demon_api_ErrShape)] }
def OrderBirkhoffSaid : Prop := orderBirkhoffRow.holds Tryd.pinned (OpenSpec.ofChange orderBirkhoffSpec)

/-- ITS FALSE NEIGHBOUR: 'it returns false'. Refute it at one input. -/
def orderBirkhoffWrong : ChangeSpec := { name := "orderBirkhoff", fn := fun _ => fun
  | [d] => { results := [.lit (.bool false)], args := [d] }
  | _ => none }
def OrderBirkhoffWrongFalsely : Prop := orderBirkhoffRow.holds Tryd.pinned (OpenSpec.ofChange orderBirkhoffWrong)

/-- 'demonlaw4.OrderAbove': WHATEVER THE INPUT: true; the input reads as it did. -/
def orderAboveSpec : ChangeSpec := { name := "orderAbove", fn := fun _ => fun
  | [d1, d2] => { results := [.lit (.bool true)], args := [d1, d2] }
  | _ => none }
def orderAboveRow : OpenClaim := { program := "ytcnecmcbjpehcaadoor", sum := "c31bedbfc7f7c96eae8a7dcedab3a0a361ae8b7cf223bfedfc593c4c9f998a0a", func := "demon/demonlaw4.OrderAbove", spec := "orderAbove", inPlace := ["internal/reflectlite.ValueOf", "(internal/reflectlite.Value).Type", "(internal/reflectlite.Value).IsNil", "internal/reflectlite.TypeOf", "(internal/reflectlite.Value).Elem", "(internal/reflectlite.Value).Set"], unfollowed := true, recurses := true, named := ["demon/api.ErrBound", "demon/api.ErrShape", "demon/api.ErrText", "demon/api.ErrZero", "demon/api.ErrName", "demon/api.ErrNone", "demon/api.ErrOrder", "demon/api.ErrKind", "errors.errorType"], apart := false, laid := [("errors.errorType", laid_errors_errorType), ("demon/api.ErrText", laid_demon_api_ErrText), ("demon/api.ErrBound", laid_demon_api_ErrBound), ("demon/api.ErrShape", laid_demon_api_ErrShape), ("demon/api.ErrZero", laid_demon_api_ErrZero), ("demon/api.ErrName", laid_demon_api_ErrName), ("demon/api.ErrNone", laid_demon_api_ErrNone), ("demon/api.ErrOrder", laid_demon_api_ErrOrder), ("demon/api.ErrKind", laid_demon_api_ErrKind)] }
def OrderAboveSaid : Prop := orderAboveRow.holds Tryd.pinned (OpenSpec.ofChange orderAboveSpec)

/-- ITS FALSE NEIGHBOUR: 'it returns false'. Refute it at one input. -/
def orderAboveWrong : ChangeSpec := { name := "orderAbove", fn := fun _ => fun
  | [d1, d2] => { results := [.lit (.bool false)], args := [d1, d2] }
  | _ => none }
def OrderAboveWrongFalsely : Prop := orderAboveRow.holds Tryd.pinned (OpenSpec.ofChange orderAboveWrong)

/-- 'demonlaw4.OrderApply': WHATEVER THE INPUT: true; the input reads as it did. -/
def orderApplySpec : ChangeSpec := { name := "orderApply", fn := fun _ => fun
  | [d1, d2] => { results := [.lit (.bool true)], args := [d1, d2] }
  | _ => none }
def orderApplyRow : OpenClaim := { program := "ytcnecmcbjpehcaadoor", sum := "c31bedbfc7f7c96eae8a7dcedab3a0a361ae8b7cf223bfedfc593c4c9f998a0a", func := "demon/demonlaw4.OrderApply", spec := "orderApply", inPlace := ["internal/reflectlite.ValueOf", "(internal/reflectlite.Value).Type", "(internal/reflectlite.Value).IsNil", "internal/reflectlite.TypeOf", "(internal/reflectlite.Value).Elem", "(internal/reflectlite.Value).Set"], unfollowed := true, recurses := true, named := ["demon/api.ErrBound", "demon/api.ErrShape", "demon/api.ErrOrder", "demon/api.ErrText", "demon/api.ErrZero", "demon/api.ErrName", "demon/api.ErrNone", "demon/api.ErrKind", "errors.errorType"], apart := false, laid := [("errors.errorType", laid_errors_errorType), ("demon/api.ErrText", laid_demon_api_ErrText), ("demon/api.ErrBound", laid_demon_api_ErrBound), ("demon/api.ErrShape", laid_demon_api_ErrShape), ("demon/api.ErrZero", laid_demon_api_ErrZero), ("demon/api.ErrName", laid_demon_api_ErrName), ("demon/api.ErrNone", laid_demon_api_ErrNone), ("demon/api.ErrOrder", laid_demon_api_ErrOrder), ("demon/api.ErrKind", laid_demon_api_ErrKind)] }
def OrderApplySaid : Prop := orderApplyRow.holds Tryd.pinned (OpenSpec.ofChange orderApplySpec)

/-- ITS FALSE NEIGHBOUR: 'it returns false'. Refute it at one input. -/
def orderApplyWrong : ChangeSpec := { name := "orderApply", fn := fun _ => fun
  | [d1, d2] => { results := [.lit (.bool false)], args := [d1, d2] }
  | _ => none }
def OrderApplyWrongFalsely : Prop := orderApplyRow.holds Tryd.pinned (OpenSpec.ofChange orderApplyWrong)

/-- 'demonlaw4.OrderSpread': WHATEVER THE INPUT: true; the input reads as it did. -/
def orderSpreadSpec : ChangeSpec := { name := "orderSpread", fn := fun _ => fun
  | [d1, d2] => { results := [.lit (.bool true)], args := [d1, d2] }
  | _ => none }
def orderSpreadRow : OpenClaim := { program := "ytcnecmcbjpehcaadoor", sum := "c31bedbfc7f7c96eae8a7dcedab3a0a361ae8b7cf223bfedfc593c4c9f998a0a", func := "demon/demonlaw4.OrderSpread", spec := "orderSpread", inPlace := ["internal/reflectlite.ValueOf", "(internal/reflectlite.Value).Type", "(internal/reflectlite.Value).IsNil", "internal/reflectlite.TypeOf", "(internal/reflectlite.Value).Elem", "(internal/reflectlite.Value).Set"], unfollowed := true, recurses := true, named := ["demon/api.ErrBound", "demon/api.ErrShape", "demon/api.ErrText", "demon/api.ErrZero", "demon/api.ErrName", "demon/api.ErrNone", "demon/api.ErrOrder", "demon/api.ErrKind", "errors.errorType"], apart := false, laid := [("errors.errorType", laid_errors_errorType), ("demon/api.ErrText", laid_demon_api_ErrText), ("demon/api.ErrBound", laid_demon_api_ErrBound), ("demon/api.ErrShape", laid_demon_api_ErrShape), ("demon/api.ErrZero", laid_demon_api_ErrZero), ("demon/api.ErrName", laid_demon_api_ErrName), ("demon/api.ErrNone", laid_demon_api_ErrNone), ("demon/api.ErrOrder", laid_demon_api_ErrOrder), ("demon/api.ErrKind", laid_demon_api_ErrKind)] }
def OrderSpreadSaid : Prop := orderSpreadRow.holds Tryd.pinned (OpenSpec.ofChange orderSpreadSpec)

/-- ITS FALSE NEIGHBOUR: 'it returns false'. Refute it at one input. -/
def orderSpreadWrong : ChangeSpec := { name := "orderSpread", fn := fun _ => fun
  | [d1, d2] => { results := [.lit (.bool false)], args := [d1, d2] }
  | _ => none }
def OrderSpreadWrongFalsely : Prop := orderSpreadRow.holds Tryd.pinned (OpenSpec.ofChange orderSpreadWrong)

/-- 'demonlaw4.OrderParts': WHATEVER THE INPUT: true; the input reads as it did. -/
def orderPartsSpec : ChangeSpec := { name := "orderParts", fn := fun _ => fun
  | [d] => { results := [.lit (.bool true)], args := [d] }
  | _ => none }
def orderPartsRow : OpenClaim := { program := "ytcnecmcbjpehcaadoor", sum := "c31bedbfc7f7c96eae8a7dcedab3a0a361ae8b7cf223bfedfc593c4c9f998a0a", func := "demon/demonlaw4.OrderParts", spec := "orderParts", inPlace := ["internal/reflectlite.ValueOf", "(internal/reflectlite.Value).Type", "(internal/reflectlite.Value).IsNil", "internal/reflectlite.TypeOf", "(internal/reflectlite.Value).Elem", "(internal/reflectlite.Value).Set"], unfollowed := true, recurses := true, named := ["demon/api.ErrBound", "demon/api.ErrShape", "demon/api.ErrText", "demon/api.ErrZero", "demon/api.ErrName", "demon/api.ErrNone", "demon/api.ErrOrder", "demon/api.ErrKind", "errors.errorType"], apart := false, laid := [("errors.errorType", laid_errors_errorType), ("demon/api.ErrText", laid_demon_api_ErrText), ("demon/api.ErrBound", laid_demon_api_ErrBound), ("demon/api.ErrShape", laid_demon_api_ErrShape), ("demon/api.ErrZero", laid_demon_api_ErrZero), ("demon/api.ErrName", laid_demon_api_ErrName), ("demon/api.ErrNone", laid_demon_api_ErrNone), ("demon/api.ErrOrder", laid_demon_api_ErrOrder), ("demon/api.ErrKind", laid_demon_api_ErrKind)] }
def OrderPartsSaid : Prop := orderPartsRow.holds Tryd.pinned (OpenSpec.ofChange orderPartsSpec)

/-- ITS FALSE NEIGHBOUR: 'it returns false'. Refute it at one input. -/
def orderPartsWrong : ChangeSpec := { name := "orderParts", fn := fun _ => fun
  | [d] => { results := [.lit (.bool false)], args := [d] }
  | _ => none }
def OrderPartsWrongFalsely : Prop := orderPartsRow.holds Tryd.pinned (OpenSpec.ofChange orderPartsWrong)

/-- 'demonlaw4.OrderMoves': WHATEVER THE INPUT: true; the input reads as it did. -/
def orderMovesSpec : ChangeSpec := { name := "orderMoves", fn := fun _ => fun
  | [d1, d2] => { results := [.lit (.bool true)], args := [d1, d2] }
  | _ => none }
def orderMovesRow : OpenClaim := { program := "ytcnecmcbjpehcaadoor", sum := "c31bedbfc7f7c96eae8a7dcedab3a0a361ae8b7cf223bfedfc593c4c9f998a0a", func := "demon/demonlaw4.OrderMoves", spec := "orderMoves", inPlace := ["internal/reflectlite.ValueOf", "(internal/reflectlite.Value).Type", "(internal/reflectlite.Value).IsNil", "internal/reflectlite.TypeOf", "(internal/reflectlite.Value).Elem", "(internal/reflectlite.Value).Set"], unfollowed := true, recurses := true, named := ["demon/api.ErrBound", "demon/api.ErrShape", "demon/api.ErrNone", "demon/api.ErrText", "demon/api.ErrZero", "demon/api.ErrName", "demon/api.ErrOrder", "demon/api.ErrKind", "errors.errorType"], apart := false, laid := [("errors.errorType", laid_errors_errorType), ("demon/api.ErrText", laid_demon_api_ErrText), ("demon/api.ErrBound", laid_demon_api_ErrBound), ("demon/api.ErrShape", laid_demon_api_ErrShape), ("demon/api.ErrZero", laid_demon_api_ErrZero), ("demon/api.ErrName", laid_demon_api_ErrName), ("demon/api.ErrNone", laid_demon_api_ErrNone), ("demon/api.ErrOrder", laid_demon_api_ErrOrder), ("demon/api.ErrKind", laid_demon_api_ErrKind)] }
def OrderMovesSaid : Prop := orderMovesRow.holds Tryd.pinned (OpenSpec.ofChange orderMovesSpec)

/-- ITS FALSE NEIGHBOUR: 'it returns false'. Refute it at one input. -/
def orderMovesWrong : ChangeSpec := { name := "orderMoves", fn := fun _ => fun
  | [d1, d2] => { results := [.lit (.bool false)], args := [d1, d2] }
  | _ => none }
def OrderMovesWrongFalsely : Prop := orderMovesRow.holds Tryd.pinned (OpenSpec.ofChange orderMovesWrong)

/-- 'demonlaw4.OrderHull': WHATEVER THE INPUT: true; the input reads as it did. -/
def orderHullSpec : ChangeSpec := { name := "orderHull", fn := fun _ => fun
  | [d] => { results := [.lit (.bool true)], args := [d] }
  | _ => none }
def orderHullRow : OpenClaim := { program := "ytcnecmcbjpehcaadoor", sum := "c31bedbfc7f7c96eae8a7dcedab3a0a361ae8b7cf223bfedfc593c4c9f998a0a", func := "demon/demonlaw4.OrderHull", spec := "orderHull", inPlace := ["internal/reflectlite.ValueOf", "(internal/reflectlite.Value).Type", "(internal/reflectlite.Value).IsNil", "internal/reflectlite.TypeOf", "(internal/reflectlite.Value).Elem", "(internal/reflectlite.Value).Set"], unfollowed := true, recurses := true, named := ["demon/api.ErrBound", "demon/api.ErrShape", "demon/api.ErrText", "demon/api.ErrZero", "demon/api.ErrName", "demon/api.ErrNone", "demon/api.ErrOrder", "demon/api.ErrKind", "errors.errorType"], apart := false, laid := [("errors.errorType", laid_errors_errorType), ("demon/api.ErrText", laid_demon_api_ErrText), ("demon/api.ErrBound", laid_demon_api_ErrBound), ("demon/api.ErrShape", laid_demon_api_ErrShape), ("demon/api.ErrZero", laid_demon_api_ErrZero), ("demon/api.ErrName", laid_demon_api_ErrName), ("demon/api.ErrNone", laid_demon_api_ErrNone), ("demon/api.ErrOrder", laid_demon_api_ErrOrder), ("demon/api.ErrKind", laid_demon_api_ErrKind)] }
def OrderHullSaid : Prop := orderHullRow.holds Tryd.pinned (OpenSpec.ofChange orderHullSpec)

/-- ITS FALSE NEIGHBOUR: 'it returns false'. Refute it at one input. -/
def orderHullWrong : ChangeSpec := { name := "orderHull", fn := fun _ => fun
  | [d] => { results := [.lit (.bool false)], args := [d] }
  | _ => none }
def OrderHullWrongFalsely : Prop := orderHullRow.holds Tryd.pinned (OpenSpec.ofChange orderHullWrong)

/- THE SECOND FORM. 'bulk': how many values and letters a reading holds, each counted each time it is reached (what is shared counts as often as it is met; a slice's spare places count too). A statement '..UptoSaid' is the law's where the arguments, and the package variables that the reading takes, are together of bulk at most 1048576: NARROWER than '..Said'. Prove '..Said' where nothing that the law and all that it calls make is longer than what came in: it says more and counts as full. Else prove '..UptoSaid'. A law counts once. -/
mutual
def uptoBulk {H : Type} : DataW H → Nat
  | .lit (.string bytes) => bytes.length + 1
  | .lit _ => 1
  | .nil => 1
  | .ptr d => uptoBulk d + 1
  | .slice elems spare => uptoBulkAll elems + uptoBulkAll spare + 1
  | .agg parts => uptoBulkAll parts + 1
  | .iface _ d => uptoBulk d + 1
  | .map entries => uptoBulkEntries entries + 1
  | .held _ => 1
def uptoBulkAll {H : Type} : List (DataW H) → Nat
  | [] => 0
  | d :: r => uptoBulk d + uptoBulkAll r
def uptoBulkEntries {H : Type} : List (Lit × DataW H) → Nat
  | [] => 0
  | x :: r => uptoBulkEntry x + uptoBulkEntries r
def uptoBulkEntry {H : Type} : Lit × DataW H → Nat
  | (.string bytes, d) => bytes.length + uptoBulk d + 1
  | (_, d) => uptoBulk d + 1
 end
def uptoSmall : (H : Type) → List (DataW H) → Bool := fun _ ds => decide (uptoBulkAll ds ≤ 1048576)
def OpenSpec.upto (s : _root_.Go.ChangeSpec) : _root_.Go.OpenSpec := { _root_.Go.OpenSpec.ofChange s with cond := some uptoSmall }

/-- 'demonlaw4.OrderBirkhoff', WHERE WHAT IT READS IS OF BULK AT MOST 1048576: true; the input reads as it did. -/
def orderBirkhoffUptoRow : OpenClaim := { program := "ytcnecmcbjpehcaadoor", sum := "c31bedbfc7f7c96eae8a7dcedab3a0a361ae8b7cf223bfedfc593c4c9f998a0a", func := "demon/demonlaw4.OrderBirkhoff", spec := "orderBirkhoff", unfollowed := true, recurses := true, named := ["demon/api.ErrBound", "demon/api.ErrShape"], apart := false, laid := [("demon/api.ErrBound", laid_demon_api_ErrBound), ("demon/api.ErrShape", laid_demon_api_ErrShape)], narrowed := true }
def OrderBirkhoffUptoSaid : Prop := orderBirkhoffUptoRow.holds Tryd.pinned (OpenSpec.upto orderBirkhoffSpec)

/-- 'demonlaw4.OrderAbove', WHERE WHAT IT READS IS OF BULK AT MOST 1048576: true; the input reads as it did. -/
def orderAboveUptoRow : OpenClaim := { program := "ytcnecmcbjpehcaadoor", sum := "c31bedbfc7f7c96eae8a7dcedab3a0a361ae8b7cf223bfedfc593c4c9f998a0a", func := "demon/demonlaw4.OrderAbove", spec := "orderAbove", inPlace := ["internal/reflectlite.ValueOf", "(internal/reflectlite.Value).Type", "(internal/reflectlite.Value).IsNil", "internal/reflectlite.TypeOf", "(internal/reflectlite.Value).Elem", "(internal/reflectlite.Value).Set"], unfollowed := true, recurses := true, named := ["demon/api.ErrBound", "demon/api.ErrShape", "demon/api.ErrText", "demon/api.ErrZero", "demon/api.ErrName", "demon/api.ErrNone", "demon/api.ErrOrder", "demon/api.ErrKind", "errors.errorType"], apart := false, laid := [("errors.errorType", laid_errors_errorType), ("demon/api.ErrText", laid_demon_api_ErrText), ("demon/api.ErrBound", laid_demon_api_ErrBound), ("demon/api.ErrShape", laid_demon_api_ErrShape), ("demon/api.ErrZero", laid_demon_api_ErrZero), ("demon/api.ErrName", laid_demon_api_ErrName), ("demon/api.ErrNone", laid_demon_api_ErrNone), ("demon/api.ErrOrder", laid_demon_api_ErrOrder), ("demon/api.ErrKind", laid_demon_api_ErrKind)], narrowed := true }
def OrderAboveUptoSaid : Prop := orderAboveUptoRow.holds Tryd.pinned (OpenSpec.upto orderAboveSpec)

/-- 'demonlaw4.OrderApply', WHERE WHAT IT READS IS OF BULK AT MOST 1048576: true; the input reads as it did. -/
def orderApplyUptoRow : OpenClaim := { program := "ytcnecmcbjpehcaadoor", sum := "c31bedbfc7f7c96eae8a7dcedab3a0a361ae8b7cf223bfedfc593c4c9f998a0a", func := "demon/demonlaw4.OrderApply", spec := "orderApply", inPlace := ["internal/reflectlite.ValueOf", "(internal/reflectlite.Value).Type", "(internal/reflectlite.Value).IsNil", "internal/reflectlite.TypeOf", "(internal/reflectlite.Value).Elem", "(internal/reflectlite.Value).Set"], unfollowed := true, recurses := true, named := ["demon/api.ErrBound", "demon/api.ErrShape", "demon/api.ErrOrder", "demon/api.ErrText", "demon/api.ErrZero", "demon/api.ErrName", "demon/api.ErrNone", "demon/api.ErrKind", "errors.errorType"], apart := false, laid := [("errors.errorType", laid_errors_errorType), ("demon/api.ErrText", laid_demon_api_ErrText), ("demon/api.ErrBound", laid_demon_api_ErrBound), ("demon/api.ErrShape", laid_demon_api_ErrShape), ("demon/api.ErrZero", laid_demon_api_ErrZero), ("demon/api.ErrName", laid_demon_api_ErrName), ("demon/api.ErrNone", laid_demon_api_ErrNone), ("demon/api.ErrOrder", laid_demon_api_ErrOrder), ("demon/api.ErrKind", laid_demon_api_ErrKind)], narrowed := true }
def OrderApplyUptoSaid : Prop := orderApplyUptoRow.holds Tryd.pinned (OpenSpec.upto orderApplySpec)

/-- 'demonlaw4.OrderSpread', WHERE WHAT IT READS IS OF BULK AT MOST 1048576: true; the input reads as it did. -/
def orderSpreadUptoRow : OpenClaim := { program := "ytcnecmcbjpehcaadoor", sum := "c31bedbfc7f7c96eae8a7dcedab3a0a361ae8b7cf223bfedfc593c4c9f998a0a", func := "demon/demonlaw4.OrderSpread", spec := "orderSpread", inPlace := ["internal/reflectlite.ValueOf", "(internal/reflectlite.Value).Type", "(internal/reflectlite.Value).IsNil", "internal/reflectlite.TypeOf", "(internal/reflectlite.Value).Elem", "(internal/reflectlite.Value).Set"], unfollowed := true, recurses := true, named := ["demon/api.ErrBound", "demon/api.ErrShape", "demon/api.ErrText", "demon/api.ErrZero", "demon/api.ErrName", "demon/api.ErrNone", "demon/api.ErrOrder", "demon/api.ErrKind", "errors.errorType"], apart := false, laid := [("errors.errorType", laid_errors_errorType), ("demon/api.ErrText", laid_demon_api_ErrText), ("demon/api.ErrBound", laid_demon_api_ErrBound), ("demon/api.ErrShape", laid_demon_api_ErrShape), ("demon/api.ErrZero", laid_demon_api_ErrZero), ("demon/api.ErrName", laid_demon_api_ErrName), ("demon/api.ErrNone", laid_demon_api_ErrNone), ("demon/api.ErrOrder", laid_demon_api_ErrOrder), ("demon/api.ErrKind", laid_demon_api_ErrKind)], narrowed := true }
def OrderSpreadUptoSaid : Prop := orderSpreadUptoRow.holds Tryd.pinned (OpenSpec.upto orderSpreadSpec)

/-- 'demonlaw4.OrderParts', WHERE WHAT IT READS IS OF BULK AT MOST 1048576: true; the input reads as it did. -/
def orderPartsUptoRow : OpenClaim := { program := "ytcnecmcbjpehcaadoor", sum := "c31bedbfc7f7c96eae8a7dcedab3a0a361ae8b7cf223bfedfc593c4c9f998a0a", func := "demon/demonlaw4.OrderParts", spec := "orderParts", inPlace := ["internal/reflectlite.ValueOf", "(internal/reflectlite.Value).Type", "(internal/reflectlite.Value).IsNil", "internal/reflectlite.TypeOf", "(internal/reflectlite.Value).Elem", "(internal/reflectlite.Value).Set"], unfollowed := true, recurses := true, named := ["demon/api.ErrBound", "demon/api.ErrShape", "demon/api.ErrText", "demon/api.ErrZero", "demon/api.ErrName", "demon/api.ErrNone", "demon/api.ErrOrder", "demon/api.ErrKind", "errors.errorType"], apart := false, laid := [("errors.errorType", laid_errors_errorType), ("demon/api.ErrText", laid_demon_api_ErrText), ("demon/api.ErrBound", laid_demon_api_ErrBound), ("demon/api.ErrShape", laid_demon_api_ErrShape), ("demon/api.ErrZero", laid_demon_api_ErrZero), ("demon/api.ErrName", laid_demon_api_ErrName), ("demon/api.ErrNone", laid_demon_api_ErrNone), ("demon/api.ErrOrder", laid_demon_api_ErrOrder), ("demon/api.ErrKind", laid_demon_api_ErrKind)], narrowed := true }
def OrderPartsUptoSaid : Prop := orderPartsUptoRow.holds Tryd.pinned (OpenSpec.upto orderPartsSpec)

/-- 'demonlaw4.OrderMoves', WHERE WHAT IT READS IS OF BULK AT MOST 1048576: true; the input reads as it did. -/
def orderMovesUptoRow : OpenClaim := { program := "ytcnecmcbjpehcaadoor", sum := "c31bedbfc7f7c96eae8a7dcedab3a0a361ae8b7cf223bfedfc593c4c9f998a0a", func := "demon/demonlaw4.OrderMoves", spec := "orderMoves", inPlace := ["internal/reflectlite.ValueOf", "(internal/reflectlite.Value).Type", "(internal/reflectlite.Value).IsNil", "internal/reflectlite.TypeOf", "(internal/reflectlite.Value).Elem", "(internal/reflectlite.Value).Set"], unfollowed := true, recurses := true, named := ["demon/api.ErrBound", "demon/api.ErrShape", "demon/api.ErrNone", "demon/api.ErrText", "demon/api.ErrZero", "demon/api.ErrName", "demon/api.ErrOrder", "demon/api.ErrKind", "errors.errorType"], apart := false, laid := [("errors.errorType", laid_errors_errorType), ("demon/api.ErrText", laid_demon_api_ErrText), ("demon/api.ErrBound", laid_demon_api_ErrBound), ("demon/api.ErrShape", laid_demon_api_ErrShape), ("demon/api.ErrZero", laid_demon_api_ErrZero), ("demon/api.ErrName", laid_demon_api_ErrName), ("demon/api.ErrNone", laid_demon_api_ErrNone), ("demon/api.ErrOrder", laid_demon_api_ErrOrder), ("demon/api.ErrKind", laid_demon_api_ErrKind)], narrowed := true }
def OrderMovesUptoSaid : Prop := orderMovesUptoRow.holds Tryd.pinned (OpenSpec.upto orderMovesSpec)

/-- 'demonlaw4.OrderHull', WHERE WHAT IT READS IS OF BULK AT MOST 1048576: true; the input reads as it did. -/
def orderHullUptoRow : OpenClaim := { program := "ytcnecmcbjpehcaadoor", sum := "c31bedbfc7f7c96eae8a7dcedab3a0a361ae8b7cf223bfedfc593c4c9f998a0a", func := "demon/demonlaw4.OrderHull", spec := "orderHull", inPlace := ["internal/reflectlite.ValueOf", "(internal/reflectlite.Value).Type", "(internal/reflectlite.Value).IsNil", "internal/reflectlite.TypeOf", "(internal/reflectlite.Value).Elem", "(internal/reflectlite.Value).Set"], unfollowed := true, recurses := true, named := ["demon/api.ErrBound", "demon/api.ErrShape", "demon/api.ErrText", "demon/api.ErrZero", "demon/api.ErrName", "demon/api.ErrNone", "demon/api.ErrOrder", "demon/api.ErrKind", "errors.errorType"], apart := false, laid := [("errors.errorType", laid_errors_errorType), ("demon/api.ErrText", laid_demon_api_ErrText), ("demon/api.ErrBound", laid_demon_api_ErrBound), ("demon/api.ErrShape", laid_demon_api_ErrShape), ("demon/api.ErrZero", laid_demon_api_ErrZero), ("demon/api.ErrName", laid_demon_api_ErrName), ("demon/api.ErrNone", laid_demon_api_ErrNone), ("demon/api.ErrOrder", laid_demon_api_ErrOrder), ("demon/api.ErrKind", laid_demon_api_ErrKind)], narrowed := true }
def OrderHullUptoSaid : Prop := orderHullUptoRow.holds Tryd.pinned (OpenSpec.upto orderHullSpec)

end Rows
end Go.Proofs.YtcnecmcbjpehcaaDoor
