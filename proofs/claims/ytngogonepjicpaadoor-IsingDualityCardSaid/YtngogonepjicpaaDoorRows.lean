/-
  NARROWER THAN 'FOR EVERY INPUT', by the rows' own cells (each row's printed sentence says how): IsingExpansion: laid · IsingDuality: laid · IsingValid: laid · IsingStates: laid · IsingEven: laid · IsingGrid: laid · IsingFaces: laid · IsingStrip: laid.
  DERIVED. THE GIVEN ROWS OF THIS SEAT. 8 by the template 'for every input the law returns true; each argument reads behind the call as it read before'; 0 by the template 'total and deterministic' (their statements: YtngogonepjicpaaDoorTotals.lean).
  GIVEN WITH THE SEED: the statements are not yours to turn. If you find one false, say at which input.
  Laid BY PROGRAM, IN A SANDBOX (cutbox-rows.mjs): the forced cells as the released guide's own fill.sh prints them over the translation 63118ca05cdf7f66… (all of the seat's roots in one cut). By AI agents, Wed Nov 11 2026. No macro, syntax, notation, axiom, sorry.
-/
import Derived.Test.YtngogonepjicpaaDoorChecked
import GoSem.Claim
import GoSem.ClaimJoined
import GoSem.ClaimMapViews
import Derived.JoinedTies
import Derived.KernelRfl
namespace Go.Proofs.YtngogonepjicpaaDoor
/- THE CELL 'sum', in the pinned program and in every row, IS THE sha256 OF THE DUMP (.gsa) THAT YtngogonepjicpaaDoorProg.lean LOADS. Nothing in Lean hashes anything: it is a label: what it is worth is what the hold of that sum in a sandbox is worth. -/
noncomputable def Tryd.pinned : Pinned := { name := "ytngogonepjicpaadoor", sum := "63118ca05cdf7f66ed839b286c61ce5364afcdff536182c6665934a0e0f43b1f", checked := Tryd.checked }
namespace Rows
def none {H : Type} : Left H := { results := [], args := [] }

/- WHAT THE LISTED PACKAGE-LEVEL VARIABLES READ AS WHEN THE CALL BEGINS. Each datum BY PROGRAM (the guide's laid-datum.mjs) off the statement by which the dump's own 'gosem.cut.vars' lays the variable. In a bare row this is a premise. The card (YtngogonepjicpaaDoorCards.lean) ties it to the program's text. -/
def laid_demon_api_ErrBound {H : Type} : DataW H := .iface "*errors.errorString" (.ptr (.agg [.lit (.string [100, 101, 109, 111, 110, 58, 32, 98, 111, 117, 110, 100])]))
def laid_demon_api_ErrShape {H : Type} : DataW H := .iface "*errors.errorString" (.ptr (.agg [.lit (.string [100, 101, 109, 111, 110, 58, 32, 115, 104, 97, 112, 101])]))
def laid_errors_errorType {H : Type} : DataW H := .iface "internal/reflectlite.rtype" (.agg [.ptr (.lit (.string [101, 114, 114, 111, 114]))])
def laid_demon_api_ErrText {H : Type} : DataW H := .iface "*errors.errorString" (.ptr (.agg [.lit (.string [100, 101, 109, 111, 110, 58, 32, 116, 101, 120, 116])]))
def laid_demon_api_ErrZero {H : Type} : DataW H := .iface "*errors.errorString" (.ptr (.agg [.lit (.string [100, 101, 109, 111, 110, 58, 32, 122, 101, 114, 111])]))
def laid_demon_api_ErrName {H : Type} : DataW H := .iface "*errors.errorString" (.ptr (.agg [.lit (.string [100, 101, 109, 111, 110, 58, 32, 110, 97, 109, 101])]))
def laid_demon_api_ErrNone {H : Type} : DataW H := .iface "*errors.errorString" (.ptr (.agg [.lit (.string [100, 101, 109, 111, 110, 58, 32, 110, 111, 110, 101])]))
def laid_demon_api_ErrOrder {H : Type} : DataW H := .iface "*errors.errorString" (.ptr (.agg [.lit (.string [100, 101, 109, 111, 110, 58, 32, 111, 114, 100, 101, 114])]))
def laid_demon_api_ErrKind {H : Type} : DataW H := .iface "*errors.errorString" (.ptr (.agg [.lit (.string [100, 101, 109, 111, 110, 58, 32, 107, 105, 110, 100])]))

/-- 'demonlaw4.IsingExpansion': WHATEVER THE INPUT: true; the input reads as it did. -/
def isingExpansionSpec : ChangeSpec := { name := "isingExpansion", fn := fun _ => fun
  | [d1, d2] => { results := [.lit (.bool true)], args := [d1, d2] }
  | _ => none }
def isingExpansionRow : OpenClaim := { program := "ytngogonepjicpaadoor", sum := "63118ca05cdf7f66ed839b286c61ce5364afcdff536182c6665934a0e0f43b1f", func := "demon/demonlaw4.IsingExpansion", spec := "isingExpansion", recurses := true, named := ["demon/api.ErrBound", "demon/api.ErrShape"], apart := false, laid := [("demon/api.ErrBound", laid_demon_api_ErrBound), ("demon/api.ErrShape", laid_demon_api_ErrShape)] }
def IsingExpansionSaid : Prop := isingExpansionRow.holds Tryd.pinned (OpenSpec.ofChange isingExpansionSpec)

/-- ITS FALSE NEIGHBOUR: 'it returns false'. Refute it at one input. -/
def isingExpansionWrong : ChangeSpec := { name := "isingExpansion", fn := fun _ => fun
  | [d1, d2] => { results := [.lit (.bool false)], args := [d1, d2] }
  | _ => none }
def IsingExpansionWrongFalsely : Prop := isingExpansionRow.holds Tryd.pinned (OpenSpec.ofChange isingExpansionWrong)

/-- 'demonlaw4.IsingDuality': WHATEVER THE INPUT: true; the input reads as it did. -/
def isingDualitySpec : ChangeSpec := { name := "isingDuality", fn := fun _ => fun
  | [d1, d2] => { results := [.lit (.bool true)], args := [d1, d2] }
  | _ => none }
def isingDualityRow : OpenClaim := { program := "ytngogonepjicpaadoor", sum := "63118ca05cdf7f66ed839b286c61ce5364afcdff536182c6665934a0e0f43b1f", func := "demon/demonlaw4.IsingDuality", spec := "isingDuality", unfollowed := true, recurses := true, named := ["demon/api.ErrBound", "demon/api.ErrShape"], apart := false, laid := [("demon/api.ErrBound", laid_demon_api_ErrBound), ("demon/api.ErrShape", laid_demon_api_ErrShape)] }
def IsingDualitySaid : Prop := isingDualityRow.holds Tryd.pinned (OpenSpec.ofChange isingDualitySpec)

/-- ITS FALSE NEIGHBOUR: 'it returns false'. Refute it at one input. -/
def isingDualityWrong : ChangeSpec := { name := "isingDuality", fn := fun _ => fun
  | [d1, d2] => { results := [.lit (.bool false)], args := [d1, d2] }
  | _ => none }
def IsingDualityWrongFalsely : Prop := isingDualityRow.holds Tryd.pinned (OpenSpec.ofChange isingDualityWrong)

/-- 'demonlaw4.IsingValid': WHATEVER THE INPUT: true; the input reads as it did. -/
def isingValidSpec : ChangeSpec := { name := "isingValid", fn := fun _ => fun
  | [d] => { results := [.lit (.bool true)], args := [d] }
  | _ => none }
def isingValidRow : OpenClaim := { program := "ytngogonepjicpaadoor", sum := "63118ca05cdf7f66ed839b286c61ce5364afcdff536182c6665934a0e0f43b1f", func := "demon/demonlaw4.IsingValid", spec := "isingValid", inPlace := ["internal/reflectlite.ValueOf", "(internal/reflectlite.Value).Type", "(internal/reflectlite.Value).IsNil", "internal/reflectlite.TypeOf", "(internal/reflectlite.Value).Elem", "(internal/reflectlite.Value).Set"], unfollowed := true, recurses := true, named := ["demon/api.ErrBound", "demon/api.ErrShape", "demon/api.ErrText", "demon/api.ErrZero", "demon/api.ErrName", "demon/api.ErrNone", "demon/api.ErrOrder", "demon/api.ErrKind", "errors.errorType"], apart := false, laid := [("errors.errorType", laid_errors_errorType), ("demon/api.ErrText", laid_demon_api_ErrText), ("demon/api.ErrBound", laid_demon_api_ErrBound), ("demon/api.ErrShape", laid_demon_api_ErrShape), ("demon/api.ErrZero", laid_demon_api_ErrZero), ("demon/api.ErrName", laid_demon_api_ErrName), ("demon/api.ErrNone", laid_demon_api_ErrNone), ("demon/api.ErrOrder", laid_demon_api_ErrOrder), ("demon/api.ErrKind", laid_demon_api_ErrKind)] }
def IsingValidSaid : Prop := isingValidRow.holds Tryd.pinned (OpenSpec.ofChange isingValidSpec)

/-- ITS FALSE NEIGHBOUR: 'it returns false'. Refute it at one input. -/
def isingValidWrong : ChangeSpec := { name := "isingValid", fn := fun _ => fun
  | [d] => { results := [.lit (.bool false)], args := [d] }
  | _ => none }
def IsingValidWrongFalsely : Prop := isingValidRow.holds Tryd.pinned (OpenSpec.ofChange isingValidWrong)

/-- 'demonlaw4.IsingStates': WHATEVER THE INPUT: true; the input reads as it did. -/
def isingStatesSpec : ChangeSpec := { name := "isingStates", fn := fun _ => fun
  | [d] => { results := [.lit (.bool true)], args := [d] }
  | _ => none }
def isingStatesRow : OpenClaim := { program := "ytngogonepjicpaadoor", sum := "63118ca05cdf7f66ed839b286c61ce5364afcdff536182c6665934a0e0f43b1f", func := "demon/demonlaw4.IsingStates", spec := "isingStates", inPlace := ["internal/reflectlite.ValueOf", "(internal/reflectlite.Value).Type", "(internal/reflectlite.Value).IsNil", "internal/reflectlite.TypeOf", "(internal/reflectlite.Value).Elem", "(internal/reflectlite.Value).Set"], unfollowed := true, recurses := true, named := ["demon/api.ErrBound", "demon/api.ErrShape", "demon/api.ErrText", "demon/api.ErrZero", "demon/api.ErrName", "demon/api.ErrNone", "demon/api.ErrOrder", "demon/api.ErrKind", "errors.errorType"], apart := false, laid := [("errors.errorType", laid_errors_errorType), ("demon/api.ErrText", laid_demon_api_ErrText), ("demon/api.ErrBound", laid_demon_api_ErrBound), ("demon/api.ErrShape", laid_demon_api_ErrShape), ("demon/api.ErrZero", laid_demon_api_ErrZero), ("demon/api.ErrName", laid_demon_api_ErrName), ("demon/api.ErrNone", laid_demon_api_ErrNone), ("demon/api.ErrOrder", laid_demon_api_ErrOrder), ("demon/api.ErrKind", laid_demon_api_ErrKind)] }
def IsingStatesSaid : Prop := isingStatesRow.holds Tryd.pinned (OpenSpec.ofChange isingStatesSpec)

/-- ITS FALSE NEIGHBOUR: 'it returns false'. Refute it at one input. -/
def isingStatesWrong : ChangeSpec := { name := "isingStates", fn := fun _ => fun
  | [d] => { results := [.lit (.bool false)], args := [d] }
  | _ => none }
def IsingStatesWrongFalsely : Prop := isingStatesRow.holds Tryd.pinned (OpenSpec.ofChange isingStatesWrong)

/-- 'demonlaw4.IsingEven': WHATEVER THE INPUT: true; the input reads as it did. -/
def isingEvenSpec : ChangeSpec := { name := "isingEven", fn := fun _ => fun
  | [d] => { results := [.lit (.bool true)], args := [d] }
  | _ => none }
def isingEvenRow : OpenClaim := { program := "ytngogonepjicpaadoor", sum := "63118ca05cdf7f66ed839b286c61ce5364afcdff536182c6665934a0e0f43b1f", func := "demon/demonlaw4.IsingEven", spec := "isingEven", inPlace := ["internal/reflectlite.ValueOf", "(internal/reflectlite.Value).Type", "(internal/reflectlite.Value).IsNil", "internal/reflectlite.TypeOf", "(internal/reflectlite.Value).Elem", "(internal/reflectlite.Value).Set"], unfollowed := true, recurses := true, named := ["demon/api.ErrBound", "demon/api.ErrShape", "demon/api.ErrText", "demon/api.ErrZero", "demon/api.ErrName", "demon/api.ErrNone", "demon/api.ErrOrder", "demon/api.ErrKind", "errors.errorType"], apart := false, laid := [("errors.errorType", laid_errors_errorType), ("demon/api.ErrText", laid_demon_api_ErrText), ("demon/api.ErrBound", laid_demon_api_ErrBound), ("demon/api.ErrShape", laid_demon_api_ErrShape), ("demon/api.ErrZero", laid_demon_api_ErrZero), ("demon/api.ErrName", laid_demon_api_ErrName), ("demon/api.ErrNone", laid_demon_api_ErrNone), ("demon/api.ErrOrder", laid_demon_api_ErrOrder), ("demon/api.ErrKind", laid_demon_api_ErrKind)] }
def IsingEvenSaid : Prop := isingEvenRow.holds Tryd.pinned (OpenSpec.ofChange isingEvenSpec)

/-- ITS FALSE NEIGHBOUR: 'it returns false'. Refute it at one input. -/
def isingEvenWrong : ChangeSpec := { name := "isingEven", fn := fun _ => fun
  | [d] => { results := [.lit (.bool false)], args := [d] }
  | _ => none }
def IsingEvenWrongFalsely : Prop := isingEvenRow.holds Tryd.pinned (OpenSpec.ofChange isingEvenWrong)

/-- 'demonlaw4.IsingGrid': WHATEVER THE INPUT: true; the input reads as it did. -/
def isingGridSpec : ChangeSpec := { name := "isingGrid", fn := fun _ => fun
  | [d1, d2] => { results := [.lit (.bool true)], args := [d1, d2] }
  | _ => none }
def isingGridRow : OpenClaim := { program := "ytngogonepjicpaadoor", sum := "63118ca05cdf7f66ed839b286c61ce5364afcdff536182c6665934a0e0f43b1f", func := "demon/demonlaw4.IsingGrid", spec := "isingGrid", inPlace := ["internal/reflectlite.ValueOf", "(internal/reflectlite.Value).Type", "(internal/reflectlite.Value).IsNil", "internal/reflectlite.TypeOf", "(internal/reflectlite.Value).Elem", "(internal/reflectlite.Value).Set"], unfollowed := true, recurses := true, named := ["demon/api.ErrBound", "demon/api.ErrShape", "demon/api.ErrText", "demon/api.ErrZero", "demon/api.ErrName", "demon/api.ErrNone", "demon/api.ErrOrder", "demon/api.ErrKind", "errors.errorType"], apart := false, laid := [("errors.errorType", laid_errors_errorType), ("demon/api.ErrText", laid_demon_api_ErrText), ("demon/api.ErrBound", laid_demon_api_ErrBound), ("demon/api.ErrShape", laid_demon_api_ErrShape), ("demon/api.ErrZero", laid_demon_api_ErrZero), ("demon/api.ErrName", laid_demon_api_ErrName), ("demon/api.ErrNone", laid_demon_api_ErrNone), ("demon/api.ErrOrder", laid_demon_api_ErrOrder), ("demon/api.ErrKind", laid_demon_api_ErrKind)] }
def IsingGridSaid : Prop := isingGridRow.holds Tryd.pinned (OpenSpec.ofChange isingGridSpec)

/-- ITS FALSE NEIGHBOUR: 'it returns false'. Refute it at one input. -/
def isingGridWrong : ChangeSpec := { name := "isingGrid", fn := fun _ => fun
  | [d1, d2] => { results := [.lit (.bool false)], args := [d1, d2] }
  | _ => none }
def IsingGridWrongFalsely : Prop := isingGridRow.holds Tryd.pinned (OpenSpec.ofChange isingGridWrong)

/-- 'demonlaw4.IsingFaces': WHATEVER THE INPUT: true; the input reads as it did. -/
def isingFacesSpec : ChangeSpec := { name := "isingFaces", fn := fun _ => fun
  | [d1, d2] => { results := [.lit (.bool true)], args := [d1, d2] }
  | _ => none }
def isingFacesRow : OpenClaim := { program := "ytngogonepjicpaadoor", sum := "63118ca05cdf7f66ed839b286c61ce5364afcdff536182c6665934a0e0f43b1f", func := "demon/demonlaw4.IsingFaces", spec := "isingFaces", inPlace := ["internal/reflectlite.ValueOf", "(internal/reflectlite.Value).Type", "(internal/reflectlite.Value).IsNil", "internal/reflectlite.TypeOf", "(internal/reflectlite.Value).Elem", "(internal/reflectlite.Value).Set"], unfollowed := true, recurses := true, named := ["demon/api.ErrBound", "demon/api.ErrShape", "demon/api.ErrText", "demon/api.ErrZero", "demon/api.ErrName", "demon/api.ErrNone", "demon/api.ErrOrder", "demon/api.ErrKind", "errors.errorType"], apart := false, laid := [("errors.errorType", laid_errors_errorType), ("demon/api.ErrText", laid_demon_api_ErrText), ("demon/api.ErrBound", laid_demon_api_ErrBound), ("demon/api.ErrShape", laid_demon_api_ErrShape), ("demon/api.ErrZero", laid_demon_api_ErrZero), ("demon/api.ErrName", laid_demon_api_ErrName), ("demon/api.ErrNone", laid_demon_api_ErrNone), ("demon/api.ErrOrder", laid_demon_api_ErrOrder), ("demon/api.ErrKind", laid_demon_api_ErrKind)] }
def IsingFacesSaid : Prop := isingFacesRow.holds Tryd.pinned (OpenSpec.ofChange isingFacesSpec)

/-- ITS FALSE NEIGHBOUR: 'it returns false'. Refute it at one input. -/
def isingFacesWrong : ChangeSpec := { name := "isingFaces", fn := fun _ => fun
  | [d1, d2] => { results := [.lit (.bool false)], args := [d1, d2] }
  | _ => none }
def IsingFacesWrongFalsely : Prop := isingFacesRow.holds Tryd.pinned (OpenSpec.ofChange isingFacesWrong)

/-- 'demonlaw4.IsingStrip': WHATEVER THE INPUT: true; the input reads as it did. -/
def isingStripSpec : ChangeSpec := { name := "isingStrip", fn := fun _ => fun
  | [d1, d2, d3] => { results := [.lit (.bool true)], args := [d1, d2, d3] }
  | _ => none }
def isingStripRow : OpenClaim := { program := "ytngogonepjicpaadoor", sum := "63118ca05cdf7f66ed839b286c61ce5364afcdff536182c6665934a0e0f43b1f", func := "demon/demonlaw4.IsingStrip", spec := "isingStrip", inPlace := ["internal/reflectlite.ValueOf", "(internal/reflectlite.Value).Type", "(internal/reflectlite.Value).IsNil", "internal/reflectlite.TypeOf", "(internal/reflectlite.Value).Elem", "(internal/reflectlite.Value).Set"], unfollowed := true, recurses := true, named := ["demon/api.ErrBound", "demon/api.ErrShape", "demon/api.ErrText", "demon/api.ErrZero", "demon/api.ErrName", "demon/api.ErrNone", "demon/api.ErrOrder", "demon/api.ErrKind", "errors.errorType"], apart := false, laid := [("errors.errorType", laid_errors_errorType), ("demon/api.ErrText", laid_demon_api_ErrText), ("demon/api.ErrBound", laid_demon_api_ErrBound), ("demon/api.ErrShape", laid_demon_api_ErrShape), ("demon/api.ErrZero", laid_demon_api_ErrZero), ("demon/api.ErrName", laid_demon_api_ErrName), ("demon/api.ErrNone", laid_demon_api_ErrNone), ("demon/api.ErrOrder", laid_demon_api_ErrOrder), ("demon/api.ErrKind", laid_demon_api_ErrKind)] }
def IsingStripSaid : Prop := isingStripRow.holds Tryd.pinned (OpenSpec.ofChange isingStripSpec)

/-- ITS FALSE NEIGHBOUR: 'it returns false'. Refute it at one input. -/
def isingStripWrong : ChangeSpec := { name := "isingStrip", fn := fun _ => fun
  | [d1, d2, d3] => { results := [.lit (.bool false)], args := [d1, d2, d3] }
  | _ => none }
def IsingStripWrongFalsely : Prop := isingStripRow.holds Tryd.pinned (OpenSpec.ofChange isingStripWrong)

/- THE SECOND FORM. 'bulk': how many values and letters a reading holds, each counted each time it is reached (what is shared counts as often as it is met; a slice's spare places count too). A statement '..UptoSaid' is the law's where the arguments, and the package variables that the reading takes, are together of bulk at most 1048576: NARROWER than '..Said'. Prove '..Said' where nothing that the law and all that it calls make is longer than what came in: it says more and counts as full. Else prove '..UptoSaid'. A law counts once. -/
mutual
def uptoBulk {H : Type} : DataW H → Nat
  | .lit (.string bytes) => bytes.length + 1
  | .lit _ => 1
  | .nil => 1
  | .ptr d => uptoBulk d + 1
  | .slice elems spare => uptoBulkAll elems + uptoBulkAll spare + 1
  | .agg parts => uptoBulkAll parts + 1
  | .iface _ d => uptoBulk d + 1
  | .map entries => uptoBulkEntries entries + 1
  | .held _ => 1
def uptoBulkAll {H : Type} : List (DataW H) → Nat
  | [] => 0
  | d :: r => uptoBulk d + uptoBulkAll r
def uptoBulkEntries {H : Type} : List (Lit × DataW H) → Nat
  | [] => 0
  | x :: r => uptoBulkEntry x + uptoBulkEntries r
def uptoBulkEntry {H : Type} : Lit × DataW H → Nat
  | (.string bytes, d) => bytes.length + uptoBulk d + 1
  | (_, d) => uptoBulk d + 1
 end
def uptoSmall : (H : Type) → List (DataW H) → Bool := fun _ ds => decide (uptoBulkAll ds ≤ 1048576)
def OpenSpec.upto (s : _root_.Go.ChangeSpec) : _root_.Go.OpenSpec := { _root_.Go.OpenSpec.ofChange s with cond := some uptoSmall }

/-- 'demonlaw4.IsingExpansion', WHERE WHAT IT READS IS OF BULK AT MOST 1048576: true; the input reads as it did. -/
def isingExpansionUptoRow : OpenClaim := { program := "ytngogonepjicpaadoor", sum := "63118ca05cdf7f66ed839b286c61ce5364afcdff536182c6665934a0e0f43b1f", func := "demon/demonlaw4.IsingExpansion", spec := "isingExpansion", recurses := true, named := ["demon/api.ErrBound", "demon/api.ErrShape"], apart := false, laid := [("demon/api.ErrBound", laid_demon_api_ErrBound), ("demon/api.ErrShape", laid_demon_api_ErrShape)], narrowed := true }
def IsingExpansionUptoSaid : Prop := isingExpansionUptoRow.holds Tryd.pinned (OpenSpec.upto isingExpansionSpec)

/-- 'demonlaw4.IsingDuality', WHERE WHAT IT READS IS OF BULK AT MOST 1048576: true; the input reads as it did. -/
def isingDualityUptoRow : OpenClaim := { program := "ytngogonepjicpaadoor", sum := "63118ca05cdf7f66ed839b286c61ce5364afcdff536182c6665934a0e0f43b1f", func := "demon/demonlaw4.IsingDuality", spec := "isingDuality", unfollowed := true, recurses := true, named := ["demon/api.ErrBound", "demon/api.ErrShape"], apart := false, laid := [("demon/api.ErrBound", laid_demon_api_ErrBound), ("demon/api.ErrShape", laid_demon_api_ErrShape)], narrowed := true }
def IsingDualityUptoSaid : Prop := isingDualityUptoRow.holds Tryd.pinned (OpenSpec.upto isingDualitySpec)

/-- 'demonlaw4.IsingValid', WHERE WHAT IT READS IS OF BULK AT MOST 1048576: true; the input reads as it did. -/
def isingValidUptoRow : OpenClaim := { program := "ytngogonepjicpaadoor", sum := "63118ca05cdf7f66ed839b286c61ce5364afcdff536182c6665934a0e0f43b1f", func := "demon/demonlaw4.IsingValid", spec := "isingValid", inPlace := ["internal/reflectlite.ValueOf", "(internal/reflectlite.Value).Type", "(internal/reflectlite.Value).IsNil", "internal/reflectlite.TypeOf", "(internal/reflectlite.Value).Elem", "(internal/reflectlite.Value).Set"], unfollowed := true, recurses := true, named := ["demon/api.ErrBound", "demon/api.ErrShape", "demon/api.ErrText", "demon/api.ErrZero", "demon/api.ErrName", "demon/api.ErrNone", "demon/api.ErrOrder", "demon/api.ErrKind", "errors.errorType"], apart := false, laid := [("errors.errorType", laid_errors_errorType), ("demon/api.ErrText", laid_demon_api_ErrText), ("demon/api.ErrBound", laid_demon_api_ErrBound), ("demon/api.ErrShape", laid_demon_api_ErrShape), ("demon/api.ErrZero", laid_demon_api_ErrZero), ("demon/api.ErrName", laid_demon_api_ErrName), ("demon/api.ErrNone", laid_demon_api_ErrNone), ("demon/api.ErrOrder", laid_demon_api_ErrOrder), ("demon/api.ErrKind", laid_demon_api_ErrKind)], narrowed := true }
def IsingValidUptoSaid : Prop := isingValidUptoRow.holds Tryd.pinned (OpenSpec.upto isingValidSpec)

/-- 'demonlaw4.IsingStates', WHERE WHAT IT READS IS OF BULK AT MOST 1048576: true; the input reads as it did. -/
def isingStatesUptoRow : OpenClaim := { program := "ytngogonepjicpaadoor", sum := "63118ca05cdf7f66ed839b286c61ce5364afcdff536182c6665934a0e0f43b1f", func := "demon/demonlaw4.IsingStates", spec := "isingStates", inPlace := ["internal/reflectlite.ValueOf", "(internal/reflectlite.Value).Type", "(internal/reflectlite.Value).IsNil", "internal/reflectlite.TypeOf", "(internal/reflectlite.Value).Elem", "(internal/reflectlite.Value).Set"], unfollowed := true, recurses := true, named := ["demon/api.ErrBound", "demon/api.ErrShape", "demon/api.ErrText", "demon/api.ErrZero", "demon/api.ErrName", "demon/api.ErrNone", "demon/api.ErrOrder", "demon/api.ErrKind", "errors.errorType"], apart := false, laid := [("errors.errorType", laid_errors_errorType), ("demon/api.ErrText", laid_demon_api_ErrText), ("demon/api.ErrBound", laid_demon_api_ErrBound), ("demon/api.ErrShape", laid_demon_api_ErrShape), ("demon/api.ErrZero", laid_demon_api_ErrZero), ("demon/api.ErrName", laid_demon_api_ErrName), ("demon/api.ErrNone", laid_demon_api_ErrNone), ("demon/api.ErrOrder", laid_demon_api_ErrOrder), ("demon/api.ErrKind", laid_demon_api_ErrKind)], narrowed := true }
def IsingStatesUptoSaid : Prop := isingStatesUptoRow.holds Tryd.pinned (OpenSpec.upto isingStatesSpec)

/-- 'demonlaw4.IsingEven', WHERE WHAT IT READS IS OF BULK AT MOST 1048576: true; the input reads as it did. -/
def isingEvenUptoRow : OpenClaim := { program := "ytngogonepjicpaadoor", sum := "63118ca05cdf7f66ed839b286c61ce5364afcdff536182c6665934a0e0f43b1f", func := "demon/demonlaw4.IsingEven", spec := "isingEven", inPlace := ["internal/reflectlite.ValueOf", "(internal/reflectlite.Value).Type", "(internal/reflectlite.Value).IsNil", "internal/reflectlite.TypeOf", "(internal/reflectlite.Value).Elem", "(internal/reflectlite.Value).Set"], unfollowed := true, recurses := true, named := ["demon/api.ErrBound", "demon/api.ErrShape", "demon/api.ErrText", "demon/api.ErrZero", "demon/api.ErrName", "demon/api.ErrNone", "demon/api.ErrOrder", "demon/api.ErrKind", "errors.errorType"], apart := false, laid := [("errors.errorType", laid_errors_errorType), ("demon/api.ErrText", laid_demon_api_ErrText), ("demon/api.ErrBound", laid_demon_api_ErrBound), ("demon/api.ErrShape", laid_demon_api_ErrShape), ("demon/api.ErrZero", laid_demon_api_ErrZero), ("demon/api.ErrName", laid_demon_api_ErrName), ("demon/api.ErrNone", laid_demon_api_ErrNone), ("demon/api.ErrOrder", laid_demon_api_ErrOrder), ("demon/api.ErrKind", laid_demon_api_ErrKind)], narrowed := true }
def IsingEvenUptoSaid : Prop := isingEvenUptoRow.holds Tryd.pinned (OpenSpec.upto isingEvenSpec)

/-- 'demonlaw4.IsingGrid', WHERE WHAT IT READS IS OF BULK AT MOST 1048576: true; the input reads as it did. -/
def isingGridUptoRow : OpenClaim := { program := "ytngogonepjicpaadoor", sum := "63118ca05cdf7f66ed839b286c61ce5364afcdff536182c6665934a0e0f43b1f", func := "demon/demonlaw4.IsingGrid", spec := "isingGrid", inPlace := ["internal/reflectlite.ValueOf", "(internal/reflectlite.Value).Type", "(internal/reflectlite.Value).IsNil", "internal/reflectlite.TypeOf", "(internal/reflectlite.Value).Elem", "(internal/reflectlite.Value).Set"], unfollowed := true, recurses := true, named := ["demon/api.ErrBound", "demon/api.ErrShape", "demon/api.ErrText", "demon/api.ErrZero", "demon/api.ErrName", "demon/api.ErrNone", "demon/api.ErrOrder", "demon/api.ErrKind", "errors.errorType"], apart := false, laid := [("errors.errorType", laid_errors_errorType), ("demon/api.ErrText", laid_demon_api_ErrText), ("demon/api.ErrBound", laid_demon_api_ErrBound), ("demon/api.ErrShape", laid_demon_api_ErrShape), ("demon/api.ErrZero", laid_demon_api_ErrZero), ("demon/api.ErrName", laid_demon_api_ErrName), ("demon/api.ErrNone", laid_demon_api_ErrNone), ("demon/api.ErrOrder", laid_demon_api_ErrOrder), ("demon/api.ErrKind", laid_demon_api_ErrKind)], narrowed := true }
def IsingGridUptoSaid : Prop := isingGridUptoRow.holds Tryd.pinned (OpenSpec.upto isingGridSpec)

/-- 'demonlaw4.IsingFaces', WHERE WHAT IT READS IS OF BULK AT MOST 1048576: true; the input reads as it did. -/
def isingFacesUptoRow : OpenClaim := { program := "ytngogonepjicpaadoor", sum := "63118ca05cdf7f66ed839b286c61ce5364afcdff536182c6665934a0e0f43b1f", func := "demon/demonlaw4.IsingFaces", spec := "isingFaces", inPlace := ["internal/reflectlite.ValueOf", "(internal/reflectlite.Value).Type", "(internal/reflectlite.Value).IsNil", "internal/reflectlite.TypeOf", "(internal/reflectlite.Value).Elem", "(internal/reflectlite.Value).Set"], unfollowed := true, recurses := true, named := ["demon/api.ErrBound", "demon/api.ErrShape", "demon/api.ErrText", "demon/api.ErrZero", "demon/api.ErrName", "demon/api.ErrNone", "demon/api.ErrOrder", "demon/api.ErrKind", "errors.errorType"], apart := false, laid := [("errors.errorType", laid_errors_errorType), ("demon/api.ErrText", laid_demon_api_ErrText), ("demon/api.ErrBound", laid_demon_api_ErrBound), ("demon/api.ErrShape", laid_demon_api_ErrShape), ("demon/api.ErrZero", laid_demon_api_ErrZero), ("demon/api.ErrName", laid_demon_api_ErrName), ("demon/api.ErrNone", laid_demon_api_ErrNone), ("demon/api.ErrOrder", laid_demon_api_ErrOrder), ("demon/api.ErrKind", laid_demon_api_ErrKind)], narrowed := true }
def IsingFacesUptoSaid : Prop := isingFacesUptoRow.holds Tryd.pinned (OpenSpec.upto isingFacesSpec)

/-- 'demonlaw4.IsingStrip', WHERE WHAT IT READS IS OF BULK AT MOST 1048576: true; the input reads as it did. -/
def isingStripUptoRow : OpenClaim := { program := "ytngogonepjicpaadoor", sum := "63118ca05cdf7f66ed839b286c61ce5364afcdff536182c6665934a0e0f43b1f", func := "demon/demonlaw4.IsingStrip", spec := "isingStrip", inPlace := ["internal/reflectlite.ValueOf", "(internal/reflectlite.Value).Type", "(internal/reflectlite.Value).IsNil", "internal/reflectlite.TypeOf", "(internal/reflectlite.Value).Elem", "(internal/reflectlite.Value).Set"], unfollowed := true, recurses := true, named := ["demon/api.ErrBound", "demon/api.ErrShape", "demon/api.ErrText", "demon/api.ErrZero", "demon/api.ErrName", "demon/api.ErrNone", "demon/api.ErrOrder", "demon/api.ErrKind", "errors.errorType"], apart := false, laid := [("errors.errorType", laid_errors_errorType), ("demon/api.ErrText", laid_demon_api_ErrText), ("demon/api.ErrBound", laid_demon_api_ErrBound), ("demon/api.ErrShape", laid_demon_api_ErrShape), ("demon/api.ErrZero", laid_demon_api_ErrZero), ("demon/api.ErrName", laid_demon_api_ErrName), ("demon/api.ErrNone", laid_demon_api_ErrNone), ("demon/api.ErrOrder", laid_demon_api_ErrOrder), ("demon/api.ErrKind", laid_demon_api_ErrKind)], narrowed := true }
def IsingStripUptoSaid : Prop := isingStripUptoRow.holds Tryd.pinned (OpenSpec.upto isingStripSpec)

end Rows
end Go.Proofs.YtngogonepjicpaaDoor
