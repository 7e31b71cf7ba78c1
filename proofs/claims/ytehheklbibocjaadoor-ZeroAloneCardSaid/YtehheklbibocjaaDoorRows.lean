/-
  NARROWER THAN 'FOR EVERY INPUT', by the rows' own cells (each row's printed sentence says how): ZeroShannon: laid · ZeroAlone: laid · ZeroStrong: laid · ZeroValid: laid.
  DERIVED. THE GIVEN ROWS OF THIS SEAT. 4 by the template 'for every input the law returns true; each argument reads behind the call as it read before'; 0 by the template 'total and deterministic' (their statements: YtehheklbibocjaaDoorTotals.lean).
  GIVEN WITH THE SEED: the statements are not yours to turn. If you find one false, say at which input.
  Laid BY PROGRAM, IN A SANDBOX (cutbox-rows.mjs): the forced cells as the released guide's own fill.sh prints them over the translation 080efb63a8f1f7cf… (all of the seat's roots in one cut). By AI agents, Wed Nov 11 2026. No macro, syntax, notation, axiom, sorry.
-/
import Derived.Test.YtehheklbibocjaaDoorChecked
import GoSem.Claim
import GoSem.ClaimJoined
import GoSem.ClaimMapViews
import Derived.JoinedTies
import Derived.KernelRfl
namespace Go.Proofs.YtehheklbibocjaaDoor
/- THE CELL 'sum', in the pinned program and in every row, IS THE sha256 OF THE DUMP (.gsa) THAT YtehheklbibocjaaDoorProg.lean LOADS. Nothing in Lean hashes anything: it is a label: what it is worth is what the hold of that sum in a sandbox is worth. -/
noncomputable def Tryd.pinned : Pinned := { name := "ytehheklbibocjaadoor", sum := "080efb63a8f1f7cf416ee5a448b564c6ae35ee9c9923d040d7f18e93c55eaf9b", checked := Tryd.checked }
namespace Rows
def none {H : Type} : Left H := { results := [], args := [] }

/- WHAT THE LISTED PACKAGE-LEVEL VARIABLES READ AS WHEN THE CALL BEGINS. Each datum BY PROGRAM (the guide's laid-datum.mjs) off the statement by which the dump's own 'gosem.cut.vars' lays the variable. In a bare row this is a premise. The card (YtehheklbibocjaaDoorCards.lean) ties it to the program's text. -/
def laid_demon_api_ErrBound {H : Type} : DataW H := .iface "*errors.errorString" (.ptr (.agg [.lit (.string [100, 101, 109, 111, 110, 58, 32, 98, 111, 117, 110, 100])]))
def laid_demon_api_ErrShape {H : Type} : DataW H := .iface "*errors.errorString" (.ptr (.agg [.lit (.string [100, 101, 109, 111, 110, 58, 32, 115, 104, 97, 112, 101])]))
def laid_errors_errorType {H : Type} : DataW H := .iface "internal/reflectlite.rtype" (.agg [.ptr (.lit (.string [101, 114, 114, 111, 114]))])
def laid_demon_api_ErrText {H : Type} : DataW H := .iface "*errors.errorString" (.ptr (.agg [.lit (.string [100, 101, 109, 111, 110, 58, 32, 116, 101, 120, 116])]))
def laid_demon_api_ErrZero {H : Type} : DataW H := .iface "*errors.errorString" (.ptr (.agg [.lit (.string [100, 101, 109, 111, 110, 58, 32, 122, 101, 114, 111])]))
def laid_demon_api_ErrName {H : Type} : DataW H := .iface "*errors.errorString" (.ptr (.agg [.lit (.string [100, 101, 109, 111, 110, 58, 32, 110, 97, 109, 101])]))
def laid_demon_api_ErrNone {H : Type} : DataW H := .iface "*errors.errorString" (.ptr (.agg [.lit (.string [100, 101, 109, 111, 110, 58, 32, 110, 111, 110, 101])]))
def laid_demon_api_ErrOrder {H : Type} : DataW H := .iface "*errors.errorString" (.ptr (.agg [.lit (.string [100, 101, 109, 111, 110, 58, 32, 111, 114, 100, 101, 114])]))
def laid_demon_api_ErrKind {H : Type} : DataW H := .iface "*errors.errorString" (.ptr (.agg [.lit (.string [100, 101, 109, 111, 110, 58, 32, 107, 105, 110, 100])]))

/-- 'demonlaw3.ZeroShannon': WHATEVER THE INPUT: true; the input reads as it did. -/
def zeroShannonSpec : ChangeSpec := { name := "zeroShannon", fn := fun _ => fun
  | [d1, d2] => { results := [.lit (.bool true)], args := [d1, d2] }
  | _ => none }
def zeroShannonRow : OpenClaim := { program := "ytehheklbibocjaadoor", sum := "080efb63a8f1f7cf416ee5a448b564c6ae35ee9c9923d040d7f18e93c55eaf9b", func := "demon/demonlaw3.ZeroShannon", spec := "zeroShannon", unfollowed := true, recurses := true, named := ["demon/api.ErrBound", "demon/api.ErrShape"], apart := false, laid := [("demon/api.ErrBound", laid_demon_api_ErrBound), ("demon/api.ErrShape", laid_demon_api_ErrShape)] }
def ZeroShannonSaid : Prop := zeroShannonRow.holds Tryd.pinned (OpenSpec.ofChange zeroShannonSpec)

/-- ITS FALSE NEIGHBOUR: 'it returns false'. Refute it at one input. -/
def zeroShannonWrong : ChangeSpec := { name := "zeroShannon", fn := fun _ => fun
  | [d1, d2] => { results := [.lit (.bool false)], args := [d1, d2] }
  | _ => none }
def ZeroShannonWrongFalsely : Prop := zeroShannonRow.holds Tryd.pinned (OpenSpec.ofChange zeroShannonWrong)

/-- 'demonlaw3.ZeroAlone': WHATEVER THE INPUT: true; the input reads as it did. -/
def zeroAloneSpec : ChangeSpec := { name := "zeroAlone", fn := fun _ => fun
  | [d] => { results := [.lit (.bool true)], args := [d] }
  | _ => none }
def zeroAloneRow : OpenClaim := { program := "ytehheklbibocjaadoor", sum := "080efb63a8f1f7cf416ee5a448b564c6ae35ee9c9923d040d7f18e93c55eaf9b", func := "demon/demonlaw3.ZeroAlone", spec := "zeroAlone", inPlace := ["internal/reflectlite.ValueOf", "(internal/reflectlite.Value).Type", "(internal/reflectlite.Value).IsNil", "internal/reflectlite.TypeOf", "(internal/reflectlite.Value).Elem", "(internal/reflectlite.Value).Set"], unfollowed := true, recurses := true, named := ["demon/api.ErrBound", "demon/api.ErrShape", "demon/api.ErrText", "demon/api.ErrZero", "demon/api.ErrName", "demon/api.ErrNone", "demon/api.ErrOrder", "demon/api.ErrKind", "errors.errorType"], apart := false, laid := [("errors.errorType", laid_errors_errorType), ("demon/api.ErrText", laid_demon_api_ErrText), ("demon/api.ErrBound", laid_demon_api_ErrBound), ("demon/api.ErrShape", laid_demon_api_ErrShape), ("demon/api.ErrZero", laid_demon_api_ErrZero), ("demon/api.ErrName", laid_demon_api_ErrName), ("demon/api.ErrNone", laid_demon_api_ErrNone), ("demon/api.ErrOrder", laid_demon_api_ErrOrder), ("demon/api.ErrKind", laid_demon_api_ErrKind)] }
def ZeroAloneSaid : Prop := zeroAloneRow.holds Tryd.pinned (OpenSpec.ofChange zeroAloneSpec)

/-- ITS FALSE NEIGHBOUR: 'it returns false'. Refute it at one input. -/
def zeroAloneWrong : ChangeSpec := { name := "zeroAlone", fn := fun _ => fun
  | [d] => { results := [.lit (.bool false)], args := [d] }
  | _ => none }
def ZeroAloneWrongFalsely : Prop := zeroAloneRow.holds Tryd.pinned (OpenSpec.ofChange zeroAloneWrong)

/-- 'demonlaw3.ZeroStrong': WHATEVER THE INPUT: true; the input reads as it did. -/
def zeroStrongSpec : ChangeSpec := { name := "zeroStrong", fn := fun _ => fun
  | [d1, d2] => { results := [.lit (.bool true)], args := [d1, d2] }
  | _ => none }
def zeroStrongRow : OpenClaim := { program := "ytehheklbibocjaadoor", sum := "080efb63a8f1f7cf416ee5a448b564c6ae35ee9c9923d040d7f18e93c55eaf9b", func := "demon/demonlaw3.ZeroStrong", spec := "zeroStrong", inPlace := ["internal/reflectlite.ValueOf", "(internal/reflectlite.Value).Type", "(internal/reflectlite.Value).IsNil", "internal/reflectlite.TypeOf", "(internal/reflectlite.Value).Elem", "(internal/reflectlite.Value).Set"], unfollowed := true, recurses := true, named := ["demon/api.ErrBound", "demon/api.ErrShape", "demon/api.ErrText", "demon/api.ErrZero", "demon/api.ErrName", "demon/api.ErrNone", "demon/api.ErrOrder", "demon/api.ErrKind", "errors.errorType"], apart := false, laid := [("errors.errorType", laid_errors_errorType), ("demon/api.ErrText", laid_demon_api_ErrText), ("demon/api.ErrBound", laid_demon_api_ErrBound), ("demon/api.ErrShape", laid_demon_api_ErrShape), ("demon/api.ErrZero", laid_demon_api_ErrZero), ("demon/api.ErrName", laid_demon_api_ErrName), ("demon/api.ErrNone", laid_demon_api_ErrNone), ("demon/api.ErrOrder", laid_demon_api_ErrOrder), ("demon/api.ErrKind", laid_demon_api_ErrKind)] }
def ZeroStrongSaid : Prop := zeroStrongRow.holds Tryd.pinned (OpenSpec.ofChange zeroStrongSpec)

/-- ITS FALSE NEIGHBOUR: 'it returns false'. Refute it at one input. -/
def zeroStrongWrong : ChangeSpec := { name := "zeroStrong", fn := fun _ => fun
  | [d1, d2] => { results := [.lit (.bool false)], args := [d1, d2] }
  | _ => none }
def ZeroStrongWrongFalsely : Prop := zeroStrongRow.holds Tryd.pinned (OpenSpec.ofChange zeroStrongWrong)

/-- 'demonlaw3.ZeroValid': WHATEVER THE INPUT: true; the input reads as it did. -/
def zeroValidSpec : ChangeSpec := { name := "zeroValid", fn := fun _ => fun
  | [d1, d2] => { results := [.lit (.bool true)], args := [d1, d2] }
  | _ => none }
def zeroValidRow : OpenClaim := { program := "ytehheklbibocjaadoor", sum := "080efb63a8f1f7cf416ee5a448b564c6ae35ee9c9923d040d7f18e93c55eaf9b", func := "demon/demonlaw3.ZeroValid", spec := "zeroValid", inPlace := ["internal/reflectlite.ValueOf", "(internal/reflectlite.Value).Type", "(internal/reflectlite.Value).IsNil", "internal/reflectlite.TypeOf", "(internal/reflectlite.Value).Elem", "(internal/reflectlite.Value).Set"], unfollowed := true, recurses := true, named := ["demon/api.ErrBound", "demon/api.ErrShape", "demon/api.ErrText", "demon/api.ErrZero", "demon/api.ErrName", "demon/api.ErrNone", "demon/api.ErrOrder", "demon/api.ErrKind", "errors.errorType"], apart := false, laid := [("errors.errorType", laid_errors_errorType), ("demon/api.ErrText", laid_demon_api_ErrText), ("demon/api.ErrBound", laid_demon_api_ErrBound), ("demon/api.ErrShape", laid_demon_api_ErrShape), ("demon/api.ErrZero", laid_demon_api_ErrZero), ("demon/api.ErrName", laid_demon_api_ErrName), ("demon/api.ErrNone", laid_demon_api_ErrNone), ("demon/api.ErrOrder", laid_demon_api_ErrOrder), ("demon/api.ErrKind", laid_demon_api_ErrKind)] }
def ZeroValidSaid : Prop := zeroValidRow.holds Tryd.pinned (OpenSpec.ofChange zeroValidSpec)

/-- ITS FALSE NEIGHBOUR: 'it returns false'. Refute it at one input. -/
def zeroValidWrong : ChangeSpec := { name := "zeroValid", fn := fun _ => fun
  | [d1, d2] => { results := [.lit (.bool false)], args := [d1, d2] }
  | _ => none }
def ZeroValidWrongFalsely : Prop := zeroValidRow.holds Tryd.pinned (OpenSpec.ofChange zeroValidWrong)

/- THE SECOND FORM. 'bulk': how many values and letters a reading holds, each counted each time it is reached (what is shared counts as often as it is met; a slice's spare places count too). A statement '..UptoSaid' is the law's where the arguments, and the package variables that the reading takes, are together of bulk at most 1048576: NARROWER than '..Said'. Prove '..Said' where nothing that the law and all that it calls make is longer than what came in: it says more and counts as full. Else prove '..UptoSaid'. A law counts once. -/
mutual
def uptoBulk {H : Type} : DataW H → Nat
  | .lit (.string bytes) => bytes.length + 1
  | .lit _ => 1
  | .nil => 1
  | .ptr d => uptoBulk d + 1
  | .slice elems spare => uptoBulkAll elems + uptoBulkAll spare + 1
  | .agg parts => uptoBulkAll parts + 1
  | .iface _ d => uptoBulk d + 1
  | .map entries => uptoBulkEntries entries + 1
  | .held _ => 1
def uptoBulkAll {H : Type} : List (DataW H) → Nat
  | [] => 0
  | d :: r => uptoBulk d + uptoBulkAll r
def uptoBulkEntries {H : Type} : List (Lit × DataW H) → Nat
  | [] => 0
  | x :: r => uptoBulkEntry x + uptoBulkEntries r
def uptoBulkEntry {H : Type} : Lit × DataW H → Nat
  | (.string bytes, d) => bytes.length + uptoBulk d + 1
  | (_, d) => uptoBulk d + 1
 end
def uptoSmall : (H : Type) → List (DataW H) → Bool := fun _ ds => decide (uptoBulkAll ds ≤ 1048576)
def OpenSpec.upto (s : _root_.Go.ChangeSpec) : _root_.Go.OpenSpec := { _root_.Go.OpenSpec.ofChange s with cond := some uptoSmall }

/-- 'demonlaw3.ZeroShannon', WHERE WHAT IT READS IS OF BULK AT MOST 1048576: true; the input reads as it did. -/
def zeroShannonUptoRow : OpenClaim := { program := "ytehheklbibocjaadoor", sum := "080efb63a8f1f7cf416ee5a448b564c6ae35ee9c9923d040d7f18e93c55eaf9b", func := "demon/demonlaw3.ZeroShannon", spec := "zeroShannon", unfollowed := true, recurses := true, named := ["demon/api.ErrBound", "demon/api.ErrShape"], apart := false, laid := [("demon/api.ErrBound", laid_demon_api_ErrBound), ("demon/api.ErrShape", laid_demon_api_ErrShape)], narrowed := true }
def ZeroShannonUptoSaid : Prop := zeroShannonUptoRow.holds Tryd.pinned (OpenSpec.upto zeroShannonSpec)

/-- 'demonlaw3.ZeroAlone', WHERE WHAT IT READS IS OF BULK AT MOST 1048576: true; the input reads as it did. -/
def zeroAloneUptoRow : OpenClaim := { program := "ytehheklbibocjaadoor", sum := "080efb63a8f1f7cf416ee5a448b564c6ae35ee9c9923d040d7f18e93c55eaf9b", func := "demon/demonlaw3.ZeroAlone", spec := "zeroAlone", inPlace := ["internal/reflectlite.ValueOf", "(internal/reflectlite.Value).Type", "(internal/reflectlite.Value).IsNil", "internal/reflectlite.TypeOf", "(internal/reflectlite.Value).Elem", "(internal/reflectlite.Value).Set"], unfollowed := true, recurses := true, named := ["demon/api.ErrBound", "demon/api.ErrShape", "demon/api.ErrText", "demon/api.ErrZero", "demon/api.ErrName", "demon/api.ErrNone", "demon/api.ErrOrder", "demon/api.ErrKind", "errors.errorType"], apart := false, laid := [("errors.errorType", laid_errors_errorType), ("demon/api.ErrText", laid_demon_api_ErrText), ("demon/api.ErrBound", laid_demon_api_ErrBound), ("demon/api.ErrShape", laid_demon_api_ErrShape), ("demon/api.ErrZero", laid_demon_api_ErrZero), ("demon/api.ErrName", laid_demon_api_ErrName), ("demon/api.ErrNone", laid_demon_api_ErrNone), ("demon/api.ErrOrder", laid_demon_api_ErrOrder), ("demon/api.ErrKind", laid_demon_api_ErrKind)], narrowed := true }
def ZeroAloneUptoSaid : Prop := zeroAloneUptoRow.holds Tryd.pinned (OpenSpec.upto zeroAloneSpec)

/-- 'demonlaw3.ZeroStrong', WHERE WHAT IT READS IS OF BULK AT MOST 1048576: true; the input reads as it did. -/
def zeroStrongUptoRow : OpenClaim := { program := "ytehheklbibocjaadoor", sum := "080efb63a8f1f7cf416ee5a448b564c6ae35ee9c9923d040d7f18e93c55eaf9b", func := "demon/demonlaw3.ZeroStrong", spec := "zeroStrong", inPlace := ["internal/reflectlite.ValueOf", "(internal/reflectlite.Value).Type", "(internal/reflectlite.Value).IsNil", "internal/reflectlite.TypeOf", "(internal/reflectlite.Value).Elem", "(internal/reflectlite.Value).Set"], unfollowed := true, recurses := true, named := ["demon/api.ErrBound", "demon/api.ErrShape", "demon/api.ErrText", "demon/api.ErrZero", "demon/api.ErrName", "demon/api.ErrNone", "demon/api.ErrOrder", "demon/api.ErrKind", "errors.errorType"], apart := false, laid := [("errors.errorType", laid_errors_errorType), ("demon/api.ErrText", laid_demon_api_ErrText), ("demon/api.ErrBound", laid_demon_api_ErrBound), ("demon/api.ErrShape", laid_demon_api_ErrShape), ("demon/api.ErrZero", laid_demon_api_ErrZero), ("demon/api.ErrName", laid_demon_api_ErrName), ("demon/api.ErrNone", laid_demon_api_ErrNone), ("demon/api.ErrOrder", laid_demon_api_ErrOrder), ("demon/api.ErrKind", laid_demon_api_ErrKind)], narrowed := true }
def ZeroStrongUptoSaid : Prop := zeroStrongUptoRow.holds Tryd.pinned (OpenSpec.upto zeroStrongSpec)

/-- 'demonlaw3.ZeroValid', WHERE WHAT IT READS IS OF BULK AT MOST 1048576: true; the input reads as it did. -/
def zeroValidUptoRow : OpenClaim := { program := "ytehheklbibocjaadoor", sum := "080efb63a8f1f7cf416ee5a448b564c6ae35ee9c9923d040d7f18e93c55eaf9b", func := "demon/demonlaw3.ZeroValid", spec := "zeroValid", inPlace := ["internal/reflectlite.ValueOf", "(internal/reflectlite.Value).Type", "(internal/reflectlite.Value).IsNil", "internal/reflectlite.TypeOf", "(internal/reflectlite.Value).Elem", "(internal/reflectlite.Value).Set"], unfollowed := true, recurses := true, named := ["demon/api.ErrBound", "demon/api.ErrShape", "demon/api.ErrText", "demon/api.ErrZero", "demon/api.ErrName", "demon/api.ErrNone", "demon/api.ErrOrder", "demon/api.ErrKind", "errors.errorType"], apart := false, laid := [("errors.errorType", laid_errors_errorType), ("demon/api.ErrText", laid_demon_api_ErrText), ("demon/api.ErrBound", laid_demon_api_ErrBound), ("demon/api.ErrShape", laid_demon_api_ErrShape), ("demon/api.ErrZero", laid_demon_api_ErrZero), ("demon/api.ErrName", laid_demon_api_ErrName), ("demon/api.ErrNone", laid_demon_api_ErrNone), ("demon/api.ErrOrder", laid_demon_api_ErrOrder), ("demon/api.ErrKind", laid_demon_api_ErrKind)], narrowed := true }
def ZeroValidUptoSaid : Prop := zeroValidUptoRow.holds Tryd.pinned (OpenSpec.upto zeroValidSpec)

end Rows
end Go.Proofs.YtehheklbibocjaaDoor
