/-
  NARROWER THAN 'FOR EVERY INPUT', by the rows' own cells (each row's printed sentence says how): SampleStays: laid · SampleDraw: laid · SampleFair: laid · SampleValid: laid · SamplePast: laid · SampleEnds: laid.
  DERIVED. THE GIVEN ROWS OF THIS SEAT. 6 by the template 'for every input the law returns true; each argument reads behind the call as it read before'; 0 by the template 'total and deterministic' (their statements: YtioekjkfhbopkaaDoorTotals.lean).
  GIVEN WITH THE SEED: the statements are not yours to turn. If you find one false, say at which input.
  Laid BY PROGRAM, IN A SANDBOX (cutbox-rows.mjs): the forced cells as the released guide's own fill.sh prints them over the translation 1c972364d1959b36… (all of the seat's roots in one cut). By AI agents, Wed Nov 11 2026. No macro, syntax, notation, axiom, sorry.
-/
import Derived.Test.YtioekjkfhbopkaaDoorChecked
import GoSem.PinnedTables
import GoSem.Claim
import GoSem.ClaimJoined
import GoSem.ClaimMapViews
import Derived.JoinedTies
import Derived.KernelRfl
namespace Go.Proofs.YtioekjkfhbopkaaDoor
/- THE CELL 'sum', in the pinned program and in every row, IS THE sha256 OF THE DUMP (.gsa) THAT YtioekjkfhbopkaaDoorProg.lean LOADS. Nothing in Lean hashes anything: it is a label: what it is worth is what the hold of that sum in a sandbox is worth. -/
noncomputable def Tryd.pinned : Pinned := { name := "ytioekjkfhbopkaadoor", sum := "1c972364d1959b3695f84da94d51aaf912ea01c0fa0353bc9d7ddb1976c8e4d2", checked := Tryd.checked }
namespace Rows
def none {H : Type} : Left H := { results := [], args := [] }

/- WHAT THE LISTED PACKAGE-LEVEL VARIABLES READ AS WHEN THE CALL BEGINS. Each datum BY PROGRAM (the guide's laid-datum.mjs) off the statement by which the dump's own 'gosem.cut.vars' lays the variable. In a bare row this is a premise. The card (YtioekjkfhbopkaaDoorCards.lean) ties it to the program's text. -/
def laid_unicode_utf8_acceptRanges {H : Type} : DataW H := .agg [.agg [.lit (.int .u8 128), .lit (.int .u8 191)], .agg [.lit (.int .u8 160), .lit (.int .u8 191)], .agg [.lit (.int .u8 128), .lit (.int .u8 159)], .agg [.lit (.int .u8 144), .lit (.int .u8 191)], .agg [.lit (.int .u8 128), .lit (.int .u8 143)], .agg [.lit (.int .u8 0), .lit (.int .u8 0)], .agg [.lit (.int .u8 0), .lit (.int .u8 0)], .agg [.lit (.int .u8 0), .lit (.int .u8 0)], .agg [.lit (.int .u8 0), .lit (.int .u8 0)], .agg [.lit (.int .u8 0), .lit (.int .u8 0)], .agg [.lit (.int .u8 0), .lit (.int .u8 0)], .agg [.lit (.int .u8 0), .lit (.int .u8 0)], .agg [.lit (.int .u8 0), .lit (.int .u8 0)], .agg [.lit (.int .u8 0), .lit (.int .u8 0)], .agg [.lit (.int .u8 0), .lit (.int .u8 0)], .agg [.lit (.int .u8 0), .lit (.int .u8 0)]]
def laid_demon_api_ErrText {H : Type} : DataW H := .iface "*errors.errorString" (.ptr (.agg [.lit (.string [100, 101, 109, 111, 110, 58, 32, 116, 101, 120, 116])]))
def laid_demon_api_ErrBound {H : Type} : DataW H := .iface "*errors.errorString" (.ptr (.agg [.lit (.string [100, 101, 109, 111, 110, 58, 32, 98, 111, 117, 110, 100])]))
def laid_demon_api_ErrShape {H : Type} : DataW H := .iface "*errors.errorString" (.ptr (.agg [.lit (.string [100, 101, 109, 111, 110, 58, 32, 115, 104, 97, 112, 101])]))
def laid_demon_api_ErrNone {H : Type} : DataW H := .iface "*errors.errorString" (.ptr (.agg [.lit (.string [100, 101, 109, 111, 110, 58, 32, 110, 111, 110, 101])]))
def laid_demon_api_ErrOrder {H : Type} : DataW H := .iface "*errors.errorString" (.ptr (.agg [.lit (.string [100, 101, 109, 111, 110, 58, 32, 111, 114, 100, 101, 114])]))
/-- One of Go's own tables, pinned by name: the form's constant. -/
def laid_unicode_utf8_first : DataW Unit := Go.Pinned.utf8First
def laid_errors_errorType {H : Type} : DataW H := .iface "internal/reflectlite.rtype" (.agg [.ptr (.lit (.string [101, 114, 114, 111, 114]))])
def laid_demon_api_ErrZero {H : Type} : DataW H := .iface "*errors.errorString" (.ptr (.agg [.lit (.string [100, 101, 109, 111, 110, 58, 32, 122, 101, 114, 111])]))
def laid_demon_api_ErrName {H : Type} : DataW H := .iface "*errors.errorString" (.ptr (.agg [.lit (.string [100, 101, 109, 111, 110, 58, 32, 110, 97, 109, 101])]))
def laid_demon_api_ErrKind {H : Type} : DataW H := .iface "*errors.errorString" (.ptr (.agg [.lit (.string [100, 101, 109, 111, 110, 58, 32, 107, 105, 110, 100])]))

/-- 'demonlaw4.SampleStays': WHATEVER THE INPUT: true; the input reads as it did. -/
def sampleStaysSpec : ChangeSpec := { name := "sampleStays", fn := fun _ => fun
  | [d1, d2, d3] => { results := [.lit (.bool true)], args := [d1, d2, d3] }
  | _ => none }
def sampleStaysRow : OpenClaim := { program := "ytioekjkfhbopkaadoor", sum := "1c972364d1959b3695f84da94d51aaf912ea01c0fa0353bc9d7ddb1976c8e4d2", func := "demon/demonlaw4.SampleStays", spec := "sampleStays", inPlace := ["internal/bytealg.IndexByteString", "internal/bytealg.IndexString"], unfollowed := true, recurses := true, named := ["demon/api.ErrBound", "demon/api.ErrText", "demon/api.ErrNone", "demon/api.ErrShape", "unicode/utf8.first", "unicode/utf8.acceptRanges", "demon/api.ErrOrder", "internal/bytealg.MaxLen"], apart := false, laid := [("unicode/utf8.acceptRanges", laid_unicode_utf8_acceptRanges), ("demon/api.ErrText", laid_demon_api_ErrText), ("demon/api.ErrBound", laid_demon_api_ErrBound), ("demon/api.ErrShape", laid_demon_api_ErrShape), ("demon/api.ErrNone", laid_demon_api_ErrNone), ("demon/api.ErrOrder", laid_demon_api_ErrOrder), ("unicode/utf8.first", laid_unicode_utf8_first)] }
def SampleStaysSaid : Prop := sampleStaysRow.holds Tryd.pinned (OpenSpec.ofChange sampleStaysSpec)

/-- ITS FALSE NEIGHBOUR: 'it returns false'. Refute it at one input. -/
def sampleStaysWrong : ChangeSpec := { name := "sampleStays", fn := fun _ => fun
  | [d1, d2, d3] => { results := [.lit (.bool false)], args := [d1, d2, d3] }
  | _ => none }
def SampleStaysWrongFalsely : Prop := sampleStaysRow.holds Tryd.pinned (OpenSpec.ofChange sampleStaysWrong)

/-- 'demonlaw4.SampleDraw': WHATEVER THE INPUT: true; the input reads as it did. -/
def sampleDrawSpec : ChangeSpec := { name := "sampleDraw", fn := fun _ => fun
  | [d1, d2] => { results := [.lit (.bool true)], args := [d1, d2] }
  | _ => none }
def sampleDrawRow : OpenClaim := { program := "ytioekjkfhbopkaadoor", sum := "1c972364d1959b3695f84da94d51aaf912ea01c0fa0353bc9d7ddb1976c8e4d2", func := "demon/demonlaw4.SampleDraw", spec := "sampleDraw", inPlace := ["internal/bytealg.IndexByteString", "internal/bytealg.IndexString", "internal/reflectlite.ValueOf", "(internal/reflectlite.Value).Type", "(internal/reflectlite.Value).IsNil", "internal/reflectlite.TypeOf", "(internal/reflectlite.Value).Elem", "(internal/reflectlite.Value).Set"], unfollowed := true, recurses := true, named := ["demon/api.ErrBound", "demon/api.ErrText", "demon/api.ErrNone", "demon/api.ErrShape", "unicode/utf8.first", "unicode/utf8.acceptRanges", "demon/api.ErrZero", "demon/api.ErrName", "demon/api.ErrOrder", "demon/api.ErrKind", "errors.errorType", "internal/bytealg.MaxLen"], apart := false, laid := [("unicode/utf8.acceptRanges", laid_unicode_utf8_acceptRanges), ("errors.errorType", laid_errors_errorType), ("demon/api.ErrText", laid_demon_api_ErrText), ("demon/api.ErrBound", laid_demon_api_ErrBound), ("demon/api.ErrShape", laid_demon_api_ErrShape), ("demon/api.ErrZero", laid_demon_api_ErrZero), ("demon/api.ErrName", laid_demon_api_ErrName), ("demon/api.ErrNone", laid_demon_api_ErrNone), ("demon/api.ErrOrder", laid_demon_api_ErrOrder), ("demon/api.ErrKind", laid_demon_api_ErrKind), ("unicode/utf8.first", laid_unicode_utf8_first)] }
def SampleDrawSaid : Prop := sampleDrawRow.holds Tryd.pinned (OpenSpec.ofChange sampleDrawSpec)

/-- ITS FALSE NEIGHBOUR: 'it returns false'. Refute it at one input. -/
def sampleDrawWrong : ChangeSpec := { name := "sampleDraw", fn := fun _ => fun
  | [d1, d2] => { results := [.lit (.bool false)], args := [d1, d2] }
  | _ => none }
def SampleDrawWrongFalsely : Prop := sampleDrawRow.holds Tryd.pinned (OpenSpec.ofChange sampleDrawWrong)

/-- 'demonlaw4.SampleFair': WHATEVER THE INPUT: true; the input reads as it did. -/
def sampleFairSpec : ChangeSpec := { name := "sampleFair", fn := fun _ => fun
  | [d1, d2] => { results := [.lit (.bool true)], args := [d1, d2] }
  | _ => none }
def sampleFairRow : OpenClaim := { program := "ytioekjkfhbopkaadoor", sum := "1c972364d1959b3695f84da94d51aaf912ea01c0fa0353bc9d7ddb1976c8e4d2", func := "demon/demonlaw4.SampleFair", spec := "sampleFair", inPlace := ["internal/bytealg.IndexByteString", "internal/bytealg.IndexString", "internal/reflectlite.ValueOf", "(internal/reflectlite.Value).Type", "(internal/reflectlite.Value).IsNil", "internal/reflectlite.TypeOf", "(internal/reflectlite.Value).Elem", "(internal/reflectlite.Value).Set"], unfollowed := true, recurses := true, named := ["demon/api.ErrBound", "demon/api.ErrText", "demon/api.ErrNone", "demon/api.ErrShape", "unicode/utf8.first", "unicode/utf8.acceptRanges", "demon/api.ErrZero", "demon/api.ErrName", "demon/api.ErrOrder", "demon/api.ErrKind", "errors.errorType", "internal/bytealg.MaxLen"], apart := false, laid := [("unicode/utf8.acceptRanges", laid_unicode_utf8_acceptRanges), ("errors.errorType", laid_errors_errorType), ("demon/api.ErrText", laid_demon_api_ErrText), ("demon/api.ErrBound", laid_demon_api_ErrBound), ("demon/api.ErrShape", laid_demon_api_ErrShape), ("demon/api.ErrZero", laid_demon_api_ErrZero), ("demon/api.ErrName", laid_demon_api_ErrName), ("demon/api.ErrNone", laid_demon_api_ErrNone), ("demon/api.ErrOrder", laid_demon_api_ErrOrder), ("demon/api.ErrKind", laid_demon_api_ErrKind), ("unicode/utf8.first", laid_unicode_utf8_first)] }
def SampleFairSaid : Prop := sampleFairRow.holds Tryd.pinned (OpenSpec.ofChange sampleFairSpec)

/-- ITS FALSE NEIGHBOUR: 'it returns false'. Refute it at one input. -/
def sampleFairWrong : ChangeSpec := { name := "sampleFair", fn := fun _ => fun
  | [d1, d2] => { results := [.lit (.bool false)], args := [d1, d2] }
  | _ => none }
def SampleFairWrongFalsely : Prop := sampleFairRow.holds Tryd.pinned (OpenSpec.ofChange sampleFairWrong)

/-- 'demonlaw4.SampleValid': WHATEVER THE INPUT: true; the input reads as it did. -/
def sampleValidSpec : ChangeSpec := { name := "sampleValid", fn := fun _ => fun
  | [d] => { results := [.lit (.bool true)], args := [d] }
  | _ => none }
def sampleValidRow : OpenClaim := { program := "ytioekjkfhbopkaadoor", sum := "1c972364d1959b3695f84da94d51aaf912ea01c0fa0353bc9d7ddb1976c8e4d2", func := "demon/demonlaw4.SampleValid", spec := "sampleValid", inPlace := ["internal/bytealg.IndexByteString", "internal/bytealg.IndexString", "internal/reflectlite.ValueOf", "(internal/reflectlite.Value).Type", "(internal/reflectlite.Value).IsNil", "internal/reflectlite.TypeOf", "(internal/reflectlite.Value).Elem", "(internal/reflectlite.Value).Set"], unfollowed := true, recurses := true, named := ["demon/api.ErrBound", "demon/api.ErrText", "demon/api.ErrNone", "demon/api.ErrShape", "unicode/utf8.first", "unicode/utf8.acceptRanges", "demon/api.ErrOrder", "demon/api.ErrZero", "demon/api.ErrName", "demon/api.ErrKind", "errors.errorType", "internal/bytealg.MaxLen"], apart := false, laid := [("unicode/utf8.acceptRanges", laid_unicode_utf8_acceptRanges), ("errors.errorType", laid_errors_errorType), ("demon/api.ErrText", laid_demon_api_ErrText), ("demon/api.ErrBound", laid_demon_api_ErrBound), ("demon/api.ErrShape", laid_demon_api_ErrShape), ("demon/api.ErrZero", laid_demon_api_ErrZero), ("demon/api.ErrName", laid_demon_api_ErrName), ("demon/api.ErrNone", laid_demon_api_ErrNone), ("demon/api.ErrOrder", laid_demon_api_ErrOrder), ("demon/api.ErrKind", laid_demon_api_ErrKind), ("unicode/utf8.first", laid_unicode_utf8_first)] }
def SampleValidSaid : Prop := sampleValidRow.holds Tryd.pinned (OpenSpec.ofChange sampleValidSpec)

/-- ITS FALSE NEIGHBOUR: 'it returns false'. Refute it at one input. -/
def sampleValidWrong : ChangeSpec := { name := "sampleValid", fn := fun _ => fun
  | [d] => { results := [.lit (.bool false)], args := [d] }
  | _ => none }
def SampleValidWrongFalsely : Prop := sampleValidRow.holds Tryd.pinned (OpenSpec.ofChange sampleValidWrong)

/-- 'demonlaw4.SamplePast': WHATEVER THE INPUT: true; the input reads as it did. -/
def samplePastSpec : ChangeSpec := { name := "samplePast", fn := fun _ => fun
  | [d1, d2] => { results := [.lit (.bool true)], args := [d1, d2] }
  | _ => none }
def samplePastRow : OpenClaim := { program := "ytioekjkfhbopkaadoor", sum := "1c972364d1959b3695f84da94d51aaf912ea01c0fa0353bc9d7ddb1976c8e4d2", func := "demon/demonlaw4.SamplePast", spec := "samplePast", inPlace := ["internal/bytealg.IndexByteString", "internal/bytealg.IndexString", "internal/reflectlite.ValueOf", "(internal/reflectlite.Value).Type", "(internal/reflectlite.Value).IsNil", "internal/reflectlite.TypeOf", "(internal/reflectlite.Value).Elem", "(internal/reflectlite.Value).Set"], unfollowed := true, recurses := true, named := ["demon/api.ErrBound", "demon/api.ErrText", "demon/api.ErrNone", "demon/api.ErrShape", "unicode/utf8.first", "unicode/utf8.acceptRanges", "demon/api.ErrOrder", "demon/api.ErrZero", "demon/api.ErrName", "demon/api.ErrKind", "errors.errorType", "internal/bytealg.MaxLen"], apart := false, laid := [("unicode/utf8.acceptRanges", laid_unicode_utf8_acceptRanges), ("errors.errorType", laid_errors_errorType), ("demon/api.ErrText", laid_demon_api_ErrText), ("demon/api.ErrBound", laid_demon_api_ErrBound), ("demon/api.ErrShape", laid_demon_api_ErrShape), ("demon/api.ErrZero", laid_demon_api_ErrZero), ("demon/api.ErrName", laid_demon_api_ErrName), ("demon/api.ErrNone", laid_demon_api_ErrNone), ("demon/api.ErrOrder", laid_demon_api_ErrOrder), ("demon/api.ErrKind", laid_demon_api_ErrKind), ("unicode/utf8.first", laid_unicode_utf8_first)] }
def SamplePastSaid : Prop := samplePastRow.holds Tryd.pinned (OpenSpec.ofChange samplePastSpec)

/-- ITS FALSE NEIGHBOUR: 'it returns false'. Refute it at one input. -/
def samplePastWrong : ChangeSpec := { name := "samplePast", fn := fun _ => fun
  | [d1, d2] => { results := [.lit (.bool false)], args := [d1, d2] }
  | _ => none }
def SamplePastWrongFalsely : Prop := samplePastRow.holds Tryd.pinned (OpenSpec.ofChange samplePastWrong)

/-- 'demonlaw4.SampleEnds': WHATEVER THE INPUT: true; the input reads as it did. -/
def sampleEndsSpec : ChangeSpec := { name := "sampleEnds", fn := fun _ => fun
  | [d1, d2] => { results := [.lit (.bool true)], args := [d1, d2] }
  | _ => none }
def sampleEndsRow : OpenClaim := { program := "ytioekjkfhbopkaadoor", sum := "1c972364d1959b3695f84da94d51aaf912ea01c0fa0353bc9d7ddb1976c8e4d2", func := "demon/demonlaw4.SampleEnds", spec := "sampleEnds", inPlace := ["internal/bytealg.IndexByteString", "internal/bytealg.IndexString", "internal/reflectlite.ValueOf", "(internal/reflectlite.Value).Type", "(internal/reflectlite.Value).IsNil", "internal/reflectlite.TypeOf", "(internal/reflectlite.Value).Elem", "(internal/reflectlite.Value).Set"], unfollowed := true, recurses := true, named := ["demon/api.ErrBound", "demon/api.ErrText", "demon/api.ErrNone", "demon/api.ErrShape", "unicode/utf8.first", "unicode/utf8.acceptRanges", "demon/api.ErrOrder", "demon/api.ErrZero", "demon/api.ErrName", "demon/api.ErrKind", "errors.errorType", "internal/bytealg.MaxLen"], apart := false, laid := [("unicode/utf8.acceptRanges", laid_unicode_utf8_acceptRanges), ("errors.errorType", laid_errors_errorType), ("demon/api.ErrText", laid_demon_api_ErrText), ("demon/api.ErrBound", laid_demon_api_ErrBound), ("demon/api.ErrShape", laid_demon_api_ErrShape), ("demon/api.ErrZero", laid_demon_api_ErrZero), ("demon/api.ErrName", laid_demon_api_ErrName), ("demon/api.ErrNone", laid_demon_api_ErrNone), ("demon/api.ErrOrder", laid_demon_api_ErrOrder), ("demon/api.ErrKind", laid_demon_api_ErrKind), ("unicode/utf8.first", laid_unicode_utf8_first)] }
def SampleEndsSaid : Prop := sampleEndsRow.holds Tryd.pinned (OpenSpec.ofChange sampleEndsSpec)

/-- ITS FALSE NEIGHBOUR: 'it returns false'. Refute it at one input. -/
def sampleEndsWrong : ChangeSpec := { name := "sampleEnds", fn := fun _ => fun
  | [d1, d2] => { results := [.lit (.bool false)], args := [d1, d2] }
  | _ => none }
def SampleEndsWrongFalsely : Prop := sampleEndsRow.holds Tryd.pinned (OpenSpec.ofChange sampleEndsWrong)

/- THE SECOND FORM. 'bulk': how many values and letters a reading holds, each counted each time it is reached (what is shared counts as often as it is met; a slice's spare places count too). A statement '..UptoSaid' is the law's where the arguments, and the package variables that the reading takes, are together of bulk at most 1048576: NARROWER than '..Said'. Prove '..Said' where nothing that the law and all that it calls make is longer than what came in: it says more and counts as full. Else prove '..UptoSaid'. A law counts once. -/
mutual
def uptoBulk {H : Type} : DataW H → Nat
  | .lit (.string bytes) => bytes.length + 1
  | .lit _ => 1
  | .nil => 1
  | .ptr d => uptoBulk d + 1
  | .slice elems spare => uptoBulkAll elems + uptoBulkAll spare + 1
  | .agg parts => uptoBulkAll parts + 1
  | .iface _ d => uptoBulk d + 1
  | .map entries => uptoBulkEntries entries + 1
  | .held _ => 1
def uptoBulkAll {H : Type} : List (DataW H) → Nat
  | [] => 0
  | d :: r => uptoBulk d + uptoBulkAll r
def uptoBulkEntries {H : Type} : List (Lit × DataW H) → Nat
  | [] => 0
  | x :: r => uptoBulkEntry x + uptoBulkEntries r
def uptoBulkEntry {H : Type} : Lit × DataW H → Nat
  | (.string bytes, d) => bytes.length + uptoBulk d + 1
  | (_, d) => uptoBulk d + 1
 end
def uptoSmall : (H : Type) → List (DataW H) → Bool := fun _ ds => decide (uptoBulkAll ds ≤ 1048576)
def OpenSpec.upto (s : _root_.Go.ChangeSpec) : _root_.Go.OpenSpec := { _root_.Go.OpenSpec.ofChange s with cond := some uptoSmall }

/-- 'demonlaw4.SampleStays', WHERE WHAT IT READS IS OF BULK AT MOST 1048576: true; the input reads as it did. -/
def sampleStaysUptoRow : OpenClaim := { program := "ytioekjkfhbopkaadoor", sum := "1c972364d1959b3695f84da94d51aaf912ea01c0fa0353bc9d7ddb1976c8e4d2", func := "demon/demonlaw4.SampleStays", spec := "sampleStays", inPlace := ["internal/bytealg.IndexByteString", "internal/bytealg.IndexString"], unfollowed := true, recurses := true, named := ["demon/api.ErrBound", "demon/api.ErrText", "demon/api.ErrNone", "demon/api.ErrShape", "unicode/utf8.first", "unicode/utf8.acceptRanges", "demon/api.ErrOrder", "internal/bytealg.MaxLen"], apart := false, laid := [("unicode/utf8.acceptRanges", laid_unicode_utf8_acceptRanges), ("demon/api.ErrText", laid_demon_api_ErrText), ("demon/api.ErrBound", laid_demon_api_ErrBound), ("demon/api.ErrShape", laid_demon_api_ErrShape), ("demon/api.ErrNone", laid_demon_api_ErrNone), ("demon/api.ErrOrder", laid_demon_api_ErrOrder), ("unicode/utf8.first", laid_unicode_utf8_first)], narrowed := true }
def SampleStaysUptoSaid : Prop := sampleStaysUptoRow.holds Tryd.pinned (OpenSpec.upto sampleStaysSpec)

/-- 'demonlaw4.SampleDraw', WHERE WHAT IT READS IS OF BULK AT MOST 1048576: true; the input reads as it did. -/
def sampleDrawUptoRow : OpenClaim := { program := "ytioekjkfhbopkaadoor", sum := "1c972364d1959b3695f84da94d51aaf912ea01c0fa0353bc9d7ddb1976c8e4d2", func := "demon/demonlaw4.SampleDraw", spec := "sampleDraw", inPlace := ["internal/bytealg.IndexByteString", "internal/bytealg.IndexString", "internal/reflectlite.ValueOf", "(internal/reflectlite.Value).Type", "(internal/reflectlite.Value).IsNil", "internal/reflectlite.TypeOf", "(internal/reflectlite.Value).Elem", "(internal/reflectlite.Value).Set"], unfollowed := true, recurses := true, named := ["demon/api.ErrBound", "demon/api.ErrText", "demon/api.ErrNone", "demon/api.ErrShape", "unicode/utf8.first", "unicode/utf8.acceptRanges", "demon/api.ErrZero", "demon/api.ErrName", "demon/api.ErrOrder", "demon/api.ErrKind", "errors.errorType", "internal/bytealg.MaxLen"], apart := false, laid := [("unicode/utf8.acceptRanges", laid_unicode_utf8_acceptRanges), ("errors.errorType", laid_errors_errorType), ("demon/api.ErrText", laid_demon_api_ErrText), ("demon/api.ErrBound", laid_demon_api_ErrBound), ("demon/api.ErrShape", laid_demon_api_ErrShape), ("demon/api.ErrZero", laid_demon_api_ErrZero), ("demon/api.ErrName", laid_demon_api_ErrName), ("demon/api.ErrNone", laid_demon_api_ErrNone), ("demon/api.ErrOrder", laid_demon_api_ErrOrder), ("demon/api.ErrKind", laid_demon_api_ErrKind), ("unicode/utf8.first", laid_unicode_utf8_first)], narrowed := true }
def SampleDrawUptoSaid : Prop := sampleDrawUptoRow.holds Tryd.pinned (OpenSpec.upto sampleDrawSpec)

/-- 'demonlaw4.SampleFair', WHERE WHAT IT READS IS OF BULK AT MOST 1048576: true; the input reads as it did. -/
def sampleFairUptoRow : OpenClaim := { program := "ytioekjkfhbopkaadoor", sum := "1c972364d1959b3695f84da94d51aaf912ea01c0fa0353bc9d7ddb1976c8e4d2", func := "demon/demonlaw4.SampleFair", spec := "sampleFair", inPlace := ["internal/bytealg.IndexByteString", "internal/bytealg.IndexString", "internal/reflectlite.ValueOf", "(internal/reflectlite.Value).Type", "(internal/reflectlite.Value).IsNil", "internal/reflectlite.TypeOf", "(internal/reflectlite.Value).Elem", "(internal/reflectlite.Value).Set"], unfollowed := true, recurses := true, named := ["demon/api.ErrBound", "demon/api.ErrText", "demon/api.ErrNone", "demon/api.ErrShape", "unicode/utf8.first", "unicode/utf8.acceptRanges", "demon/api.ErrZero", "demon/api.ErrName", "demon/api.ErrOrder", "demon/api.ErrKind", "errors.errorType", "internal/bytealg.MaxLen"], apart := false, laid := [("unicode/utf8.acceptRanges", laid_unicode_utf8_acceptRanges), ("errors.errorType", laid_errors_errorType), ("demon/api.ErrText", laid_demon_api_ErrText), ("demon/api.ErrBound", laid_demon_api_ErrBound), ("demon/api.ErrShape", laid_demon_api_ErrShape), ("demon/api.ErrZero", laid_demon_api_ErrZero), ("demon/api.ErrName", laid_demon_api_ErrName), ("demon/api.ErrNone", laid_demon_api_ErrNone), ("demon/api.ErrOrder", laid_demon_api_ErrOrder), ("demon/api.ErrKind", laid_demon_api_ErrKind), ("unicode/utf8.first", laid_unicode_utf8_first)], narrowed := true }
def SampleFairUptoSaid : Prop := sampleFairUptoRow.holds Tryd.pinned (OpenSpec.upto sampleFairSpec)

/-- 'demonlaw4.SampleValid', WHERE WHAT IT READS IS OF BULK AT MOST 1048576: true; the input reads as it did. -/
def sampleValidUptoRow : OpenClaim := { program := "ytioekjkfhbopkaadoor", sum := "1c972364d1959b3695f84da94d51aaf912ea01c0fa0353bc9d7ddb1976c8e4d2", func := "demon/demonlaw4.SampleValid", spec := "sampleValid", inPlace := ["internal/bytealg.IndexByteString", "internal/bytealg.IndexString", "internal/reflectlite.ValueOf", "(internal/reflectlite.Value).Type", "(internal/reflectlite.Value).IsNil", "internal/reflectlite.TypeOf", "(internal/reflectlite.Value).Elem", "(internal/reflectlite.Value).Set"], unfollowed := true, recurses := true, named := ["demon/api.ErrBound", "demon/api.ErrText", "demon/api.ErrNone", "demon/api.ErrShape", "unicode/utf8.first", "unicode/utf8.acceptRanges", "demon/api.ErrOrder", "demon/api.ErrZero", "demon/api.ErrName", "demon/api.ErrKind", "errors.errorType", "internal/bytealg.MaxLen"], apart := false, laid := [("unicode/utf8.acceptRanges", laid_unicode_utf8_acceptRanges), ("errors.errorType", laid_errors_errorType), ("demon/api.ErrText", laid_demon_api_ErrText), ("demon/api.ErrBound", laid_demon_api_ErrBound), ("demon/api.ErrShape", laid_demon_api_ErrShape), ("demon/api.ErrZero", laid_demon_api_ErrZero), ("demon/api.ErrName", laid_demon_api_ErrName), ("demon/api.ErrNone", laid_demon_api_ErrNone), ("demon/api.ErrOrder", laid_demon_api_ErrOrder), ("demon/api.ErrKind", laid_demon_api_ErrKind), ("unicode/utf8.first", laid_unicode_utf8_first)], narrowed := true }
def SampleValidUptoSaid : Prop := sampleValidUptoRow.holds Tryd.pinned (OpenSpec.upto sampleValidSpec)

/-- 'demonlaw4.SamplePast', WHERE WHAT IT READS IS OF BULK AT MOST 1048576: true; the input reads as it did. -/
def samplePastUptoRow : OpenClaim := { program := "ytioekjkfhbopkaadoor", sum := "1c972364d1959b3695f84da94d51aaf912ea01c0fa0353bc9d7ddb1976c8e4d2", func := "demon/demonlaw4.SamplePast", spec := "samplePast", inPlace := ["internal/bytealg.IndexByteString", "internal/bytealg.IndexString", "internal/reflectlite.ValueOf", "(internal/reflectlite.Value).Type", "(internal/reflectlite.Value).IsNil", "internal/reflectlite.TypeOf", "(internal/reflectlite.Value).Elem", "(internal/reflectlite.Value).Set"], unfollowed := true, recurses := true, named := ["demon/api.ErrBound", "demon/api.ErrText", "demon/api.ErrNone", "demon/api.ErrShape", "unicode/utf8.first", "unicode/utf8.acceptRanges", "demon/api.ErrOrder", "demon/api.ErrZero", "demon/api.ErrName", "demon/api.ErrKind", "errors.errorType", "internal/bytealg.MaxLen"], apart := false, laid := [("unicode/utf8.acceptRanges", laid_unicode_utf8_acceptRanges), ("errors.errorType", laid_errors_errorType), ("demon/api.ErrText", laid_demon_api_ErrText), ("demon/api.ErrBound", laid_demon_api_ErrBound), ("demon/api.ErrShape", laid_demon_api_ErrShape), ("demon/api.ErrZero", laid_demon_api_ErrZero), ("demon/api.ErrName", laid_demon_api_ErrName), ("demon/api.ErrNone", laid_demon_api_ErrNone), ("demon/api.ErrOrder", laid_demon_api_ErrOrder), ("demon/api.ErrKind", laid_demon_api_ErrKind), ("unicode/utf8.first", laid_unicode_utf8_first)], narrowed := true }
def SamplePastUptoSaid : Prop := samplePastUptoRow.holds Tryd.pinned (OpenSpec.upto samplePastSpec)

/-- 'demonlaw4.SampleEnds', WHERE WHAT IT READS IS OF BULK AT MOST 1048576: true; the input reads as it did. -/
def sampleEndsUptoRow : OpenClaim := { program := "ytioekjkfhbopkaadoor", sum := "1c972364d1959b3695f84da94d51aaf912ea01c0fa0353bc9d7ddb1976c8e4d2", func := "demon/demonlaw4.SampleEnds", spec := "sampleEnds", inPlace := ["internal/bytealg.IndexByteString", "internal/bytealg.IndexString", "internal/reflectlite.ValueOf", "(internal/reflectlite.Value).Type", "(internal/reflectlite.Value).IsNil", "internal/reflectlite.TypeOf", "(internal/reflectlite.Value).Elem", "(internal/reflectlite.Value).Set"], unfollowed := true, recurses := true, named := ["demon/api.ErrBound", "demon/api.ErrText", "demon/api.ErrNone", "demon/api.ErrShape", "unicode/utf8.first", "unicode/utf8.acceptRanges", "demon/api.ErrOrder", "demon/api.ErrZero", "demon/api.ErrName", "demon/api.ErrKind", "errors.errorType", "internal/bytealg.MaxLen"], apart := false, laid := [("unicode/utf8.acceptRanges", laid_unicode_utf8_acceptRanges), ("errors.errorType", laid_errors_errorType), ("demon/api.ErrText", laid_demon_api_ErrText), ("demon/api.ErrBound", laid_demon_api_ErrBound), ("demon/api.ErrShape", laid_demon_api_ErrShape), ("demon/api.ErrZero", laid_demon_api_ErrZero), ("demon/api.ErrName", laid_demon_api_ErrName), ("demon/api.ErrNone", laid_demon_api_ErrNone), ("demon/api.ErrOrder", laid_demon_api_ErrOrder), ("demon/api.ErrKind", laid_demon_api_ErrKind), ("unicode/utf8.first", laid_unicode_utf8_first)], narrowed := true }
def SampleEndsUptoSaid : Prop := sampleEndsUptoRow.holds Tryd.pinned (OpenSpec.upto sampleEndsSpec)

end Rows
end Go.Proofs.YtioekjkfhbopkaaDoor
