/-
  DERIVED. GIVEN WITH THE SEED: THE CARDS: each row of YtehheklbibocjaaDoorRows.lean that lists a variable, with what it lists TIED to the program's text (the seventh form; the later family's looks); each row that meets fmt, with fmt's text TOLD by the authors' own Lean function (tested against real Go, not proved from fmt's source: count such statements apart). THE CARD IS WHAT COUNTS. Prove the row's statement (the work); the ties are given (YtehheklbibocjaaDoorTie.lean); close each card by the builder's one call (the guide's Derived/Test/ToyasCard.lean, 'card_holds'). Laid BY PROGRAM, IN A SANDBOX (cutbox-door.mjs). By AI agents, Wed Nov 11 2026. No macro, syntax, notation, axiom, sorry.
-/
import Derived.Test.YtehheklbibocjaaDoorRows
import GoSem.ClaimSeven
namespace Go.Proofs.YtehheklbibocjaaDoor
namespace Rows

/-- THE TIED CARD OF 'demonlaw3.ZeroShannon'. -/
def zeroShannonCard : Claim7 := { stood := { row := zeroShannonRow, standIns := [], harness := (true, "951826055ea0dd66ea3987e4cbece1a874ed2cdc950548cf936ab278403e00be"), looks := true }, kinds := [], alts := [], laidByText := true, laidKinds := [.sentinel, .sentinel], laidTests := true, laidLooks := .later }
def ZeroShannonCardSaid : Prop := Claim7.holds Tryd.pinned (.plain (OpenSpec.ofChange zeroShannonSpec)) zeroShannonCard

/-- THE TIED CARD OF 'demonlaw3.ZeroAlone'. -/
def zeroAloneCard : Claim7 := { stood := { row := zeroAloneRow, standIns := [], harness := (true, "951826055ea0dd66ea3987e4cbece1a874ed2cdc950548cf936ab278403e00be"), looks := true }, kinds := [], alts := [], laidByText := true, laidKinds := [.handle, .sentinel, .sentinel, .sentinel, .sentinel, .sentinel, .sentinel, .sentinel, .sentinel], laidTests := true, laidLooks := .later }
def ZeroAloneCardSaid : Prop := Claim7.holds Tryd.pinned (.plain (OpenSpec.ofChange zeroAloneSpec)) zeroAloneCard

/-- THE TIED CARD OF 'demonlaw3.ZeroStrong'. -/
def zeroStrongCard : Claim7 := { stood := { row := zeroStrongRow, standIns := [], harness := (true, "951826055ea0dd66ea3987e4cbece1a874ed2cdc950548cf936ab278403e00be"), looks := true }, kinds := [], alts := [], laidByText := true, laidKinds := [.handle, .sentinel, .sentinel, .sentinel, .sentinel, .sentinel, .sentinel, .sentinel, .sentinel], laidTests := true, laidLooks := .later }
def ZeroStrongCardSaid : Prop := Claim7.holds Tryd.pinned (.plain (OpenSpec.ofChange zeroStrongSpec)) zeroStrongCard

/-- THE TIED CARD OF 'demonlaw3.ZeroValid'. -/
def zeroValidCard : Claim7 := { stood := { row := zeroValidRow, standIns := [], harness := (true, "951826055ea0dd66ea3987e4cbece1a874ed2cdc950548cf936ab278403e00be"), looks := true }, kinds := [], alts := [], laidByText := true, laidKinds := [.handle, .sentinel, .sentinel, .sentinel, .sentinel, .sentinel, .sentinel, .sentinel, .sentinel], laidTests := true, laidLooks := .later }
def ZeroValidCardSaid : Prop := Claim7.holds Tryd.pinned (.plain (OpenSpec.ofChange zeroValidSpec)) zeroValidCard

/-- THE SECOND FORM's CARD OF 'demonlaw3.ZeroShannon'. -/
def zeroShannonUptoCard : Claim7 := { stood := { row := zeroShannonUptoRow, standIns := [], harness := (true, "951826055ea0dd66ea3987e4cbece1a874ed2cdc950548cf936ab278403e00be"), looks := true }, kinds := [], alts := [], laidByText := true, laidKinds := [.sentinel, .sentinel], laidTests := true, laidLooks := .later }
def ZeroShannonUptoCardSaid : Prop := Claim7.holds Tryd.pinned (.plain (OpenSpec.upto zeroShannonSpec)) zeroShannonUptoCard

/-- THE SECOND FORM's CARD OF 'demonlaw3.ZeroAlone'. -/
def zeroAloneUptoCard : Claim7 := { stood := { row := zeroAloneUptoRow, standIns := [], harness := (true, "951826055ea0dd66ea3987e4cbece1a874ed2cdc950548cf936ab278403e00be"), looks := true }, kinds := [], alts := [], laidByText := true, laidKinds := [.handle, .sentinel, .sentinel, .sentinel, .sentinel, .sentinel, .sentinel, .sentinel, .sentinel], laidTests := true, laidLooks := .later }
def ZeroAloneUptoCardSaid : Prop := Claim7.holds Tryd.pinned (.plain (OpenSpec.upto zeroAloneSpec)) zeroAloneUptoCard

/-- THE SECOND FORM's CARD OF 'demonlaw3.ZeroStrong'. -/
def zeroStrongUptoCard : Claim7 := { stood := { row := zeroStrongUptoRow, standIns := [], harness := (true, "951826055ea0dd66ea3987e4cbece1a874ed2cdc950548cf936ab278403e00be"), looks := true }, kinds := [], alts := [], laidByText := true, laidKinds := [.handle, .sentinel, .sentinel, .sentinel, .sentinel, .sentinel, .sentinel, .sentinel, .sentinel], laidTests := true, laidLooks := .later }
def ZeroStrongUptoCardSaid : Prop := Claim7.holds Tryd.pinned (.plain (OpenSpec.upto zeroStrongSpec)) zeroStrongUptoCard

/-- THE SECOND FORM's CARD OF 'demonlaw3.ZeroValid'. -/
def zeroValidUptoCard : Claim7 := { stood := { row := zeroValidUptoRow, standIns := [], harness := (true, "951826055ea0dd66ea3987e4cbece1a874ed2cdc950548cf936ab278403e00be"), looks := true }, kinds := [], alts := [], laidByText := true, laidKinds := [.handle, .sentinel, .sentinel, .sentinel, .sentinel, .sentinel, .sentinel, .sentinel, .sentinel], laidTests := true, laidLooks := .later }
def ZeroValidUptoCardSaid : Prop := Claim7.holds Tryd.pinned (.plain (OpenSpec.upto zeroValidSpec)) zeroValidUptoCard
end Rows
end Go.Proofs.YtehheklbibocjaaDoor
