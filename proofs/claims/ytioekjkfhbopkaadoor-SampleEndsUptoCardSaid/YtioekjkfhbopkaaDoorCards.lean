/-
  DERIVED. GIVEN WITH THE SEED: THE CARDS: each row of YtioekjkfhbopkaaDoorRows.lean that lists a variable, with what it lists TIED to the program's text (the seventh form; the later family's looks); each row that meets fmt, with fmt's text TOLD by the authors' own Lean function (tested against real Go, not proved from fmt's source: count such statements apart). THE CARD IS WHAT COUNTS. Prove the row's statement (the work); the ties are given (YtioekjkfhbopkaaDoorTie.lean); close each card by the builder's one call (the guide's Derived/Test/ToyasCard.lean, 'card_holds'). Laid BY PROGRAM, IN A SANDBOX (cutbox-door.mjs). By AI agents, Wed Nov 11 2026. No macro, syntax, notation, axiom, sorry.
-/
import Derived.Test.YtioekjkfhbopkaaDoorRows
import GoSem.ClaimSeven
namespace Go.Proofs.YtioekjkfhbopkaaDoor
namespace Rows

/-- THE TIED CARD OF 'demonlaw4.SampleStays'. -/
def sampleStaysCard : Claim7 := { stood := { row := sampleStaysRow, standIns := [], harness := (true, "c7586f8410671e36b06df1ef6706b1ccd2d98797e98eac0b7770a40bd972a066"), looks := true }, kinds := [], alts := [], laidByText := true, laidKinds := [.data, .sentinel, .sentinel, .sentinel, .sentinel, .sentinel, .pinned], laidTests := true, laidLooks := .later }
def SampleStaysCardSaid : Prop := Claim7.holds Tryd.pinned (.plain (OpenSpec.ofChange sampleStaysSpec)) sampleStaysCard

/-- THE TIED CARD OF 'demonlaw4.SampleDraw'. -/
def sampleDrawCard : Claim7 := { stood := { row := sampleDrawRow, standIns := [], harness := (true, "c7586f8410671e36b06df1ef6706b1ccd2d98797e98eac0b7770a40bd972a066"), looks := true }, kinds := [], alts := [], laidByText := true, laidKinds := [.data, .handle, .sentinel, .sentinel, .sentinel, .sentinel, .sentinel, .sentinel, .sentinel, .sentinel, .pinned], laidTests := true, laidLooks := .later }
def SampleDrawCardSaid : Prop := Claim7.holds Tryd.pinned (.plain (OpenSpec.ofChange sampleDrawSpec)) sampleDrawCard

/-- THE TIED CARD OF 'demonlaw4.SampleFair'. -/
def sampleFairCard : Claim7 := { stood := { row := sampleFairRow, standIns := [], harness := (true, "c7586f8410671e36b06df1ef6706b1ccd2d98797e98eac0b7770a40bd972a066"), looks := true }, kinds := [], alts := [], laidByText := true, laidKinds := [.data, .handle, .sentinel, .sentinel, .sentinel, .sentinel, .sentinel, .sentinel, .sentinel, .sentinel, .pinned], laidTests := true, laidLooks := .later }
def SampleFairCardSaid : Prop := Claim7.holds Tryd.pinned (.plain (OpenSpec.ofChange sampleFairSpec)) sampleFairCard

/-- THE TIED CARD OF 'demonlaw4.SampleValid'. -/
def sampleValidCard : Claim7 := { stood := { row := sampleValidRow, standIns := [], harness := (true, "c7586f8410671e36b06df1ef6706b1ccd2d98797e98eac0b7770a40bd972a066"), looks := true }, kinds := [], alts := [], laidByText := true, laidKinds := [.data, .handle, .sentinel, .sentinel, .sentinel, .sentinel, .sentinel, .sentinel, .sentinel, .sentinel, .pinned], laidTests := true, laidLooks := .later }
def SampleValidCardSaid : Prop := Claim7.holds Tryd.pinned (.plain (OpenSpec.ofChange sampleValidSpec)) sampleValidCard

/-- THE TIED CARD OF 'demonlaw4.SamplePast'. -/
def samplePastCard : Claim7 := { stood := { row := samplePastRow, standIns := [], harness := (true, "c7586f8410671e36b06df1ef6706b1ccd2d98797e98eac0b7770a40bd972a066"), looks := true }, kinds := [], alts := [], laidByText := true, laidKinds := [.data, .handle, .sentinel, .sentinel, .sentinel, .sentinel, .sentinel, .sentinel, .sentinel, .sentinel, .pinned], laidTests := true, laidLooks := .later }
def SamplePastCardSaid : Prop := Claim7.holds Tryd.pinned (.plain (OpenSpec.ofChange samplePastSpec)) samplePastCard

/-- THE TIED CARD OF 'demonlaw4.SampleEnds'. -/
def sampleEndsCard : Claim7 := { stood := { row := sampleEndsRow, standIns := [], harness := (true, "c7586f8410671e36b06df1ef6706b1ccd2d98797e98eac0b7770a40bd972a066"), looks := true }, kinds := [], alts := [], laidByText := true, laidKinds := [.data, .handle, .sentinel, .sentinel, .sentinel, .sentinel, .sentinel, .sentinel, .sentinel, .sentinel, .pinned], laidTests := true, laidLooks := .later }
def SampleEndsCardSaid : Prop := Claim7.holds Tryd.pinned (.plain (OpenSpec.ofChange sampleEndsSpec)) sampleEndsCard

/-- THE SECOND FORM's CARD OF 'demonlaw4.SampleStays'. -/
def sampleStaysUptoCard : Claim7 := { stood := { row := sampleStaysUptoRow, standIns := [], harness := (true, "c7586f8410671e36b06df1ef6706b1ccd2d98797e98eac0b7770a40bd972a066"), looks := true }, kinds := [], alts := [], laidByText := true, laidKinds := [.data, .sentinel, .sentinel, .sentinel, .sentinel, .sentinel, .pinned], laidTests := true, laidLooks := .later }
def SampleStaysUptoCardSaid : Prop := Claim7.holds Tryd.pinned (.plain (OpenSpec.upto sampleStaysSpec)) sampleStaysUptoCard

/-- THE SECOND FORM's CARD OF 'demonlaw4.SampleDraw'. -/
def sampleDrawUptoCard : Claim7 := { stood := { row := sampleDrawUptoRow, standIns := [], harness := (true, "c7586f8410671e36b06df1ef6706b1ccd2d98797e98eac0b7770a40bd972a066"), looks := true }, kinds := [], alts := [], laidByText := true, laidKinds := [.data, .handle, .sentinel, .sentinel, .sentinel, .sentinel, .sentinel, .sentinel, .sentinel, .sentinel, .pinned], laidTests := true, laidLooks := .later }
def SampleDrawUptoCardSaid : Prop := Claim7.holds Tryd.pinned (.plain (OpenSpec.upto sampleDrawSpec)) sampleDrawUptoCard

/-- THE SECOND FORM's CARD OF 'demonlaw4.SampleFair'. -/
def sampleFairUptoCard : Claim7 := { stood := { row := sampleFairUptoRow, standIns := [], harness := (true, "c7586f8410671e36b06df1ef6706b1ccd2d98797e98eac0b7770a40bd972a066"), looks := true }, kinds := [], alts := [], laidByText := true, laidKinds := [.data, .handle, .sentinel, .sentinel, .sentinel, .sentinel, .sentinel, .sentinel, .sentinel, .sentinel, .pinned], laidTests := true, laidLooks := .later }
def SampleFairUptoCardSaid : Prop := Claim7.holds Tryd.pinned (.plain (OpenSpec.upto sampleFairSpec)) sampleFairUptoCard

/-- THE SECOND FORM's CARD OF 'demonlaw4.SampleValid'. -/
def sampleValidUptoCard : Claim7 := { stood := { row := sampleValidUptoRow, standIns := [], harness := (true, "c7586f8410671e36b06df1ef6706b1ccd2d98797e98eac0b7770a40bd972a066"), looks := true }, kinds := [], alts := [], laidByText := true, laidKinds := [.data, .handle, .sentinel, .sentinel, .sentinel, .sentinel, .sentinel, .sentinel, .sentinel, .sentinel, .pinned], laidTests := true, laidLooks := .later }
def SampleValidUptoCardSaid : Prop := Claim7.holds Tryd.pinned (.plain (OpenSpec.upto sampleValidSpec)) sampleValidUptoCard

/-- THE SECOND FORM's CARD OF 'demonlaw4.SamplePast'. -/
def samplePastUptoCard : Claim7 := { stood := { row := samplePastUptoRow, standIns := [], harness := (true, "c7586f8410671e36b06df1ef6706b1ccd2d98797e98eac0b7770a40bd972a066"), looks := true }, kinds := [], alts := [], laidByText := true, laidKinds := [.data, .handle, .sentinel, .sentinel, .sentinel, .sentinel, .sentinel, .sentinel, .sentinel, .sentinel, .pinned], laidTests := true, laidLooks := .later }
def SamplePastUptoCardSaid : Prop := Claim7.holds Tryd.pinned (.plain (OpenSpec.upto samplePastSpec)) samplePastUptoCard

/-- THE SECOND FORM's CARD OF 'demonlaw4.SampleEnds'. -/
def sampleEndsUptoCard : Claim7 := { stood := { row := sampleEndsUptoRow, standIns := [], harness := (true, "c7586f8410671e36b06df1ef6706b1ccd2d98797e98eac0b7770a40bd972a066"), looks := true }, kinds := [], alts := [], laidByText := true, laidKinds := [.data, .handle, .sentinel, .sentinel, .sentinel, .sentinel, .sentinel, .sentinel, .sentinel, .sentinel, .pinned], laidTests := true, laidLooks := .later }
def SampleEndsUptoCardSaid : Prop := Claim7.holds Tryd.pinned (.plain (OpenSpec.upto sampleEndsSpec)) sampleEndsUptoCard
end Rows
end Go.Proofs.YtioekjkfhbopkaaDoor
