/-
  DERIVED. GIVEN WITH THE SEED: THE CARDS: each row of YtngogonepjicpaaDoorRows.lean that lists a variable, with what it lists TIED to the program's text (the seventh form; the later family's looks); each row that meets fmt, with fmt's text TOLD by the authors' own Lean function (tested against real Go, not proved from fmt's source: count such statements apart). THE CARD IS WHAT COUNTS. Prove the row's statement (the work); the ties are given (YtngogonepjicpaaDoorTie.lean); close each card by the builder's one call (the guide's Derived/Test/ToyasCard.lean, 'card_holds'). Laid BY PROGRAM, IN A SANDBOX (cutbox-door.mjs). By AI agents, Wed Nov 11 2026. No macro, syntax, notation, axiom, sorry.
-/
import Derived.Test.YtngogonepjicpaaDoorRows
import GoSem.ClaimSeven
namespace Go.Proofs.YtngogonepjicpaaDoor
namespace Rows

/-- THE TIED CARD OF 'demonlaw4.IsingExpansion'. -/
def isingExpansionCard : Claim7 := { stood := { row := isingExpansionRow, standIns := [], harness := (true, "01f7fe363168e09023238b3523b06116a8b97a4a28ca6426e9d9c4a6d0b28b85"), looks := true }, kinds := [], alts := [], laidByText := true, laidKinds := [.sentinel, .sentinel], laidTests := true, laidLooks := .later }
def IsingExpansionCardSaid : Prop := Claim7.holds Tryd.pinned (.plain (OpenSpec.ofChange isingExpansionSpec)) isingExpansionCard

/-- THE TIED CARD OF 'demonlaw4.IsingDuality'. -/
def isingDualityCard : Claim7 := { stood := { row := isingDualityRow, standIns := [], harness := (true, "01f7fe363168e09023238b3523b06116a8b97a4a28ca6426e9d9c4a6d0b28b85"), looks := true }, kinds := [], alts := [], laidByText := true, laidKinds := [.sentinel, .sentinel], laidTests := true, laidLooks := .later }
def IsingDualityCardSaid : Prop := Claim7.holds Tryd.pinned (.plain (OpenSpec.ofChange isingDualitySpec)) isingDualityCard

/-- THE TIED CARD OF 'demonlaw4.IsingValid'. -/
def isingValidCard : Claim7 := { stood := { row := isingValidRow, standIns := [], harness := (true, "01f7fe363168e09023238b3523b06116a8b97a4a28ca6426e9d9c4a6d0b28b85"), looks := true }, kinds := [], alts := [], laidByText := true, laidKinds := [.handle, .sentinel, .sentinel, .sentinel, .sentinel, .sentinel, .sentinel, .sentinel, .sentinel], laidTests := true, laidLooks := .later }
def IsingValidCardSaid : Prop := Claim7.holds Tryd.pinned (.plain (OpenSpec.ofChange isingValidSpec)) isingValidCard

/-- THE TIED CARD OF 'demonlaw4.IsingStates'. -/
def isingStatesCard : Claim7 := { stood := { row := isingStatesRow, standIns := [], harness := (true, "01f7fe363168e09023238b3523b06116a8b97a4a28ca6426e9d9c4a6d0b28b85"), looks := true }, kinds := [], alts := [], laidByText := true, laidKinds := [.handle, .sentinel, .sentinel, .sentinel, .sentinel, .sentinel, .sentinel, .sentinel, .sentinel], laidTests := true, laidLooks := .later }
def IsingStatesCardSaid : Prop := Claim7.holds Tryd.pinned (.plain (OpenSpec.ofChange isingStatesSpec)) isingStatesCard

/-- THE TIED CARD OF 'demonlaw4.IsingEven'. -/
def isingEvenCard : Claim7 := { stood := { row := isingEvenRow, standIns := [], harness := (true, "01f7fe363168e09023238b3523b06116a8b97a4a28ca6426e9d9c4a6d0b28b85"), looks := true }, kinds := [], alts := [], laidByText := true, laidKinds := [.handle, .sentinel, .sentinel, .sentinel, .sentinel, .sentinel, .sentinel, .sentinel, .sentinel], laidTests := true, laidLooks := .later }
def IsingEvenCardSaid : Prop := Claim7.holds Tryd.pinned (.plain (OpenSpec.ofChange isingEvenSpec)) isingEvenCard

/-- THE TIED CARD OF 'demonlaw4.IsingGrid'. -/
def isingGridCard : Claim7 := { stood := { row := isingGridRow, standIns := [], harness := (true, "01f7fe363168e09023238b3523b06116a8b97a4a28ca6426e9d9c4a6d0b28b85"), looks := true }, kinds := [], alts := [], laidByText := true, laidKinds := [.handle, .sentinel, .sentinel, .sentinel, .sentinel, .sentinel, .sentinel, .sentinel, .sentinel], laidTests := true, laidLooks := .later }
def IsingGridCardSaid : Prop := Claim7.holds Tryd.pinned (.plain (OpenSpec.ofChange isingGridSpec)) isingGridCard

/-- THE TIED CARD OF 'demonlaw4.IsingFaces'. -/
def isingFacesCard : Claim7 := { stood := { row := isingFacesRow, standIns := [], harness := (true, "01f7fe363168e09023238b3523b06116a8b97a4a28ca6426e9d9c4a6d0b28b85"), looks := true }, kinds := [], alts := [], laidByText := true, laidKinds := [.handle, .sentinel, .sentinel, .sentinel, .sentinel, .sentinel, .sentinel, .sentinel, .sentinel], laidTests := true, laidLooks := .later }
def IsingFacesCardSaid : Prop := Claim7.holds Tryd.pinned (.plain (OpenSpec.ofChange isingFacesSpec)) isingFacesCard

/-- THE TIED CARD OF 'demonlaw4.IsingStrip'. -/
def isingStripCard : Claim7 := { stood := { row := isingStripRow, standIns := [], harness := (true, "01f7fe363168e09023238b3523b06116a8b97a4a28ca6426e9d9c4a6d0b28b85"), looks := true }, kinds := [], alts := [], laidByText := true, laidKinds := [.handle, .sentinel, .sentinel, .sentinel, .sentinel, .sentinel, .sentinel, .sentinel, .sentinel], laidTests := true, laidLooks := .later }
def IsingStripCardSaid : Prop := Claim7.holds Tryd.pinned (.plain (OpenSpec.ofChange isingStripSpec)) isingStripCard

/-- THE SECOND FORM's CARD OF 'demonlaw4.IsingExpansion'. -/
def isingExpansionUptoCard : Claim7 := { stood := { row := isingExpansionUptoRow, standIns := [], harness := (true, "01f7fe363168e09023238b3523b06116a8b97a4a28ca6426e9d9c4a6d0b28b85"), looks := true }, kinds := [], alts := [], laidByText := true, laidKinds := [.sentinel, .sentinel], laidTests := true, laidLooks := .later }
def IsingExpansionUptoCardSaid : Prop := Claim7.holds Tryd.pinned (.plain (OpenSpec.upto isingExpansionSpec)) isingExpansionUptoCard

/-- THE SECOND FORM's CARD OF 'demonlaw4.IsingDuality'. -/
def isingDualityUptoCard : Claim7 := { stood := { row := isingDualityUptoRow, standIns := [], harness := (true, "01f7fe363168e09023238b3523b06116a8b97a4a28ca6426e9d9c4a6d0b28b85"), looks := true }, kinds := [], alts := [], laidByText := true, laidKinds := [.sentinel, .sentinel], laidTests := true, laidLooks := .later }
def IsingDualityUptoCardSaid : Prop := Claim7.holds Tryd.pinned (.plain (OpenSpec.upto isingDualitySpec)) isingDualityUptoCard

/-- THE SECOND FORM's CARD OF 'demonlaw4.IsingValid'. -/
def isingValidUptoCard : Claim7 := { stood := { row := isingValidUptoRow, standIns := [], harness := (true, "01f7fe363168e09023238b3523b06116a8b97a4a28ca6426e9d9c4a6d0b28b85"), looks := true }, kinds := [], alts := [], laidByText := true, laidKinds := [.handle, .sentinel, .sentinel, .sentinel, .sentinel, .sentinel, .sentinel, .sentinel, .sentinel], laidTests := true, laidLooks := .later }
def IsingValidUptoCardSaid : Prop := Claim7.holds Tryd.pinned (.plain (OpenSpec.upto isingValidSpec)) isingValidUptoCard

/-- THE SECOND FORM's CARD OF 'demonlaw4.IsingStates'. -/
def isingStatesUptoCard : Claim7 := { stood := { row := isingStatesUptoRow, standIns := [], harness := (true, "01f7fe363168e09023238b3523b06116a8b97a4a28ca6426e9d9c4a6d0b28b85"), looks := true }, kinds := [], alts := [], laidByText := true, laidKinds := [.handle, .sentinel, .sentinel, .sentinel, .sentinel, .sentinel, .sentinel, .sentinel, .sentinel], laidTests := true, laidLooks := .later }
def IsingStatesUptoCardSaid : Prop := Claim7.holds Tryd.pinned (.plain (OpenSpec.upto isingStatesSpec)) isingStatesUptoCard

/-- THE SECOND FORM's CARD OF 'demonlaw4.IsingEven'. -/
def isingEvenUptoCard : Claim7 := { stood := { row := isingEvenUptoRow, standIns := [], harness := (true, "01f7fe363168e09023238b3523b06116a8b97a4a28ca6426e9d9c4a6d0b28b85"), looks := true }, kinds := [], alts := [], laidByText := true, laidKinds := [.handle, .sentinel, .sentinel, .sentinel, .sentinel, .sentinel, .sentinel, .sentinel, .sentinel], laidTests := true, laidLooks := .later }
def IsingEvenUptoCardSaid : Prop := Claim7.holds Tryd.pinned (.plain (OpenSpec.upto isingEvenSpec)) isingEvenUptoCard

/-- THE SECOND FORM's CARD OF 'demonlaw4.IsingGrid'. -/
def isingGridUptoCard : Claim7 := { stood := { row := isingGridUptoRow, standIns := [], harness := (true, "01f7fe363168e09023238b3523b06116a8b97a4a28ca6426e9d9c4a6d0b28b85"), looks := true }, kinds := [], alts := [], laidByText := true, laidKinds := [.handle, .sentinel, .sentinel, .sentinel, .sentinel, .sentinel, .sentinel, .sentinel, .sentinel], laidTests := true, laidLooks := .later }
def IsingGridUptoCardSaid : Prop := Claim7.holds Tryd.pinned (.plain (OpenSpec.upto isingGridSpec)) isingGridUptoCard

/-- THE SECOND FORM's CARD OF 'demonlaw4.IsingFaces'. -/
def isingFacesUptoCard : Claim7 := { stood := { row := isingFacesUptoRow, standIns := [], harness := (true, "01f7fe363168e09023238b3523b06116a8b97a4a28ca6426e9d9c4a6d0b28b85"), looks := true }, kinds := [], alts := [], laidByText := true, laidKinds := [.handle, .sentinel, .sentinel, .sentinel, .sentinel, .sentinel, .sentinel, .sentinel, .sentinel], laidTests := true, laidLooks := .later }
def IsingFacesUptoCardSaid : Prop := Claim7.holds Tryd.pinned (.plain (OpenSpec.upto isingFacesSpec)) isingFacesUptoCard

/-- THE SECOND FORM's CARD OF 'demonlaw4.IsingStrip'. -/
def isingStripUptoCard : Claim7 := { stood := { row := isingStripUptoRow, standIns := [], harness := (true, "01f7fe363168e09023238b3523b06116a8b97a4a28ca6426e9d9c4a6d0b28b85"), looks := true }, kinds := [], alts := [], laidByText := true, laidKinds := [.handle, .sentinel, .sentinel, .sentinel, .sentinel, .sentinel, .sentinel, .sentinel, .sentinel], laidTests := true, laidLooks := .later }
def IsingStripUptoCardSaid : Prop := Claim7.holds Tryd.pinned (.plain (OpenSpec.upto isingStripSpec)) isingStripUptoCard
end Rows
end Go.Proofs.YtngogonepjicpaaDoor
