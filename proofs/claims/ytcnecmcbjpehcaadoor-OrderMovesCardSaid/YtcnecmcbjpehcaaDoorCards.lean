/-
  DERIVED. GIVEN WITH THE SEED: THE CARDS: each row of YtcnecmcbjpehcaaDoorRows.lean that lists a variable, with what it lists TIED to the program's text (the seventh form; the later family's looks); each row that meets fmt, with fmt's text TOLD by the authors' own Lean function (tested against real Go, not proved from fmt's source: count such statements apart). THE CARD IS WHAT COUNTS. Prove the row's statement (the work); the ties are given (YtcnecmcbjpehcaaDoorTie.lean); close each card by the builder's one call (the guide's Derived/Test/ToyasCard.lean, 'card_holds'). Laid BY PROGRAM, IN A SANDBOX (cutbox-door.mjs). By AI agents, Wed Nov 11 2026. No macro, syntax, notation, axiom, sorry.
-/
import Derived.Test.YtcnecmcbjpehcaaDoorRows
import GoSem.ClaimSeven
namespace Go.Proofs.YtcnecmcbjpehcaaDoor
namespace Rows

/-- THE TIED CARD OF 'demonlaw4.OrderBirkhoff'. -/
def orderBirkhoffCard : Claim7 := { stood := { row := orderBirkhoffRow, standIns := [], harness := (true, "ca552aea2e8c7bd9c07f6efbe9595823a0711a9b29aa7960f9ce624d7d4ac83b"), looks := true }, kinds := [], alts := [], laidByText := true, laidKinds := [.sentinel, .sentinel], laidTests := true, laidLooks := .later }
def OrderBirkhoffCardSaid : Prop := Claim7.holds Tryd.pinned (.plain (OpenSpec.ofChange orderBirkhoffSpec)) orderBirkhoffCard

/-- THE TIED CARD OF 'demonlaw4.OrderAbove'. -/
def orderAboveCard : Claim7 := { stood := { row := orderAboveRow, standIns := [], harness := (true, "ca552aea2e8c7bd9c07f6efbe9595823a0711a9b29aa7960f9ce624d7d4ac83b"), looks := true }, kinds := [], alts := [], laidByText := true, laidKinds := [.handle, .sentinel, .sentinel, .sentinel, .sentinel, .sentinel, .sentinel, .sentinel, .sentinel], laidTests := true, laidLooks := .later }
def OrderAboveCardSaid : Prop := Claim7.holds Tryd.pinned (.plain (OpenSpec.ofChange orderAboveSpec)) orderAboveCard

/-- THE TIED CARD OF 'demonlaw4.OrderApply'. -/
def orderApplyCard : Claim7 := { stood := { row := orderApplyRow, standIns := [], harness := (true, "ca552aea2e8c7bd9c07f6efbe9595823a0711a9b29aa7960f9ce624d7d4ac83b"), looks := true }, kinds := [], alts := [], laidByText := true, laidKinds := [.handle, .sentinel, .sentinel, .sentinel, .sentinel, .sentinel, .sentinel, .sentinel, .sentinel], laidTests := true, laidLooks := .later }
def OrderApplyCardSaid : Prop := Claim7.holds Tryd.pinned (.plain (OpenSpec.ofChange orderApplySpec)) orderApplyCard

/-- THE TIED CARD OF 'demonlaw4.OrderSpread'. -/
def orderSpreadCard : Claim7 := { stood := { row := orderSpreadRow, standIns := [], harness := (true, "ca552aea2e8c7bd9c07f6efbe9595823a0711a9b29aa7960f9ce624d7d4ac83b"), looks := true }, kinds := [], alts := [], laidByText := true, laidKinds := [.handle, .sentinel, .sentinel, .sentinel, .sentinel, .sentinel, .sentinel, .sentinel, .sentinel], laidTests := true, laidLooks := .later }
def OrderSpreadCardSaid : Prop := Claim7.holds Tryd.pinned (.plain (OpenSpec.ofChange orderSpreadSpec)) orderSpreadCard

/-- THE TIED CARD OF 'demonlaw4.OrderParts'. -/
def orderPartsCard : Claim7 := { stood := { row := orderPartsRow, standIns := [], harness := (true, "ca552aea2e8c7bd9c07f6efbe9595823a0711a9b29aa7960f9ce624d7d4ac83b"), looks := true }, kinds := [], alts := [], laidByText := true, laidKinds := [.handle, .sentinel, .sentinel, .sentinel, .sentinel, .sentinel, .sentinel, .sentinel, .sentinel], laidTests := true, laidLooks := .later }
def OrderPartsCardSaid : Prop := Claim7.holds Tryd.pinned (.plain (OpenSpec.ofChange orderPartsSpec)) orderPartsCard

/-- THE TIED CARD OF 'demonlaw4.OrderMoves'. -/
def orderMovesCard : Claim7 := { stood := { row := orderMovesRow, standIns := [], harness := (true, "ca552aea2e8c7bd9c07f6efbe9595823a0711a9b29aa7960f9ce624d7d4ac83b"), looks := true }, kinds := [], alts := [], laidByText := true, laidKinds := [.handle, .sentinel, .sentinel, .sentinel, .sentinel, .sentinel, .sentinel, .sentinel, .sentinel], laidTests := true, laidLooks := .later }
def OrderMovesCardSaid : Prop := Claim7.holds Tryd.pinned (.plain (OpenSpec.ofChange orderMovesSpec)) orderMovesCard

/-- THE TIED CARD OF 'demonlaw4.OrderHull'. -/
def orderHullCard : Claim7 := { stood := { row := orderHullRow, standIns := [], harness := (true, "ca552aea2e8c7bd9c07f6efbe9595823a0711a9b29aa7960f9ce624d7d4ac83b"), looks := true }, kinds := [], alts := [], laidByText := true, laidKinds := [.handle, .sentinel, .sentinel, .sentinel, .sentinel, .sentinel, .sentinel, .sentinel, .sentinel], laidTests := true, laidLooks := .later }
def OrderHullCardSaid : Prop := Claim7.holds Tryd.pinned (.plain (OpenSpec.ofChange orderHullSpec)) orderHullCard

/-- THE SECOND FORM's CARD OF 'demonlaw4.OrderBirkhoff'. -/
def orderBirkhoffUptoCard : Claim7 := { stood := { row := orderBirkhoffUptoRow, standIns := [], harness := (true, "ca552aea2e8c7bd9c07f6efbe9595823a0711a9b29aa7960f9ce624d7d4ac83b"), looks := true }, kinds := [], alts := [], laidByText := true, laidKinds := [.sentinel, .sentinel], laidTests := true, laidLooks := .later }
def OrderBirkhoffUptoCardSaid : Prop := Claim7.holds Tryd.pinned (.plain (OpenSpec.upto orderBirkhoffSpec)) orderBirkhoffUptoCard

/-- THE SECOND FORM's CARD OF 'demonlaw4.OrderAbove'. -/
def orderAboveUptoCard : Claim7 := { stood := { row := orderAboveUptoRow, standIns := [], harness := (true, "ca552aea2e8c7bd9c07f6efbe9595823a0711a9b29aa7960f9ce624d7d4ac83b"), looks := true }, kinds := [], alts := [], laidByText := true, laidKinds := [.handle, .sentinel, .sentinel, .sentinel, .sentinel, .sentinel, .sentinel, .sentinel, .sentinel], laidTests := true, laidLooks := .later }
def OrderAboveUptoCardSaid : Prop := Claim7.holds Tryd.pinned (.plain (OpenSpec.upto orderAboveSpec)) orderAboveUptoCard

/-- THE SECOND FORM's CARD OF 'demonlaw4.OrderApply'. -/
def orderApplyUptoCard : Claim7 := { stood := { row := orderApplyUptoRow, standIns := [], harness := (true, "ca552aea2e8c7bd9c07f6efbe9595823a0711a9b29aa7960f9ce624d7d4ac83b"), looks := true }, kinds := [], alts := [], laidByText := true, laidKinds := [.handle, .sentinel, .sentinel, .sentinel, .sentinel, .sentinel, .sentinel, .sentinel, .sentinel], laidTests := true, laidLooks := .later }
def OrderApplyUptoCardSaid : Prop := Claim7.holds Tryd.pinned (.plain (OpenSpec.upto orderApplySpec)) orderApplyUptoCard

/-- THE SECOND FORM's CARD OF 'demonlaw4.OrderSpread'. -/
def orderSpreadUptoCard : Claim7 := { stood := { row := orderSpreadUptoRow, standIns := [], harness := (true, "ca552aea2e8c7bd9c07f6efbe9595823a0711a9b29aa7960f9ce624d7d4ac83b"), looks := true }, kinds := [], alts := [], laidByText := true, laidKinds := [.handle, .sentinel, .sentinel, .sentinel, .sentinel, .sentinel, .sentinel, .sentinel, .sentinel], laidTests := true, laidLooks := .later }
def OrderSpreadUptoCardSaid : Prop := Claim7.holds Tryd.pinned (.plain (OpenSpec.upto orderSpreadSpec)) orderSpreadUptoCard

/-- THE SECOND FORM's CARD OF 'demonlaw4.OrderParts'. -/
def orderPartsUptoCard : Claim7 := { stood := { row := orderPartsUptoRow, standIns := [], harness := (true, "ca552aea2e8c7bd9c07f6efbe9595823a0711a9b29aa7960f9ce624d7d4ac83b"), looks := true }, kinds := [], alts := [], laidByText := true, laidKinds := [.handle, .sentinel, .sentinel, .sentinel, .sentinel, .sentinel, .sentinel, .sentinel, .sentinel], laidTests := true, laidLooks := .later }
def OrderPartsUptoCardSaid : Prop := Claim7.holds Tryd.pinned (.plain (OpenSpec.upto orderPartsSpec)) orderPartsUptoCard

/-- THE SECOND FORM's CARD OF 'demonlaw4.OrderMoves'. -/
def orderMovesUptoCard : Claim7 := { stood := { row := orderMovesUptoRow, standIns := [], harness := (true, "ca552aea2e8c7bd9c07f6efbe9595823a0711a9b29aa7960f9ce624d7d4ac83b"), looks := true }, kinds := [], alts := [], laidByText := true, laidKinds := [.handle, .sentinel, .sentinel, .sentinel, .sentinel, .sentinel, .sentinel, .sentinel, .sentinel], laidTests := true, laidLooks := .later }
def OrderMovesUptoCardSaid : Prop := Claim7.holds Tryd.pinned (.plain (OpenSpec.upto orderMovesSpec)) orderMovesUptoCard

/-- THE SECOND FORM's CARD OF 'demonlaw4.OrderHull'. -/
def orderHullUptoCard : Claim7 := { stood := { row := orderHullUptoRow, standIns := [], harness := (true, "ca552aea2e8c7bd9c07f6efbe9595823a0711a9b29aa7960f9ce624d7d4ac83b"), looks := true }, kinds := [], alts := [], laidByText := true, laidKinds := [.handle, .sentinel, .sentinel, .sentinel, .sentinel, .sentinel, .sentinel, .sentinel, .sentinel], laidTests := true, laidLooks := .later }
def OrderHullUptoCardSaid : Prop := Claim7.holds Tryd.pinned (.plain (OpenSpec.upto orderHullSpec)) orderHullUptoCard
end Rows
end Go.Proofs.YtcnecmcbjpehcaaDoor
