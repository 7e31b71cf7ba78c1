/-
  DERIVED. GIVEN WITH THE SEED: THE CARDS: each row of YtieeefgkdfijdaaDoorRows.lean that lists a variable, with what it lists TIED to the program's text (the seventh form; the later family's looks); each row that meets fmt, with fmt's text TOLD by the authors' own Lean function (tested against real Go, not proved from fmt's source: count such statements apart). THE CARD IS WHAT COUNTS. Prove the row's statement (the work); the ties are given (YtieeefgkdfijdaaDoorTie.lean); close each card by the builder's one call (the guide's Derived/Test/ToyasCard.lean, 'card_holds'). Laid BY PROGRAM, IN A SANDBOX (cutbox-door.mjs). By AI agents, Wed Nov 11 2026. No macro, syntax, notation, axiom, sorry.
-/
import Derived.Test.YtieeefgkdfijdaaDoorRows
import GoSem.ClaimSeven
namespace Go.Proofs.YtieeefgkdfijdaaDoor
namespace Rows

/-- THE TIED CARD OF 'demonlaw3.ZeroShannon'. -/
def zeroShannonCard : Claim7 := { stood := { row := zeroShannonRow, standIns := [], harness := (true, "6144efb5fc35fcd8ab184eb7ab6e5debba100467014a1e4a5e3894ce925cd0f1"), looks := true }, kinds := [], alts := [], laidByText := true, laidKinds := [.sentinel, .sentinel], laidTests := true, laidLooks := .later }
def ZeroShannonCardSaid : Prop := Claim7.holds Tryd.pinned (.plain (OpenSpec.ofChange zeroShannonSpec)) zeroShannonCard

/-- THE TIED CARD OF 'demonlaw3.SecretPerfect'. -/
def secretPerfectCard : Claim7 := { stood := { row := secretPerfectRow, standIns := [], harness := (true, "6144efb5fc35fcd8ab184eb7ab6e5debba100467014a1e4a5e3894ce925cd0f1"), looks := true }, kinds := [], alts := [], laidByText := true, laidKinds := [.handle, .sentinel, .sentinel, .sentinel, .sentinel, .sentinel, .sentinel, .sentinel, .sentinel], laidTests := true, laidLooks := .later }
def SecretPerfectCardSaid : Prop := Claim7.holds Tryd.pinned (.plain (OpenSpec.ofChange secretPerfectSpec)) secretPerfectCard

/-- THE TIED CARD OF 'demonlaw3.ZeroAlone'. -/
def zeroAloneCard : Claim7 := { stood := { row := zeroAloneRow, standIns := [], harness := (true, "6144efb5fc35fcd8ab184eb7ab6e5debba100467014a1e4a5e3894ce925cd0f1"), looks := true }, kinds := [], alts := [], laidByText := true, laidKinds := [.handle, .sentinel, .sentinel, .sentinel, .sentinel, .sentinel, .sentinel, .sentinel, .sentinel], laidTests := true, laidLooks := .later }
def ZeroAloneCardSaid : Prop := Claim7.holds Tryd.pinned (.plain (OpenSpec.ofChange zeroAloneSpec)) zeroAloneCard

/-- THE TIED CARD OF 'demonlaw3.SecretTable'. -/
def secretTableCard : Claim7 := { stood := { row := secretTableRow, standIns := [], harness := (true, "6144efb5fc35fcd8ab184eb7ab6e5debba100467014a1e4a5e3894ce925cd0f1"), looks := true }, kinds := [], alts := [], laidByText := true, laidKinds := [.handle, .sentinel, .sentinel, .sentinel, .sentinel, .sentinel, .sentinel, .sentinel, .sentinel], laidTests := true, laidLooks := .later }
def SecretTableCardSaid : Prop := Claim7.holds Tryd.pinned (.plain (OpenSpec.ofChange secretTableSpec)) secretTableCard

/-- THE TIED CARD OF 'demonlaw3.SecretShare'. -/
def secretShareCard : Claim7 := { stood := { row := secretShareRow, standIns := [], harness := (true, "6144efb5fc35fcd8ab184eb7ab6e5debba100467014a1e4a5e3894ce925cd0f1"), looks := true }, kinds := [], alts := [], laidByText := true, laidKinds := [.handle, .sentinel, .sentinel, .sentinel, .sentinel, .sentinel, .sentinel, .sentinel, .sentinel], laidTests := true, laidLooks := .later }
def SecretShareCardSaid : Prop := Claim7.holds Tryd.pinned (.plain (OpenSpec.ofChange secretShareSpec)) secretShareCard

/-- THE TIED CARD OF 'demonlaw3.ZeroStrong'. -/
def zeroStrongCard : Claim7 := { stood := { row := zeroStrongRow, standIns := [], harness := (true, "6144efb5fc35fcd8ab184eb7ab6e5debba100467014a1e4a5e3894ce925cd0f1"), looks := true }, kinds := [], alts := [], laidByText := true, laidKinds := [.handle, .sentinel, .sentinel, .sentinel, .sentinel, .sentinel, .sentinel, .sentinel, .sentinel], laidTests := true, laidLooks := .later }
def ZeroStrongCardSaid : Prop := Claim7.holds Tryd.pinned (.plain (OpenSpec.ofChange zeroStrongSpec)) zeroStrongCard

/-- THE TIED CARD OF 'demonlaw3.ZeroValid'. -/
def zeroValidCard : Claim7 := { stood := { row := zeroValidRow, standIns := [], harness := (true, "6144efb5fc35fcd8ab184eb7ab6e5debba100467014a1e4a5e3894ce925cd0f1"), looks := true }, kinds := [], alts := [], laidByText := true, laidKinds := [.handle, .sentinel, .sentinel, .sentinel, .sentinel, .sentinel, .sentinel, .sentinel, .sentinel], laidTests := true, laidLooks := .later }
def ZeroValidCardSaid : Prop := Claim7.holds Tryd.pinned (.plain (OpenSpec.ofChange zeroValidSpec)) zeroValidCard

/-- THE TIED CARD OF 'demonlaw3.SecretShamir'. -/
def secretShamirCard : Claim7 := { stood := { row := secretShamirRow, standIns := [], harness := (true, "6144efb5fc35fcd8ab184eb7ab6e5debba100467014a1e4a5e3894ce925cd0f1"), looks := true }, kinds := [], alts := [], laidByText := true, laidKinds := [.sentinel, .sentinel, .sentinel], laidTests := true, laidLooks := .later }
def SecretShamirCardSaid : Prop := Claim7.holds Tryd.pinned (.plain (OpenSpec.ofChange secretShamirSpec)) secretShamirCard

/-- THE TIED CARD OF 'demonlaw3.SecretJoin'. -/
def secretJoinCard : Claim7 := { stood := { row := secretJoinRow, standIns := [], harness := (true, "6144efb5fc35fcd8ab184eb7ab6e5debba100467014a1e4a5e3894ce925cd0f1"), looks := true }, kinds := [], alts := [], laidByText := true, laidKinds := [.handle, .sentinel, .sentinel, .sentinel, .sentinel, .sentinel, .sentinel, .sentinel, .sentinel], laidTests := true, laidLooks := .later }
def SecretJoinCardSaid : Prop := Claim7.holds Tryd.pinned (.plain (OpenSpec.ofChange secretJoinSpec)) secretJoinCard

/-- THE SECOND FORM's CARD OF 'demonlaw3.ZeroShannon'. -/
def zeroShannonUptoCard : Claim7 := { stood := { row := zeroShannonUptoRow, standIns := [], harness := (true, "6144efb5fc35fcd8ab184eb7ab6e5debba100467014a1e4a5e3894ce925cd0f1"), looks := true }, kinds := [], alts := [], laidByText := true, laidKinds := [.sentinel, .sentinel], laidTests := true, laidLooks := .later }
def ZeroShannonUptoCardSaid : Prop := Claim7.holds Tryd.pinned (.plain (OpenSpec.upto zeroShannonSpec)) zeroShannonUptoCard

/-- THE SECOND FORM's CARD OF 'demonlaw3.SecretPerfect'. -/
def secretPerfectUptoCard : Claim7 := { stood := { row := secretPerfectUptoRow, standIns := [], harness := (true, "6144efb5fc35fcd8ab184eb7ab6e5debba100467014a1e4a5e3894ce925cd0f1"), looks := true }, kinds := [], alts := [], laidByText := true, laidKinds := [.handle, .sentinel, .sentinel, .sentinel, .sentinel, .sentinel, .sentinel, .sentinel, .sentinel], laidTests := true, laidLooks := .later }
def SecretPerfectUptoCardSaid : Prop := Claim7.holds Tryd.pinned (.plain (OpenSpec.upto secretPerfectSpec)) secretPerfectUptoCard

/-- THE SECOND FORM's CARD OF 'demonlaw3.ZeroAlone'. -/
def zeroAloneUptoCard : Claim7 := { stood := { row := zeroAloneUptoRow, standIns := [], harness := (true, "6144efb5fc35fcd8ab184eb7ab6e5debba100467014a1e4a5e3894ce925cd0f1"), looks := true }, kinds := [], alts := [], laidByText := true, laidKinds := [.handle, .sentinel, .sentinel, .sentinel, .sentinel, .sentinel, .sentinel, .sentinel, .sentinel], laidTests := true, laidLooks := .later }
def ZeroAloneUptoCardSaid : Prop := Claim7.holds Tryd.pinned (.plain (OpenSpec.upto zeroAloneSpec)) zeroAloneUptoCard

/-- THE SECOND FORM's CARD OF 'demonlaw3.SecretTable'. -/
def secretTableUptoCard : Claim7 := { stood := { row := secretTableUptoRow, standIns := [], harness := (true, "6144efb5fc35fcd8ab184eb7ab6e5debba100467014a1e4a5e3894ce925cd0f1"), looks := true }, kinds := [], alts := [], laidByText := true, laidKinds := [.handle, .sentinel, .sentinel, .sentinel, .sentinel, .sentinel, .sentinel, .sentinel, .sentinel], laidTests := true, laidLooks := .later }
def SecretTableUptoCardSaid : Prop := Claim7.holds Tryd.pinned (.plain (OpenSpec.upto secretTableSpec)) secretTableUptoCard

/-- THE SECOND FORM's CARD OF 'demonlaw3.SecretShare'. -/
def secretShareUptoCard : Claim7 := { stood := { row := secretShareUptoRow, standIns := [], harness := (true, "6144efb5fc35fcd8ab184eb7ab6e5debba100467014a1e4a5e3894ce925cd0f1"), looks := true }, kinds := [], alts := [], laidByText := true, laidKinds := [.handle, .sentinel, .sentinel, .sentinel, .sentinel, .sentinel, .sentinel, .sentinel, .sentinel], laidTests := true, laidLooks := .later }
def SecretShareUptoCardSaid : Prop := Claim7.holds Tryd.pinned (.plain (OpenSpec.upto secretShareSpec)) secretShareUptoCard

/-- THE SECOND FORM's CARD OF 'demonlaw3.ZeroStrong'. -/
def zeroStrongUptoCard : Claim7 := { stood := { row := zeroStrongUptoRow, standIns := [], harness := (true, "6144efb5fc35fcd8ab184eb7ab6e5debba100467014a1e4a5e3894ce925cd0f1"), looks := true }, kinds := [], alts := [], laidByText := true, laidKinds := [.handle, .sentinel, .sentinel, .sentinel, .sentinel, .sentinel, .sentinel, .sentinel, .sentinel], laidTests := true, laidLooks := .later }
def ZeroStrongUptoCardSaid : Prop := Claim7.holds Tryd.pinned (.plain (OpenSpec.upto zeroStrongSpec)) zeroStrongUptoCard

/-- THE SECOND FORM's CARD OF 'demonlaw3.ZeroValid'. -/
def zeroValidUptoCard : Claim7 := { stood := { row := zeroValidUptoRow, standIns := [], harness := (true, "6144efb5fc35fcd8ab184eb7ab6e5debba100467014a1e4a5e3894ce925cd0f1"), looks := true }, kinds := [], alts := [], laidByText := true, laidKinds := [.handle, .sentinel, .sentinel, .sentinel, .sentinel, .sentinel, .sentinel, .sentinel, .sentinel], laidTests := true, laidLooks := .later }
def ZeroValidUptoCardSaid : Prop := Claim7.holds Tryd.pinned (.plain (OpenSpec.upto zeroValidSpec)) zeroValidUptoCard

/-- THE SECOND FORM's CARD OF 'demonlaw3.SecretShamir'. -/
def secretShamirUptoCard : Claim7 := { stood := { row := secretShamirUptoRow, standIns := [], harness := (true, "6144efb5fc35fcd8ab184eb7ab6e5debba100467014a1e4a5e3894ce925cd0f1"), looks := true }, kinds := [], alts := [], laidByText := true, laidKinds := [.sentinel, .sentinel, .sentinel], laidTests := true, laidLooks := .later }
def SecretShamirUptoCardSaid : Prop := Claim7.holds Tryd.pinned (.plain (OpenSpec.upto secretShamirSpec)) secretShamirUptoCard

/-- THE SECOND FORM's CARD OF 'demonlaw3.SecretJoin'. -/
def secretJoinUptoCard : Claim7 := { stood := { row := secretJoinUptoRow, standIns := [], harness := (true, "6144efb5fc35fcd8ab184eb7ab6e5debba100467014a1e4a5e3894ce925cd0f1"), looks := true }, kinds := [], alts := [], laidByText := true, laidKinds := [.handle, .sentinel, .sentinel, .sentinel, .sentinel, .sentinel, .sentinel, .sentinel, .sentinel], laidTests := true, laidLooks := .later }
def SecretJoinUptoCardSaid : Prop := Claim7.holds Tryd.pinned (.plain (OpenSpec.upto secretJoinSpec)) secretJoinUptoCard
end Rows
end Go.Proofs.YtieeefgkdfijdaaDoor
