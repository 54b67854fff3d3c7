/-
  DERIVED. GIVEN WITH THE SEED: THE CARDS: each row of YtenbdejhakdihaaDoorRows.lean that lists a variable, with what it lists TIED to the program's text (the seventh form; the later family's looks); each row that meets fmt, with fmt's text TOLD by the authors' own Lean function (tested against real Go, not proved from fmt's source: count such statements apart). THE CARD IS WHAT COUNTS. Prove the row's statement (the work); the ties are given (YtenbdejhakdihaaDoorTie.lean); close each card by the builder's one call (the guide's Derived/Test/ToyasCard.lean, 'card_holds'). Laid BY PROGRAM, IN A SANDBOX (cutbox-door.mjs). By AI agents, Wed Nov 11 2026. No macro, syntax, notation, axiom, sorry.
-/
import Derived.Test.YtenbdejhakdihaaDoorRows
import GoSem.ClaimSeven
namespace Go.Proofs.YtenbdejhakdihaaDoor
namespace Rows

/-- THE TIED CARD OF 'rotalaw01.SumParts'. -/
def sumPartsCard : Claim7 := { stood := { row := sumPartsRow, standIns := [], harness := (true, "841f3af35ccf2af1f2c7b4057dee4518a81097dee67fab0f98db8cc612a31af1"), looks := false }, kinds := [], alts := [], laidByText := true, laidKinds := [.data], laidTests := true, laidLooks := .later }
def SumPartsCardSaid : Prop := Claim7.holds Tryd.pinned (.plain (OpenSpec.ofChange sumPartsSpec)) sumPartsCard

/-- THE TIED CARD OF 'rotalaw01.SumLinear'. -/
def sumLinearCard : Claim7 := { stood := { row := sumLinearRow, standIns := [], harness := (true, "841f3af35ccf2af1f2c7b4057dee4518a81097dee67fab0f98db8cc612a31af1"), looks := false }, kinds := [], alts := [], laidByText := true, laidKinds := [.data], laidTests := true, laidLooks := .later }
def SumLinearCardSaid : Prop := Claim7.holds Tryd.pinned (.plain (OpenSpec.ofChange sumLinearSpec)) sumLinearCard

/-- THE TIED CARD OF 'rotalaw01.SumBursts'. -/
def sumBurstsCard : Claim7 := { stood := { row := sumBurstsRow, standIns := [], harness := (true, "841f3af35ccf2af1f2c7b4057dee4518a81097dee67fab0f98db8cc612a31af1"), looks := false }, kinds := [], alts := [], laidByText := true, laidKinds := [.data], laidTests := true, laidLooks := .later }
def SumBurstsCardSaid : Prop := Claim7.holds Tryd.pinned (.plain (OpenSpec.ofChange sumBurstsSpec)) sumBurstsCard

/-- THE TIED CARD OF 'rotalaw01.SumSealed'. -/
def sumSealedCard : Claim7 := { stood := { row := sumSealedRow, standIns := [], harness := (true, "841f3af35ccf2af1f2c7b4057dee4518a81097dee67fab0f98db8cc612a31af1"), looks := false }, kinds := [], alts := [], laidByText := true, laidKinds := [.data], laidTests := true, laidLooks := .later }
def SumSealedCardSaid : Prop := Claim7.holds Tryd.pinned (.plain (OpenSpec.ofChange sumSealedSpec)) sumSealedCard

/-- THE TIED CARD OF 'rotalaw01.SumTells'. -/
def sumTellsCard : Claim7 := { stood := { row := sumTellsRow, standIns := [], harness := (true, "841f3af35ccf2af1f2c7b4057dee4518a81097dee67fab0f98db8cc612a31af1"), looks := false }, kinds := [], alts := [], laidByText := true, laidKinds := [.data], laidTests := true, laidLooks := .later }
def SumTellsCardSaid : Prop := Claim7.holds Tryd.pinned (.plain (OpenSpec.ofChange sumTellsSpec)) sumTellsCard

/-- THE TIED CARD OF 'rotalaw01.SumTable'. -/
def sumTableCard : Claim7 := { stood := { row := sumTableRow, standIns := [], harness := (true, "841f3af35ccf2af1f2c7b4057dee4518a81097dee67fab0f98db8cc612a31af1"), looks := false }, kinds := [], alts := [], laidByText := true, laidKinds := [.data], laidTests := true, laidLooks := .later }
def SumTableCardSaid : Prop := Claim7.holds Tryd.pinned (.plain (OpenSpec.ofChange sumTableSpec)) sumTableCard

/-- THE TIED CARD OF 'rotalaw01.SumMeters'. -/
def sumMetersCard : Claim7 := { stood := { row := sumMetersRow, standIns := [], harness := (true, "841f3af35ccf2af1f2c7b4057dee4518a81097dee67fab0f98db8cc612a31af1"), looks := false }, kinds := [], alts := [], laidByText := true, laidKinds := [.data], laidTests := true, laidLooks := .later }
def SumMetersCardSaid : Prop := Claim7.holds Tryd.pinned (.plain (OpenSpec.ofChange sumMetersSpec)) sumMetersCard

/-- THE TIED CARD OF 'rotalaw01.SumNames'. -/
def sumNamesCard : Claim7 := { stood := { row := sumNamesRow, standIns := [], harness := (true, "841f3af35ccf2af1f2c7b4057dee4518a81097dee67fab0f98db8cc612a31af1"), looks := false }, kinds := [], alts := [], laidByText := true, laidKinds := [.data], laidTests := true, laidLooks := .later }
def SumNamesCardSaid : Prop := Claim7.holds Tryd.pinned (.plain (OpenSpec.ofChange sumNamesSpec)) sumNamesCard

/-- THE SECOND FORM's CARD OF 'rotalaw01.SumParts'. -/
def sumPartsUptoCard : Claim7 := { stood := { row := sumPartsUptoRow, standIns := [], harness := (true, "841f3af35ccf2af1f2c7b4057dee4518a81097dee67fab0f98db8cc612a31af1"), looks := false }, kinds := [], alts := [], laidByText := true, laidKinds := [.data], laidTests := true, laidLooks := .later }
def SumPartsUptoCardSaid : Prop := Claim7.holds Tryd.pinned (.plain (OpenSpec.upto sumPartsSpec)) sumPartsUptoCard

/-- THE SECOND FORM's CARD OF 'rotalaw01.SumLinear'. -/
def sumLinearUptoCard : Claim7 := { stood := { row := sumLinearUptoRow, standIns := [], harness := (true, "841f3af35ccf2af1f2c7b4057dee4518a81097dee67fab0f98db8cc612a31af1"), looks := false }, kinds := [], alts := [], laidByText := true, laidKinds := [.data], laidTests := true, laidLooks := .later }
def SumLinearUptoCardSaid : Prop := Claim7.holds Tryd.pinned (.plain (OpenSpec.upto sumLinearSpec)) sumLinearUptoCard

/-- THE SECOND FORM's CARD OF 'rotalaw01.SumBursts'. -/
def sumBurstsUptoCard : Claim7 := { stood := { row := sumBurstsUptoRow, standIns := [], harness := (true, "841f3af35ccf2af1f2c7b4057dee4518a81097dee67fab0f98db8cc612a31af1"), looks := false }, kinds := [], alts := [], laidByText := true, laidKinds := [.data], laidTests := true, laidLooks := .later }
def SumBurstsUptoCardSaid : Prop := Claim7.holds Tryd.pinned (.plain (OpenSpec.upto sumBurstsSpec)) sumBurstsUptoCard

/-- THE SECOND FORM's CARD OF 'rotalaw01.SumSealed'. -/
def sumSealedUptoCard : Claim7 := { stood := { row := sumSealedUptoRow, standIns := [], harness := (true, "841f3af35ccf2af1f2c7b4057dee4518a81097dee67fab0f98db8cc612a31af1"), looks := false }, kinds := [], alts := [], laidByText := true, laidKinds := [.data], laidTests := true, laidLooks := .later }
def SumSealedUptoCardSaid : Prop := Claim7.holds Tryd.pinned (.plain (OpenSpec.upto sumSealedSpec)) sumSealedUptoCard

/-- THE SECOND FORM's CARD OF 'rotalaw01.SumTells'. -/
def sumTellsUptoCard : Claim7 := { stood := { row := sumTellsUptoRow, standIns := [], harness := (true, "841f3af35ccf2af1f2c7b4057dee4518a81097dee67fab0f98db8cc612a31af1"), looks := false }, kinds := [], alts := [], laidByText := true, laidKinds := [.data], laidTests := true, laidLooks := .later }
def SumTellsUptoCardSaid : Prop := Claim7.holds Tryd.pinned (.plain (OpenSpec.upto sumTellsSpec)) sumTellsUptoCard

/-- THE SECOND FORM's CARD OF 'rotalaw01.SumTable'. -/
def sumTableUptoCard : Claim7 := { stood := { row := sumTableUptoRow, standIns := [], harness := (true, "841f3af35ccf2af1f2c7b4057dee4518a81097dee67fab0f98db8cc612a31af1"), looks := false }, kinds := [], alts := [], laidByText := true, laidKinds := [.data], laidTests := true, laidLooks := .later }
def SumTableUptoCardSaid : Prop := Claim7.holds Tryd.pinned (.plain (OpenSpec.upto sumTableSpec)) sumTableUptoCard

/-- THE SECOND FORM's CARD OF 'rotalaw01.SumMeters'. -/
def sumMetersUptoCard : Claim7 := { stood := { row := sumMetersUptoRow, standIns := [], harness := (true, "841f3af35ccf2af1f2c7b4057dee4518a81097dee67fab0f98db8cc612a31af1"), looks := false }, kinds := [], alts := [], laidByText := true, laidKinds := [.data], laidTests := true, laidLooks := .later }
def SumMetersUptoCardSaid : Prop := Claim7.holds Tryd.pinned (.plain (OpenSpec.upto sumMetersSpec)) sumMetersUptoCard

/-- THE SECOND FORM's CARD OF 'rotalaw01.SumNames'. -/
def sumNamesUptoCard : Claim7 := { stood := { row := sumNamesUptoRow, standIns := [], harness := (true, "841f3af35ccf2af1f2c7b4057dee4518a81097dee67fab0f98db8cc612a31af1"), looks := false }, kinds := [], alts := [], laidByText := true, laidKinds := [.data], laidTests := true, laidLooks := .later }
def SumNamesUptoCardSaid : Prop := Claim7.holds Tryd.pinned (.plain (OpenSpec.upto sumNamesSpec)) sumNamesUptoCard
end Rows
end Go.Proofs.YtenbdejhakdihaaDoor
