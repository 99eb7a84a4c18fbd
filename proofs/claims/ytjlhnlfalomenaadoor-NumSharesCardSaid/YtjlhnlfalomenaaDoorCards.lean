/-
  DERIVED. GIVEN WITH THE SEED: THE CARDS: each row of YtjlhnlfalomenaaDoorRows.lean that lists a variable, with what it lists TIED to the program's text (the seventh form; the later family's looks); each row that meets fmt, with fmt's text TOLD by the authors' own Lean function (tested against real Go, not proved from fmt's source: count such statements apart). THE CARD IS WHAT COUNTS. Prove the row's statement (the work); the ties are given (YtjlhnlfalomenaaDoorTie.lean); close each card by the builder's one call (the guide's Derived/Test/ToyasCard.lean, 'card_holds'). Laid BY PROGRAM, IN A SANDBOX (cutbox-door.mjs). By AI agents, Wed Nov 11 2026. No macro, syntax, notation, axiom, sorry.
-/
import Derived.Test.YtjlhnlfalomenaaDoorRows
import GoSem.ClaimSeven
namespace Go.Proofs.YtjlhnlfalomenaaDoor
namespace Rows

/-- THE TIED CARD OF 'bikesharelaw01.NumSums'. -/
def numSumsCard : Claim7 := { stood := { row := numSumsRow, standIns := [], harness := (true, "ed3ff88e14bb5b593aad70c25e2d8e885ffdc77ae112a0f1365c431fc35e9678"), looks := true }, kinds := [], alts := [], laidByText := true, laidKinds := [.data, .data, .data, .sentinel, .sentinel], laidTests := true, laidLooks := .later }
def NumSumsCardSaid : Prop := Claim7.holds Tryd.pinned (.plain (OpenSpec.ofChange numSumsSpec)) numSumsCard

/-- THE TIED CARD OF 'bikesharelaw01.NumTotals'. -/
def numTotalsCard : Claim7 := { stood := { row := numTotalsRow, standIns := [], harness := (true, "ed3ff88e14bb5b593aad70c25e2d8e885ffdc77ae112a0f1365c431fc35e9678"), looks := true }, kinds := [], alts := [], laidByText := true, laidKinds := [.data, .data, .data, .sentinel, .sentinel], laidTests := true, laidLooks := .later }
def NumTotalsCardSaid : Prop := Claim7.holds Tryd.pinned (.plain (OpenSpec.ofChange numTotalsSpec)) numTotalsCard

/-- THE TIED CARD OF 'bikesharelaw01.NumOrders'. -/
def numOrdersCard : Claim7 := { stood := { row := numOrdersRow, standIns := [], harness := (true, "ed3ff88e14bb5b593aad70c25e2d8e885ffdc77ae112a0f1365c431fc35e9678"), looks := true }, kinds := [], alts := [], laidByText := true, laidKinds := [.data, .data, .data, .sentinel, .sentinel], laidTests := true, laidLooks := .later }
def NumOrdersCardSaid : Prop := Claim7.holds Tryd.pinned (.plain (OpenSpec.ofChange numOrdersSpec)) numOrdersCard

/-- THE TIED CARD OF 'bikesharelaw01.NumDivides'. -/
def numDividesCard : Claim7 := { stood := { row := numDividesRow, standIns := [], harness := (true, "ed3ff88e14bb5b593aad70c25e2d8e885ffdc77ae112a0f1365c431fc35e9678"), looks := true }, kinds := [], alts := [], laidByText := true, laidKinds := [.data, .data, .data, .sentinel, .sentinel], laidTests := true, laidLooks := .later }
def NumDividesCardSaid : Prop := Claim7.holds Tryd.pinned (.plain (OpenSpec.ofChange numDividesSpec)) numDividesCard

/-- THE TIED CARD OF 'bikesharelaw01.NumExact'. -/
def numExactCard : Claim7 := { stood := { row := numExactRow, standIns := [], harness := (true, "ed3ff88e14bb5b593aad70c25e2d8e885ffdc77ae112a0f1365c431fc35e9678"), looks := true }, kinds := [], alts := [], laidByText := true, laidKinds := [.data, .data, .data, .sentinel, .sentinel], laidTests := true, laidLooks := .later }
def NumExactCardSaid : Prop := Claim7.holds Tryd.pinned (.plain (OpenSpec.ofChange numExactSpec)) numExactCard

/-- THE TIED CARD OF 'bikesharelaw01.NumNearest'. -/
def numNearestCard : Claim7 := { stood := { row := numNearestRow, standIns := [], harness := (true, "ed3ff88e14bb5b593aad70c25e2d8e885ffdc77ae112a0f1365c431fc35e9678"), looks := true }, kinds := [], alts := [], laidByText := true, laidKinds := [.data, .data, .data, .sentinel, .sentinel], laidTests := true, laidLooks := .later }
def NumNearestCardSaid : Prop := Claim7.holds Tryd.pinned (.plain (OpenSpec.ofChange numNearestSpec)) numNearestCard

/-- THE TIED CARD OF 'bikesharelaw01.NumParts'. -/
def numPartsCard : Claim7 := { stood := { row := numPartsRow, standIns := [], harness := (true, "ed3ff88e14bb5b593aad70c25e2d8e885ffdc77ae112a0f1365c431fc35e9678"), looks := true }, kinds := [], alts := [], laidByText := true, laidKinds := [.data, .data, .data, .sentinel, .sentinel], laidTests := true, laidLooks := .later }
def NumPartsCardSaid : Prop := Claim7.holds Tryd.pinned (.plain (OpenSpec.ofChange numPartsSpec)) numPartsCard

/-- THE TIED CARD OF 'bikesharelaw01.NumShares'. -/
def numSharesCard : Claim7 := { stood := { row := numSharesRow, standIns := [], harness := (true, "ed3ff88e14bb5b593aad70c25e2d8e885ffdc77ae112a0f1365c431fc35e9678"), looks := true }, kinds := [], alts := [], laidByText := true, laidKinds := [.data, .data, .data, .sentinel, .sentinel], laidTests := true, laidLooks := .later }
def NumSharesCardSaid : Prop := Claim7.holds Tryd.pinned (.plain (OpenSpec.ofChange numSharesSpec)) numSharesCard

/-- THE TIED CARD OF 'bikesharelaw01.NumDecimals'. -/
def numDecimalsCard : Claim7 := { stood := { row := numDecimalsRow, standIns := [], harness := (true, "ed3ff88e14bb5b593aad70c25e2d8e885ffdc77ae112a0f1365c431fc35e9678"), looks := true }, kinds := [], alts := [], laidByText := true, laidKinds := [.data, .data, .data, .sentinel, .sentinel], laidTests := true, laidLooks := .later }
def NumDecimalsCardSaid : Prop := Claim7.holds Tryd.pinned (.plain (OpenSpec.ofChange numDecimalsSpec)) numDecimalsCard

/-- THE TIED CARD OF 'bikesharelaw01.NumTexts'. -/
def numTextsCard : Claim7 := { stood := { row := numTextsRow, standIns := [], harness := (true, "ed3ff88e14bb5b593aad70c25e2d8e885ffdc77ae112a0f1365c431fc35e9678"), looks := true }, kinds := [], alts := [], laidByText := true, laidKinds := [.data, .data, .data, .sentinel, .sentinel], laidTests := true, laidLooks := .later }
def NumTextsCardSaid : Prop := Claim7.holds Tryd.pinned (.plain (OpenSpec.ofChange numTextsSpec)) numTextsCard

/-- THE SECOND FORM's CARD OF 'bikesharelaw01.NumSums'. -/
def numSumsUptoCard : Claim7 := { stood := { row := numSumsUptoRow, standIns := [], harness := (true, "ed3ff88e14bb5b593aad70c25e2d8e885ffdc77ae112a0f1365c431fc35e9678"), looks := true }, kinds := [], alts := [], laidByText := true, laidKinds := [.data, .data, .data, .sentinel, .sentinel], laidTests := true, laidLooks := .later }
def NumSumsUptoCardSaid : Prop := Claim7.holds Tryd.pinned (.plain (OpenSpec.upto numSumsSpec)) numSumsUptoCard

/-- THE SECOND FORM's CARD OF 'bikesharelaw01.NumTotals'. -/
def numTotalsUptoCard : Claim7 := { stood := { row := numTotalsUptoRow, standIns := [], harness := (true, "ed3ff88e14bb5b593aad70c25e2d8e885ffdc77ae112a0f1365c431fc35e9678"), looks := true }, kinds := [], alts := [], laidByText := true, laidKinds := [.data, .data, .data, .sentinel, .sentinel], laidTests := true, laidLooks := .later }
def NumTotalsUptoCardSaid : Prop := Claim7.holds Tryd.pinned (.plain (OpenSpec.upto numTotalsSpec)) numTotalsUptoCard

/-- THE SECOND FORM's CARD OF 'bikesharelaw01.NumOrders'. -/
def numOrdersUptoCard : Claim7 := { stood := { row := numOrdersUptoRow, standIns := [], harness := (true, "ed3ff88e14bb5b593aad70c25e2d8e885ffdc77ae112a0f1365c431fc35e9678"), looks := true }, kinds := [], alts := [], laidByText := true, laidKinds := [.data, .data, .data, .sentinel, .sentinel], laidTests := true, laidLooks := .later }
def NumOrdersUptoCardSaid : Prop := Claim7.holds Tryd.pinned (.plain (OpenSpec.upto numOrdersSpec)) numOrdersUptoCard

/-- THE SECOND FORM's CARD OF 'bikesharelaw01.NumDivides'. -/
def numDividesUptoCard : Claim7 := { stood := { row := numDividesUptoRow, standIns := [], harness := (true, "ed3ff88e14bb5b593aad70c25e2d8e885ffdc77ae112a0f1365c431fc35e9678"), looks := true }, kinds := [], alts := [], laidByText := true, laidKinds := [.data, .data, .data, .sentinel, .sentinel], laidTests := true, laidLooks := .later }
def NumDividesUptoCardSaid : Prop := Claim7.holds Tryd.pinned (.plain (OpenSpec.upto numDividesSpec)) numDividesUptoCard

/-- THE SECOND FORM's CARD OF 'bikesharelaw01.NumExact'. -/
def numExactUptoCard : Claim7 := { stood := { row := numExactUptoRow, standIns := [], harness := (true, "ed3ff88e14bb5b593aad70c25e2d8e885ffdc77ae112a0f1365c431fc35e9678"), looks := true }, kinds := [], alts := [], laidByText := true, laidKinds := [.data, .data, .data, .sentinel, .sentinel], laidTests := true, laidLooks := .later }
def NumExactUptoCardSaid : Prop := Claim7.holds Tryd.pinned (.plain (OpenSpec.upto numExactSpec)) numExactUptoCard

/-- THE SECOND FORM's CARD OF 'bikesharelaw01.NumNearest'. -/
def numNearestUptoCard : Claim7 := { stood := { row := numNearestUptoRow, standIns := [], harness := (true, "ed3ff88e14bb5b593aad70c25e2d8e885ffdc77ae112a0f1365c431fc35e9678"), looks := true }, kinds := [], alts := [], laidByText := true, laidKinds := [.data, .data, .data, .sentinel, .sentinel], laidTests := true, laidLooks := .later }
def NumNearestUptoCardSaid : Prop := Claim7.holds Tryd.pinned (.plain (OpenSpec.upto numNearestSpec)) numNearestUptoCard

/-- THE SECOND FORM's CARD OF 'bikesharelaw01.NumParts'. -/
def numPartsUptoCard : Claim7 := { stood := { row := numPartsUptoRow, standIns := [], harness := (true, "ed3ff88e14bb5b593aad70c25e2d8e885ffdc77ae112a0f1365c431fc35e9678"), looks := true }, kinds := [], alts := [], laidByText := true, laidKinds := [.data, .data, .data, .sentinel, .sentinel], laidTests := true, laidLooks := .later }
def NumPartsUptoCardSaid : Prop := Claim7.holds Tryd.pinned (.plain (OpenSpec.upto numPartsSpec)) numPartsUptoCard

/-- THE SECOND FORM's CARD OF 'bikesharelaw01.NumShares'. -/
def numSharesUptoCard : Claim7 := { stood := { row := numSharesUptoRow, standIns := [], harness := (true, "ed3ff88e14bb5b593aad70c25e2d8e885ffdc77ae112a0f1365c431fc35e9678"), looks := true }, kinds := [], alts := [], laidByText := true, laidKinds := [.data, .data, .data, .sentinel, .sentinel], laidTests := true, laidLooks := .later }
def NumSharesUptoCardSaid : Prop := Claim7.holds Tryd.pinned (.plain (OpenSpec.upto numSharesSpec)) numSharesUptoCard

/-- THE SECOND FORM's CARD OF 'bikesharelaw01.NumDecimals'. -/
def numDecimalsUptoCard : Claim7 := { stood := { row := numDecimalsUptoRow, standIns := [], harness := (true, "ed3ff88e14bb5b593aad70c25e2d8e885ffdc77ae112a0f1365c431fc35e9678"), looks := true }, kinds := [], alts := [], laidByText := true, laidKinds := [.data, .data, .data, .sentinel, .sentinel], laidTests := true, laidLooks := .later }
def NumDecimalsUptoCardSaid : Prop := Claim7.holds Tryd.pinned (.plain (OpenSpec.upto numDecimalsSpec)) numDecimalsUptoCard

/-- THE SECOND FORM's CARD OF 'bikesharelaw01.NumTexts'. -/
def numTextsUptoCard : Claim7 := { stood := { row := numTextsUptoRow, standIns := [], harness := (true, "ed3ff88e14bb5b593aad70c25e2d8e885ffdc77ae112a0f1365c431fc35e9678"), looks := true }, kinds := [], alts := [], laidByText := true, laidKinds := [.data, .data, .data, .sentinel, .sentinel], laidTests := true, laidLooks := .later }
def NumTextsUptoCardSaid : Prop := Claim7.holds Tryd.pinned (.plain (OpenSpec.upto numTextsSpec)) numTextsUptoCard
end Rows
end Go.Proofs.YtjlhnlfalomenaaDoor
