/-
  DERIVED. GIVEN WITH THE SEED: THE CARDS: each row of YtaejaogidkgalaaDoorRows.lean that lists a variable, with what it lists TIED to the program's text (the seventh form; the later family's looks); each row that meets fmt, with fmt's text TOLD by the authors' own Lean function (tested against real Go, not proved from fmt's source: count such statements apart). THE CARD IS WHAT COUNTS. Prove the row's statement (the work); the ties are given (YtaejaogidkgalaaDoorTie.lean); close each card by the builder's one call (the guide's Derived/Test/ToyasCard.lean, 'card_holds'). Laid BY PROGRAM, IN A SANDBOX (cutbox-door.mjs). By AI agents, Wed Nov 11 2026. No macro, syntax, notation, axiom, sorry.
-/
import Derived.Test.YtaejaogidkgalaaDoorRows
import GoSem.ClaimSeven
namespace Go.Proofs.YtaejaogidkgalaaDoor
namespace Rows

/-- THE TIED CARD OF 'bikesharelaw38.InvoiceMakes'. -/
def invoiceMakesCard : Claim7 := { stood := { row := invoiceMakesRow, standIns := [], harness := (true, "854bbbed9deca108953e65a3149bfc98785dbff859f3e3c8c06cbb2fddc4d1f7"), looks := false }, kinds := [], alts := [], laidByText := true, laidKinds := [.data, .data, .data], laidTests := true, laidLooks := .later }
def InvoiceMakesCardSaid : Prop := Claim7.holds Tryd.pinned (.plain (OpenSpec.ofChange invoiceMakesSpec)) invoiceMakesCard

/-- THE TIED CARD OF 'bikesharelaw38.InvoiceChecks'. -/
def invoiceChecksCard : Claim7 := { stood := { row := invoiceChecksRow, standIns := [], harness := (true, "854bbbed9deca108953e65a3149bfc98785dbff859f3e3c8c06cbb2fddc4d1f7"), looks := false }, kinds := [], alts := [], laidByText := true, laidKinds := [.data, .data, .data], laidTests := true, laidLooks := .later }
def InvoiceChecksCardSaid : Prop := Claim7.holds Tryd.pinned (.plain (OpenSpec.ofChange invoiceChecksSpec)) invoiceChecksCard

/-- THE TIED CARD OF 'bikesharelaw38.InvoiceOnce'. -/
def invoiceOnceCard : Claim7 := { stood := { row := invoiceOnceRow, standIns := [], harness := (true, "854bbbed9deca108953e65a3149bfc98785dbff859f3e3c8c06cbb2fddc4d1f7"), looks := false }, kinds := [], alts := [], laidByText := true, laidKinds := [.data, .data, .data], laidTests := true, laidLooks := .later }
def InvoiceOnceCardSaid : Prop := Claim7.holds Tryd.pinned (.plain (OpenSpec.ofChange invoiceOnceSpec)) invoiceOnceCard

/-- THE TIED CARD OF 'bikesharelaw38.InvoiceGood'. -/
def invoiceGoodCard : Claim7 := { stood := { row := invoiceGoodRow, standIns := [], harness := (true, "854bbbed9deca108953e65a3149bfc98785dbff859f3e3c8c06cbb2fddc4d1f7"), looks := false }, kinds := [], alts := [], laidByText := true, laidKinds := [.data, .data, .data], laidTests := true, laidLooks := .later }
def InvoiceGoodCardSaid : Prop := Claim7.holds Tryd.pinned (.plain (OpenSpec.ofChange invoiceGoodSpec)) invoiceGoodCard

/-- THE TIED CARD OF 'bikesharelaw38.InvoiceRiders'. -/
def invoiceRidersCard : Claim7 := { stood := { row := invoiceRidersRow, standIns := [], harness := (true, "854bbbed9deca108953e65a3149bfc98785dbff859f3e3c8c06cbb2fddc4d1f7"), looks := false }, kinds := [], alts := [], laidByText := true, laidKinds := [.data, .data, .data], laidTests := true, laidLooks := .later }
def InvoiceRidersCardSaid : Prop := Claim7.holds Tryd.pinned (.plain (OpenSpec.ofChange invoiceRidersSpec)) invoiceRidersCard

/-- THE TIED CARD OF 'bikesharelaw38.InvoiceNets'. -/
def invoiceNetsCard : Claim7 := { stood := { row := invoiceNetsRow, standIns := [], harness := (true, "854bbbed9deca108953e65a3149bfc98785dbff859f3e3c8c06cbb2fddc4d1f7"), looks := false }, kinds := [], alts := [], laidByText := true, laidKinds := [.data, .data, .data], laidTests := true, laidLooks := .later }
def InvoiceNetsCardSaid : Prop := Claim7.holds Tryd.pinned (.plain (OpenSpec.ofChange invoiceNetsSpec)) invoiceNetsCard

/-- THE SECOND FORM's CARD OF 'bikesharelaw38.InvoiceMakes'. -/
def invoiceMakesUptoCard : Claim7 := { stood := { row := invoiceMakesUptoRow, standIns := [], harness := (true, "854bbbed9deca108953e65a3149bfc98785dbff859f3e3c8c06cbb2fddc4d1f7"), looks := false }, kinds := [], alts := [], laidByText := true, laidKinds := [.data, .data, .data], laidTests := true, laidLooks := .later }
def InvoiceMakesUptoCardSaid : Prop := Claim7.holds Tryd.pinned (.plain (OpenSpec.upto invoiceMakesSpec)) invoiceMakesUptoCard

/-- THE SECOND FORM's CARD OF 'bikesharelaw38.InvoiceChecks'. -/
def invoiceChecksUptoCard : Claim7 := { stood := { row := invoiceChecksUptoRow, standIns := [], harness := (true, "854bbbed9deca108953e65a3149bfc98785dbff859f3e3c8c06cbb2fddc4d1f7"), looks := false }, kinds := [], alts := [], laidByText := true, laidKinds := [.data, .data, .data], laidTests := true, laidLooks := .later }
def InvoiceChecksUptoCardSaid : Prop := Claim7.holds Tryd.pinned (.plain (OpenSpec.upto invoiceChecksSpec)) invoiceChecksUptoCard

/-- THE SECOND FORM's CARD OF 'bikesharelaw38.InvoiceOnce'. -/
def invoiceOnceUptoCard : Claim7 := { stood := { row := invoiceOnceUptoRow, standIns := [], harness := (true, "854bbbed9deca108953e65a3149bfc98785dbff859f3e3c8c06cbb2fddc4d1f7"), looks := false }, kinds := [], alts := [], laidByText := true, laidKinds := [.data, .data, .data], laidTests := true, laidLooks := .later }
def InvoiceOnceUptoCardSaid : Prop := Claim7.holds Tryd.pinned (.plain (OpenSpec.upto invoiceOnceSpec)) invoiceOnceUptoCard

/-- THE SECOND FORM's CARD OF 'bikesharelaw38.InvoiceGood'. -/
def invoiceGoodUptoCard : Claim7 := { stood := { row := invoiceGoodUptoRow, standIns := [], harness := (true, "854bbbed9deca108953e65a3149bfc98785dbff859f3e3c8c06cbb2fddc4d1f7"), looks := false }, kinds := [], alts := [], laidByText := true, laidKinds := [.data, .data, .data], laidTests := true, laidLooks := .later }
def InvoiceGoodUptoCardSaid : Prop := Claim7.holds Tryd.pinned (.plain (OpenSpec.upto invoiceGoodSpec)) invoiceGoodUptoCard

/-- THE SECOND FORM's CARD OF 'bikesharelaw38.InvoiceRiders'. -/
def invoiceRidersUptoCard : Claim7 := { stood := { row := invoiceRidersUptoRow, standIns := [], harness := (true, "854bbbed9deca108953e65a3149bfc98785dbff859f3e3c8c06cbb2fddc4d1f7"), looks := false }, kinds := [], alts := [], laidByText := true, laidKinds := [.data, .data, .data], laidTests := true, laidLooks := .later }
def InvoiceRidersUptoCardSaid : Prop := Claim7.holds Tryd.pinned (.plain (OpenSpec.upto invoiceRidersSpec)) invoiceRidersUptoCard

/-- THE SECOND FORM's CARD OF 'bikesharelaw38.InvoiceNets'. -/
def invoiceNetsUptoCard : Claim7 := { stood := { row := invoiceNetsUptoRow, standIns := [], harness := (true, "854bbbed9deca108953e65a3149bfc98785dbff859f3e3c8c06cbb2fddc4d1f7"), looks := false }, kinds := [], alts := [], laidByText := true, laidKinds := [.data, .data, .data], laidTests := true, laidLooks := .later }
def InvoiceNetsUptoCardSaid : Prop := Claim7.holds Tryd.pinned (.plain (OpenSpec.upto invoiceNetsSpec)) invoiceNetsUptoCard
end Rows
end Go.Proofs.YtaejaogidkgalaaDoor
