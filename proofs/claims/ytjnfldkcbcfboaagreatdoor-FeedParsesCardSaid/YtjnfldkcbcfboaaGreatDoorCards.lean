/-
  DERIVED. GIVEN WITH THE SEED: THE CARDS: each row of YtjnfldkcbcfboaaGreatDoorRows.lean that lists a variable, with what it lists TIED to the program's text (the seventh form; the later family's looks); each row that meets fmt, with fmt's text TOLD by the authors' own Lean function (tested against real Go, not proved from fmt's source: count such statements apart). THE CARD IS WHAT COUNTS. Prove the row's statement (the work); the ties are given (YtjnfldkcbcfboaaGreatDoorTie.lean); close each card by the builder's one call (the guide's Derived/Test/ToyasCard.lean, 'card_holds'). Laid BY PROGRAM, IN A SANDBOX (cutbox-door.mjs). By AI agents, Wed Nov 11 2026. No macro, syntax, notation, axiom, sorry.
-/
import Derived.Test.YtjnfldkcbcfboaaGreatDoorRows
import GoSem.ClaimSeven
namespace Go.Proofs.YtjnfldkcbcfboaaGreatDoor
namespace Rows

/-- THE TIED CARD OF 'bikesharelaw55.FeedParses'. -/
def feedParsesCard : Claim7 := { stood := { row := feedParsesRow, standIns := [], harness := (true, "cc1a5e26f64a3f0d1e41ec4e2a70d2f2e4cae37ad564ae74fcf471a895eeb4fd"), looks := true }, kinds := [], alts := [], laidByText := true, laidKinds := [.data, .data, .data, .data, .sentinel, .sentinel, .pinned], laidTests := true, laidLooks := .later }
def FeedParsesCardSaid : Prop := Claim7.holds Tryz.pinned (.plain (OpenSpec.ofChange feedParsesSpec)) feedParsesCard

/-- THE SECOND FORM's CARD OF 'bikesharelaw55.FeedParses'. -/
def feedParsesUptoCard : Claim7 := { stood := { row := feedParsesUptoRow, standIns := [], harness := (true, "cc1a5e26f64a3f0d1e41ec4e2a70d2f2e4cae37ad564ae74fcf471a895eeb4fd"), looks := true }, kinds := [], alts := [], laidByText := true, laidKinds := [.data, .data, .data, .data, .sentinel, .sentinel, .pinned], laidTests := true, laidLooks := .later }
def FeedParsesUptoCardSaid : Prop := Claim7.holds Tryz.pinned (.plain (OpenSpec.upto feedParsesSpec)) feedParsesUptoCard
end Rows
end Go.Proofs.YtjnfldkcbcfboaaGreatDoor
