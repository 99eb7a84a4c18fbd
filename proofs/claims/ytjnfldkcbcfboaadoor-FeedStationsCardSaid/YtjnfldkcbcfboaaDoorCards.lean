/-
  DERIVED. GIVEN WITH THE SEED: THE CARDS: each row of YtjnfldkcbcfboaaDoorRows.lean that lists a variable, with what it lists TIED to the program's text (the seventh form; the later family's looks); each row that meets fmt, with fmt's text TOLD by the authors' own Lean function (tested against real Go, not proved from fmt's source: count such statements apart). THE CARD IS WHAT COUNTS. Prove the row's statement (the work); the ties are given (YtjnfldkcbcfboaaDoorTie.lean); close each card by the builder's one call (the guide's Derived/Test/ToyasCard.lean, 'card_holds'). Laid BY PROGRAM, IN A SANDBOX (cutbox-door.mjs). By AI agents, Wed Nov 11 2026. No macro, syntax, notation, axiom, sorry.
-/
import Derived.Test.YtjnfldkcbcfboaaDoorRows
import GoSem.ClaimSeven
namespace Go.Proofs.YtjnfldkcbcfboaaDoor
namespace Rows

/-- THE TIED CARD OF 'bikesharelaw55.FeedLines'. -/
def feedLinesCard : Claim7 := { stood := { row := feedLinesRow, standIns := [], harness := (true, "2bc2dd3090244d33c3dee802baf02a9d5150d42a52053837c6b40a34638c1c0d"), looks := true }, kinds := [], alts := [], laidByText := true, laidKinds := [.data, .data, .data, .data, .sentinel, .sentinel, .pinned], laidTests := true, laidLooks := .later }
def FeedLinesCardSaid : Prop := Claim7.holds Tryd.pinned (.plain (OpenSpec.ofChange feedLinesSpec)) feedLinesCard

/-- THE TIED CARD OF 'bikesharelaw55.FeedRoundTrip'. -/
def feedRoundTripCard : Claim7 := { stood := { row := feedRoundTripRow, standIns := [], harness := (true, "2bc2dd3090244d33c3dee802baf02a9d5150d42a52053837c6b40a34638c1c0d"), looks := true }, kinds := [], alts := [], laidByText := true, laidKinds := [.data, .data, .data, .data, .sentinel, .sentinel, .pinned], laidTests := true, laidLooks := .later }
def FeedRoundTripCardSaid : Prop := Claim7.holds Tryd.pinned (.plain (OpenSpec.ofChange feedRoundTripSpec)) feedRoundTripCard

/-- THE TIED CARD OF 'bikesharelaw55.FeedForm'. -/
def feedFormCard : Claim7 := { stood := { row := feedFormRow, standIns := [], harness := (true, "2bc2dd3090244d33c3dee802baf02a9d5150d42a52053837c6b40a34638c1c0d"), looks := true }, kinds := [], alts := [], laidByText := true, laidKinds := [.data, .data, .data, .data, .sentinel, .sentinel, .pinned], laidTests := true, laidLooks := .later }
def FeedFormCardSaid : Prop := Claim7.holds Tryd.pinned (.plain (OpenSpec.ofChange feedFormSpec)) feedFormCard

/-- THE TIED CARD OF 'bikesharelaw55.FeedStatus'. -/
def feedStatusCard : Claim7 := { stood := { row := feedStatusRow, standIns := [], harness := (true, "2bc2dd3090244d33c3dee802baf02a9d5150d42a52053837c6b40a34638c1c0d"), looks := true }, kinds := [], alts := [], laidByText := true, laidKinds := [.data, .data, .data, .data, .sentinel, .sentinel, .pinned], laidTests := true, laidLooks := .later }
def FeedStatusCardSaid : Prop := Claim7.holds Tryd.pinned (.plain (OpenSpec.ofChange feedStatusSpec)) feedStatusCard

/-- THE TIED CARD OF 'bikesharelaw55.FeedStations'. -/
def feedStationsCard : Claim7 := { stood := { row := feedStationsRow, standIns := [], harness := (true, "2bc2dd3090244d33c3dee802baf02a9d5150d42a52053837c6b40a34638c1c0d"), looks := true }, kinds := [], alts := [], laidByText := true, laidKinds := [.data, .data, .data, .data, .sentinel, .sentinel, .pinned], laidTests := true, laidLooks := .later }
def FeedStationsCardSaid : Prop := Claim7.holds Tryd.pinned (.plain (OpenSpec.ofChange feedStationsSpec)) feedStationsCard

/-- THE SECOND FORM's CARD OF 'bikesharelaw55.FeedLines'. -/
def feedLinesUptoCard : Claim7 := { stood := { row := feedLinesUptoRow, standIns := [], harness := (true, "2bc2dd3090244d33c3dee802baf02a9d5150d42a52053837c6b40a34638c1c0d"), looks := true }, kinds := [], alts := [], laidByText := true, laidKinds := [.data, .data, .data, .data, .sentinel, .sentinel, .pinned], laidTests := true, laidLooks := .later }
def FeedLinesUptoCardSaid : Prop := Claim7.holds Tryd.pinned (.plain (OpenSpec.upto feedLinesSpec)) feedLinesUptoCard

/-- THE SECOND FORM's CARD OF 'bikesharelaw55.FeedRoundTrip'. -/
def feedRoundTripUptoCard : Claim7 := { stood := { row := feedRoundTripUptoRow, standIns := [], harness := (true, "2bc2dd3090244d33c3dee802baf02a9d5150d42a52053837c6b40a34638c1c0d"), looks := true }, kinds := [], alts := [], laidByText := true, laidKinds := [.data, .data, .data, .data, .sentinel, .sentinel, .pinned], laidTests := true, laidLooks := .later }
def FeedRoundTripUptoCardSaid : Prop := Claim7.holds Tryd.pinned (.plain (OpenSpec.upto feedRoundTripSpec)) feedRoundTripUptoCard

/-- THE SECOND FORM's CARD OF 'bikesharelaw55.FeedForm'. -/
def feedFormUptoCard : Claim7 := { stood := { row := feedFormUptoRow, standIns := [], harness := (true, "2bc2dd3090244d33c3dee802baf02a9d5150d42a52053837c6b40a34638c1c0d"), looks := true }, kinds := [], alts := [], laidByText := true, laidKinds := [.data, .data, .data, .data, .sentinel, .sentinel, .pinned], laidTests := true, laidLooks := .later }
def FeedFormUptoCardSaid : Prop := Claim7.holds Tryd.pinned (.plain (OpenSpec.upto feedFormSpec)) feedFormUptoCard

/-- THE SECOND FORM's CARD OF 'bikesharelaw55.FeedStatus'. -/
def feedStatusUptoCard : Claim7 := { stood := { row := feedStatusUptoRow, standIns := [], harness := (true, "2bc2dd3090244d33c3dee802baf02a9d5150d42a52053837c6b40a34638c1c0d"), looks := true }, kinds := [], alts := [], laidByText := true, laidKinds := [.data, .data, .data, .data, .sentinel, .sentinel, .pinned], laidTests := true, laidLooks := .later }
def FeedStatusUptoCardSaid : Prop := Claim7.holds Tryd.pinned (.plain (OpenSpec.upto feedStatusSpec)) feedStatusUptoCard

/-- THE SECOND FORM's CARD OF 'bikesharelaw55.FeedStations'. -/
def feedStationsUptoCard : Claim7 := { stood := { row := feedStationsUptoRow, standIns := [], harness := (true, "2bc2dd3090244d33c3dee802baf02a9d5150d42a52053837c6b40a34638c1c0d"), looks := true }, kinds := [], alts := [], laidByText := true, laidKinds := [.data, .data, .data, .data, .sentinel, .sentinel, .pinned], laidTests := true, laidLooks := .later }
def FeedStationsUptoCardSaid : Prop := Claim7.holds Tryd.pinned (.plain (OpenSpec.upto feedStationsSpec)) feedStationsUptoCard
end Rows
end Go.Proofs.YtjnfldkcbcfboaaDoor
