/-
  No cell of these rows narrows 'for every input' (looked for: loops, veiled, ifaces, maps, wideKeys, modest, calm, conditions, laid).
  DERIVED. THE GIVEN ROWS OF THIS SEAT. 7 by the template 'for every input the law returns true; each argument reads behind the call as it read before'; 0 by the template 'total and deterministic' (their statements: YtjobpjhmdbmdgaaTotals.lean).
  GIVEN WITH THE SEED: the statements are not yours to turn. If you find one false, say at which input.
  Laid BY PROGRAM, IN A SANDBOX (cutbox-rows.mjs): the forced cells as the released guide's own fill.sh prints them over the translation 2da84034b02baf1d… (all of the seat's roots in one cut). By AI agents, Wed Nov 11 2026. No macro, syntax, notation, axiom, sorry.
-/
import Derived.Test.YtjobpjhmdbmdgaaChecked
import GoSem.Claim
import GoSem.ClaimJoined
import GoSem.ClaimMapViews
import Derived.JoinedTies
import Derived.KernelRfl
namespace Go.Proofs.Ytjobpjhmdbmdgaa
/- THE CELL 'sum', in the pinned program and in every row, IS THE sha256 OF THE DUMP (.gsa) THAT YtjobpjhmdbmdgaaProg.lean LOADS. Nothing in Lean hashes anything: it is a label: what it is worth is what the hold of that sum in a sandbox is worth. -/
noncomputable def Try.pinned : Pinned := { name := "ytjobpjhmdbmdgaa", sum := "2da84034b02baf1d9518bcb70e0b3a652c6a6983b6d3b42de43f10a52019b4a5", checked := Try.checked }
namespace Rows
def none {H : Type} : Left H := { results := [], args := [] }

/-- 'bikesharelaw39.HistoryChecks': WHATEVER THE INPUT: true; the input reads as it did. -/
def historyChecksSpec : ChangeSpec := { name := "historyChecks", fn := fun _ => fun
  | [d1, d2, d3] => { results := [.lit (.bool true)], args := [d1, d2, d3] }
  | _ => none }
def historyChecksRow : OpenClaim := { program := "ytjobpjhmdbmdgaa", sum := "2da84034b02baf1d9518bcb70e0b3a652c6a6983b6d3b42de43f10a52019b4a5", func := "bikeshare/bikesharelaw39.HistoryChecks", spec := "historyChecks", unfollowed := true, recurses := true, apart := false }
def HistoryChecksSaid : Prop := historyChecksRow.holds Try.pinned (OpenSpec.ofChange historyChecksSpec)

/-- ITS FALSE NEIGHBOUR: 'it returns false'. Refute it at one input. -/
def historyChecksWrong : ChangeSpec := { name := "historyChecks", fn := fun _ => fun
  | [d1, d2, d3] => { results := [.lit (.bool false)], args := [d1, d2, d3] }
  | _ => none }
def HistoryChecksWrongFalsely : Prop := historyChecksRow.holds Try.pinned (OpenSpec.ofChange historyChecksWrong)

/-- 'bikesharelaw39.HistoryCounts': WHATEVER THE INPUT: true; the input reads as it did. -/
def historyCountsSpec : ChangeSpec := { name := "historyCounts", fn := fun _ => fun
  | [d1, d2] => { results := [.lit (.bool true)], args := [d1, d2] }
  | _ => none }
def historyCountsRow : OpenClaim := { program := "ytjobpjhmdbmdgaa", sum := "2da84034b02baf1d9518bcb70e0b3a652c6a6983b6d3b42de43f10a52019b4a5", func := "bikeshare/bikesharelaw39.HistoryCounts", spec := "historyCounts", unfollowed := true, recurses := true, apart := false }
def HistoryCountsSaid : Prop := historyCountsRow.holds Try.pinned (OpenSpec.ofChange historyCountsSpec)

/-- ITS FALSE NEIGHBOUR: 'it returns false'. Refute it at one input. -/
def historyCountsWrong : ChangeSpec := { name := "historyCounts", fn := fun _ => fun
  | [d1, d2] => { results := [.lit (.bool false)], args := [d1, d2] }
  | _ => none }
def HistoryCountsWrongFalsely : Prop := historyCountsRow.holds Try.pinned (OpenSpec.ofChange historyCountsWrong)

/-- 'bikesharelaw39.HistorySums': WHATEVER THE INPUT: true; the input reads as it did. -/
def historySumsSpec : ChangeSpec := { name := "historySums", fn := fun _ => fun
  | [d] => { results := [.lit (.bool true)], args := [d] }
  | _ => none }
def historySumsRow : OpenClaim := { program := "ytjobpjhmdbmdgaa", sum := "2da84034b02baf1d9518bcb70e0b3a652c6a6983b6d3b42de43f10a52019b4a5", func := "bikeshare/bikesharelaw39.HistorySums", spec := "historySums", unfollowed := true, recurses := true, apart := false }
def HistorySumsSaid : Prop := historySumsRow.holds Try.pinned (OpenSpec.ofChange historySumsSpec)

/-- ITS FALSE NEIGHBOUR: 'it returns false'. Refute it at one input. -/
def historySumsWrong : ChangeSpec := { name := "historySums", fn := fun _ => fun
  | [d] => { results := [.lit (.bool false)], args := [d] }
  | _ => none }
def HistorySumsWrongFalsely : Prop := historySumsRow.holds Try.pinned (OpenSpec.ofChange historySumsWrong)

/-- 'bikesharelaw39.HistoryOf': WHATEVER THE INPUT: true; the input reads as it did. -/
def historyOfSpec : ChangeSpec := { name := "historyOf", fn := fun _ => fun
  | [d1, d2, d3] => { results := [.lit (.bool true)], args := [d1, d2, d3] }
  | _ => none }
def historyOfRow : OpenClaim := { program := "ytjobpjhmdbmdgaa", sum := "2da84034b02baf1d9518bcb70e0b3a652c6a6983b6d3b42de43f10a52019b4a5", func := "bikeshare/bikesharelaw39.HistoryOf", spec := "historyOf", unfollowed := true, recurses := true, apart := false }
def HistoryOfSaid : Prop := historyOfRow.holds Try.pinned (OpenSpec.ofChange historyOfSpec)

/-- ITS FALSE NEIGHBOUR: 'it returns false'. Refute it at one input. -/
def historyOfWrong : ChangeSpec := { name := "historyOf", fn := fun _ => fun
  | [d1, d2, d3] => { results := [.lit (.bool false)], args := [d1, d2, d3] }
  | _ => none }
def HistoryOfWrongFalsely : Prop := historyOfRow.holds Try.pinned (OpenSpec.ofChange historyOfWrong)

/-- 'bikesharelaw39.HistoryAdds': WHATEVER THE INPUT: true; the input reads as it did. -/
def historyAddsSpec : ChangeSpec := { name := "historyAdds", fn := fun _ => fun
  | [d1, d2, d3] => { results := [.lit (.bool true)], args := [d1, d2, d3] }
  | _ => none }
def historyAddsRow : OpenClaim := { program := "ytjobpjhmdbmdgaa", sum := "2da84034b02baf1d9518bcb70e0b3a652c6a6983b6d3b42de43f10a52019b4a5", func := "bikeshare/bikesharelaw39.HistoryAdds", spec := "historyAdds", unfollowed := true, recurses := true, apart := false }
def HistoryAddsSaid : Prop := historyAddsRow.holds Try.pinned (OpenSpec.ofChange historyAddsSpec)

/-- ITS FALSE NEIGHBOUR: 'it returns false'. Refute it at one input. -/
def historyAddsWrong : ChangeSpec := { name := "historyAdds", fn := fun _ => fun
  | [d1, d2, d3] => { results := [.lit (.bool false)], args := [d1, d2, d3] }
  | _ => none }
def HistoryAddsWrongFalsely : Prop := historyAddsRow.holds Try.pinned (OpenSpec.ofChange historyAddsWrong)

/-- 'bikesharelaw39.HistoryTotals': WHATEVER THE INPUT: true; the input reads as it did. -/
def historyTotalsSpec : ChangeSpec := { name := "historyTotals", fn := fun _ => fun
  | [d1, d2] => { results := [.lit (.bool true)], args := [d1, d2] }
  | _ => none }
def historyTotalsRow : OpenClaim := { program := "ytjobpjhmdbmdgaa", sum := "2da84034b02baf1d9518bcb70e0b3a652c6a6983b6d3b42de43f10a52019b4a5", func := "bikeshare/bikesharelaw39.HistoryTotals", spec := "historyTotals", unfollowed := true, recurses := true, apart := false }
def HistoryTotalsSaid : Prop := historyTotalsRow.holds Try.pinned (OpenSpec.ofChange historyTotalsSpec)

/-- ITS FALSE NEIGHBOUR: 'it returns false'. Refute it at one input. -/
def historyTotalsWrong : ChangeSpec := { name := "historyTotals", fn := fun _ => fun
  | [d1, d2] => { results := [.lit (.bool false)], args := [d1, d2] }
  | _ => none }
def HistoryTotalsWrongFalsely : Prop := historyTotalsRow.holds Try.pinned (OpenSpec.ofChange historyTotalsWrong)

/-- 'bikesharelaw39.HistoryHours': WHATEVER THE INPUT: true; the input reads as it did. -/
def historyHoursSpec : ChangeSpec := { name := "historyHours", fn := fun _ => fun
  | [d1, d2, d3, d4, d5] => { results := [.lit (.bool true)], args := [d1, d2, d3, d4, d5] }
  | _ => none }
def historyHoursRow : OpenClaim := { program := "ytjobpjhmdbmdgaa", sum := "2da84034b02baf1d9518bcb70e0b3a652c6a6983b6d3b42de43f10a52019b4a5", func := "bikeshare/bikesharelaw39.HistoryHours", spec := "historyHours", unfollowed := true, recurses := true, apart := false }
def HistoryHoursSaid : Prop := historyHoursRow.holds Try.pinned (OpenSpec.ofChange historyHoursSpec)

/-- ITS FALSE NEIGHBOUR: 'it returns false'. Refute it at one input. -/
def historyHoursWrong : ChangeSpec := { name := "historyHours", fn := fun _ => fun
  | [d1, d2, d3, d4, d5] => { results := [.lit (.bool false)], args := [d1, d2, d3, d4, d5] }
  | _ => none }
def HistoryHoursWrongFalsely : Prop := historyHoursRow.holds Try.pinned (OpenSpec.ofChange historyHoursWrong)

/- THE SECOND FORM. 'bulk': how many values and letters a reading holds, each counted each time it is reached (what is shared counts as often as it is met; a slice's spare places count too). A statement '..UptoSaid' is the law's where the arguments, and the package variables that the reading takes, are together of bulk at most 1048576: NARROWER than '..Said'. Prove '..Said' where nothing that the law and all that it calls make is longer than what came in: it says more and counts as full. Else prove '..UptoSaid'. A law counts once. -/
mutual
def uptoBulk {H : Type} : DataW H → Nat
  | .lit (.string bytes) => bytes.length + 1
  | .lit _ => 1
  | .nil => 1
  | .ptr d => uptoBulk d + 1
  | .slice elems spare => uptoBulkAll elems + uptoBulkAll spare + 1
  | .agg parts => uptoBulkAll parts + 1
  | .iface _ d => uptoBulk d + 1
  | .map entries => uptoBulkEntries entries + 1
  | .held _ => 1
def uptoBulkAll {H : Type} : List (DataW H) → Nat
  | [] => 0
  | d :: r => uptoBulk d + uptoBulkAll r
def uptoBulkEntries {H : Type} : List (Lit × DataW H) → Nat
  | [] => 0
  | x :: r => uptoBulkEntry x + uptoBulkEntries r
def uptoBulkEntry {H : Type} : Lit × DataW H → Nat
  | (.string bytes, d) => bytes.length + uptoBulk d + 1
  | (_, d) => uptoBulk d + 1
 end
def uptoSmall : (H : Type) → List (DataW H) → Bool := fun _ ds => decide (uptoBulkAll ds ≤ 1048576)
def OpenSpec.upto (s : _root_.Go.ChangeSpec) : _root_.Go.OpenSpec := { _root_.Go.OpenSpec.ofChange s with cond := some uptoSmall }

/-- 'bikesharelaw39.HistoryChecks', WHERE WHAT IT READS IS OF BULK AT MOST 1048576: true; the input reads as it did. -/
def historyChecksUptoRow : OpenClaim := { program := "ytjobpjhmdbmdgaa", sum := "2da84034b02baf1d9518bcb70e0b3a652c6a6983b6d3b42de43f10a52019b4a5", func := "bikeshare/bikesharelaw39.HistoryChecks", spec := "historyChecks", unfollowed := true, recurses := true, apart := false, narrowed := true }
def HistoryChecksUptoSaid : Prop := historyChecksUptoRow.holds Try.pinned (OpenSpec.upto historyChecksSpec)

/-- 'bikesharelaw39.HistoryCounts', WHERE WHAT IT READS IS OF BULK AT MOST 1048576: true; the input reads as it did. -/
def historyCountsUptoRow : OpenClaim := { program := "ytjobpjhmdbmdgaa", sum := "2da84034b02baf1d9518bcb70e0b3a652c6a6983b6d3b42de43f10a52019b4a5", func := "bikeshare/bikesharelaw39.HistoryCounts", spec := "historyCounts", unfollowed := true, recurses := true, apart := false, narrowed := true }
def HistoryCountsUptoSaid : Prop := historyCountsUptoRow.holds Try.pinned (OpenSpec.upto historyCountsSpec)

/-- 'bikesharelaw39.HistorySums', WHERE WHAT IT READS IS OF BULK AT MOST 1048576: true; the input reads as it did. -/
def historySumsUptoRow : OpenClaim := { program := "ytjobpjhmdbmdgaa", sum := "2da84034b02baf1d9518bcb70e0b3a652c6a6983b6d3b42de43f10a52019b4a5", func := "bikeshare/bikesharelaw39.HistorySums", spec := "historySums", unfollowed := true, recurses := true, apart := false, narrowed := true }
def HistorySumsUptoSaid : Prop := historySumsUptoRow.holds Try.pinned (OpenSpec.upto historySumsSpec)

/-- 'bikesharelaw39.HistoryOf', WHERE WHAT IT READS IS OF BULK AT MOST 1048576: true; the input reads as it did. -/
def historyOfUptoRow : OpenClaim := { program := "ytjobpjhmdbmdgaa", sum := "2da84034b02baf1d9518bcb70e0b3a652c6a6983b6d3b42de43f10a52019b4a5", func := "bikeshare/bikesharelaw39.HistoryOf", spec := "historyOf", unfollowed := true, recurses := true, apart := false, narrowed := true }
def HistoryOfUptoSaid : Prop := historyOfUptoRow.holds Try.pinned (OpenSpec.upto historyOfSpec)

/-- 'bikesharelaw39.HistoryAdds', WHERE WHAT IT READS IS OF BULK AT MOST 1048576: true; the input reads as it did. -/
def historyAddsUptoRow : OpenClaim := { program := "ytjobpjhmdbmdgaa", sum := "2da84034b02baf1d9518bcb70e0b3a652c6a6983b6d3b42de43f10a52019b4a5", func := "bikeshare/bikesharelaw39.HistoryAdds", spec := "historyAdds", unfollowed := true, recurses := true, apart := false, narrowed := true }
def HistoryAddsUptoSaid : Prop := historyAddsUptoRow.holds Try.pinned (OpenSpec.upto historyAddsSpec)

/-- 'bikesharelaw39.HistoryTotals', WHERE WHAT IT READS IS OF BULK AT MOST 1048576: true; the input reads as it did. -/
def historyTotalsUptoRow : OpenClaim := { program := "ytjobpjhmdbmdgaa", sum := "2da84034b02baf1d9518bcb70e0b3a652c6a6983b6d3b42de43f10a52019b4a5", func := "bikeshare/bikesharelaw39.HistoryTotals", spec := "historyTotals", unfollowed := true, recurses := true, apart := false, narrowed := true }
def HistoryTotalsUptoSaid : Prop := historyTotalsUptoRow.holds Try.pinned (OpenSpec.upto historyTotalsSpec)

/-- 'bikesharelaw39.HistoryHours', WHERE WHAT IT READS IS OF BULK AT MOST 1048576: true; the input reads as it did. -/
def historyHoursUptoRow : OpenClaim := { program := "ytjobpjhmdbmdgaa", sum := "2da84034b02baf1d9518bcb70e0b3a652c6a6983b6d3b42de43f10a52019b4a5", func := "bikeshare/bikesharelaw39.HistoryHours", spec := "historyHours", unfollowed := true, recurses := true, apart := false, narrowed := true }
def HistoryHoursUptoSaid : Prop := historyHoursUptoRow.holds Try.pinned (OpenSpec.upto historyHoursSpec)

end Rows
end Go.Proofs.Ytjobpjhmdbmdgaa
