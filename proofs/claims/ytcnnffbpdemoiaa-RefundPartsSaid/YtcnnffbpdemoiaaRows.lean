/-
  No cell of these rows narrows 'for every input' (looked for: loops, veiled, ifaces, maps, wideKeys, modest, calm, conditions, laid).
  DERIVED. THE GIVEN ROWS OF THIS SEAT. 7 by the template 'for every input the law returns true; each argument reads behind the call as it read before'; 0 by the template 'total and deterministic' (their statements: YtcnnffbpdemoiaaTotals.lean).
  GIVEN WITH THE SEED: the statements are not yours to turn. If you find one false, say at which input.
  Laid BY PROGRAM, IN A SANDBOX (cutbox-rows.mjs): the forced cells as the released guide's own fill.sh prints them over the translation 913e0c412da55f8e… (all of the seat's roots in one cut). By AI agents, Wed Nov 11 2026. No macro, syntax, notation, axiom, sorry.
-/
import Derived.Test.YtcnnffbpdemoiaaChecked
import GoSem.Claim
import GoSem.ClaimJoined
import GoSem.ClaimMapViews
import Derived.JoinedTies
import Derived.KernelRfl
namespace Go.Proofs.Ytcnnffbpdemoiaa
/- THE CELL 'sum', in the pinned program and in every row, IS THE sha256 OF THE DUMP (.gsa) THAT YtcnnffbpdemoiaaProg.lean LOADS. Nothing in Lean hashes anything: it is a label: what it is worth is what the hold of that sum in a sandbox is worth. -/
noncomputable def Try.pinned : Pinned := { name := "ytcnnffbpdemoiaa", sum := "913e0c412da55f8eef384bb9fdf64321e56a8c07caf6c7f20b01e0306e8a002b", checked := Try.checked }
namespace Rows
def none {H : Type} : Left H := { results := [], args := [] }

/-- 'bikesharelaw35.RefundChecks': WHATEVER THE INPUT: true; the input reads as it did. -/
def refundChecksSpec : ChangeSpec := { name := "refundChecks", fn := fun _ => fun
  | [d1, d2] => { results := [.lit (.bool true)], args := [d1, d2] }
  | _ => none }
def refundChecksRow : OpenClaim := { program := "ytcnnffbpdemoiaa", sum := "913e0c412da55f8eef384bb9fdf64321e56a8c07caf6c7f20b01e0306e8a002b", func := "bikeshare/bikesharelaw35.RefundChecks", spec := "refundChecks", plainKeys := false, apart := false }
def RefundChecksSaid : Prop := refundChecksRow.holds Try.pinned (OpenSpec.ofChange refundChecksSpec)

/-- ITS FALSE NEIGHBOUR: 'it returns false'. Refute it at one input. -/
def refundChecksWrong : ChangeSpec := { name := "refundChecks", fn := fun _ => fun
  | [d1, d2] => { results := [.lit (.bool false)], args := [d1, d2] }
  | _ => none }
def RefundChecksWrongFalsely : Prop := refundChecksRow.holds Try.pinned (OpenSpec.ofChange refundChecksWrong)

/-- 'bikesharelaw35.RefundAdds': WHATEVER THE INPUT: true; the input reads as it did. -/
def refundAddsSpec : ChangeSpec := { name := "refundAdds", fn := fun _ => fun
  | [d1, d2, d3] => { results := [.lit (.bool true)], args := [d1, d2, d3] }
  | _ => none }
def refundAddsRow : OpenClaim := { program := "ytcnnffbpdemoiaa", sum := "913e0c412da55f8eef384bb9fdf64321e56a8c07caf6c7f20b01e0306e8a002b", func := "bikeshare/bikesharelaw35.RefundAdds", spec := "refundAdds", plainKeys := false, apart := false }
def RefundAddsSaid : Prop := refundAddsRow.holds Try.pinned (OpenSpec.ofChange refundAddsSpec)

/-- ITS FALSE NEIGHBOUR: 'it returns false'. Refute it at one input. -/
def refundAddsWrong : ChangeSpec := { name := "refundAdds", fn := fun _ => fun
  | [d1, d2, d3] => { results := [.lit (.bool false)], args := [d1, d2, d3] }
  | _ => none }
def RefundAddsWrongFalsely : Prop := refundAddsRow.holds Try.pinned (OpenSpec.ofChange refundAddsWrong)

/-- 'bikesharelaw35.RefundLeft': WHATEVER THE INPUT: true; the input reads as it did. -/
def refundLeftSpec : ChangeSpec := { name := "refundLeft", fn := fun _ => fun
  | [d1, d2, d3, d4] => { results := [.lit (.bool true)], args := [d1, d2, d3, d4] }
  | _ => none }
def refundLeftRow : OpenClaim := { program := "ytcnnffbpdemoiaa", sum := "913e0c412da55f8eef384bb9fdf64321e56a8c07caf6c7f20b01e0306e8a002b", func := "bikeshare/bikesharelaw35.RefundLeft", spec := "refundLeft", plainKeys := false, apart := false }
def RefundLeftSaid : Prop := refundLeftRow.holds Try.pinned (OpenSpec.ofChange refundLeftSpec)

/-- ITS FALSE NEIGHBOUR: 'it returns false'. Refute it at one input. -/
def refundLeftWrong : ChangeSpec := { name := "refundLeft", fn := fun _ => fun
  | [d1, d2, d3, d4] => { results := [.lit (.bool false)], args := [d1, d2, d3, d4] }
  | _ => none }
def RefundLeftWrongFalsely : Prop := refundLeftRow.holds Try.pinned (OpenSpec.ofChange refundLeftWrong)

/-- 'bikesharelaw35.RefundBound': WHATEVER THE INPUT: true; the input reads as it did. -/
def refundBoundSpec : ChangeSpec := { name := "refundBound", fn := fun _ => fun
  | [d1, d2] => { results := [.lit (.bool true)], args := [d1, d2] }
  | _ => none }
def refundBoundRow : OpenClaim := { program := "ytcnnffbpdemoiaa", sum := "913e0c412da55f8eef384bb9fdf64321e56a8c07caf6c7f20b01e0306e8a002b", func := "bikeshare/bikesharelaw35.RefundBound", spec := "refundBound", plainKeys := false, apart := false }
def RefundBoundSaid : Prop := refundBoundRow.holds Try.pinned (OpenSpec.ofChange refundBoundSpec)

/-- ITS FALSE NEIGHBOUR: 'it returns false'. Refute it at one input. -/
def refundBoundWrong : ChangeSpec := { name := "refundBound", fn := fun _ => fun
  | [d1, d2] => { results := [.lit (.bool false)], args := [d1, d2] }
  | _ => none }
def RefundBoundWrongFalsely : Prop := refundBoundRow.holds Try.pinned (OpenSpec.ofChange refundBoundWrong)

/-- 'bikesharelaw35.RefundMost': WHATEVER THE INPUT: true; the input reads as it did. -/
def refundMostSpec : ChangeSpec := { name := "refundMost", fn := fun _ => fun
  | [d1, d2, d3] => { results := [.lit (.bool true)], args := [d1, d2, d3] }
  | _ => none }
def refundMostRow : OpenClaim := { program := "ytcnnffbpdemoiaa", sum := "913e0c412da55f8eef384bb9fdf64321e56a8c07caf6c7f20b01e0306e8a002b", func := "bikeshare/bikesharelaw35.RefundMost", spec := "refundMost", plainKeys := false, apart := false }
def RefundMostSaid : Prop := refundMostRow.holds Try.pinned (OpenSpec.ofChange refundMostSpec)

/-- ITS FALSE NEIGHBOUR: 'it returns false'. Refute it at one input. -/
def refundMostWrong : ChangeSpec := { name := "refundMost", fn := fun _ => fun
  | [d1, d2, d3] => { results := [.lit (.bool false)], args := [d1, d2, d3] }
  | _ => none }
def RefundMostWrongFalsely : Prop := refundMostRow.holds Try.pinned (OpenSpec.ofChange refundMostWrong)

/-- 'bikesharelaw35.RefundParts': WHATEVER THE INPUT: true; the input reads as it did. -/
def refundPartsSpec : ChangeSpec := { name := "refundParts", fn := fun _ => fun
  | [d1, d2, d3, d4, d5, d6, d7] => { results := [.lit (.bool true)], args := [d1, d2, d3, d4, d5, d6, d7] }
  | _ => none }
def refundPartsRow : OpenClaim := { program := "ytcnnffbpdemoiaa", sum := "913e0c412da55f8eef384bb9fdf64321e56a8c07caf6c7f20b01e0306e8a002b", func := "bikeshare/bikesharelaw35.RefundParts", spec := "refundParts", plainKeys := false, apart := false }
def RefundPartsSaid : Prop := refundPartsRow.holds Try.pinned (OpenSpec.ofChange refundPartsSpec)

/-- ITS FALSE NEIGHBOUR: 'it returns false'. Refute it at one input. -/
def refundPartsWrong : ChangeSpec := { name := "refundParts", fn := fun _ => fun
  | [d1, d2, d3, d4, d5, d6, d7] => { results := [.lit (.bool false)], args := [d1, d2, d3, d4, d5, d6, d7] }
  | _ => none }
def RefundPartsWrongFalsely : Prop := refundPartsRow.holds Try.pinned (OpenSpec.ofChange refundPartsWrong)

/-- 'bikesharelaw35.RefundSorts': WHATEVER THE INPUT: true; the input reads as it did. -/
def refundSortsSpec : ChangeSpec := { name := "refundSorts", fn := fun _ => fun
  | [d1, d2, d3, d4] => { results := [.lit (.bool true)], args := [d1, d2, d3, d4] }
  | _ => none }
def refundSortsRow : OpenClaim := { program := "ytcnnffbpdemoiaa", sum := "913e0c412da55f8eef384bb9fdf64321e56a8c07caf6c7f20b01e0306e8a002b", func := "bikeshare/bikesharelaw35.RefundSorts", spec := "refundSorts", plainKeys := false, apart := false }
def RefundSortsSaid : Prop := refundSortsRow.holds Try.pinned (OpenSpec.ofChange refundSortsSpec)

/-- ITS FALSE NEIGHBOUR: 'it returns false'. Refute it at one input. -/
def refundSortsWrong : ChangeSpec := { name := "refundSorts", fn := fun _ => fun
  | [d1, d2, d3, d4] => { results := [.lit (.bool false)], args := [d1, d2, d3, d4] }
  | _ => none }
def RefundSortsWrongFalsely : Prop := refundSortsRow.holds Try.pinned (OpenSpec.ofChange refundSortsWrong)

/- THE SECOND FORM. 'bulk': how many values and letters a reading holds, each counted each time it is reached (what is shared counts as often as it is met; a slice's spare places count too). A statement '..UptoSaid' is the law's where the arguments, and the package variables that the reading takes, are together of bulk at most 1048576: NARROWER than '..Said'. Prove '..Said' where nothing that the law and all that it calls make is longer than what came in: it says more and counts as full. Else prove '..UptoSaid'. A law counts once. -/
mutual
def uptoBulk {H : Type} : DataW H → Nat
  | .lit (.string bytes) => bytes.length + 1
  | .lit _ => 1
  | .nil => 1
  | .ptr d => uptoBulk d + 1
  | .slice elems spare => uptoBulkAll elems + uptoBulkAll spare + 1
  | .agg parts => uptoBulkAll parts + 1
  | .iface _ d => uptoBulk d + 1
  | .map entries => uptoBulkEntries entries + 1
  | .held _ => 1
def uptoBulkAll {H : Type} : List (DataW H) → Nat
  | [] => 0
  | d :: r => uptoBulk d + uptoBulkAll r
def uptoBulkEntries {H : Type} : List (Lit × DataW H) → Nat
  | [] => 0
  | x :: r => uptoBulkEntry x + uptoBulkEntries r
def uptoBulkEntry {H : Type} : Lit × DataW H → Nat
  | (.string bytes, d) => bytes.length + uptoBulk d + 1
  | (_, d) => uptoBulk d + 1
 end
def uptoSmall : (H : Type) → List (DataW H) → Bool := fun _ ds => decide (uptoBulkAll ds ≤ 1048576)
def OpenSpec.upto (s : _root_.Go.ChangeSpec) : _root_.Go.OpenSpec := { _root_.Go.OpenSpec.ofChange s with cond := some uptoSmall }

/-- 'bikesharelaw35.RefundChecks', WHERE WHAT IT READS IS OF BULK AT MOST 1048576: true; the input reads as it did. -/
def refundChecksUptoRow : OpenClaim := { program := "ytcnnffbpdemoiaa", sum := "913e0c412da55f8eef384bb9fdf64321e56a8c07caf6c7f20b01e0306e8a002b", func := "bikeshare/bikesharelaw35.RefundChecks", spec := "refundChecks", plainKeys := false, apart := false, narrowed := true }
def RefundChecksUptoSaid : Prop := refundChecksUptoRow.holds Try.pinned (OpenSpec.upto refundChecksSpec)

/-- 'bikesharelaw35.RefundAdds', WHERE WHAT IT READS IS OF BULK AT MOST 1048576: true; the input reads as it did. -/
def refundAddsUptoRow : OpenClaim := { program := "ytcnnffbpdemoiaa", sum := "913e0c412da55f8eef384bb9fdf64321e56a8c07caf6c7f20b01e0306e8a002b", func := "bikeshare/bikesharelaw35.RefundAdds", spec := "refundAdds", plainKeys := false, apart := false, narrowed := true }
def RefundAddsUptoSaid : Prop := refundAddsUptoRow.holds Try.pinned (OpenSpec.upto refundAddsSpec)

/-- 'bikesharelaw35.RefundLeft', WHERE WHAT IT READS IS OF BULK AT MOST 1048576: true; the input reads as it did. -/
def refundLeftUptoRow : OpenClaim := { program := "ytcnnffbpdemoiaa", sum := "913e0c412da55f8eef384bb9fdf64321e56a8c07caf6c7f20b01e0306e8a002b", func := "bikeshare/bikesharelaw35.RefundLeft", spec := "refundLeft", plainKeys := false, apart := false, narrowed := true }
def RefundLeftUptoSaid : Prop := refundLeftUptoRow.holds Try.pinned (OpenSpec.upto refundLeftSpec)

/-- 'bikesharelaw35.RefundBound', WHERE WHAT IT READS IS OF BULK AT MOST 1048576: true; the input reads as it did. -/
def refundBoundUptoRow : OpenClaim := { program := "ytcnnffbpdemoiaa", sum := "913e0c412da55f8eef384bb9fdf64321e56a8c07caf6c7f20b01e0306e8a002b", func := "bikeshare/bikesharelaw35.RefundBound", spec := "refundBound", plainKeys := false, apart := false, narrowed := true }
def RefundBoundUptoSaid : Prop := refundBoundUptoRow.holds Try.pinned (OpenSpec.upto refundBoundSpec)

/-- 'bikesharelaw35.RefundMost', WHERE WHAT IT READS IS OF BULK AT MOST 1048576: true; the input reads as it did. -/
def refundMostUptoRow : OpenClaim := { program := "ytcnnffbpdemoiaa", sum := "913e0c412da55f8eef384bb9fdf64321e56a8c07caf6c7f20b01e0306e8a002b", func := "bikeshare/bikesharelaw35.RefundMost", spec := "refundMost", plainKeys := false, apart := false, narrowed := true }
def RefundMostUptoSaid : Prop := refundMostUptoRow.holds Try.pinned (OpenSpec.upto refundMostSpec)

/-- 'bikesharelaw35.RefundParts', WHERE WHAT IT READS IS OF BULK AT MOST 1048576: true; the input reads as it did. -/
def refundPartsUptoRow : OpenClaim := { program := "ytcnnffbpdemoiaa", sum := "913e0c412da55f8eef384bb9fdf64321e56a8c07caf6c7f20b01e0306e8a002b", func := "bikeshare/bikesharelaw35.RefundParts", spec := "refundParts", plainKeys := false, apart := false, narrowed := true }
def RefundPartsUptoSaid : Prop := refundPartsUptoRow.holds Try.pinned (OpenSpec.upto refundPartsSpec)

/-- 'bikesharelaw35.RefundSorts', WHERE WHAT IT READS IS OF BULK AT MOST 1048576: true; the input reads as it did. -/
def refundSortsUptoRow : OpenClaim := { program := "ytcnnffbpdemoiaa", sum := "913e0c412da55f8eef384bb9fdf64321e56a8c07caf6c7f20b01e0306e8a002b", func := "bikeshare/bikesharelaw35.RefundSorts", spec := "refundSorts", plainKeys := false, apart := false, narrowed := true }
def RefundSortsUptoSaid : Prop := refundSortsUptoRow.holds Try.pinned (OpenSpec.upto refundSortsSpec)

end Rows
end Go.Proofs.Ytcnnffbpdemoiaa
