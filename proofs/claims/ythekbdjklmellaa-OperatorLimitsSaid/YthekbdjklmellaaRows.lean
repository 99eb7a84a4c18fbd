/-
  No cell of these rows narrows 'for every input' (looked for: loops, veiled, ifaces, maps, wideKeys, modest, calm, conditions, laid).
  DERIVED. THE GIVEN ROWS OF THIS SEAT. 7 by the template 'for every input the law returns true; each argument reads behind the call as it read before'; 0 by the template 'total and deterministic' (their statements: YthekbdjklmellaaTotals.lean).
  GIVEN WITH THE SEED: the statements are not yours to turn. If you find one false, say at which input.
  Laid BY PROGRAM, IN A SANDBOX (cutbox-rows.mjs): the forced cells as the released guide's own fill.sh prints them over the translation deb92e4bcfaf2b72… (all of the seat's roots in one cut). By AI agents, Wed Nov 11 2026. No macro, syntax, notation, axiom, sorry.
-/
import Derived.Test.YthekbdjklmellaaChecked
import GoSem.Claim
import GoSem.ClaimJoined
import GoSem.ClaimMapViews
import Derived.JoinedTies
import Derived.KernelRfl
namespace Go.Proofs.Ythekbdjklmellaa
/- THE CELL 'sum', in the pinned program and in every row, IS THE sha256 OF THE DUMP (.gsa) THAT YthekbdjklmellaaProg.lean LOADS. Nothing in Lean hashes anything: it is a label: what it is worth is what the hold of that sum in a sandbox is worth. -/
noncomputable def Try.pinned : Pinned := { name := "ythekbdjklmellaa", sum := "deb92e4bcfaf2b72b3f0edfaaf48f8d5cb03f1a9c13dd92f46094d97cf18353c", checked := Try.checked }
namespace Rows
def none {H : Type} : Left H := { results := [], args := [] }

/-- 'bikesharelaw57.OperatorChecks': WHATEVER THE INPUT: true; the input reads as it did. -/
def operatorChecksSpec : ChangeSpec := { name := "operatorChecks", fn := fun _ => fun
  | [d1, d2, d3] => { results := [.lit (.bool true)], args := [d1, d2, d3] }
  | _ => none }
def operatorChecksRow : OpenClaim := { program := "ythekbdjklmellaa", sum := "deb92e4bcfaf2b72b3f0edfaaf48f8d5cb03f1a9c13dd92f46094d97cf18353c", func := "bikeshare/bikesharelaw57.OperatorChecks", spec := "operatorChecks", unfollowed := true, recurses := true, named := ["math/bits.divideError", "math/bits.overflowError"], apart := false }
def OperatorChecksSaid : Prop := operatorChecksRow.holds Try.pinned (OpenSpec.ofChange operatorChecksSpec)

/-- ITS FALSE NEIGHBOUR: 'it returns false'. Refute it at one input. -/
def operatorChecksWrong : ChangeSpec := { name := "operatorChecks", fn := fun _ => fun
  | [d1, d2, d3] => { results := [.lit (.bool false)], args := [d1, d2, d3] }
  | _ => none }
def OperatorChecksWrongFalsely : Prop := operatorChecksRow.holds Try.pinned (OpenSpec.ofChange operatorChecksWrong)

/-- 'bikesharelaw57.OperatorChanges': WHATEVER THE INPUT: true; the input reads as it did. -/
def operatorChangesSpec : ChangeSpec := { name := "operatorChanges", fn := fun _ => fun
  | [d1, d2] => { results := [.lit (.bool true)], args := [d1, d2] }
  | _ => none }
def operatorChangesRow : OpenClaim := { program := "ythekbdjklmellaa", sum := "deb92e4bcfaf2b72b3f0edfaaf48f8d5cb03f1a9c13dd92f46094d97cf18353c", func := "bikeshare/bikesharelaw57.OperatorChanges", spec := "operatorChanges", unfollowed := true, recurses := true, named := ["math/bits.divideError", "math/bits.overflowError"], apart := false }
def OperatorChangesSaid : Prop := operatorChangesRow.holds Try.pinned (OpenSpec.ofChange operatorChangesSpec)

/-- ITS FALSE NEIGHBOUR: 'it returns false'. Refute it at one input. -/
def operatorChangesWrong : ChangeSpec := { name := "operatorChanges", fn := fun _ => fun
  | [d1, d2] => { results := [.lit (.bool false)], args := [d1, d2] }
  | _ => none }
def OperatorChangesWrongFalsely : Prop := operatorChangesRow.holds Try.pinned (OpenSpec.ofChange operatorChangesWrong)

/-- 'bikesharelaw57.OperatorDivides': WHATEVER THE INPUT: true; the input reads as it did. -/
def operatorDividesSpec : ChangeSpec := { name := "operatorDivides", fn := fun _ => fun
  | [d1, d2, d3] => { results := [.lit (.bool true)], args := [d1, d2, d3] }
  | _ => none }
def operatorDividesRow : OpenClaim := { program := "ythekbdjklmellaa", sum := "deb92e4bcfaf2b72b3f0edfaaf48f8d5cb03f1a9c13dd92f46094d97cf18353c", func := "bikeshare/bikesharelaw57.OperatorDivides", spec := "operatorDivides", unfollowed := true, recurses := true, named := ["math/bits.divideError", "math/bits.overflowError"], apart := false }
def OperatorDividesSaid : Prop := operatorDividesRow.holds Try.pinned (OpenSpec.ofChange operatorDividesSpec)

/-- ITS FALSE NEIGHBOUR: 'it returns false'. Refute it at one input. -/
def operatorDividesWrong : ChangeSpec := { name := "operatorDivides", fn := fun _ => fun
  | [d1, d2, d3] => { results := [.lit (.bool false)], args := [d1, d2, d3] }
  | _ => none }
def OperatorDividesWrongFalsely : Prop := operatorDividesRow.holds Try.pinned (OpenSpec.ofChange operatorDividesWrong)

/-- 'bikesharelaw57.OperatorShares': WHATEVER THE INPUT: true; the input reads as it did. -/
def operatorSharesSpec : ChangeSpec := { name := "operatorShares", fn := fun _ => fun
  | [d1, d2, d3] => { results := [.lit (.bool true)], args := [d1, d2, d3] }
  | _ => none }
def operatorSharesRow : OpenClaim := { program := "ythekbdjklmellaa", sum := "deb92e4bcfaf2b72b3f0edfaaf48f8d5cb03f1a9c13dd92f46094d97cf18353c", func := "bikeshare/bikesharelaw57.OperatorShares", spec := "operatorShares", unfollowed := true, recurses := true, named := ["math/bits.divideError", "math/bits.overflowError"], apart := false }
def OperatorSharesSaid : Prop := operatorSharesRow.holds Try.pinned (OpenSpec.ofChange operatorSharesSpec)

/-- ITS FALSE NEIGHBOUR: 'it returns false'. Refute it at one input. -/
def operatorSharesWrong : ChangeSpec := { name := "operatorShares", fn := fun _ => fun
  | [d1, d2, d3] => { results := [.lit (.bool false)], args := [d1, d2, d3] }
  | _ => none }
def OperatorSharesWrongFalsely : Prop := operatorSharesRow.holds Try.pinned (OpenSpec.ofChange operatorSharesWrong)

/-- 'bikesharelaw57.OperatorLimits': WHATEVER THE INPUT: true; the input reads as it did. -/
def operatorLimitsSpec : ChangeSpec := { name := "operatorLimits", fn := fun _ => fun
  | [d1, d2, d3] => { results := [.lit (.bool true)], args := [d1, d2, d3] }
  | _ => none }
def operatorLimitsRow : OpenClaim := { program := "ythekbdjklmellaa", sum := "deb92e4bcfaf2b72b3f0edfaaf48f8d5cb03f1a9c13dd92f46094d97cf18353c", func := "bikeshare/bikesharelaw57.OperatorLimits", spec := "operatorLimits", unfollowed := true, recurses := true, named := ["math/bits.divideError", "math/bits.overflowError"], apart := false }
def OperatorLimitsSaid : Prop := operatorLimitsRow.holds Try.pinned (OpenSpec.ofChange operatorLimitsSpec)

/-- ITS FALSE NEIGHBOUR: 'it returns false'. Refute it at one input. -/
def operatorLimitsWrong : ChangeSpec := { name := "operatorLimits", fn := fun _ => fun
  | [d1, d2, d3] => { results := [.lit (.bool false)], args := [d1, d2, d3] }
  | _ => none }
def OperatorLimitsWrongFalsely : Prop := operatorLimitsRow.holds Try.pinned (OpenSpec.ofChange operatorLimitsWrong)

/-- 'bikesharelaw57.OperatorTakes': WHATEVER THE INPUT: true; the input reads as it did. -/
def operatorTakesSpec : ChangeSpec := { name := "operatorTakes", fn := fun _ => fun
  | [d1, d2, d3] => { results := [.lit (.bool true)], args := [d1, d2, d3] }
  | _ => none }
def operatorTakesRow : OpenClaim := { program := "ythekbdjklmellaa", sum := "deb92e4bcfaf2b72b3f0edfaaf48f8d5cb03f1a9c13dd92f46094d97cf18353c", func := "bikeshare/bikesharelaw57.OperatorTakes", spec := "operatorTakes", unfollowed := true, recurses := true, named := ["math/bits.divideError", "math/bits.overflowError"], apart := false }
def OperatorTakesSaid : Prop := operatorTakesRow.holds Try.pinned (OpenSpec.ofChange operatorTakesSpec)

/-- ITS FALSE NEIGHBOUR: 'it returns false'. Refute it at one input. -/
def operatorTakesWrong : ChangeSpec := { name := "operatorTakes", fn := fun _ => fun
  | [d1, d2, d3] => { results := [.lit (.bool false)], args := [d1, d2, d3] }
  | _ => none }
def OperatorTakesWrongFalsely : Prop := operatorTakesRow.holds Try.pinned (OpenSpec.ofChange operatorTakesWrong)

/-- 'bikesharelaw57.OperatorOnce': WHATEVER THE INPUT: true; the input reads as it did. -/
def operatorOnceSpec : ChangeSpec := { name := "operatorOnce", fn := fun _ => fun
  | [d1, d2, d3] => { results := [.lit (.bool true)], args := [d1, d2, d3] }
  | _ => none }
def operatorOnceRow : OpenClaim := { program := "ythekbdjklmellaa", sum := "deb92e4bcfaf2b72b3f0edfaaf48f8d5cb03f1a9c13dd92f46094d97cf18353c", func := "bikeshare/bikesharelaw57.OperatorOnce", spec := "operatorOnce", unfollowed := true, recurses := true, named := ["math/bits.divideError", "math/bits.overflowError"], apart := false }
def OperatorOnceSaid : Prop := operatorOnceRow.holds Try.pinned (OpenSpec.ofChange operatorOnceSpec)

/-- ITS FALSE NEIGHBOUR: 'it returns false'. Refute it at one input. -/
def operatorOnceWrong : ChangeSpec := { name := "operatorOnce", fn := fun _ => fun
  | [d1, d2, d3] => { results := [.lit (.bool false)], args := [d1, d2, d3] }
  | _ => none }
def OperatorOnceWrongFalsely : Prop := operatorOnceRow.holds Try.pinned (OpenSpec.ofChange operatorOnceWrong)

/- THE SECOND FORM. 'bulk': how many values and letters a reading holds, each counted each time it is reached (what is shared counts as often as it is met; a slice's spare places count too). A statement '..UptoSaid' is the law's where the arguments, and the package variables that the reading takes, are together of bulk at most 1048576: NARROWER than '..Said'. Prove '..Said' where nothing that the law and all that it calls make is longer than what came in: it says more and counts as full. Else prove '..UptoSaid'. A law counts once. -/
mutual
def uptoBulk {H : Type} : DataW H → Nat
  | .lit (.string bytes) => bytes.length + 1
  | .lit _ => 1
  | .nil => 1
  | .ptr d => uptoBulk d + 1
  | .slice elems spare => uptoBulkAll elems + uptoBulkAll spare + 1
  | .agg parts => uptoBulkAll parts + 1
  | .iface _ d => uptoBulk d + 1
  | .map entries => uptoBulkEntries entries + 1
  | .held _ => 1
def uptoBulkAll {H : Type} : List (DataW H) → Nat
  | [] => 0
  | d :: r => uptoBulk d + uptoBulkAll r
def uptoBulkEntries {H : Type} : List (Lit × DataW H) → Nat
  | [] => 0
  | x :: r => uptoBulkEntry x + uptoBulkEntries r
def uptoBulkEntry {H : Type} : Lit × DataW H → Nat
  | (.string bytes, d) => bytes.length + uptoBulk d + 1
  | (_, d) => uptoBulk d + 1
 end
def uptoSmall : (H : Type) → List (DataW H) → Bool := fun _ ds => decide (uptoBulkAll ds ≤ 1048576)
def OpenSpec.upto (s : _root_.Go.ChangeSpec) : _root_.Go.OpenSpec := { _root_.Go.OpenSpec.ofChange s with cond := some uptoSmall }

/-- 'bikesharelaw57.OperatorChecks', WHERE WHAT IT READS IS OF BULK AT MOST 1048576: true; the input reads as it did. -/
def operatorChecksUptoRow : OpenClaim := { program := "ythekbdjklmellaa", sum := "deb92e4bcfaf2b72b3f0edfaaf48f8d5cb03f1a9c13dd92f46094d97cf18353c", func := "bikeshare/bikesharelaw57.OperatorChecks", spec := "operatorChecks", unfollowed := true, recurses := true, named := ["math/bits.divideError", "math/bits.overflowError"], apart := false, narrowed := true }
def OperatorChecksUptoSaid : Prop := operatorChecksUptoRow.holds Try.pinned (OpenSpec.upto operatorChecksSpec)

/-- 'bikesharelaw57.OperatorChanges', WHERE WHAT IT READS IS OF BULK AT MOST 1048576: true; the input reads as it did. -/
def operatorChangesUptoRow : OpenClaim := { program := "ythekbdjklmellaa", sum := "deb92e4bcfaf2b72b3f0edfaaf48f8d5cb03f1a9c13dd92f46094d97cf18353c", func := "bikeshare/bikesharelaw57.OperatorChanges", spec := "operatorChanges", unfollowed := true, recurses := true, named := ["math/bits.divideError", "math/bits.overflowError"], apart := false, narrowed := true }
def OperatorChangesUptoSaid : Prop := operatorChangesUptoRow.holds Try.pinned (OpenSpec.upto operatorChangesSpec)

/-- 'bikesharelaw57.OperatorDivides', WHERE WHAT IT READS IS OF BULK AT MOST 1048576: true; the input reads as it did. -/
def operatorDividesUptoRow : OpenClaim := { program := "ythekbdjklmellaa", sum := "deb92e4bcfaf2b72b3f0edfaaf48f8d5cb03f1a9c13dd92f46094d97cf18353c", func := "bikeshare/bikesharelaw57.OperatorDivides", spec := "operatorDivides", unfollowed := true, recurses := true, named := ["math/bits.divideError", "math/bits.overflowError"], apart := false, narrowed := true }
def OperatorDividesUptoSaid : Prop := operatorDividesUptoRow.holds Try.pinned (OpenSpec.upto operatorDividesSpec)

/-- 'bikesharelaw57.OperatorShares', WHERE WHAT IT READS IS OF BULK AT MOST 1048576: true; the input reads as it did. -/
def operatorSharesUptoRow : OpenClaim := { program := "ythekbdjklmellaa", sum := "deb92e4bcfaf2b72b3f0edfaaf48f8d5cb03f1a9c13dd92f46094d97cf18353c", func := "bikeshare/bikesharelaw57.OperatorShares", spec := "operatorShares", unfollowed := true, recurses := true, named := ["math/bits.divideError", "math/bits.overflowError"], apart := false, narrowed := true }
def OperatorSharesUptoSaid : Prop := operatorSharesUptoRow.holds Try.pinned (OpenSpec.upto operatorSharesSpec)

/-- 'bikesharelaw57.OperatorLimits', WHERE WHAT IT READS IS OF BULK AT MOST 1048576: true; the input reads as it did. -/
def operatorLimitsUptoRow : OpenClaim := { program := "ythekbdjklmellaa", sum := "deb92e4bcfaf2b72b3f0edfaaf48f8d5cb03f1a9c13dd92f46094d97cf18353c", func := "bikeshare/bikesharelaw57.OperatorLimits", spec := "operatorLimits", unfollowed := true, recurses := true, named := ["math/bits.divideError", "math/bits.overflowError"], apart := false, narrowed := true }
def OperatorLimitsUptoSaid : Prop := operatorLimitsUptoRow.holds Try.pinned (OpenSpec.upto operatorLimitsSpec)

/-- 'bikesharelaw57.OperatorTakes', WHERE WHAT IT READS IS OF BULK AT MOST 1048576: true; the input reads as it did. -/
def operatorTakesUptoRow : OpenClaim := { program := "ythekbdjklmellaa", sum := "deb92e4bcfaf2b72b3f0edfaaf48f8d5cb03f1a9c13dd92f46094d97cf18353c", func := "bikeshare/bikesharelaw57.OperatorTakes", spec := "operatorTakes", unfollowed := true, recurses := true, named := ["math/bits.divideError", "math/bits.overflowError"], apart := false, narrowed := true }
def OperatorTakesUptoSaid : Prop := operatorTakesUptoRow.holds Try.pinned (OpenSpec.upto operatorTakesSpec)

/-- 'bikesharelaw57.OperatorOnce', WHERE WHAT IT READS IS OF BULK AT MOST 1048576: true; the input reads as it did. -/
def operatorOnceUptoRow : OpenClaim := { program := "ythekbdjklmellaa", sum := "deb92e4bcfaf2b72b3f0edfaaf48f8d5cb03f1a9c13dd92f46094d97cf18353c", func := "bikeshare/bikesharelaw57.OperatorOnce", spec := "operatorOnce", unfollowed := true, recurses := true, named := ["math/bits.divideError", "math/bits.overflowError"], apart := false, narrowed := true }
def OperatorOnceUptoSaid : Prop := operatorOnceUptoRow.holds Try.pinned (OpenSpec.upto operatorOnceSpec)

end Rows
end Go.Proofs.Ythekbdjklmellaa
