/-
  No cell of these rows narrows 'for every input' (looked for: loops, veiled, ifaces, maps, wideKeys, modest, calm, conditions, laid).
  DERIVED. THE GIVEN ROWS OF THIS SEAT. 7 by the template 'for every input the law returns true; each argument reads behind the call as it read before'; 0 by the template 'total and deterministic' (their statements: YtfpdhalfkfffnaaTotals.lean).
  GIVEN WITH THE SEED: the statements are not yours to turn. If you find one false, say at which input.
  Laid BY PROGRAM, IN A SANDBOX (cutbox-rows.mjs): the forced cells as the released guide's own fill.sh prints them over the translation d89a60f3b9e1a603… (all of the seat's roots in one cut). By AI agents, Wed Nov 11 2026. No macro, syntax, notation, axiom, sorry.
-/
import Derived.Test.YtfpdhalfkfffnaaChecked
import GoSem.Claim
import GoSem.ClaimJoined
import GoSem.ClaimMapViews
import Derived.JoinedTies
import Derived.KernelRfl
namespace Go.Proofs.Ytfpdhalfkfffnaa
/- THE CELL 'sum', in the pinned program and in every row, IS THE sha256 OF THE DUMP (.gsa) THAT YtfpdhalfkfffnaaProg.lean LOADS. Nothing in Lean hashes anything: it is a label: what it is worth is what the hold of that sum in a sandbox is worth. -/
noncomputable def Try.pinned : Pinned := { name := "ytfpdhalfkfffnaa", sum := "d89a60f3b9e1a603d1570b16e5fd62affff0ca5ad0c30fb0532d26b679566726", checked := Try.checked }
namespace Rows
def none {H : Type} : Left H := { results := [], args := [] }

/-- 'bikesharelaw24.DisputeOnes': WHATEVER THE INPUT: true; the input reads as it did. -/
def disputeOnesSpec : ChangeSpec := { name := "disputeOnes", fn := fun _ => fun
  | [d1, d2] => { results := [.lit (.bool true)], args := [d1, d2] }
  | _ => none }
def disputeOnesRow : OpenClaim := { program := "ytfpdhalfkfffnaa", sum := "d89a60f3b9e1a603d1570b16e5fd62affff0ca5ad0c30fb0532d26b679566726", func := "bikeshare/bikesharelaw24.DisputeOnes", spec := "disputeOnes", unfollowed := true, recurses := true, apart := false }
def DisputeOnesSaid : Prop := disputeOnesRow.holds Try.pinned (OpenSpec.ofChange disputeOnesSpec)

/-- ITS FALSE NEIGHBOUR: 'it returns false'. Refute it at one input. -/
def disputeOnesWrong : ChangeSpec := { name := "disputeOnes", fn := fun _ => fun
  | [d1, d2] => { results := [.lit (.bool false)], args := [d1, d2] }
  | _ => none }
def DisputeOnesWrongFalsely : Prop := disputeOnesRow.holds Try.pinned (OpenSpec.ofChange disputeOnesWrong)

/-- 'bikesharelaw24.DisputeAlls': WHATEVER THE INPUT: true; the input reads as it did. -/
def disputeAllsSpec : ChangeSpec := { name := "disputeAlls", fn := fun _ => fun
  | [d1, d2] => { results := [.lit (.bool true)], args := [d1, d2] }
  | _ => none }
def disputeAllsRow : OpenClaim := { program := "ytfpdhalfkfffnaa", sum := "d89a60f3b9e1a603d1570b16e5fd62affff0ca5ad0c30fb0532d26b679566726", func := "bikeshare/bikesharelaw24.DisputeAlls", spec := "disputeAlls", unfollowed := true, recurses := true, apart := false }
def DisputeAllsSaid : Prop := disputeAllsRow.holds Try.pinned (OpenSpec.ofChange disputeAllsSpec)

/-- ITS FALSE NEIGHBOUR: 'it returns false'. Refute it at one input. -/
def disputeAllsWrong : ChangeSpec := { name := "disputeAlls", fn := fun _ => fun
  | [d1, d2] => { results := [.lit (.bool false)], args := [d1, d2] }
  | _ => none }
def DisputeAllsWrongFalsely : Prop := disputeAllsRow.holds Try.pinned (OpenSpec.ofChange disputeAllsWrong)

/-- 'bikesharelaw24.DisputeNarrows': WHATEVER THE INPUT: true; the input reads as it did. -/
def disputeNarrowsSpec : ChangeSpec := { name := "disputeNarrows", fn := fun _ => fun
  | [d1, d2] => { results := [.lit (.bool true)], args := [d1, d2] }
  | _ => none }
def disputeNarrowsRow : OpenClaim := { program := "ytfpdhalfkfffnaa", sum := "d89a60f3b9e1a603d1570b16e5fd62affff0ca5ad0c30fb0532d26b679566726", func := "bikeshare/bikesharelaw24.DisputeNarrows", spec := "disputeNarrows", unfollowed := true, recurses := true, apart := false }
def DisputeNarrowsSaid : Prop := disputeNarrowsRow.holds Try.pinned (OpenSpec.ofChange disputeNarrowsSpec)

/-- ITS FALSE NEIGHBOUR: 'it returns false'. Refute it at one input. -/
def disputeNarrowsWrong : ChangeSpec := { name := "disputeNarrows", fn := fun _ => fun
  | [d1, d2] => { results := [.lit (.bool false)], args := [d1, d2] }
  | _ => none }
def DisputeNarrowsWrongFalsely : Prop := disputeNarrowsRow.holds Try.pinned (OpenSpec.ofChange disputeNarrowsWrong)

/-- 'bikesharelaw24.DisputeTruth': WHATEVER THE INPUT: true; the input reads as it did. -/
def disputeTruthSpec : ChangeSpec := { name := "disputeTruth", fn := fun _ => fun
  | [d1, d2, d3] => { results := [.lit (.bool true)], args := [d1, d2, d3] }
  | _ => none }
def disputeTruthRow : OpenClaim := { program := "ytfpdhalfkfffnaa", sum := "d89a60f3b9e1a603d1570b16e5fd62affff0ca5ad0c30fb0532d26b679566726", func := "bikeshare/bikesharelaw24.DisputeTruth", spec := "disputeTruth", unfollowed := true, recurses := true, apart := false }
def DisputeTruthSaid : Prop := disputeTruthRow.holds Try.pinned (OpenSpec.ofChange disputeTruthSpec)

/-- ITS FALSE NEIGHBOUR: 'it returns false'. Refute it at one input. -/
def disputeTruthWrong : ChangeSpec := { name := "disputeTruth", fn := fun _ => fun
  | [d1, d2, d3] => { results := [.lit (.bool false)], args := [d1, d2, d3] }
  | _ => none }
def DisputeTruthWrongFalsely : Prop := disputeTruthRow.holds Try.pinned (OpenSpec.ofChange disputeTruthWrong)

/-- 'bikesharelaw24.DisputeAgain': WHATEVER THE INPUT: true; the input reads as it did. -/
def disputeAgainSpec : ChangeSpec := { name := "disputeAgain", fn := fun _ => fun
  | [d1, d2] => { results := [.lit (.bool true)], args := [d1, d2] }
  | _ => none }
def disputeAgainRow : OpenClaim := { program := "ytfpdhalfkfffnaa", sum := "d89a60f3b9e1a603d1570b16e5fd62affff0ca5ad0c30fb0532d26b679566726", func := "bikeshare/bikesharelaw24.DisputeAgain", spec := "disputeAgain", unfollowed := true, recurses := true, apart := false }
def DisputeAgainSaid : Prop := disputeAgainRow.holds Try.pinned (OpenSpec.ofChange disputeAgainSpec)

/-- ITS FALSE NEIGHBOUR: 'it returns false'. Refute it at one input. -/
def disputeAgainWrong : ChangeSpec := { name := "disputeAgain", fn := fun _ => fun
  | [d1, d2] => { results := [.lit (.bool false)], args := [d1, d2] }
  | _ => none }
def DisputeAgainWrongFalsely : Prop := disputeAgainRow.holds Try.pinned (OpenSpec.ofChange disputeAgainWrong)

/-- 'bikesharelaw24.DisputeApplies': WHATEVER THE INPUT: true; the input reads as it did. -/
def disputeAppliesSpec : ChangeSpec := { name := "disputeApplies", fn := fun _ => fun
  | [d1, d2] => { results := [.lit (.bool true)], args := [d1, d2] }
  | _ => none }
def disputeAppliesRow : OpenClaim := { program := "ytfpdhalfkfffnaa", sum := "d89a60f3b9e1a603d1570b16e5fd62affff0ca5ad0c30fb0532d26b679566726", func := "bikeshare/bikesharelaw24.DisputeApplies", spec := "disputeApplies", unfollowed := true, recurses := true, apart := false }
def DisputeAppliesSaid : Prop := disputeAppliesRow.holds Try.pinned (OpenSpec.ofChange disputeAppliesSpec)

/-- ITS FALSE NEIGHBOUR: 'it returns false'. Refute it at one input. -/
def disputeAppliesWrong : ChangeSpec := { name := "disputeApplies", fn := fun _ => fun
  | [d1, d2] => { results := [.lit (.bool false)], args := [d1, d2] }
  | _ => none }
def DisputeAppliesWrongFalsely : Prop := disputeAppliesRow.holds Try.pinned (OpenSpec.ofChange disputeAppliesWrong)

/-- 'bikesharelaw24.DisputeEach': WHATEVER THE INPUT: true; the input reads as it did. -/
def disputeEachSpec : ChangeSpec := { name := "disputeEach", fn := fun _ => fun
  | [d1, d2] => { results := [.lit (.bool true)], args := [d1, d2] }
  | _ => none }
def disputeEachRow : OpenClaim := { program := "ytfpdhalfkfffnaa", sum := "d89a60f3b9e1a603d1570b16e5fd62affff0ca5ad0c30fb0532d26b679566726", func := "bikeshare/bikesharelaw24.DisputeEach", spec := "disputeEach", unfollowed := true, recurses := true, apart := false }
def DisputeEachSaid : Prop := disputeEachRow.holds Try.pinned (OpenSpec.ofChange disputeEachSpec)

/-- ITS FALSE NEIGHBOUR: 'it returns false'. Refute it at one input. -/
def disputeEachWrong : ChangeSpec := { name := "disputeEach", fn := fun _ => fun
  | [d1, d2] => { results := [.lit (.bool false)], args := [d1, d2] }
  | _ => none }
def DisputeEachWrongFalsely : Prop := disputeEachRow.holds Try.pinned (OpenSpec.ofChange disputeEachWrong)

/- THE SECOND FORM. 'bulk': how many values and letters a reading holds, each counted each time it is reached (what is shared counts as often as it is met; a slice's spare places count too). A statement '..UptoSaid' is the law's where the arguments, and the package variables that the reading takes, are together of bulk at most 1048576: NARROWER than '..Said'. Prove '..Said' where nothing that the law and all that it calls make is longer than what came in: it says more and counts as full. Else prove '..UptoSaid'. A law counts once. -/
mutual
def uptoBulk {H : Type} : DataW H → Nat
  | .lit (.string bytes) => bytes.length + 1
  | .lit _ => 1
  | .nil => 1
  | .ptr d => uptoBulk d + 1
  | .slice elems spare => uptoBulkAll elems + uptoBulkAll spare + 1
  | .agg parts => uptoBulkAll parts + 1
  | .iface _ d => uptoBulk d + 1
  | .map entries => uptoBulkEntries entries + 1
  | .held _ => 1
def uptoBulkAll {H : Type} : List (DataW H) → Nat
  | [] => 0
  | d :: r => uptoBulk d + uptoBulkAll r
def uptoBulkEntries {H : Type} : List (Lit × DataW H) → Nat
  | [] => 0
  | x :: r => uptoBulkEntry x + uptoBulkEntries r
def uptoBulkEntry {H : Type} : Lit × DataW H → Nat
  | (.string bytes, d) => bytes.length + uptoBulk d + 1
  | (_, d) => uptoBulk d + 1
 end
def uptoSmall : (H : Type) → List (DataW H) → Bool := fun _ ds => decide (uptoBulkAll ds ≤ 1048576)
def OpenSpec.upto (s : _root_.Go.ChangeSpec) : _root_.Go.OpenSpec := { _root_.Go.OpenSpec.ofChange s with cond := some uptoSmall }

/-- 'bikesharelaw24.DisputeOnes', WHERE WHAT IT READS IS OF BULK AT MOST 1048576: true; the input reads as it did. -/
def disputeOnesUptoRow : OpenClaim := { program := "ytfpdhalfkfffnaa", sum := "d89a60f3b9e1a603d1570b16e5fd62affff0ca5ad0c30fb0532d26b679566726", func := "bikeshare/bikesharelaw24.DisputeOnes", spec := "disputeOnes", unfollowed := true, recurses := true, apart := false, narrowed := true }
def DisputeOnesUptoSaid : Prop := disputeOnesUptoRow.holds Try.pinned (OpenSpec.upto disputeOnesSpec)

/-- 'bikesharelaw24.DisputeAlls', WHERE WHAT IT READS IS OF BULK AT MOST 1048576: true; the input reads as it did. -/
def disputeAllsUptoRow : OpenClaim := { program := "ytfpdhalfkfffnaa", sum := "d89a60f3b9e1a603d1570b16e5fd62affff0ca5ad0c30fb0532d26b679566726", func := "bikeshare/bikesharelaw24.DisputeAlls", spec := "disputeAlls", unfollowed := true, recurses := true, apart := false, narrowed := true }
def DisputeAllsUptoSaid : Prop := disputeAllsUptoRow.holds Try.pinned (OpenSpec.upto disputeAllsSpec)

/-- 'bikesharelaw24.DisputeNarrows', WHERE WHAT IT READS IS OF BULK AT MOST 1048576: true; the input reads as it did. -/
def disputeNarrowsUptoRow : OpenClaim := { program := "ytfpdhalfkfffnaa", sum := "d89a60f3b9e1a603d1570b16e5fd62affff0ca5ad0c30fb0532d26b679566726", func := "bikeshare/bikesharelaw24.DisputeNarrows", spec := "disputeNarrows", unfollowed := true, recurses := true, apart := false, narrowed := true }
def DisputeNarrowsUptoSaid : Prop := disputeNarrowsUptoRow.holds Try.pinned (OpenSpec.upto disputeNarrowsSpec)

/-- 'bikesharelaw24.DisputeTruth', WHERE WHAT IT READS IS OF BULK AT MOST 1048576: true; the input reads as it did. -/
def disputeTruthUptoRow : OpenClaim := { program := "ytfpdhalfkfffnaa", sum := "d89a60f3b9e1a603d1570b16e5fd62affff0ca5ad0c30fb0532d26b679566726", func := "bikeshare/bikesharelaw24.DisputeTruth", spec := "disputeTruth", unfollowed := true, recurses := true, apart := false, narrowed := true }
def DisputeTruthUptoSaid : Prop := disputeTruthUptoRow.holds Try.pinned (OpenSpec.upto disputeTruthSpec)

/-- 'bikesharelaw24.DisputeAgain', WHERE WHAT IT READS IS OF BULK AT MOST 1048576: true; the input reads as it did. -/
def disputeAgainUptoRow : OpenClaim := { program := "ytfpdhalfkfffnaa", sum := "d89a60f3b9e1a603d1570b16e5fd62affff0ca5ad0c30fb0532d26b679566726", func := "bikeshare/bikesharelaw24.DisputeAgain", spec := "disputeAgain", unfollowed := true, recurses := true, apart := false, narrowed := true }
def DisputeAgainUptoSaid : Prop := disputeAgainUptoRow.holds Try.pinned (OpenSpec.upto disputeAgainSpec)

/-- 'bikesharelaw24.DisputeApplies', WHERE WHAT IT READS IS OF BULK AT MOST 1048576: true; the input reads as it did. -/
def disputeAppliesUptoRow : OpenClaim := { program := "ytfpdhalfkfffnaa", sum := "d89a60f3b9e1a603d1570b16e5fd62affff0ca5ad0c30fb0532d26b679566726", func := "bikeshare/bikesharelaw24.DisputeApplies", spec := "disputeApplies", unfollowed := true, recurses := true, apart := false, narrowed := true }
def DisputeAppliesUptoSaid : Prop := disputeAppliesUptoRow.holds Try.pinned (OpenSpec.upto disputeAppliesSpec)

/-- 'bikesharelaw24.DisputeEach', WHERE WHAT IT READS IS OF BULK AT MOST 1048576: true; the input reads as it did. -/
def disputeEachUptoRow : OpenClaim := { program := "ytfpdhalfkfffnaa", sum := "d89a60f3b9e1a603d1570b16e5fd62affff0ca5ad0c30fb0532d26b679566726", func := "bikeshare/bikesharelaw24.DisputeEach", spec := "disputeEach", unfollowed := true, recurses := true, apart := false, narrowed := true }
def DisputeEachUptoSaid : Prop := disputeEachUptoRow.holds Try.pinned (OpenSpec.upto disputeEachSpec)

end Rows
end Go.Proofs.Ytfpdhalfkfffnaa
