/-
  No cell of these rows narrows 'for every input' (looked for: loops, veiled, ifaces, maps, wideKeys, modest, calm, conditions, laid).
  DERIVED. THE GIVEN ROWS OF THIS SEAT. 8 by the template 'for every input the law returns true; each argument reads behind the call as it read before'; 0 by the template 'total and deterministic' (their statements: YtnjgckkbhlcjoaaTotals.lean).
  GIVEN WITH THE SEED: the statements are not yours to turn. If you find one false, say at which input.
  Laid BY PROGRAM, IN A SANDBOX (cutbox-rows.mjs): the forced cells as the released guide's own fill.sh prints them over the translation 3f16d165c829d7f8… (all of the seat's roots in one cut). By AI agents, Wed Nov 11 2026. No macro, syntax, notation, axiom, sorry.
-/
import Derived.Test.YtnjgckkbhlcjoaaChecked
import GoSem.Claim
import GoSem.ClaimJoined
import GoSem.ClaimMapViews
import Derived.JoinedTies
import Derived.KernelRfl
namespace Go.Proofs.Ytnjgckkbhlcjoaa
/- THE CELL 'sum', in the pinned program and in every row, IS THE sha256 OF THE DUMP (.gsa) THAT YtnjgckkbhlcjoaaProg.lean LOADS. Nothing in Lean hashes anything: it is a label: what it is worth is what the hold of that sum in a sandbox is worth. -/
noncomputable def Try.pinned : Pinned := { name := "ytnjgckkbhlcjoaa", sum := "3f16d165c829d7f87170e0d97ecdc0aa25795cec31bcfb5a0d469c072a6264ee", checked := Try.checked }
namespace Rows
def none {H : Type} : Left H := { results := [], args := [] }

/-- 'bikesharelaw48.InspectLists': WHATEVER THE INPUT: true; the input reads as it did. -/
def inspectListsSpec : ChangeSpec := { name := "inspectLists", fn := fun _ => fun
  | [d1, d2] => { results := [.lit (.bool true)], args := [d1, d2] }
  | _ => none }
def inspectListsRow : OpenClaim := { program := "ytnjgckkbhlcjoaa", sum := "3f16d165c829d7f87170e0d97ecdc0aa25795cec31bcfb5a0d469c072a6264ee", func := "bikeshare/bikesharelaw48.InspectLists", spec := "inspectLists", unfollowed := true, recurses := true, plainKeys := false, apart := false }
def InspectListsSaid : Prop := inspectListsRow.holds Try.pinned (OpenSpec.ofChange inspectListsSpec)

/-- ITS FALSE NEIGHBOUR: 'it returns false'. Refute it at one input. -/
def inspectListsWrong : ChangeSpec := { name := "inspectLists", fn := fun _ => fun
  | [d1, d2] => { results := [.lit (.bool false)], args := [d1, d2] }
  | _ => none }
def InspectListsWrongFalsely : Prop := inspectListsRow.holds Try.pinned (OpenSpec.ofChange inspectListsWrong)

/-- 'bikesharelaw48.InspectLast': WHATEVER THE INPUT: true; the input reads as it did. -/
def inspectLastSpec : ChangeSpec := { name := "inspectLast", fn := fun _ => fun
  | [d1, d2, d3, d4] => { results := [.lit (.bool true)], args := [d1, d2, d3, d4] }
  | _ => none }
def inspectLastRow : OpenClaim := { program := "ytnjgckkbhlcjoaa", sum := "3f16d165c829d7f87170e0d97ecdc0aa25795cec31bcfb5a0d469c072a6264ee", func := "bikeshare/bikesharelaw48.InspectLast", spec := "inspectLast", unfollowed := true, recurses := true, plainKeys := false, apart := false }
def InspectLastSaid : Prop := inspectLastRow.holds Try.pinned (OpenSpec.ofChange inspectLastSpec)

/-- ITS FALSE NEIGHBOUR: 'it returns false'. Refute it at one input. -/
def inspectLastWrong : ChangeSpec := { name := "inspectLast", fn := fun _ => fun
  | [d1, d2, d3, d4] => { results := [.lit (.bool false)], args := [d1, d2, d3, d4] }
  | _ => none }
def InspectLastWrongFalsely : Prop := inspectLastRow.holds Try.pinned (OpenSpec.ofChange inspectLastWrong)

/-- 'bikesharelaw48.InspectKinds': WHATEVER THE INPUT: true; the input reads as it did. -/
def inspectKindsSpec : ChangeSpec := { name := "inspectKinds", fn := fun _ => fun
  | [d] => { results := [.lit (.bool true)], args := [d] }
  | _ => none }
def inspectKindsRow : OpenClaim := { program := "ytnjgckkbhlcjoaa", sum := "3f16d165c829d7f87170e0d97ecdc0aa25795cec31bcfb5a0d469c072a6264ee", func := "bikeshare/bikesharelaw48.InspectKinds", spec := "inspectKinds", unfollowed := true, recurses := true, plainKeys := false, apart := false }
def InspectKindsSaid : Prop := inspectKindsRow.holds Try.pinned (OpenSpec.ofChange inspectKindsSpec)

/-- ITS FALSE NEIGHBOUR: 'it returns false'. Refute it at one input. -/
def inspectKindsWrong : ChangeSpec := { name := "inspectKinds", fn := fun _ => fun
  | [d] => { results := [.lit (.bool false)], args := [d] }
  | _ => none }
def InspectKindsWrongFalsely : Prop := inspectKindsRow.holds Try.pinned (OpenSpec.ofChange inspectKindsWrong)

/-- 'bikesharelaw48.InspectDue': WHATEVER THE INPUT: true; the input reads as it did. -/
def inspectDueSpec : ChangeSpec := { name := "inspectDue", fn := fun _ => fun
  | [d] => { results := [.lit (.bool true)], args := [d] }
  | _ => none }
def inspectDueRow : OpenClaim := { program := "ytnjgckkbhlcjoaa", sum := "3f16d165c829d7f87170e0d97ecdc0aa25795cec31bcfb5a0d469c072a6264ee", func := "bikeshare/bikesharelaw48.InspectDue", spec := "inspectDue", unfollowed := true, recurses := true, plainKeys := false, apart := false }
def InspectDueSaid : Prop := inspectDueRow.holds Try.pinned (OpenSpec.ofChange inspectDueSpec)

/-- ITS FALSE NEIGHBOUR: 'it returns false'. Refute it at one input. -/
def inspectDueWrong : ChangeSpec := { name := "inspectDue", fn := fun _ => fun
  | [d] => { results := [.lit (.bool false)], args := [d] }
  | _ => none }
def InspectDueWrongFalsely : Prop := inspectDueRow.holds Try.pinned (OpenSpec.ofChange inspectDueWrong)

/-- 'bikesharelaw48.InspectFresh': WHATEVER THE INPUT: true; the input reads as it did. -/
def inspectFreshSpec : ChangeSpec := { name := "inspectFresh", fn := fun _ => fun
  | [d1, d2] => { results := [.lit (.bool true)], args := [d1, d2] }
  | _ => none }
def inspectFreshRow : OpenClaim := { program := "ytnjgckkbhlcjoaa", sum := "3f16d165c829d7f87170e0d97ecdc0aa25795cec31bcfb5a0d469c072a6264ee", func := "bikeshare/bikesharelaw48.InspectFresh", spec := "inspectFresh", unfollowed := true, recurses := true, plainKeys := false, apart := false }
def InspectFreshSaid : Prop := inspectFreshRow.holds Try.pinned (OpenSpec.ofChange inspectFreshSpec)

/-- ITS FALSE NEIGHBOUR: 'it returns false'. Refute it at one input. -/
def inspectFreshWrong : ChangeSpec := { name := "inspectFresh", fn := fun _ => fun
  | [d1, d2] => { results := [.lit (.bool false)], args := [d1, d2] }
  | _ => none }
def InspectFreshWrongFalsely : Prop := inspectFreshRow.holds Try.pinned (OpenSpec.ofChange inspectFreshWrong)

/-- 'bikesharelaw48.InspectStays': WHATEVER THE INPUT: true; the input reads as it did. -/
def inspectStaysSpec : ChangeSpec := { name := "inspectStays", fn := fun _ => fun
  | [d1, d2] => { results := [.lit (.bool true)], args := [d1, d2] }
  | _ => none }
def inspectStaysRow : OpenClaim := { program := "ytnjgckkbhlcjoaa", sum := "3f16d165c829d7f87170e0d97ecdc0aa25795cec31bcfb5a0d469c072a6264ee", func := "bikeshare/bikesharelaw48.InspectStays", spec := "inspectStays", unfollowed := true, recurses := true, plainKeys := false, apart := false }
def InspectStaysSaid : Prop := inspectStaysRow.holds Try.pinned (OpenSpec.ofChange inspectStaysSpec)

/-- ITS FALSE NEIGHBOUR: 'it returns false'. Refute it at one input. -/
def inspectStaysWrong : ChangeSpec := { name := "inspectStays", fn := fun _ => fun
  | [d1, d2] => { results := [.lit (.bool false)], args := [d1, d2] }
  | _ => none }
def InspectStaysWrongFalsely : Prop := inspectStaysRow.holds Try.pinned (OpenSpec.ofChange inspectStaysWrong)

/-- 'bikesharelaw48.InspectOthers': WHATEVER THE INPUT: true; the input reads as it did. -/
def inspectOthersSpec : ChangeSpec := { name := "inspectOthers", fn := fun _ => fun
  | [d1, d2, d3, d4] => { results := [.lit (.bool true)], args := [d1, d2, d3, d4] }
  | _ => none }
def inspectOthersRow : OpenClaim := { program := "ytnjgckkbhlcjoaa", sum := "3f16d165c829d7f87170e0d97ecdc0aa25795cec31bcfb5a0d469c072a6264ee", func := "bikeshare/bikesharelaw48.InspectOthers", spec := "inspectOthers", unfollowed := true, recurses := true, plainKeys := false, apart := false }
def InspectOthersSaid : Prop := inspectOthersRow.holds Try.pinned (OpenSpec.ofChange inspectOthersSpec)

/-- ITS FALSE NEIGHBOUR: 'it returns false'. Refute it at one input. -/
def inspectOthersWrong : ChangeSpec := { name := "inspectOthers", fn := fun _ => fun
  | [d1, d2, d3, d4] => { results := [.lit (.bool false)], args := [d1, d2, d3, d4] }
  | _ => none }
def InspectOthersWrongFalsely : Prop := inspectOthersRow.holds Try.pinned (OpenSpec.ofChange inspectOthersWrong)

/-- 'bikesharelaw48.InspectBlocked': WHATEVER THE INPUT: true; the input reads as it did. -/
def inspectBlockedSpec : ChangeSpec := { name := "inspectBlocked", fn := fun _ => fun
  | [d] => { results := [.lit (.bool true)], args := [d] }
  | _ => none }
def inspectBlockedRow : OpenClaim := { program := "ytnjgckkbhlcjoaa", sum := "3f16d165c829d7f87170e0d97ecdc0aa25795cec31bcfb5a0d469c072a6264ee", func := "bikeshare/bikesharelaw48.InspectBlocked", spec := "inspectBlocked", unfollowed := true, recurses := true, plainKeys := false, apart := false }
def InspectBlockedSaid : Prop := inspectBlockedRow.holds Try.pinned (OpenSpec.ofChange inspectBlockedSpec)

/-- ITS FALSE NEIGHBOUR: 'it returns false'. Refute it at one input. -/
def inspectBlockedWrong : ChangeSpec := { name := "inspectBlocked", fn := fun _ => fun
  | [d] => { results := [.lit (.bool false)], args := [d] }
  | _ => none }
def InspectBlockedWrongFalsely : Prop := inspectBlockedRow.holds Try.pinned (OpenSpec.ofChange inspectBlockedWrong)

/- THE SECOND FORM. 'bulk': how many values and letters a reading holds, each counted each time it is reached (what is shared counts as often as it is met; a slice's spare places count too). A statement '..UptoSaid' is the law's where the arguments, and the package variables that the reading takes, are together of bulk at most 1048576: NARROWER than '..Said'. Prove '..Said' where nothing that the law and all that it calls make is longer than what came in: it says more and counts as full. Else prove '..UptoSaid'. A law counts once. -/
mutual
def uptoBulk {H : Type} : DataW H → Nat
  | .lit (.string bytes) => bytes.length + 1
  | .lit _ => 1
  | .nil => 1
  | .ptr d => uptoBulk d + 1
  | .slice elems spare => uptoBulkAll elems + uptoBulkAll spare + 1
  | .agg parts => uptoBulkAll parts + 1
  | .iface _ d => uptoBulk d + 1
  | .map entries => uptoBulkEntries entries + 1
  | .held _ => 1
def uptoBulkAll {H : Type} : List (DataW H) → Nat
  | [] => 0
  | d :: r => uptoBulk d + uptoBulkAll r
def uptoBulkEntries {H : Type} : List (Lit × DataW H) → Nat
  | [] => 0
  | x :: r => uptoBulkEntry x + uptoBulkEntries r
def uptoBulkEntry {H : Type} : Lit × DataW H → Nat
  | (.string bytes, d) => bytes.length + uptoBulk d + 1
  | (_, d) => uptoBulk d + 1
 end
def uptoSmall : (H : Type) → List (DataW H) → Bool := fun _ ds => decide (uptoBulkAll ds ≤ 1048576)
def OpenSpec.upto (s : _root_.Go.ChangeSpec) : _root_.Go.OpenSpec := { _root_.Go.OpenSpec.ofChange s with cond := some uptoSmall }

/-- 'bikesharelaw48.InspectLists', WHERE WHAT IT READS IS OF BULK AT MOST 1048576: true; the input reads as it did. -/
def inspectListsUptoRow : OpenClaim := { program := "ytnjgckkbhlcjoaa", sum := "3f16d165c829d7f87170e0d97ecdc0aa25795cec31bcfb5a0d469c072a6264ee", func := "bikeshare/bikesharelaw48.InspectLists", spec := "inspectLists", unfollowed := true, recurses := true, plainKeys := false, apart := false, narrowed := true }
def InspectListsUptoSaid : Prop := inspectListsUptoRow.holds Try.pinned (OpenSpec.upto inspectListsSpec)

/-- 'bikesharelaw48.InspectLast', WHERE WHAT IT READS IS OF BULK AT MOST 1048576: true; the input reads as it did. -/
def inspectLastUptoRow : OpenClaim := { program := "ytnjgckkbhlcjoaa", sum := "3f16d165c829d7f87170e0d97ecdc0aa25795cec31bcfb5a0d469c072a6264ee", func := "bikeshare/bikesharelaw48.InspectLast", spec := "inspectLast", unfollowed := true, recurses := true, plainKeys := false, apart := false, narrowed := true }
def InspectLastUptoSaid : Prop := inspectLastUptoRow.holds Try.pinned (OpenSpec.upto inspectLastSpec)

/-- 'bikesharelaw48.InspectKinds', WHERE WHAT IT READS IS OF BULK AT MOST 1048576: true; the input reads as it did. -/
def inspectKindsUptoRow : OpenClaim := { program := "ytnjgckkbhlcjoaa", sum := "3f16d165c829d7f87170e0d97ecdc0aa25795cec31bcfb5a0d469c072a6264ee", func := "bikeshare/bikesharelaw48.InspectKinds", spec := "inspectKinds", unfollowed := true, recurses := true, plainKeys := false, apart := false, narrowed := true }
def InspectKindsUptoSaid : Prop := inspectKindsUptoRow.holds Try.pinned (OpenSpec.upto inspectKindsSpec)

/-- 'bikesharelaw48.InspectDue', WHERE WHAT IT READS IS OF BULK AT MOST 1048576: true; the input reads as it did. -/
def inspectDueUptoRow : OpenClaim := { program := "ytnjgckkbhlcjoaa", sum := "3f16d165c829d7f87170e0d97ecdc0aa25795cec31bcfb5a0d469c072a6264ee", func := "bikeshare/bikesharelaw48.InspectDue", spec := "inspectDue", unfollowed := true, recurses := true, plainKeys := false, apart := false, narrowed := true }
def InspectDueUptoSaid : Prop := inspectDueUptoRow.holds Try.pinned (OpenSpec.upto inspectDueSpec)

/-- 'bikesharelaw48.InspectFresh', WHERE WHAT IT READS IS OF BULK AT MOST 1048576: true; the input reads as it did. -/
def inspectFreshUptoRow : OpenClaim := { program := "ytnjgckkbhlcjoaa", sum := "3f16d165c829d7f87170e0d97ecdc0aa25795cec31bcfb5a0d469c072a6264ee", func := "bikeshare/bikesharelaw48.InspectFresh", spec := "inspectFresh", unfollowed := true, recurses := true, plainKeys := false, apart := false, narrowed := true }
def InspectFreshUptoSaid : Prop := inspectFreshUptoRow.holds Try.pinned (OpenSpec.upto inspectFreshSpec)

/-- 'bikesharelaw48.InspectStays', WHERE WHAT IT READS IS OF BULK AT MOST 1048576: true; the input reads as it did. -/
def inspectStaysUptoRow : OpenClaim := { program := "ytnjgckkbhlcjoaa", sum := "3f16d165c829d7f87170e0d97ecdc0aa25795cec31bcfb5a0d469c072a6264ee", func := "bikeshare/bikesharelaw48.InspectStays", spec := "inspectStays", unfollowed := true, recurses := true, plainKeys := false, apart := false, narrowed := true }
def InspectStaysUptoSaid : Prop := inspectStaysUptoRow.holds Try.pinned (OpenSpec.upto inspectStaysSpec)

/-- 'bikesharelaw48.InspectOthers', WHERE WHAT IT READS IS OF BULK AT MOST 1048576: true; the input reads as it did. -/
def inspectOthersUptoRow : OpenClaim := { program := "ytnjgckkbhlcjoaa", sum := "3f16d165c829d7f87170e0d97ecdc0aa25795cec31bcfb5a0d469c072a6264ee", func := "bikeshare/bikesharelaw48.InspectOthers", spec := "inspectOthers", unfollowed := true, recurses := true, plainKeys := false, apart := false, narrowed := true }
def InspectOthersUptoSaid : Prop := inspectOthersUptoRow.holds Try.pinned (OpenSpec.upto inspectOthersSpec)

/-- 'bikesharelaw48.InspectBlocked', WHERE WHAT IT READS IS OF BULK AT MOST 1048576: true; the input reads as it did. -/
def inspectBlockedUptoRow : OpenClaim := { program := "ytnjgckkbhlcjoaa", sum := "3f16d165c829d7f87170e0d97ecdc0aa25795cec31bcfb5a0d469c072a6264ee", func := "bikeshare/bikesharelaw48.InspectBlocked", spec := "inspectBlocked", unfollowed := true, recurses := true, plainKeys := false, apart := false, narrowed := true }
def InspectBlockedUptoSaid : Prop := inspectBlockedUptoRow.holds Try.pinned (OpenSpec.upto inspectBlockedSpec)

end Rows
end Go.Proofs.Ytnjgckkbhlcjoaa
