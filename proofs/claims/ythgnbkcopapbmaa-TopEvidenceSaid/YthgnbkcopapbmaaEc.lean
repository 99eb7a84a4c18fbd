/-
  The translated codes of functions, checked by the kernel.
-/
import Derived.Test.YthgnbkcopapbmaaKc
import Derived.KernelRfl
namespace Go.Proofs.Ythgnbkcopapbmaa
set_option linter.unusedVariables false
set_option linter.unusedSimpArgs false
set_option linter.unnecessarySimpa false
theorem Ecmix : Try.prog.follows .mixedOrders = true := by kernel_rfl
def ac43 : ACode :=
 (.seq (.reg [⟨(some 3), none, (.boxv (.t 0))⟩,
  ⟨(some 6), none, (.mv (.c (.sc (.slice none 0 0))))⟩,
  ⟨(some 7), none, (.mv (.c (.sc (.int .i64 (0)))))⟩] none)
 (.seq (.reg [⟨(some 11), none, (.load 13 true (.t 3))⟩,
  ⟨(some 12), none, (.call 10 [(.t 11)])⟩,
  ⟨(some 10), none, (.mv (.t 12))⟩,
  ⟨(some 13), none, (.ext 0 (.t 10))⟩,
  ⟨(some 14), none, (.ext 1 (.t 10))⟩,
  ⟨(some 8), none, (.new [(.sc (.int .i64 (0))), (.sc (.int .i64 (0)))])⟩,
  ⟨none, none, (.store 2 (.t 8) (.t 13))⟩,
  ⟨(some 9), none, (.mv (.t 14))⟩] none)
 (.seq (.seq (.reg [⟨(some 15), none, (.mv (.t 9))⟩,
  ⟨(some 16), none, (.bin .neq (.t 15) (.c (.sc (.int .i64 (0)))))⟩] none)
 (.cond (.t 16)
 (.seq (.reg [⟨(some 17), none, (.mv (.t 9))⟩,
  ⟨(some 6), none, (.mv (.c (.sc (.slice none 0 0))))⟩,
  ⟨(some 7), none, (.mv (.t 17))⟩] none) .ret) .skip))
 (.seq (.reg [⟨(some 18), none, (.mv (.t 1))⟩,
  ⟨(some 19), none, (.load 2 true (.t 8))⟩,
  ⟨(some 20), none, (.bslice 48 2 [(.t 19)])⟩,
  ⟨(some 21), none, (.mv (.t 2))⟩,
  ⟨(some 22), none, (.callv (.t 21) [])⟩,
  ⟨(some 23), none, (.callv (.t 18) [(.t 20), (.t 22)])⟩,
  ⟨(some 24), none, (.ext 0 (.t 23))⟩,
  ⟨(some 25), none, (.ext 1 (.t 23))⟩,
  ⟨(some 6), none, (.mv (.t 24))⟩,
  ⟨(some 7), none, (.mv (.t 25))⟩] (some [[], [], [1], [], [3], [0, 2, 4, 1, 3], [5, 0, 2, 4, 1, 3], [5, 0, 2, 4, 1, 3], [6, 5, 0, 1, 2, 3, 4, 7], [7, 8, 0, 1, 2, 3, 4, 5, 6]])) .ret))))
theorem good43 {args : List PV} {r : PV} (hl : args.length ≤ 26) (h : Run Try.prog [.code ac43] (endQ [(.t 6), (.t 7)] r) ⟨initT 0 args, [], 0, 26⟩) : Good Try.prog 43 args r :=
  good_run (by kernel_rfl) Ecmix Try.func43 rfl (hs := []) (hs' := []) (by kernel_rfl) hl h
end Go.Proofs.Ythgnbkcopapbmaa
