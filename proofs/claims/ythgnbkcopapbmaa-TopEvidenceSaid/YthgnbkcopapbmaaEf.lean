/-
  The translated codes of functions, checked by the kernel.
-/
import Derived.Test.YthgnbkcopapbmaaKc
import Derived.KernelRfl
namespace Go.Proofs.Ythgnbkcopapbmaa
set_option linter.unusedVariables false
set_option linter.unusedSimpArgs false
set_option linter.unnecessarySimpa false
theorem Efmix : Try.prog.follows .mixedOrders = true := by kernel_rfl
def ac25 : ACode :=
 (.seq (.reg [⟨(some 2), none, (.boxv (.t 0))⟩,
  ⟨(some 3), none, (.mv (.c (.sc (.bool false))))⟩] none)
 (.seq (.reg [⟨(some 7), none, (.load 13 true (.t 1))⟩,
  ⟨(some 8), none, (.load 3 true (.t 2))⟩,
  ⟨(some 9), none, (.call 22 [(.t 7), (.t 8)])⟩,
  ⟨(some 6), none, (.mv (.t 9))⟩,
  ⟨(some 10), none, (.ext 0 (.t 6))⟩,
  ⟨(some 11), none, (.ext 1 (.t 6))⟩,
  ⟨(some 4), none, (.new [(.sc (.int .i64 (0))), (.sc (.int .i64 (0))), (.sc (.int .i64 (0))), (.sc (.int .i64 (0))), (.sc (.int .i64 (0))), (.sc (.int .i64 (0))), (.sc (.bool false)), (.sc (.slice none 0 0)), (.sc (.slice none 0 0)), (.sc (.int .i64 (0))), (.sc (.int .i64 (0))), (.sc (.int .i64 (0))), (.sc (.int .i64 (0)))])⟩,
  ⟨none, none, (.store 13 (.t 4) (.t 10))⟩,
  ⟨(some 5), none, (.mv (.t 11))⟩] none)
 (.seq (.seq (.reg [⟨(some 12), none, (.mv (.t 5))⟩,
  ⟨(some 13), none, (.bin .eql (.t 12) (.c (.sc (.int .i64 (0)))))⟩] none)
 (.cond (.t 13) (.reg [⟨(some 14), none, (.load 13 true (.t 4))⟩,
  ⟨none, none, (.store 13 (.t 1) (.t 14))⟩] none) .skip))
 (.seq (.reg [⟨(some 15), none, (.mv (.t 5))⟩,
  ⟨(some 16), none, (.bin .eql (.t 15) (.c (.sc (.int .i64 (0)))))⟩,
  ⟨(some 3), none, (.mv (.t 16))⟩] none) .ret))))
theorem good25 {args : List PV} {r : PV} (hl : args.length ≤ 17) (h : Run Try.prog [.code ac25] (endQ [(.t 3)] r) ⟨initT 0 args, [], 0, 17⟩) : Good Try.prog 25 args r :=
  good_run (by kernel_rfl) Efmix Try.func25 rfl (hs := []) (hs' := []) (by kernel_rfl) hl h
end Go.Proofs.Ythgnbkcopapbmaa
