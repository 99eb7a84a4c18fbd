/-
  The translated codes of functions, checked by the kernel.
-/
import Derived.Test.YthgnbkcopapbmaaKc
import Derived.KernelRfl
namespace Go.Proofs.Ythgnbkcopapbmaa
set_option linter.unusedVariables false
set_option linter.unusedSimpArgs false
set_option linter.unnecessarySimpa false
theorem Edmix : Try.prog.follows .mixedOrders = true := by kernel_rfl
def ac26 : ACode :=
 (.seq (.reg [⟨(some 1), none, (.boxv (.t 0))⟩,
  ⟨(some 2), none, (.mv (.c (.sc (.slice none 0 0))))⟩,
  ⟨(some 3), none, (.mv (.c (.sc (.int .i64 (0)))))⟩] none)
 (.seq (.reg [⟨(some 4), none, (.load 13 true (.t 1))⟩,
  ⟨(some 5), none, (.faddr 8 (.t 1))⟩,
  ⟨(some 6), none, (.load 1 false (.t 5))⟩,
  ⟨(some 7), none, (.mkfst 45 (.t 6))⟩,
  ⟨(some 8), none, (.call 43 [(.t 4), (.c (.sc (.func (.func 44) #[] #[]))), (.t 7)])⟩,
  ⟨(some 9), none, (.ext 0 (.t 8))⟩,
  ⟨(some 10), none, (.ext 1 (.t 8))⟩,
  ⟨(some 2), none, (.mv (.t 9))⟩,
  ⟨(some 3), none, (.mv (.t 10))⟩] none) .ret))
theorem good26 {args : List PV} {r : PV} (hl : args.length ≤ 11) (h : Run Try.prog [.code ac26] (endQ [(.t 2), (.t 3)] r) ⟨initT 0 args, [], 0, 11⟩) : Good Try.prog 26 args r :=
  good_run (by kernel_rfl) Edmix Try.func26 rfl (hs := []) (hs' := []) (by kernel_rfl) hl h
def ac27 : ACode :=
 (.seq (.reg [⟨(some 1), none, (.boxv (.t 0))⟩,
  ⟨(some 2), none, (.mv (.c (.sc (.slice none 0 0))))⟩,
  ⟨(some 3), none, (.mv (.c (.sc (.int .i64 (0)))))⟩] none)
 (.seq (.reg [⟨(some 4), none, (.load 13 true (.t 1))⟩,
  ⟨(some 5), none, (.faddr 8 (.t 1))⟩,
  ⟨(some 6), none, (.load 1 false (.t 5))⟩,
  ⟨(some 7), none, (.mkfst 47 (.t 6))⟩,
  ⟨(some 8), none, (.call 43 [(.t 4), (.c (.sc (.func (.func 46) #[] #[]))), (.t 7)])⟩,
  ⟨(some 9), none, (.ext 0 (.t 8))⟩,
  ⟨(some 10), none, (.ext 1 (.t 8))⟩,
  ⟨(some 2), none, (.mv (.t 9))⟩,
  ⟨(some 3), none, (.mv (.t 10))⟩] none) .ret))
theorem good27 {args : List PV} {r : PV} (hl : args.length ≤ 11) (h : Run Try.prog [.code ac27] (endQ [(.t 2), (.t 3)] r) ⟨initT 0 args, [], 0, 11⟩) : Good Try.prog 27 args r :=
  good_run (by kernel_rfl) Edmix Try.func27 rfl (hs := []) (hs' := []) (by kernel_rfl) hl h
end Go.Proofs.Ythgnbkcopapbmaa
