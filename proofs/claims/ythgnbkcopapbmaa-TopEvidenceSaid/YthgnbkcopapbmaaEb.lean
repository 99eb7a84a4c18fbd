/-
  The translated codes of functions, checked by the kernel.
-/
import Derived.Test.YthgnbkcopapbmaaKc
import Derived.KernelRfl
namespace Go.Proofs.Ythgnbkcopapbmaa
set_option linter.unusedVariables false
set_option linter.unusedSimpArgs false
set_option linter.unnecessarySimpa false
theorem Ebmix : Try.prog.follows .mixedOrders = true := by kernel_rfl
def ac48 : ACode :=
 (.seq (.reg [⟨(some 2), none, (.mv (.c (.sc (.slice none 0 0))))⟩,
  ⟨(some 3), none, (.mv (.c (.sc (.int .i64 (0)))))⟩] none)
 (.seq (.reg [⟨(some 9), none, (.mv (.t 0))⟩,
  ⟨(some 10), none, (.len (.t 9))⟩,
  ⟨(some 11), none, (.mk 48 2 16 [(.sc (.int .i64 (0))), (.sc (.int .i64 (0)))] (.t 10) (.t 10))⟩,
  ⟨(some 4), none, (.mv (.t 11))⟩] none)
 (.seq (.reg [⟨(some 12), none, (.mv (.t 4))⟩,
  ⟨(some 13), none, (.mv (.t 0))⟩,
  ⟨(some 14), none, (.copy 2 (.t 12) (.t 13))⟩] none)
 (.seq (.seq (.reg [⟨(some 15), none, (.mv (.t 4))⟩,
  ⟨(some 16), none, (.call 66 [(.t 15), (.c (.sc (.func (.func 67) #[] #[])))])⟩] none)
 (.cond (.t 16)
 (.seq (.reg [⟨(some 2), none, (.mv (.c (.sc (.slice none 0 0))))⟩,
  ⟨(some 3), none, (.mv (.c (.sc (.int .i64 (1)))))⟩] none) .ret) .skip))
 (.seq (.reg [⟨(some 17), none, (.mv (.t 4))⟩,
  ⟨(some 18), none, (.call 69 [(.t 17), (.c (.sc (.func (.func 70) #[] #[])))])⟩] none)
 (.seq (.reg [⟨(some 5), none, (.mv (.c (.sc (.slice none 0 0))))⟩] none)
 (.seq (.seq (.reg [⟨(some 19), none, (.mv (.t 4))⟩,
  ⟨(some 20), none, (.len (.t 19))⟩,
  ⟨(some 21), none, (.mv (.c (.sc (.int .i64 (0)))))⟩] none) (.block 0 
 (.loop ⟨[5, 19, 20, 21], [(5, (48, 2))]⟩
 (.seq (.reg [⟨(some 22), none, (.bin .lss (.t 21) (.t 20))⟩] none)
 (.seq
 (.cond (.t 22) .skip (.exit 0))
 (.seq (.block 1
 (.seq (.reg [⟨(some 23), none, (.iaddr 2 (.t 19) (.t 21))⟩,
  ⟨(some 24), none, (.load 2 true (.t 23))⟩,
  ⟨(some 7), none, (.new [(.sc (.int .i64 (0))), (.sc (.int .i64 (0)))])⟩,
  ⟨none, none, (.store 2 (.t 7) (.t 24))⟩] none)
 (.seq (.reg [⟨(some 25), none, (.mv (.t 5))⟩,
  ⟨(some 26), none, (.len (.t 25))⟩,
  ⟨(some 27), none, (.bin .sub (.t 26) (.c (.sc (.int .i64 (1)))))⟩,
  ⟨(some 8), none, (.mv (.t 27))⟩] none) (.block 2
 (.seq (.reg [⟨(some 33), none, (.faddr 0 (.t 7))⟩,
  ⟨(some 34), none, (.load 1 false (.t 33))⟩,
  ⟨(some 35), none, (.faddr 1 (.t 7))⟩,
  ⟨(some 36), none, (.load 1 false (.t 35))⟩,
  ⟨(some 37), none, (.bin .eql (.t 34) (.t 36))⟩,
  ⟨(some 32), none, (.mv (.t 37))⟩] none)
 (.cond (.t 32) .skip
 (.seq (.reg [⟨(some 39), none, (.mv (.t 8))⟩,
  ⟨(some 40), none, (.bin .geq (.t 39) (.c (.sc (.int .i64 (0)))))⟩,
  ⟨(some 41), none, (.mv (.t 40))⟩,
  ⟨(some 42), (some (41, true)), (.faddr 0 (.t 7))⟩,
  ⟨(some 43), (some (41, true)), (.load 1 false (.t 42))⟩,
  ⟨(some 44), (some (41, true)), (.mv (.t 5))⟩,
  ⟨(some 45), (some (41, true)), (.mv (.t 8))⟩,
  ⟨(some 46), (some (41, true)), (.iaddr 2 (.t 44) (.t 45))⟩,
  ⟨(some 47), (some (41, true)), (.faddr 1 (.t 46))⟩,
  ⟨(some 48), (some (41, true)), (.load 1 false (.t 47))⟩,
  ⟨(some 49), (some (41, true)), (.bin .leq (.t 43) (.t 48))⟩,
  ⟨(some 50), none, (.pick (.t 41) (.t 49) (.c (.sc (.bool false))))⟩,
  ⟨(some 38), none, (.mv (.t 50))⟩] (some [[], [0], [1, 0], [2, 1, 0], [3, 2, 1, 0], [2, 1, 0], [2, 1, 0], [5, 6, 2, 1, 0], [7, 2, 5, 6, 1, 0], [8, 2, 7, 5, 6, 1, 0], [4, 9, 2, 3, 1, 0, 8, 7, 5, 6], [2, 10, 1, 0, 4, 9, 3, 8, 7, 5, 6], [11, 2, 10, 1, 0, 4, 9, 3, 8, 7, 5, 6]]))
 (.cond (.t 38) (.reg [⟨(some 51), none, (.mv (.t 5))⟩,
  ⟨(some 52), none, (.mv (.t 8))⟩,
  ⟨(some 53), none, (.mv (.t 5))⟩,
  ⟨(some 54), none, (.mv (.t 8))⟩,
  ⟨(some 55), none, (.iaddr 2 (.t 53) (.t 54))⟩,
  ⟨(some 56), none, (.faddr 1 (.t 55))⟩,
  ⟨(some 57), none, (.load 1 false (.t 56))⟩,
  ⟨(some 58), none, (.faddr 1 (.t 7))⟩,
  ⟨(some 59), none, (.load 1 false (.t 58))⟩,
  ⟨(some 60), none, (.mx (.t 57) (.t 59))⟩,
  ⟨(some 61), none, (.iaddr 2 (.t 51) (.t 52))⟩,
  ⟨(some 62), none, (.faddr 1 (.t 61))⟩,
  ⟨none, none, (.store 1 (.t 62) (.t 60))⟩] (some [[], [], [], [], [2, 3], [4, 2, 3], [5, 4, 2, 3], [], [7], [6, 8, 5, 4, 2, 3, 7], [0, 1, 2, 3, 4, 5, 6, 7, 8, 9], [10, 0, 1, 2, 3, 4, 5, 6, 7, 8, 9], [11, 9, 0, 1, 2, 3, 4, 5, 6, 7, 8, 10]])) (.reg [⟨(some 28), none, (.mv (.t 5))⟩,
  ⟨(some 29), none, (.load 2 true (.t 7))⟩,
  ⟨(some 30), none, (.bslice 48 2 [(.t 29)])⟩,
  ⟨(some 31), none, (.append 48 2 16 (.t 28) (.t 30))⟩,
  ⟨(some 5), none, (.mv (.t 31))⟩] none))))))))) (.reg [⟨(some 63), none, (.bin .add (.t 21) (.c (.sc (.int .i64 (1)))))⟩,
  ⟨(some 21), none, (.mv (.t 63))⟩] none)))))))
 (.seq (.reg [⟨(some 64), none, (.mv (.t 5))⟩,
  ⟨(some 2), none, (.mv (.t 64))⟩,
  ⟨(some 3), none, (.mv (.c (.sc (.int .i64 (0)))))⟩] none) .ret))))))))
theorem good48 {args : List PV} {r : PV} (hl : args.length ≤ 65) (h : Run Try.prog [.code ac48] (endQ [(.t 2), (.t 3)] r) ⟨initT 0 args, [], 0, 65⟩) : Good Try.prog 48 args r :=
  good_run (by kernel_rfl) Ebmix Try.func48 rfl (hs := [⟨[5, 19, 20, 21], [(5, 48, 2)]⟩]) (hs' := []) (by kernel_rfl) hl h
end Go.Proofs.Ythgnbkcopapbmaa
