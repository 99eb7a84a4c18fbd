/-
  The translated codes of functions, checked by the kernel.
-/
import Derived.Test.YthgnbkcopapbmaaKc
import Derived.KernelRfl
namespace Go.Proofs.Ythgnbkcopapbmaa
set_option linter.unusedVariables false
set_option linter.unusedSimpArgs false
set_option linter.unnecessarySimpa false
theorem Eemix : Try.prog.follows .mixedOrders = true := by kernel_rfl
def ac9 : ACode :=
 (.seq (.reg [⟨(some 2), none, (.boxv (.t 0))⟩,
  ⟨(some 4), none, (.new [(.sc (.int .i64 (0))), (.sc (.int .i64 (0))), (.sc (.int .i64 (0))), (.sc (.int .i64 (0))), (.sc (.int .i64 (0))), (.sc (.int .i64 (0))), (.sc (.bool false)), (.sc (.slice none 0 0)), (.sc (.slice none 0 0)), (.sc (.int .i64 (0))), (.sc (.int .i64 (0))), (.sc (.int .i64 (0))), (.sc (.int .i64 (0)))])⟩,
  ⟨(some 5), none, (.mv (.c (.sc (.slice none 0 0))))⟩,
  ⟨(some 6), none, (.mv (.c (.sc (.int .i64 (0)))))⟩] none)
 (.seq (.seq (.reg [⟨(some 13), none, (.load 13 true (.t 2))⟩,
  ⟨(some 14), none, (.call 23 [(.t 13)])⟩,
  ⟨(some 7), none, (.mv (.t 14))⟩] none)
 (.seq (.reg [⟨(some 15), none, (.mv (.t 7))⟩,
  ⟨(some 16), none, (.bin .neq (.t 15) (.c (.sc (.int .i64 (0)))))⟩] none)
 (.cond (.t 16)
 (.seq (.reg [⟨(some 17), none, (.build [(.sc (.int .i64 (0))), (.sc (.int .i64 (0))), (.sc (.int .i64 (0))), (.sc (.int .i64 (0))), (.sc (.int .i64 (0))), (.sc (.int .i64 (0))), (.sc (.bool false)), (.sc (.slice none 0 0)), (.sc (.slice none 0 0)), (.sc (.int .i64 (0))), (.sc (.int .i64 (0))), (.sc (.int .i64 (0))), (.sc (.int .i64 (0)))] [])⟩,
  ⟨(some 18), none, (.mv (.t 7))⟩,
  ⟨none, none, (.store 13 (.t 4) (.t 17))⟩,
  ⟨(some 5), none, (.mv (.c (.sc (.slice none 0 0))))⟩,
  ⟨(some 6), none, (.mv (.t 18))⟩] none) .ret) .skip)))
 (.seq (.seq (.reg [⟨(some 19), none, (.mv (.t 1))⟩,
  ⟨(some 20), none, (.len (.t 19))⟩,
  ⟨(some 21), none, (.bin .gtr (.t 20) (.c (.sc (.int .i64 (512)))))⟩] none)
 (.cond (.t 21)
 (.seq (.reg [⟨(some 22), none, (.build [(.sc (.int .i64 (0))), (.sc (.int .i64 (0))), (.sc (.int .i64 (0))), (.sc (.int .i64 (0))), (.sc (.int .i64 (0))), (.sc (.int .i64 (0))), (.sc (.bool false)), (.sc (.slice none 0 0)), (.sc (.slice none 0 0)), (.sc (.int .i64 (0))), (.sc (.int .i64 (0))), (.sc (.int .i64 (0))), (.sc (.int .i64 (0)))] [])⟩,
  ⟨none, none, (.store 13 (.t 4) (.t 22))⟩,
  ⟨(some 5), none, (.mv (.c (.sc (.slice none 0 0))))⟩,
  ⟨(some 6), none, (.mv (.c (.sc (.int .i64 (8)))))⟩] none) .ret) .skip))
 (.seq (.reg [⟨(some 23), none, (.load 13 true (.t 2))⟩,
  ⟨(some 24), none, (.call 24 [(.t 23)])⟩,
  ⟨(some 8), none, (.new [(.sc (.int .i64 (0))), (.sc (.int .i64 (0))), (.sc (.int .i64 (0))), (.sc (.int .i64 (0))), (.sc (.int .i64 (0))), (.sc (.int .i64 (0))), (.sc (.bool false)), (.sc (.slice none 0 0)), (.sc (.slice none 0 0)), (.sc (.int .i64 (0))), (.sc (.int .i64 (0))), (.sc (.int .i64 (0))), (.sc (.int .i64 (0)))])⟩,
  ⟨none, none, (.store 13 (.t 8) (.t 24))⟩] none)
 (.seq (.reg [⟨(some 25), none, (.mkclo 25 (.t 8))⟩,
  ⟨(some 9), none, (.mv (.t 25))⟩] none)
 (.seq (.reg [⟨(some 10), none, (.mv (.c (.sc (.slice none 0 0))))⟩] none)
 (.seq (.seq (.reg [⟨(some 26), none, (.mv (.t 1))⟩,
  ⟨(some 27), none, (.len (.t 26))⟩,
  ⟨(some 28), none, (.mv (.c (.sc (.int .i64 (0)))))⟩] none) (.block 0 
 (.loop ⟨[4, 8, 9, 10, 26, 27, 28], [(10, (3, 1))]⟩
 (.seq (.reg [⟨(some 29), none, (.bin .lss (.t 28) (.t 27))⟩] none)
 (.seq
 (.cond (.t 29) .skip (.exit 0))
 (.seq (.block 1
 (.seq (.reg [⟨(some 30), none, (.mv (.t 28))⟩,
  ⟨(some 31), none, (.iaddr 3 (.t 26) (.t 28))⟩,
  ⟨(some 32), none, (.load 3 true (.t 31))⟩,
  ⟨(some 12), none, (.new [(.sc (.int .i64 (0))), (.sc (.int .i64 (0))), (.sc (.int .i64 (0)))])⟩,
  ⟨(some 11), none, (.mv (.t 30))⟩,
  ⟨none, none, (.store 3 (.t 12) (.t 32))⟩] none)
 (.seq (.reg [⟨(some 33), none, (.mv (.t 9))⟩,
  ⟨(some 34), none, (.load 3 true (.t 12))⟩,
  ⟨(some 35), none, (.callv (.t 33) [(.t 34)])⟩,
  ⟨(some 36), none, (.un .not (.t 35))⟩] none)
 (.cond (.t 36) (.reg [⟨(some 37), none, (.mv (.t 10))⟩,
  ⟨(some 38), none, (.mv (.t 11))⟩,
  ⟨(some 39), none, (.bslice 3 1 [(.t 38)])⟩,
  ⟨(some 40), none, (.append 3 1 8 (.t 37) (.t 39))⟩,
  ⟨(some 10), none, (.mv (.t 40))⟩] none) .skip)))) (.reg [⟨(some 41), none, (.bin .add (.t 28) (.c (.sc (.int .i64 (1)))))⟩,
  ⟨(some 28), none, (.mv (.t 41))⟩] none)))))))
 (.seq (.reg [⟨(some 42), none, (.load 13 true (.t 8))⟩,
  ⟨(some 43), none, (.mv (.t 10))⟩,
  ⟨none, none, (.store 13 (.t 4) (.t 42))⟩,
  ⟨(some 5), none, (.mv (.t 43))⟩,
  ⟨(some 6), none, (.mv (.c (.sc (.int .i64 (0)))))⟩] none) .ret))))))))
theorem good9 {args : List PV} {r : PV} (hl : args.length ≤ 44) (h : Run Try.prog [.code ac9] (endQ [(.c 4 13 true), (.t 5), (.t 6)] r) ⟨initT 0 args, [], 0, 44⟩) : Good Try.prog 9 args r :=
  good_run (by kernel_rfl) Eemix Try.func9 rfl (hs := [⟨[4, 8, 9, 10, 26, 27, 28], [(10, 3, 1)]⟩]) (hs' := []) (by kernel_rfl) hl h
end Go.Proofs.Ythgnbkcopapbmaa
