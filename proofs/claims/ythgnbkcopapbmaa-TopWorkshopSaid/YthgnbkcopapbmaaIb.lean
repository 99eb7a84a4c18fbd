/-
  The translated codes of functions, checked by the kernel.
-/
import Derived.Test.YthgnbkcopapbmaaKc
import Derived.KernelRfl
namespace Go.Proofs.Ythgnbkcopapbmaa
set_option linter.unusedVariables false
set_option linter.unusedSimpArgs false
set_option linter.unnecessarySimpa false
theorem Ibmix : Try.prog.follows .mixedOrders = true := by kernel_rfl
def ac17 : ACode :=
 (.seq (.reg [⟨(some 2), none, (.mv (.c (.sc (.int .i64 (0)))))⟩] none)
 (.seq (.seq (.reg [⟨(some 9), none, (.mv (.t 0))⟩,
  ⟨(some 10), none, (.len (.t 9))⟩,
  ⟨(some 11), none, (.bin .gtr (.t 10) (.c (.sc (.int .i64 (512)))))⟩] none)
 (.cond (.t 11)
 (.seq (.reg [⟨(some 2), none, (.mv (.c (.sc (.int .i64 (8)))))⟩] none) .ret) .skip))
 (.seq (.seq (.reg [⟨(some 12), none, (.mv (.t 0))⟩,
  ⟨(some 13), none, (.len (.t 12))⟩,
  ⟨(some 14), none, (.mv (.c (.sc (.int .i64 (0)))))⟩] none) (.block 0 
 (.loop ⟨[0, 12, 13, 14], []⟩
 (.seq (.reg [⟨(some 15), none, (.bin .lss (.t 14) (.t 13))⟩] none)
 (.seq
 (.cond (.t 15) .skip (.exit 0))
 (.seq (.block 1
 (.seq (.reg [⟨(some 16), none, (.iaddr 4 (.t 12) (.t 14))⟩,
  ⟨(some 17), none, (.load 4 true (.t 16))⟩,
  ⟨(some 4), none, (.new [(.sc (.int .i64 (0))), (.sc (.int .i64 (0))), (.sc (.int .i64 (0))), (.sc (.bool false))])⟩,
  ⟨none, none, (.store 4 (.t 4) (.t 17))⟩] none) (.block 2
 (.seq (.reg [⟨(some 19), none, (.faddr 0 (.t 4))⟩,
  ⟨(some 20), none, (.load 1 false (.t 19))⟩,
  ⟨(some 21), none, (.bin .lss (.t 20) (.c (.sc (.int .i64 (0)))))⟩,
  ⟨(some 22), none, (.mv (.t 21))⟩,
  ⟨(some 23), (some (22, false)), (.faddr 0 (.t 4))⟩,
  ⟨(some 24), (some (22, false)), (.load 1 false (.t 23))⟩,
  ⟨(some 25), (some (22, false)), (.bin .geq (.t 24) (.c (.sc (.int .i64 (128)))))⟩,
  ⟨(some 26), none, (.pick (.t 22) (.c (.sc (.bool true))) (.t 25))⟩,
  ⟨(some 18), none, (.mv (.t 26))⟩] none)
 (.cond (.t 18)
 (.seq (.reg [⟨(some 2), none, (.mv (.c (.sc (.int .i64 (1)))))⟩] none) .ret)
 (.seq (.reg [⟨(some 28), none, (.faddr 1 (.t 4))⟩,
  ⟨(some 29), none, (.load 1 false (.t 28))⟩,
  ⟨(some 30), none, (.call 33 [(.t 29)])⟩,
  ⟨(some 31), none, (.un .not (.t 30))⟩,
  ⟨(some 27), none, (.mv (.t 31))⟩] none)
 (.cond (.t 27)
 (.seq (.reg [⟨(some 2), none, (.mv (.c (.sc (.int .i64 (14)))))⟩] none) .ret)
 (.seq (.reg [⟨(some 33), none, (.faddr 2 (.t 4))⟩,
  ⟨(some 34), none, (.load 1 false (.t 33))⟩,
  ⟨(some 35), none, (.bin .lss (.t 34) (.c (.sc (.int .i64 (0)))))⟩,
  ⟨(some 36), none, (.mv (.t 35))⟩,
  ⟨(some 37), (some (36, false)), (.faddr 2 (.t 4))⟩,
  ⟨(some 38), (some (36, false)), (.load 1 false (.t 37))⟩,
  ⟨(some 39), (some (36, false)), (.bin .gtr (.t 38) (.c (.sc (.int .i64 (4294943999)))))⟩,
  ⟨(some 40), none, (.pick (.t 36) (.c (.sc (.bool true))) (.t 39))⟩,
  ⟨(some 32), none, (.mv (.t 40))⟩] none)
 (.cond (.t 32)
 (.seq (.reg [⟨(some 2), none, (.mv (.c (.sc (.int .i64 (1)))))⟩] none) .ret) .skip))))))))) (.reg [⟨(some 41), none, (.bin .add (.t 14) (.c (.sc (.int .i64 (1)))))⟩,
  ⟨(some 14), none, (.mv (.t 41))⟩] none)))))))
 (.seq (.reg [⟨(some 42), none, (.mkmap 90)⟩,
  ⟨(some 5), none, (.mv (.t 42))⟩] none)
 (.seq (.seq (.reg [⟨(some 43), none, (.mv (.t 0))⟩,
  ⟨(some 44), none, (.len (.t 43))⟩,
  ⟨(some 45), none, (.mv (.c (.sc (.int .i64 (0)))))⟩] none) (.block 3 
 (.loop ⟨[5, 43, 44, 45], []⟩
 (.seq (.reg [⟨(some 46), none, (.bin .lss (.t 45) (.t 44))⟩] none)
 (.seq
 (.cond (.t 46) .skip (.exit 3))
 (.seq (.block 4
 (.seq (.reg [⟨(some 47), none, (.iaddr 4 (.t 43) (.t 45))⟩,
  ⟨(some 48), none, (.load 4 true (.t 47))⟩,
  ⟨(some 7), none, (.new [(.sc (.int .i64 (0))), (.sc (.int .i64 (0))), (.sc (.int .i64 (0))), (.sc (.bool false))])⟩,
  ⟨none, none, (.store 4 (.t 7) (.t 48))⟩] none)
 (.seq (.reg [⟨(some 49), none, (.faddr 0 (.t 7))⟩,
  ⟨(some 50), none, (.load 1 false (.t 49))⟩,
  ⟨(some 51), none, (.faddr 1 (.t 7))⟩,
  ⟨(some 52), none, (.load 1 false (.t 51))⟩,
  ⟨(some 53), none, (.faddr 2 (.t 7))⟩,
  ⟨(some 54), none, (.load 1 false (.t 53))⟩,
  ⟨(some 55), none, (.build [(.sc (.int .i64 (0))), (.sc (.int .i64 (0))), (.sc (.int .i64 (0)))] [(0, (1, (.t 50))), (1, (1, (.t 52))), (2, (1, (.t 54)))])⟩,
  ⟨(some 8), none, (.new [(.sc (.int .i64 (0))), (.sc (.int .i64 (0))), (.sc (.int .i64 (0)))])⟩,
  ⟨none, none, (.store 3 (.t 8) (.t 55))⟩] none)
 (.seq (.seq (.reg [⟨(some 56), none, (.mv (.t 5))⟩,
  ⟨(some 57), none, (.load 3 true (.t 8))⟩,
  ⟨(some 58), none, (.mlook false 90 (.arr 3 .i64) (.bool false) (.t 56) (.t 57))⟩] none)
 (.cond (.t 58)
 (.seq (.reg [⟨(some 2), none, (.mv (.c (.sc (.int .i64 (6)))))⟩] none) .ret) .skip)) (.reg [⟨(some 59), none, (.mv (.t 5))⟩,
  ⟨(some 60), none, (.load 3 true (.t 8))⟩,
  ⟨none, none, (.mupd 90 (.arr 3 .i64) (.t 59) (.t 60) (.c (.sc (.bool true))))⟩] none))))) (.reg [⟨(some 61), none, (.bin .add (.t 45) (.c (.sc (.int .i64 (1)))))⟩,
  ⟨(some 45), none, (.mv (.t 61))⟩] none)))))))
 (.seq (.reg [⟨(some 2), none, (.mv (.c (.sc (.int .i64 (0)))))⟩] none) .ret))))))
theorem good17 {args : List PV} {r : PV} (hl : args.length ≤ 62) (h : Run Try.prog [.code ac17] (endQ [(.t 2)] r) ⟨initT 0 args, [], 0, 62⟩) : Good Try.prog 17 args r :=
  good_run (by kernel_rfl) Ibmix Try.func17 rfl (hs := [⟨[0, 12, 13, 14], []⟩, ⟨[5, 43, 44, 45], []⟩]) (hs' := []) (by kernel_rfl) hl h
end Go.Proofs.Ythgnbkcopapbmaa
