/-
  The translated codes of functions, checked by the kernel.
-/
import Derived.Test.YthgnbkcopapbmaaKc
import Derived.KernelRfl
namespace Go.Proofs.Ythgnbkcopapbmaa
set_option linter.unusedVariables false
set_option linter.unusedSimpArgs false
set_option linter.unnecessarySimpa false
theorem Ramix : Try.prog.follows .mixedOrders = true := by kernel_rfl
def ac64 : ACode :=
 (.seq (.reg [⟨(some 1), none, (.boxv (.t 0))⟩,
  ⟨(some 2), none, (.mv (.c (.sc (.bool false))))⟩] none)
 (.seq (.reg [⟨(some 3), none, (.faddr 0 (.t 1))⟩,
  ⟨(some 4), none, (.load 1 false (.t 3))⟩,
  ⟨(some 5), none, (.bin .geq (.t 4) (.c (.sc (.int .i64 (0)))))⟩,
  ⟨(some 6), none, (.mv (.t 5))⟩,
  ⟨(some 7), (some (6, true)), (.faddr 0 (.t 1))⟩,
  ⟨(some 8), (some (6, true)), (.load 1 false (.t 7))⟩,
  ⟨(some 9), (some (6, true)), (.faddr 1 (.t 1))⟩,
  ⟨(some 10), (some (6, true)), (.load 1 false (.t 9))⟩,
  ⟨(some 11), (some (6, true)), (.bin .leq (.t 8) (.t 10))⟩,
  ⟨(some 12), none, (.pick (.t 6) (.t 11) (.c (.sc (.bool false))))⟩,
  ⟨(some 13), none, (.mv (.t 12))⟩,
  ⟨(some 14), (some (13, true)), (.faddr 1 (.t 1))⟩,
  ⟨(some 15), (some (13, true)), (.load 1 false (.t 14))⟩,
  ⟨(some 16), (some (13, true)), (.bin .leq (.t 15) (.c (.sc (.int .i64 (4294943999)))))⟩,
  ⟨(some 17), none, (.pick (.t 13) (.t 16) (.c (.sc (.bool false))))⟩,
  ⟨(some 2), none, (.mv (.t 17))⟩] none) .ret))
theorem good64 {args : List PV} {r : PV} (hl : args.length ≤ 18) (h : Run Try.prog [.code ac64] (endQ [(.t 2)] r) ⟨initT 0 args, [], 0, 18⟩) : Good Try.prog 64 args r :=
  good_run (by kernel_rfl) Ramix Try.func64 rfl (hs := []) (hs' := []) (by kernel_rfl) hl h
def ac38 : ACode :=
 (.seq (.reg [⟨(some 1), none, (.boxv (.t 0))⟩,
  ⟨(some 2), none, (.mv (.c (.sc (.bool false))))⟩] none)
 (.seq (.seq (.reg [⟨(some 7), none, (.faddr 0 (.t 1))⟩,
  ⟨(some 8), none, (.load 1 false (.t 7))⟩,
  ⟨(some 9), none, (.bin .lss (.t 8) (.c (.sc (.int .i64 (1)))))⟩,
  ⟨(some 10), none, (.mv (.t 9))⟩,
  ⟨(some 11), (some (10, false)), (.faddr 0 (.t 1))⟩,
  ⟨(some 12), (some (10, false)), (.load 1 false (.t 11))⟩,
  ⟨(some 13), (some (10, false)), (.bin .gtr (.t 12) (.c (.sc (.int .i64 (1000000)))))⟩,
  ⟨(some 14), none, (.pick (.t 10) (.c (.sc (.bool true))) (.t 13))⟩,
  ⟨(some 15), none, (.mv (.t 14))⟩,
  ⟨(some 16), (some (15, false)), (.faddr 1 (.t 1))⟩,
  ⟨(some 17), (some (15, false)), (.load 1 false (.t 16))⟩,
  ⟨(some 18), (some (15, false)), (.bin .lss (.t 17) (.c (.sc (.int .i64 (0)))))⟩,
  ⟨(some 19), none, (.pick (.t 15) (.c (.sc (.bool true))) (.t 18))⟩,
  ⟨(some 20), none, (.mv (.t 19))⟩,
  ⟨(some 21), (some (20, false)), (.faddr 1 (.t 1))⟩,
  ⟨(some 22), (some (20, false)), (.load 1 false (.t 21))⟩,
  ⟨(some 23), (some (20, false)), (.bin .geq (.t 22) (.c (.sc (.int .i64 (128)))))⟩,
  ⟨(some 24), none, (.pick (.t 20) (.c (.sc (.bool true))) (.t 23))⟩,
  ⟨(some 25), none, (.mv (.t 24))⟩,
  ⟨(some 26), (some (25, false)), (.faddr 2 (.t 1))⟩,
  ⟨(some 27), (some (25, false)), (.load 2 true (.t 26))⟩,
  ⟨(some 28), (some (25, false)), (.call 64 [(.t 27)])⟩,
  ⟨(some 29), (some (25, false)), (.un .not (.t 28))⟩,
  ⟨(some 30), none, (.pick (.t 25) (.c (.sc (.bool true))) (.t 29))⟩,
  ⟨(some 31), none, (.mv (.t 30))⟩,
  ⟨(some 32), (some (31, false)), (.faddr 4 (.t 1))⟩,
  ⟨(some 33), (some (31, false)), (.load 2 true (.t 32))⟩,
  ⟨(some 34), (some (31, false)), (.call 64 [(.t 33)])⟩,
  ⟨(some 35), (some (31, false)), (.un .not (.t 34))⟩,
  ⟨(some 36), none, (.pick (.t 31) (.c (.sc (.bool true))) (.t 35))⟩] none)
 (.cond (.t 36)
 (.seq (.reg [⟨(some 2), none, (.mv (.c (.sc (.bool false))))⟩] none) .ret) .skip))
 (.seq (.seq (.reg [⟨(some 37), none, (.faddr 7 (.t 1))⟩,
  ⟨(some 38), none, (.load 1 false (.t 37))⟩,
  ⟨(some 39), none, (.len (.t 38))⟩,
  ⟨(some 40), none, (.mv (.c (.sc (.int .i64 (0)))))⟩] none) (.block 0 
 (.loop ⟨[1, 38, 39, 40], []⟩
 (.seq (.reg [⟨(some 41), none, (.bin .lss (.t 40) (.t 39))⟩] none)
 (.seq
 (.cond (.t 41) .skip (.exit 0))
 (.seq (.block 1
 (.seq (.reg [⟨(some 42), none, (.iaddr 5 (.t 38) (.t 40))⟩,
  ⟨(some 43), none, (.load 5 true (.t 42))⟩,
  ⟨(some 4), none, (.new [(.sc (.int .i64 (0))), (.sc (.int .i64 (0))), (.sc (.int .i64 (0))), (.sc (.int .i64 (0))), (.sc (.int .i64 (0)))])⟩,
  ⟨none, none, (.store 5 (.t 4) (.t 43))⟩] none)
 (.seq (.reg [⟨(some 44), none, (.faddr 1 (.t 4))⟩,
  ⟨(some 45), none, (.load 2 true (.t 44))⟩,
  ⟨(some 46), none, (.call 64 [(.t 45)])⟩,
  ⟨(some 47), none, (.un .not (.t 46))⟩,
  ⟨(some 48), none, (.mv (.t 47))⟩,
  ⟨(some 49), (some (48, false)), (.faddr 3 (.t 4))⟩,
  ⟨(some 50), (some (48, false)), (.load 2 true (.t 49))⟩,
  ⟨(some 51), (some (48, false)), (.call 64 [(.t 50)])⟩,
  ⟨(some 52), (some (48, false)), (.un .not (.t 51))⟩,
  ⟨(some 53), none, (.pick (.t 48) (.c (.sc (.bool true))) (.t 52))⟩] none)
 (.cond (.t 53)
 (.seq (.reg [⟨(some 2), none, (.mv (.c (.sc (.bool false))))⟩] none) .ret) .skip)))) (.reg [⟨(some 54), none, (.bin .add (.t 40) (.c (.sc (.int .i64 (1)))))⟩,
  ⟨(some 40), none, (.mv (.t 54))⟩] none)))))))
 (.seq (.seq (.reg [⟨(some 55), none, (.faddr 8 (.t 1))⟩,
  ⟨(some 56), none, (.load 1 false (.t 55))⟩,
  ⟨(some 57), none, (.len (.t 56))⟩,
  ⟨(some 58), none, (.mv (.c (.sc (.int .i64 (0)))))⟩] none) (.block 2 
 (.loop ⟨[56, 57, 58], []⟩
 (.seq (.reg [⟨(some 59), none, (.bin .lss (.t 58) (.t 57))⟩] none)
 (.seq
 (.cond (.t 59) .skip (.exit 2))
 (.seq (.block 3
 (.seq (.reg [⟨(some 60), none, (.iaddr 4 (.t 56) (.t 58))⟩,
  ⟨(some 61), none, (.load 4 true (.t 60))⟩,
  ⟨(some 6), none, (.new [(.sc (.int .i64 (0))), (.sc (.int .i64 (0))), (.sc (.int .i64 (0))), (.sc (.int .i64 (0)))])⟩,
  ⟨none, none, (.store 4 (.t 6) (.t 61))⟩] none)
 (.seq (.reg [⟨(some 62), none, (.faddr 0 (.t 6))⟩,
  ⟨(some 63), none, (.load 2 true (.t 62))⟩,
  ⟨(some 64), none, (.call 64 [(.t 63)])⟩,
  ⟨(some 65), none, (.un .not (.t 64))⟩,
  ⟨(some 66), none, (.mv (.t 65))⟩,
  ⟨(some 67), (some (66, false)), (.faddr 2 (.t 6))⟩,
  ⟨(some 68), (some (66, false)), (.load 2 true (.t 67))⟩,
  ⟨(some 69), (some (66, false)), (.call 64 [(.t 68)])⟩,
  ⟨(some 70), (some (66, false)), (.un .not (.t 69))⟩,
  ⟨(some 71), none, (.pick (.t 66) (.c (.sc (.bool true))) (.t 70))⟩] none)
 (.cond (.t 71)
 (.seq (.reg [⟨(some 2), none, (.mv (.c (.sc (.bool false))))⟩] none) .ret) .skip)))) (.reg [⟨(some 72), none, (.bin .add (.t 58) (.c (.sc (.int .i64 (1)))))⟩,
  ⟨(some 58), none, (.mv (.t 72))⟩] none)))))))
 (.seq (.reg [⟨(some 2), none, (.mv (.c (.sc (.bool true))))⟩] none) .ret)))))
theorem good38 {args : List PV} {r : PV} (hl : args.length ≤ 73) (h : Run Try.prog [.code ac38] (endQ [(.t 2)] r) ⟨initT 0 args, [], 0, 73⟩) : Good Try.prog 38 args r :=
  good_run (by kernel_rfl) Ramix Try.func38 rfl (hs := [⟨[1, 38, 39, 40], []⟩, ⟨[56, 57, 58], []⟩]) (hs' := []) (by kernel_rfl) hl h
def ac39 : ACode :=
 (.seq (.reg [⟨(some 1), none, (.boxv (.t 0))⟩,
  ⟨(some 2), none, (.mv (.c (.sc (.bool false))))⟩] none)
 (.seq (.seq (.reg [⟨(some 6), none, (.faddr 7 (.t 1))⟩,
  ⟨(some 7), none, (.load 1 false (.t 6))⟩,
  ⟨(some 8), none, (.len (.t 7))⟩,
  ⟨(some 9), none, (.bin .lss (.t 8) (.c (.sc (.int .i64 (1)))))⟩,
  ⟨(some 10), none, (.mv (.t 9))⟩,
  ⟨(some 11), (some (10, false)), (.faddr 7 (.t 1))⟩,
  ⟨(some 12), (some (10, false)), (.load 1 false (.t 11))⟩,
  ⟨(some 13), (some (10, false)), (.len (.t 12))⟩,
  ⟨(some 14), (some (10, false)), (.bin .gtr (.t 13) (.c (.sc (.int .i64 (512)))))⟩,
  ⟨(some 15), none, (.pick (.t 10) (.c (.sc (.bool true))) (.t 14))⟩,
  ⟨(some 16), none, (.mv (.t 15))⟩,
  ⟨(some 17), (some (16, false)), (.faddr 8 (.t 1))⟩,
  ⟨(some 18), (some (16, false)), (.load 1 false (.t 17))⟩,
  ⟨(some 19), (some (16, false)), (.len (.t 18))⟩,
  ⟨(some 20), (some (16, false)), (.bin .gtr (.t 19) (.c (.sc (.int .i64 (512)))))⟩,
  ⟨(some 21), none, (.pick (.t 16) (.c (.sc (.bool true))) (.t 20))⟩] none)
 (.cond (.t 21)
 (.seq (.reg [⟨(some 2), none, (.mv (.c (.sc (.bool false))))⟩] none) .ret) .skip))
 (.seq (.reg [⟨(some 22), none, (.faddr 2 (.t 1))⟩,
  ⟨(some 23), none, (.load 2 true (.t 22))⟩,
  ⟨(some 3), none, (.new [(.sc (.int .i64 (0))), (.sc (.int .i64 (0)))])⟩,
  ⟨none, none, (.store 2 (.t 3) (.t 23))⟩] none)
 (.seq (.seq (.reg [⟨(some 24), none, (.faddr 7 (.t 1))⟩,
  ⟨(some 25), none, (.load 1 false (.t 24))⟩,
  ⟨(some 26), none, (.len (.t 25))⟩,
  ⟨(some 27), none, (.mv (.c (.sc (.int .i64 (0)))))⟩] none) (.block 0 
 (.loop ⟨[1, 3, 25, 26, 27], []⟩
 (.seq (.reg [⟨(some 28), none, (.bin .lss (.t 27) (.t 26))⟩] none)
 (.seq
 (.cond (.t 28) .skip (.exit 0))
 (.seq (.block 1
 (.seq (.reg [⟨(some 29), none, (.iaddr 5 (.t 25) (.t 27))⟩,
  ⟨(some 30), none, (.load 5 true (.t 29))⟩,
  ⟨(some 5), none, (.new [(.sc (.int .i64 (0))), (.sc (.int .i64 (0))), (.sc (.int .i64 (0))), (.sc (.int .i64 (0))), (.sc (.int .i64 (0)))])⟩,
  ⟨none, none, (.store 5 (.t 5) (.t 30))⟩] none)
 (.seq (.seq (.reg [⟨(some 31), none, (.faddr 1 (.t 5))⟩,
  ⟨(some 32), none, (.load 2 true (.t 31))⟩,
  ⟨(some 33), none, (.load 2 true (.t 3))⟩,
  ⟨(some 34), none, (.eqs true [(.i .i64), (.i .i64)] (.t 32) (.t 33))⟩] none)
 (.cond (.t 34)
 (.seq (.reg [⟨(some 2), none, (.mv (.c (.sc (.bool false))))⟩] none) .ret) .skip)) (.reg [⟨(some 35), none, (.faddr 3 (.t 5))⟩,
  ⟨(some 36), none, (.load 2 true (.t 35))⟩,
  ⟨none, none, (.store 2 (.t 3) (.t 36))⟩] none)))) (.reg [⟨(some 37), none, (.bin .add (.t 27) (.c (.sc (.int .i64 (1)))))⟩,
  ⟨(some 27), none, (.mv (.t 37))⟩] none)))))))
 (.seq (.reg [⟨(some 38), none, (.load 2 true (.t 3))⟩,
  ⟨(some 39), none, (.faddr 4 (.t 1))⟩,
  ⟨(some 40), none, (.load 2 true (.t 39))⟩,
  ⟨(some 41), none, (.eqs false [(.i .i64), (.i .i64)] (.t 38) (.t 40))⟩,
  ⟨(some 2), none, (.mv (.t 41))⟩] none) .ret)))))
theorem good39 {args : List PV} {r : PV} (hl : args.length ≤ 42) (h : Run Try.prog [.code ac39] (endQ [(.t 2)] r) ⟨initT 0 args, [], 0, 42⟩) : Good Try.prog 39 args r :=
  good_run (by kernel_rfl) Ramix Try.func39 rfl (hs := [⟨[1, 3, 25, 26, 27], []⟩]) (hs' := []) (by kernel_rfl) hl h
def ac40 : ACode :=
 (.seq (.reg [⟨(some 1), none, (.boxv (.t 0))⟩,
  ⟨(some 2), none, (.mv (.c (.sc (.bool false))))⟩] none)
 (.seq (.seq (.reg [⟨(some 8), none, (.faddr 7 (.t 1))⟩,
  ⟨(some 9), none, (.load 1 false (.t 8))⟩,
  ⟨(some 10), none, (.len (.t 9))⟩,
  ⟨(some 11), none, (.mv (.c (.sc (.int .i64 (0)))))⟩] none) (.block 0 
 (.loop ⟨[1, 9, 10, 11], []⟩
 (.seq (.reg [⟨(some 12), none, (.bin .lss (.t 11) (.t 10))⟩] none)
 (.seq
 (.cond (.t 12) .skip (.exit 0))
 (.seq (.block 1
 (.seq (.reg [⟨(some 13), none, (.mv (.t 11))⟩,
  ⟨(some 14), none, (.iaddr 5 (.t 9) (.t 11))⟩,
  ⟨(some 15), none, (.load 5 true (.t 14))⟩,
  ⟨(some 4), none, (.new [(.sc (.int .i64 (0))), (.sc (.int .i64 (0))), (.sc (.int .i64 (0))), (.sc (.int .i64 (0))), (.sc (.int .i64 (0)))])⟩,
  ⟨(some 3), none, (.mv (.t 13))⟩,
  ⟨none, none, (.store 5 (.t 4) (.t 15))⟩] none)
 (.seq (.reg [⟨(some 16), none, (.faddr 1 (.t 4))⟩,
  ⟨(some 17), none, (.faddr 0 (.t 16))⟩,
  ⟨(some 18), none, (.load 1 false (.t 17))⟩,
  ⟨(some 19), none, (.faddr 3 (.t 4))⟩,
  ⟨(some 20), none, (.faddr 0 (.t 19))⟩,
  ⟨(some 21), none, (.load 1 false (.t 20))⟩,
  ⟨(some 22), none, (.bin .gtr (.t 18) (.t 21))⟩,
  ⟨(some 23), none, (.mv (.t 22))⟩,
  ⟨(some 24), (some (23, true)), (.faddr 6 (.t 1))⟩,
  ⟨(some 25), (some (23, true)), (.load 1 false (.t 24))⟩,
  ⟨(some 26), (some (23, true)), (.mv (.t 25))⟩,
  ⟨(some 27), (some (26, true)), (.mv (.t 3))⟩,
  ⟨(some 28), (some (26, true)), (.faddr 7 (.t 1))⟩,
  ⟨(some 29), (some (26, true)), (.load 1 false (.t 28))⟩,
  ⟨(some 30), (some (26, true)), (.len (.t 29))⟩,
  ⟨(some 31), (some (26, true)), (.bin .sub (.t 30) (.c (.sc (.int .i64 (1)))))⟩,
  ⟨(some 32), (some (26, true)), (.bin .eql (.t 27) (.t 31))⟩,
  ⟨(some 33), (some (23, true)), (.pick (.t 26) (.t 32) (.c (.sc (.bool false))))⟩,
  ⟨(some 34), (some (23, true)), (.un .not (.t 33))⟩,
  ⟨(some 35), none, (.pick (.t 23) (.t 34) (.c (.sc (.bool false))))⟩] none)
 (.cond (.t 35)
 (.seq (.reg [⟨(some 2), none, (.mv (.c (.sc (.bool false))))⟩] none) .ret) .skip)))) (.reg [⟨(some 36), none, (.bin .add (.t 11) (.c (.sc (.int .i64 (1)))))⟩,
  ⟨(some 11), none, (.mv (.t 36))⟩] none)))))))
 (.seq (.reg [⟨(some 37), none, (.faddr 2 (.t 1))⟩,
  ⟨(some 38), none, (.faddr 0 (.t 37))⟩,
  ⟨(some 39), none, (.load 1 false (.t 38))⟩,
  ⟨(some 5), none, (.mv (.t 39))⟩] none)
 (.seq (.seq (.reg [⟨(some 40), none, (.faddr 8 (.t 1))⟩,
  ⟨(some 41), none, (.load 1 false (.t 40))⟩,
  ⟨(some 42), none, (.len (.t 41))⟩,
  ⟨(some 43), none, (.mv (.c (.sc (.int .i64 (0)))))⟩] none) (.block 2 
 (.loop ⟨[1, 5, 41, 42, 43], []⟩
 (.seq (.reg [⟨(some 44), none, (.bin .lss (.t 43) (.t 42))⟩] none)
 (.seq
 (.cond (.t 44) .skip (.exit 2))
 (.seq (.block 3
 (.seq (.reg [⟨(some 45), none, (.mv (.t 43))⟩,
  ⟨(some 46), none, (.iaddr 4 (.t 41) (.t 43))⟩,
  ⟨(some 47), none, (.load 4 true (.t 46))⟩,
  ⟨(some 7), none, (.new [(.sc (.int .i64 (0))), (.sc (.int .i64 (0))), (.sc (.int .i64 (0))), (.sc (.int .i64 (0)))])⟩,
  ⟨(some 6), none, (.mv (.t 45))⟩,
  ⟨none, none, (.store 4 (.t 7) (.t 47))⟩] none)
 (.seq (.seq (.reg [⟨(some 48), none, (.faddr 0 (.t 7))⟩,
  ⟨(some 49), none, (.faddr 0 (.t 48))⟩,
  ⟨(some 50), none, (.load 1 false (.t 49))⟩,
  ⟨(some 51), none, (.mv (.t 5))⟩,
  ⟨(some 52), none, (.bin .lss (.t 50) (.t 51))⟩] none)
 (.cond (.t 52)
 (.seq (.reg [⟨(some 2), none, (.mv (.c (.sc (.bool false))))⟩] none) .ret) .skip))
 (.seq (.reg [⟨(some 53), none, (.faddr 0 (.t 7))⟩,
  ⟨(some 54), none, (.faddr 0 (.t 53))⟩,
  ⟨(some 55), none, (.load 1 false (.t 54))⟩,
  ⟨(some 5), none, (.mv (.t 55))⟩] none)
 (.seq (.seq (.reg [⟨(some 56), none, (.faddr 6 (.t 1))⟩,
  ⟨(some 57), none, (.load 1 false (.t 56))⟩,
  ⟨(some 58), none, (.mv (.t 57))⟩,
  ⟨(some 59), (some (58, true)), (.mv (.t 6))⟩,
  ⟨(some 60), (some (58, true)), (.faddr 8 (.t 1))⟩,
  ⟨(some 61), (some (58, true)), (.load 1 false (.t 60))⟩,
  ⟨(some 62), (some (58, true)), (.len (.t 61))⟩,
  ⟨(some 63), (some (58, true)), (.bin .sub (.t 62) (.c (.sc (.int .i64 (1)))))⟩,
  ⟨(some 64), (some (58, true)), (.bin .eql (.t 59) (.t 63))⟩,
  ⟨(some 65), none, (.pick (.t 58) (.t 64) (.c (.sc (.bool false))))⟩,
  ⟨(some 66), none, (.mv (.t 65))⟩,
  ⟨(some 67), (some (66, true)), (.faddr 2 (.t 7))⟩,
  ⟨(some 68), (some (66, true)), (.faddr 0 (.t 67))⟩,
  ⟨(some 69), (some (66, true)), (.load 1 false (.t 68))⟩,
  ⟨(some 70), (some (66, true)), (.bin .eql (.t 69) (.c (.sc (.int .i64 (0)))))⟩,
  ⟨(some 71), none, (.pick (.t 66) (.t 70) (.c (.sc (.bool false))))⟩] none)
 (.cond (.t 71)
 (.seq (.reg [⟨(some 2), none, (.mv (.c (.sc (.bool true))))⟩] none) .ret) .skip))
 (.seq (.seq (.reg [⟨(some 72), none, (.faddr 2 (.t 7))⟩,
  ⟨(some 73), none, (.faddr 0 (.t 72))⟩,
  ⟨(some 74), none, (.load 1 false (.t 73))⟩,
  ⟨(some 75), none, (.mv (.t 5))⟩,
  ⟨(some 76), none, (.bin .lss (.t 74) (.t 75))⟩] none)
 (.cond (.t 76)
 (.seq (.reg [⟨(some 2), none, (.mv (.c (.sc (.bool false))))⟩] none) .ret) .skip)) (.reg [⟨(some 77), none, (.faddr 2 (.t 7))⟩,
  ⟨(some 78), none, (.faddr 0 (.t 77))⟩,
  ⟨(some 79), none, (.load 1 false (.t 78))⟩,
  ⟨(some 5), none, (.mv (.t 79))⟩] none))))))) (.reg [⟨(some 80), none, (.bin .add (.t 43) (.c (.sc (.int .i64 (1)))))⟩,
  ⟨(some 43), none, (.mv (.t 80))⟩] none)))))))
 (.seq (.reg [⟨(some 81), none, (.faddr 6 (.t 1))⟩,
  ⟨(some 82), none, (.load 1 false (.t 81))⟩,
  ⟨(some 83), none, (.mv (.t 82))⟩,
  ⟨(some 84), (some (83, false)), (.faddr 8 (.t 1))⟩,
  ⟨(some 85), (some (83, false)), (.load 1 false (.t 84))⟩,
  ⟨(some 86), (some (83, false)), (.len (.t 85))⟩,
  ⟨(some 87), (some (83, false)), (.bin .eql (.t 86) (.c (.sc (.int .i64 (0)))))⟩,
  ⟨(some 88), none, (.pick (.t 83) (.c (.sc (.bool true))) (.t 87))⟩,
  ⟨(some 89), none, (.mv (.t 88))⟩,
  ⟨(some 90), (some (89, false)), (.mv (.t 5))⟩,
  ⟨(some 91), (some (89, false)), (.faddr 4 (.t 1))⟩,
  ⟨(some 92), (some (89, false)), (.faddr 0 (.t 91))⟩,
  ⟨(some 93), (some (89, false)), (.load 1 false (.t 92))⟩,
  ⟨(some 94), (some (89, false)), (.bin .leq (.t 90) (.t 93))⟩,
  ⟨(some 95), none, (.pick (.t 89) (.c (.sc (.bool true))) (.t 94))⟩,
  ⟨(some 2), none, (.mv (.t 95))⟩] none) .ret)))))
theorem good40 {args : List PV} {r : PV} (hl : args.length ≤ 96) (h : Run Try.prog [.code ac40] (endQ [(.t 2)] r) ⟨initT 0 args, [], 0, 96⟩) : Good Try.prog 40 args r :=
  good_run (by kernel_rfl) Ramix Try.func40 rfl (hs := [⟨[1, 9, 10, 11], []⟩, ⟨[1, 5, 41, 42, 43], []⟩]) (hs' := []) (by kernel_rfl) hl h
def ac23 : ACode :=
 (.seq (.reg [⟨(some 1), none, (.boxv (.t 0))⟩,
  ⟨(some 2), none, (.mv (.c (.sc (.int .i64 (0)))))⟩] none)
 (.seq (.block 0
 (.seq (.reg [⟨(some 4), none, (.load 13 true (.t 1))⟩,
  ⟨(some 5), none, (.call 38 [(.t 4)])⟩,
  ⟨(some 6), none, (.un .not (.t 5))⟩,
  ⟨(some 3), none, (.mv (.t 6))⟩] none)
 (.cond (.t 3)
 (.seq (.reg [⟨(some 2), none, (.mv (.c (.sc (.int .i64 (1)))))⟩] none) .ret)
 (.seq (.reg [⟨(some 8), none, (.load 13 true (.t 1))⟩,
  ⟨(some 9), none, (.call 39 [(.t 8)])⟩,
  ⟨(some 10), none, (.un .not (.t 9))⟩,
  ⟨(some 7), none, (.mv (.t 10))⟩] none)
 (.cond (.t 7)
 (.seq (.reg [⟨(some 2), none, (.mv (.c (.sc (.int .i64 (3)))))⟩] none) .ret)
 (.seq (.reg [⟨(some 12), none, (.load 13 true (.t 1))⟩,
  ⟨(some 13), none, (.call 40 [(.t 12)])⟩,
  ⟨(some 14), none, (.un .not (.t 13))⟩,
  ⟨(some 11), none, (.mv (.t 14))⟩] none)
 (.cond (.t 11)
 (.seq (.reg [⟨(some 2), none, (.mv (.c (.sc (.int .i64 (9)))))⟩] none) .ret)
 (.seq (.seq (.reg [⟨(some 16), none, (.faddr 6 (.t 1))⟩,
  ⟨(some 17), none, (.load 1 false (.t 16))⟩,
  ⟨(some 18), none, (.mv (.t 17))⟩,
  ⟨(some 19), (some (18, true)), (.faddr 4 (.t 1))⟩,
  ⟨(some 20), (some (18, true)), (.load 2 true (.t 19))⟩,
  ⟨(some 21), (some (18, true)), (.build [(.sc (.int .i64 (0))), (.sc (.int .i64 (0)))] [])⟩,
  ⟨(some 22), (some (18, true)), (.eqs true [(.i .i64), (.i .i64)] (.t 20) (.t 21))⟩,
  ⟨(some 23), none, (.pick (.t 18) (.t 22) (.c (.sc (.bool false))))⟩,
  ⟨(some 15), none, (.mv (.t 23))⟩] none)
 (.cond (.t 15) .skip (.reg [⟨(some 24), none, (.faddr 6 (.t 1))⟩,
  ⟨(some 25), none, (.load 1 false (.t 24))⟩,
  ⟨(some 26), none, (.faddr 11 (.t 1))⟩,
  ⟨(some 27), none, (.load 1 false (.t 26))⟩,
  ⟨(some 28), none, (.bin .eql (.t 27) (.c (.sc (.int .i64 (3)))))⟩,
  ⟨(some 29), none, (.beq true (.t 25) (.t 28))⟩,
  ⟨(some 15), none, (.mv (.t 29))⟩] none)))
 (.cond (.t 15)
 (.seq (.reg [⟨(some 2), none, (.mv (.c (.sc (.int .i64 (12)))))⟩] none) .ret) .skip)))))))))
 (.seq (.reg [⟨(some 2), none, (.mv (.c (.sc (.int .i64 (0)))))⟩] none) .ret)))
theorem good23 {args : List PV} {r : PV} (hl : args.length ≤ 30) (h : Run Try.prog [.code ac23] (endQ [(.t 2)] r) ⟨initT 0 args, [], 0, 30⟩) : Good Try.prog 23 args r :=
  good_run (by kernel_rfl) Ramix Try.func23 rfl (hs := []) (hs' := []) (by kernel_rfl) hl h
end Go.Proofs.Ythgnbkcopapbmaa
