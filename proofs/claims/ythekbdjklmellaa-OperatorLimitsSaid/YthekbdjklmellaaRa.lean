/-
  The translated codes of functions, checked by the kernel.
-/
import Derived.Test.YthekbdjklmellaaKc
import Derived.KernelRfl
namespace Go.Proofs.Ythekbdjklmellaa
set_option linter.unusedVariables false
set_option linter.unusedSimpArgs false
set_option linter.unnecessarySimpa false
theorem Ramix : Try.prog.follows .mixedOrders = true := by kernel_rfl
def ac45 : ACode :=
 (.seq (.reg [⟨(some 1), none, (.boxv (.t 0))⟩,
  ⟨(some 2), none, (.mv (.c (.sc (.bool false))))⟩] none)
 (.seq (.reg [⟨(some 3), none, (.faddr 0 (.t 1))⟩,
  ⟨(some 4), none, (.load 1 false (.t 3))⟩,
  ⟨(some 5), none, (.bin .geq (.t 4) (.c (.sc (.int .i64 (0)))))⟩,
  ⟨(some 6), none, (.mv (.t 5))⟩,
  ⟨(some 7), (some (6, true)), (.faddr 0 (.t 1))⟩,
  ⟨(some 8), (some (6, true)), (.load 1 false (.t 7))⟩,
  ⟨(some 9), (some (6, true)), (.faddr 1 (.t 1))⟩,
  ⟨(some 10), (some (6, true)), (.load 1 false (.t 9))⟩,
  ⟨(some 11), (some (6, true)), (.bin .leq (.t 8) (.t 10))⟩,
  ⟨(some 12), none, (.pick (.t 6) (.t 11) (.c (.sc (.bool false))))⟩,
  ⟨(some 13), none, (.mv (.t 12))⟩,
  ⟨(some 14), (some (13, true)), (.faddr 1 (.t 1))⟩,
  ⟨(some 15), (some (13, true)), (.load 1 false (.t 14))⟩,
  ⟨(some 16), (some (13, true)), (.bin .leq (.t 15) (.c (.sc (.int .i64 (4294943999)))))⟩,
  ⟨(some 17), none, (.pick (.t 13) (.t 16) (.c (.sc (.bool false))))⟩,
  ⟨(some 2), none, (.mv (.t 17))⟩] none) .ret))
theorem good45 {args : List PV} {r : PV} (hl : args.length ≤ 18) (h : Run Try.prog [.code ac45] (endQ [(.t 2)] r) ⟨initT 0 args, [], 0, 18⟩) : Good Try.prog 45 args r :=
  good_run (by kernel_rfl) Ramix Try.func45 rfl (hs := []) (hs' := []) (by kernel_rfl) hl h
def ac34 : ACode :=
 (.seq (.reg [⟨(some 1), none, (.boxv (.t 0))⟩,
  ⟨(some 2), none, (.mv (.c (.sc (.bool false))))⟩] none)
 (.seq (.seq (.reg [⟨(some 7), none, (.faddr 0 (.t 1))⟩,
  ⟨(some 8), none, (.load 1 false (.t 7))⟩,
  ⟨(some 9), none, (.bin .lss (.t 8) (.c (.sc (.int .i64 (1)))))⟩,
  ⟨(some 10), none, (.mv (.t 9))⟩,
  ⟨(some 11), (some (10, false)), (.faddr 0 (.t 1))⟩,
  ⟨(some 12), (some (10, false)), (.load 1 false (.t 11))⟩,
  ⟨(some 13), (some (10, false)), (.bin .gtr (.t 12) (.c (.sc (.int .i64 (1000000)))))⟩,
  ⟨(some 14), none, (.pick (.t 10) (.c (.sc (.bool true))) (.t 13))⟩,
  ⟨(some 15), none, (.mv (.t 14))⟩,
  ⟨(some 16), (some (15, false)), (.faddr 1 (.t 1))⟩,
  ⟨(some 17), (some (15, false)), (.load 1 false (.t 16))⟩,
  ⟨(some 18), (some (15, false)), (.bin .lss (.t 17) (.c (.sc (.int .i64 (0)))))⟩,
  ⟨(some 19), none, (.pick (.t 15) (.c (.sc (.bool true))) (.t 18))⟩,
  ⟨(some 20), none, (.mv (.t 19))⟩,
  ⟨(some 21), (some (20, false)), (.faddr 1 (.t 1))⟩,
  ⟨(some 22), (some (20, false)), (.load 1 false (.t 21))⟩,
  ⟨(some 23), (some (20, false)), (.bin .geq (.t 22) (.c (.sc (.int .i64 (128)))))⟩,
  ⟨(some 24), none, (.pick (.t 20) (.c (.sc (.bool true))) (.t 23))⟩,
  ⟨(some 25), none, (.mv (.t 24))⟩,
  ⟨(some 26), (some (25, false)), (.faddr 2 (.t 1))⟩,
  ⟨(some 27), (some (25, false)), (.load 2 true (.t 26))⟩,
  ⟨(some 28), (some (25, false)), (.call 45 [(.t 27)])⟩,
  ⟨(some 29), (some (25, false)), (.un .not (.t 28))⟩,
  ⟨(some 30), none, (.pick (.t 25) (.c (.sc (.bool true))) (.t 29))⟩,
  ⟨(some 31), none, (.mv (.t 30))⟩,
  ⟨(some 32), (some (31, false)), (.faddr 4 (.t 1))⟩,
  ⟨(some 33), (some (31, false)), (.load 2 true (.t 32))⟩,
  ⟨(some 34), (some (31, false)), (.call 45 [(.t 33)])⟩,
  ⟨(some 35), (some (31, false)), (.un .not (.t 34))⟩,
  ⟨(some 36), none, (.pick (.t 31) (.c (.sc (.bool true))) (.t 35))⟩] none)
 (.cond (.t 36)
 (.seq (.reg [⟨(some 2), none, (.mv (.c (.sc (.bool false))))⟩] none) .ret) .skip))
 (.seq (.seq (.reg [⟨(some 37), none, (.faddr 7 (.t 1))⟩,
  ⟨(some 38), none, (.load 1 false (.t 37))⟩,
  ⟨(some 39), none, (.len (.t 38))⟩,
  ⟨(some 40), none, (.mv (.c (.sc (.int .i64 (0)))))⟩] none) (.block 0 
 (.loop ⟨[1, 38, 39, 40], []⟩
 (.seq (.reg [⟨(some 41), none, (.bin .lss (.t 40) (.t 39))⟩] none)
 (.seq
 (.cond (.t 41) .skip (.exit 0))
 (.seq (.block 1
 (.seq (.reg [⟨(some 42), none, (.iaddr 5 (.t 38) (.t 40))⟩,
  ⟨(some 43), none, (.load 5 true (.t 42))⟩,
  ⟨(some 4), none, (.new [(.sc (.int .i64 (0))), (.sc (.int .i64 (0))), (.sc (.int .i64 (0))), (.sc (.int .i64 (0))), (.sc (.int .i64 (0)))])⟩,
  ⟨none, none, (.store 5 (.t 4) (.t 43))⟩] none)
 (.seq (.reg [⟨(some 44), none, (.faddr 1 (.t 4))⟩,
  ⟨(some 45), none, (.load 2 true (.t 44))⟩,
  ⟨(some 46), none, (.call 45 [(.t 45)])⟩,
  ⟨(some 47), none, (.un .not (.t 46))⟩,
  ⟨(some 48), none, (.mv (.t 47))⟩,
  ⟨(some 49), (some (48, false)), (.faddr 3 (.t 4))⟩,
  ⟨(some 50), (some (48, false)), (.load 2 true (.t 49))⟩,
  ⟨(some 51), (some (48, false)), (.call 45 [(.t 50)])⟩,
  ⟨(some 52), (some (48, false)), (.un .not (.t 51))⟩,
  ⟨(some 53), none, (.pick (.t 48) (.c (.sc (.bool true))) (.t 52))⟩] none)
 (.cond (.t 53)
 (.seq (.reg [⟨(some 2), none, (.mv (.c (.sc (.bool false))))⟩] none) .ret) .skip)))) (.reg [⟨(some 54), none, (.bin .add (.t 40) (.c (.sc (.int .i64 (1)))))⟩,
  ⟨(some 40), none, (.mv (.t 54))⟩] none)))))))
 (.seq (.seq (.reg [⟨(some 55), none, (.faddr 8 (.t 1))⟩,
  ⟨(some 56), none, (.load 1 false (.t 55))⟩,
  ⟨(some 57), none, (.len (.t 56))⟩,
  ⟨(some 58), none, (.mv (.c (.sc (.int .i64 (0)))))⟩] none) (.block 2 
 (.loop ⟨[56, 57, 58], []⟩
 (.seq (.reg [⟨(some 59), none, (.bin .lss (.t 58) (.t 57))⟩] none)
 (.seq
 (.cond (.t 59) .skip (.exit 2))
 (.seq (.block 3
 (.seq (.reg [⟨(some 60), none, (.iaddr 4 (.t 56) (.t 58))⟩,
  ⟨(some 61), none, (.load 4 true (.t 60))⟩,
  ⟨(some 6), none, (.new [(.sc (.int .i64 (0))), (.sc (.int .i64 (0))), (.sc (.int .i64 (0))), (.sc (.int .i64 (0)))])⟩,
  ⟨none, none, (.store 4 (.t 6) (.t 61))⟩] none)
 (.seq (.reg [⟨(some 62), none, (.faddr 0 (.t 6))⟩,
  ⟨(some 63), none, (.load 2 true (.t 62))⟩,
  ⟨(some 64), none, (.call 45 [(.t 63)])⟩,
  ⟨(some 65), none, (.un .not (.t 64))⟩,
  ⟨(some 66), none, (.mv (.t 65))⟩,
  ⟨(some 67), (some (66, false)), (.faddr 2 (.t 6))⟩,
  ⟨(some 68), (some (66, false)), (.load 2 true (.t 67))⟩,
  ⟨(some 69), (some (66, false)), (.call 45 [(.t 68)])⟩,
  ⟨(some 70), (some (66, false)), (.un .not (.t 69))⟩,
  ⟨(some 71), none, (.pick (.t 66) (.c (.sc (.bool true))) (.t 70))⟩] none)
 (.cond (.t 71)
 (.seq (.reg [⟨(some 2), none, (.mv (.c (.sc (.bool false))))⟩] none) .ret) .skip)))) (.reg [⟨(some 72), none, (.bin .add (.t 58) (.c (.sc (.int .i64 (1)))))⟩,
  ⟨(some 58), none, (.mv (.t 72))⟩] none)))))))
 (.seq (.reg [⟨(some 2), none, (.mv (.c (.sc (.bool true))))⟩] none) .ret)))))
theorem good34 {args : List PV} {r : PV} (hl : args.length ≤ 73) (h : Run Try.prog [.code ac34] (endQ [(.t 2)] r) ⟨initT 0 args, [], 0, 73⟩) : Good Try.prog 34 args r :=
  good_run (by kernel_rfl) Ramix Try.func34 rfl (hs := [⟨[1, 38, 39, 40], []⟩, ⟨[56, 57, 58], []⟩]) (hs' := []) (by kernel_rfl) hl h
def ac35 : ACode :=
 (.seq (.reg [⟨(some 1), none, (.boxv (.t 0))⟩,
  ⟨(some 2), none, (.mv (.c (.sc (.bool false))))⟩] none)
 (.seq (.seq (.reg [⟨(some 6), none, (.faddr 7 (.t 1))⟩,
  ⟨(some 7), none, (.load 1 false (.t 6))⟩,
  ⟨(some 8), none, (.len (.t 7))⟩,
  ⟨(some 9), none, (.bin .lss (.t 8) (.c (.sc (.int .i64 (1)))))⟩,
  ⟨(some 10), none, (.mv (.t 9))⟩,
  ⟨(some 11), (some (10, false)), (.faddr 7 (.t 1))⟩,
  ⟨(some 12), (some (10, false)), (.load 1 false (.t 11))⟩,
  ⟨(some 13), (some (10, false)), (.len (.t 12))⟩,
  ⟨(some 14), (some (10, false)), (.bin .gtr (.t 13) (.c (.sc (.int .i64 (512)))))⟩,
  ⟨(some 15), none, (.pick (.t 10) (.c (.sc (.bool true))) (.t 14))⟩,
  ⟨(some 16), none, (.mv (.t 15))⟩,
  ⟨(some 17), (some (16, false)), (.faddr 8 (.t 1))⟩,
  ⟨(some 18), (some (16, false)), (.load 1 false (.t 17))⟩,
  ⟨(some 19), (some (16, false)), (.len (.t 18))⟩,
  ⟨(some 20), (some (16, false)), (.bin .gtr (.t 19) (.c (.sc (.int .i64 (512)))))⟩,
  ⟨(some 21), none, (.pick (.t 16) (.c (.sc (.bool true))) (.t 20))⟩] none)
 (.cond (.t 21)
 (.seq (.reg [⟨(some 2), none, (.mv (.c (.sc (.bool false))))⟩] none) .ret) .skip))
 (.seq (.reg [⟨(some 22), none, (.faddr 2 (.t 1))⟩,
  ⟨(some 23), none, (.load 2 true (.t 22))⟩,
  ⟨(some 3), none, (.new [(.sc (.int .i64 (0))), (.sc (.int .i64 (0)))])⟩,
  ⟨none, none, (.store 2 (.t 3) (.t 23))⟩] none)
 (.seq (.seq (.reg [⟨(some 24), none, (.faddr 7 (.t 1))⟩,
  ⟨(some 25), none, (.load 1 false (.t 24))⟩,
  ⟨(some 26), none, (.len (.t 25))⟩,
  ⟨(some 27), none, (.mv (.c (.sc (.int .i64 (0)))))⟩] none) (.block 0 
 (.loop ⟨[1, 3, 25, 26, 27], []⟩
 (.seq (.reg [⟨(some 28), none, (.bin .lss (.t 27) (.t 26))⟩] none)
 (.seq
 (.cond (.t 28) .skip (.exit 0))
 (.seq (.block 1
 (.seq (.reg [⟨(some 29), none, (.iaddr 5 (.t 25) (.t 27))⟩,
  ⟨(some 30), none, (.load 5 true (.t 29))⟩,
  ⟨(some 5), none, (.new [(.sc (.int .i64 (0))), (.sc (.int .i64 (0))), (.sc (.int .i64 (0))), (.sc (.int .i64 (0))), (.sc (.int .i64 (0)))])⟩,
  ⟨none, none, (.store 5 (.t 5) (.t 30))⟩] none)
 (.seq (.seq (.reg [⟨(some 31), none, (.faddr 1 (.t 5))⟩,
  ⟨(some 32), none, (.load 2 true (.t 31))⟩,
  ⟨(some 33), none, (.load 2 true (.t 3))⟩,
  ⟨(some 34), none, (.eqs true [(.i .i64), (.i .i64)] (.t 32) (.t 33))⟩] none)
 (.cond (.t 34)
 (.seq (.reg [⟨(some 2), none, (.mv (.c (.sc (.bool false))))⟩] none) .ret) .skip)) (.reg [⟨(some 35), none, (.faddr 3 (.t 5))⟩,
  ⟨(some 36), none, (.load 2 true (.t 35))⟩,
  ⟨none, none, (.store 2 (.t 3) (.t 36))⟩] none)))) (.reg [⟨(some 37), none, (.bin .add (.t 27) (.c (.sc (.int .i64 (1)))))⟩,
  ⟨(some 27), none, (.mv (.t 37))⟩] none)))))))
 (.seq (.reg [⟨(some 38), none, (.load 2 true (.t 3))⟩,
  ⟨(some 39), none, (.faddr 4 (.t 1))⟩,
  ⟨(some 40), none, (.load 2 true (.t 39))⟩,
  ⟨(some 41), none, (.eqs false [(.i .i64), (.i .i64)] (.t 38) (.t 40))⟩,
  ⟨(some 2), none, (.mv (.t 41))⟩] none) .ret)))))
theorem good35 {args : List PV} {r : PV} (hl : args.length ≤ 42) (h : Run Try.prog [.code ac35] (endQ [(.t 2)] r) ⟨initT 0 args, [], 0, 42⟩) : Good Try.prog 35 args r :=
  good_run (by kernel_rfl) Ramix Try.func35 rfl (hs := [⟨[1, 3, 25, 26, 27], []⟩]) (hs' := []) (by kernel_rfl) hl h
def ac36 : ACode :=
 (.seq (.reg [⟨(some 1), none, (.boxv (.t 0))⟩,
  ⟨(some 2), none, (.mv (.c (.sc (.bool false))))⟩] none)
 (.seq (.seq (.reg [⟨(some 8), none, (.faddr 7 (.t 1))⟩,
  ⟨(some 9), none, (.load 1 false (.t 8))⟩,
  ⟨(some 10), none, (.len (.t 9))⟩,
  ⟨(some 11), none, (.mv (.c (.sc (.int .i64 (0)))))⟩] none) (.block 0 
 (.loop ⟨[1, 9, 10, 11], []⟩
 (.seq (.reg [⟨(some 12), none, (.bin .lss (.t 11) (.t 10))⟩] none)
 (.seq
 (.cond (.t 12) .skip (.exit 0))
 (.seq (.block 1
 (.seq (.reg [⟨(some 13), none, (.mv (.t 11))⟩,
  ⟨(some 14), none, (.iaddr 5 (.t 9) (.t 11))⟩,
  ⟨(some 15), none, (.load 5 true (.t 14))⟩,
  ⟨(some 4), none, (.new [(.sc (.int .i64 (0))), (.sc (.int .i64 (0))), (.sc (.int .i64 (0))), (.sc (.int .i64 (0))), (.sc (.int .i64 (0)))])⟩,
  ⟨(some 3), none, (.mv (.t 13))⟩,
  ⟨none, none, (.store 5 (.t 4) (.t 15))⟩] none)
 (.seq (.reg [⟨(some 16), none, (.faddr 1 (.t 4))⟩,
  ⟨(some 17), none, (.faddr 0 (.t 16))⟩,
  ⟨(some 18), none, (.load 1 false (.t 17))⟩,
  ⟨(some 19), none, (.faddr 3 (.t 4))⟩,
  ⟨(some 20), none, (.faddr 0 (.t 19))⟩,
  ⟨(some 21), none, (.load 1 false (.t 20))⟩,
  ⟨(some 22), none, (.bin .gtr (.t 18) (.t 21))⟩,
  ⟨(some 23), none, (.mv (.t 22))⟩,
  ⟨(some 24), (some (23, true)), (.faddr 6 (.t 1))⟩,
  ⟨(some 25), (some (23, true)), (.load 1 false (.t 24))⟩,
  ⟨(some 26), (some (23, true)), (.mv (.t 25))⟩,
  ⟨(some 27), (some (26, true)), (.mv (.t 3))⟩,
  ⟨(some 28), (some (26, true)), (.faddr 7 (.t 1))⟩,
  ⟨(some 29), (some (26, true)), (.load 1 false (.t 28))⟩,
  ⟨(some 30), (some (26, true)), (.len (.t 29))⟩,
  ⟨(some 31), (some (26, true)), (.bin .sub (.t 30) (.c (.sc (.int .i64 (1)))))⟩,
  ⟨(some 32), (some (26, true)), (.bin .eql (.t 27) (.t 31))⟩,
  ⟨(some 33), (some (23, true)), (.pick (.t 26) (.t 32) (.c (.sc (.bool false))))⟩,
  ⟨(some 34), (some (23, true)), (.un .not (.t 33))⟩,
  ⟨(some 35), none, (.pick (.t 23) (.t 34) (.c (.sc (.bool false))))⟩] none)
 (.cond (.t 35)
 (.seq (.reg [⟨(some 2), none, (.mv (.c (.sc (.bool false))))⟩] none) .ret) .skip)))) (.reg [⟨(some 36), none, (.bin .add (.t 11) (.c (.sc (.int .i64 (1)))))⟩,
  ⟨(some 11), none, (.mv (.t 36))⟩] none)))))))
 (.seq (.reg [⟨(some 37), none, (.faddr 2 (.t 1))⟩,
  ⟨(some 38), none, (.faddr 0 (.t 37))⟩,
  ⟨(some 39), none, (.load 1 false (.t 38))⟩,
  ⟨(some 5), none, (.mv (.t 39))⟩] none)
 (.seq (.seq (.reg [⟨(some 40), none, (.faddr 8 (.t 1))⟩,
  ⟨(some 41), none, (.load 1 false (.t 40))⟩,
  ⟨(some 42), none, (.len (.t 41))⟩,
  ⟨(some 43), none, (.mv (.c (.sc (.int .i64 (0)))))⟩] none) (.block 2 
 (.loop ⟨[1, 5, 41, 42, 43], []⟩
 (.seq (.reg [⟨(some 44), none, (.bin .lss (.t 43) (.t 42))⟩] none)
 (.seq
 (.cond (.t 44) .skip (.exit 2))
 (.seq (.block 3
 (.seq (.reg [⟨(some 45), none, (.mv (.t 43))⟩,
  ⟨(some 46), none, (.iaddr 4 (.t 41) (.t 43))⟩,
  ⟨(some 47), none, (.load 4 true (.t 46))⟩,
  ⟨(some 7), none, (.new [(.sc (.int .i64 (0))), (.sc (.int .i64 (0))), (.sc (.int .i64 (0))), (.sc (.int .i64 (0)))])⟩,
  ⟨(some 6), none, (.mv (.t 45))⟩,
  ⟨none, none, (.store 4 (.t 7) (.t 47))⟩] none)
 (.seq (.seq (.reg [⟨(some 48), none, (.faddr 0 (.t 7))⟩,
  ⟨(some 49), none, (.faddr 0 (.t 48))⟩,
  ⟨(some 50), none, (.load 1 false (.t 49))⟩,
  ⟨(some 51), none, (.mv (.t 5))⟩,
  ⟨(some 52), none, (.bin .lss (.t 50) (.t 51))⟩] none)
 (.cond (.t 52)
 (.seq (.reg [⟨(some 2), none, (.mv (.c (.sc (.bool false))))⟩] none) .ret) .skip))
 (.seq (.reg [⟨(some 53), none, (.faddr 0 (.t 7))⟩,
  ⟨(some 54), none, (.faddr 0 (.t 53))⟩,
  ⟨(some 55), none, (.load 1 false (.t 54))⟩,
  ⟨(some 5), none, (.mv (.t 55))⟩] none)
 (.seq (.seq (.reg [⟨(some 56), none, (.faddr 6 (.t 1))⟩,
  ⟨(some 57), none, (.load 1 false (.t 56))⟩,
  ⟨(some 58), none, (.mv (.t 57))⟩,
  ⟨(some 59), (some (58, true)), (.mv (.t 6))⟩,
  ⟨(some 60), (some (58, true)), (.faddr 8 (.t 1))⟩,
  ⟨(some 61), (some (58, true)), (.load 1 false (.t 60))⟩,
  ⟨(some 62), (some (58, true)), (.len (.t 61))⟩,
  ⟨(some 63), (some (58, true)), (.bin .sub (.t 62) (.c (.sc (.int .i64 (1)))))⟩,
  ⟨(some 64), (some (58, true)), (.bin .eql (.t 59) (.t 63))⟩,
  ⟨(some 65), none, (.pick (.t 58) (.t 64) (.c (.sc (.bool false))))⟩,
  ⟨(some 66), none, (.mv (.t 65))⟩,
  ⟨(some 67), (some (66, true)), (.faddr 2 (.t 7))⟩,
  ⟨(some 68), (some (66, true)), (.faddr 0 (.t 67))⟩,
  ⟨(some 69), (some (66, true)), (.load 1 false (.t 68))⟩,
  ⟨(some 70), (some (66, true)), (.bin .eql (.t 69) (.c (.sc (.int .i64 (0)))))⟩,
  ⟨(some 71), none, (.pick (.t 66) (.t 70) (.c (.sc (.bool false))))⟩] none)
 (.cond (.t 71)
 (.seq (.reg [⟨(some 2), none, (.mv (.c (.sc (.bool true))))⟩] none) .ret) .skip))
 (.seq (.seq (.reg [⟨(some 72), none, (.faddr 2 (.t 7))⟩,
  ⟨(some 73), none, (.faddr 0 (.t 72))⟩,
  ⟨(some 74), none, (.load 1 false (.t 73))⟩,
  ⟨(some 75), none, (.mv (.t 5))⟩,
  ⟨(some 76), none, (.bin .lss (.t 74) (.t 75))⟩] none)
 (.cond (.t 76)
 (.seq (.reg [⟨(some 2), none, (.mv (.c (.sc (.bool false))))⟩] none) .ret) .skip)) (.reg [⟨(some 77), none, (.faddr 2 (.t 7))⟩,
  ⟨(some 78), none, (.faddr 0 (.t 77))⟩,
  ⟨(some 79), none, (.load 1 false (.t 78))⟩,
  ⟨(some 5), none, (.mv (.t 79))⟩] none))))))) (.reg [⟨(some 80), none, (.bin .add (.t 43) (.c (.sc (.int .i64 (1)))))⟩,
  ⟨(some 43), none, (.mv (.t 80))⟩] none)))))))
 (.seq (.reg [⟨(some 81), none, (.faddr 6 (.t 1))⟩,
  ⟨(some 82), none, (.load 1 false (.t 81))⟩,
  ⟨(some 83), none, (.mv (.t 82))⟩,
  ⟨(some 84), (some (83, false)), (.faddr 8 (.t 1))⟩,
  ⟨(some 85), (some (83, false)), (.load 1 false (.t 84))⟩,
  ⟨(some 86), (some (83, false)), (.len (.t 85))⟩,
  ⟨(some 87), (some (83, false)), (.bin .eql (.t 86) (.c (.sc (.int .i64 (0)))))⟩,
  ⟨(some 88), none, (.pick (.t 83) (.c (.sc (.bool true))) (.t 87))⟩,
  ⟨(some 89), none, (.mv (.t 88))⟩,
  ⟨(some 90), (some (89, false)), (.mv (.t 5))⟩,
  ⟨(some 91), (some (89, false)), (.faddr 4 (.t 1))⟩,
  ⟨(some 92), (some (89, false)), (.faddr 0 (.t 91))⟩,
  ⟨(some 93), (some (89, false)), (.load 1 false (.t 92))⟩,
  ⟨(some 94), (some (89, false)), (.bin .leq (.t 90) (.t 93))⟩,
  ⟨(some 95), none, (.pick (.t 89) (.c (.sc (.bool true))) (.t 94))⟩,
  ⟨(some 2), none, (.mv (.t 95))⟩] none) .ret)))))
theorem good36 {args : List PV} {r : PV} (hl : args.length ≤ 96) (h : Run Try.prog [.code ac36] (endQ [(.t 2)] r) ⟨initT 0 args, [], 0, 96⟩) : Good Try.prog 36 args r :=
  good_run (by kernel_rfl) Ramix Try.func36 rfl (hs := [⟨[1, 9, 10, 11], []⟩, ⟨[1, 5, 41, 42, 43], []⟩]) (hs' := []) (by kernel_rfl) hl h
def ac28 : ACode :=
 (.seq (.reg [⟨(some 1), none, (.boxv (.t 0))⟩,
  ⟨(some 2), none, (.mv (.c (.sc (.int .i64 (0)))))⟩] none)
 (.seq (.block 0
 (.seq (.reg [⟨(some 4), none, (.load 13 true (.t 1))⟩,
  ⟨(some 5), none, (.call 34 [(.t 4)])⟩,
  ⟨(some 6), none, (.un .not (.t 5))⟩,
  ⟨(some 3), none, (.mv (.t 6))⟩] none)
 (.cond (.t 3)
 (.seq (.reg [⟨(some 2), none, (.mv (.c (.sc (.int .i64 (1)))))⟩] none) .ret)
 (.seq (.reg [⟨(some 8), none, (.load 13 true (.t 1))⟩,
  ⟨(some 9), none, (.call 35 [(.t 8)])⟩,
  ⟨(some 10), none, (.un .not (.t 9))⟩,
  ⟨(some 7), none, (.mv (.t 10))⟩] none)
 (.cond (.t 7)
 (.seq (.reg [⟨(some 2), none, (.mv (.c (.sc (.int .i64 (3)))))⟩] none) .ret)
 (.seq (.reg [⟨(some 12), none, (.load 13 true (.t 1))⟩,
  ⟨(some 13), none, (.call 36 [(.t 12)])⟩,
  ⟨(some 14), none, (.un .not (.t 13))⟩,
  ⟨(some 11), none, (.mv (.t 14))⟩] none)
 (.cond (.t 11)
 (.seq (.reg [⟨(some 2), none, (.mv (.c (.sc (.int .i64 (9)))))⟩] none) .ret)
 (.seq (.seq (.reg [⟨(some 16), none, (.faddr 6 (.t 1))⟩,
  ⟨(some 17), none, (.load 1 false (.t 16))⟩,
  ⟨(some 18), none, (.mv (.t 17))⟩,
  ⟨(some 19), (some (18, true)), (.faddr 4 (.t 1))⟩,
  ⟨(some 20), (some (18, true)), (.load 2 true (.t 19))⟩,
  ⟨(some 21), (some (18, true)), (.build [(.sc (.int .i64 (0))), (.sc (.int .i64 (0)))] [])⟩,
  ⟨(some 22), (some (18, true)), (.eqs true [(.i .i64), (.i .i64)] (.t 20) (.t 21))⟩,
  ⟨(some 23), none, (.pick (.t 18) (.t 22) (.c (.sc (.bool false))))⟩,
  ⟨(some 15), none, (.mv (.t 23))⟩] none)
 (.cond (.t 15) .skip (.reg [⟨(some 24), none, (.faddr 6 (.t 1))⟩,
  ⟨(some 25), none, (.load 1 false (.t 24))⟩,
  ⟨(some 26), none, (.faddr 11 (.t 1))⟩,
  ⟨(some 27), none, (.load 1 false (.t 26))⟩,
  ⟨(some 28), none, (.bin .eql (.t 27) (.c (.sc (.int .i64 (3)))))⟩,
  ⟨(some 29), none, (.beq true (.t 25) (.t 28))⟩,
  ⟨(some 15), none, (.mv (.t 29))⟩] none)))
 (.cond (.t 15)
 (.seq (.reg [⟨(some 2), none, (.mv (.c (.sc (.int .i64 (12)))))⟩] none) .ret) .skip)))))))))
 (.seq (.reg [⟨(some 2), none, (.mv (.c (.sc (.int .i64 (0)))))⟩] none) .ret)))
theorem good28 {args : List PV} {r : PV} (hl : args.length ≤ 30) (h : Run Try.prog [.code ac28] (endQ [(.t 2)] r) ⟨initT 0 args, [], 0, 30⟩) : Good Try.prog 28 args r :=
  good_run (by kernel_rfl) Ramix Try.func28 rfl (hs := []) (hs' := []) (by kernel_rfl) hl h
def ac49 : ACode :=
 (.seq (.reg [⟨(some 1), none, (.boxv (.t 0))⟩,
  ⟨(some 2), none, (.mv (.c (.sc (.bool false))))⟩] none)
 (.seq (.reg [⟨(some 3), none, (.faddr 0 (.t 1))⟩,
  ⟨(some 4), none, (.load 1 false (.t 3))⟩,
  ⟨(some 5), none, (.bin .geq (.t 4) (.c (.sc (.int .i64 (0)))))⟩,
  ⟨(some 6), none, (.mv (.t 5))⟩,
  ⟨(some 7), (some (6, true)), (.faddr 0 (.t 1))⟩,
  ⟨(some 8), (some (6, true)), (.load 1 false (.t 7))⟩,
  ⟨(some 9), (some (6, true)), (.faddr 1 (.t 1))⟩,
  ⟨(some 10), (some (6, true)), (.load 1 false (.t 9))⟩,
  ⟨(some 11), (some (6, true)), (.bin .leq (.t 8) (.t 10))⟩,
  ⟨(some 12), none, (.pick (.t 6) (.t 11) (.c (.sc (.bool false))))⟩,
  ⟨(some 13), none, (.mv (.t 12))⟩,
  ⟨(some 14), (some (13, true)), (.faddr 1 (.t 1))⟩,
  ⟨(some 15), (some (13, true)), (.load 1 false (.t 14))⟩,
  ⟨(some 16), (some (13, true)), (.bin .leq (.t 15) (.c (.sc (.int .i64 (4294943999)))))⟩,
  ⟨(some 17), none, (.pick (.t 13) (.t 16) (.c (.sc (.bool false))))⟩,
  ⟨(some 2), none, (.mv (.t 17))⟩] none) .ret))
theorem good49 {args : List PV} {r : PV} (hl : args.length ≤ 18) (h : Run Try.prog [.code ac49] (endQ [(.t 2)] r) ⟨initT 0 args, [], 0, 18⟩) : Good Try.prog 49 args r :=
  good_run (by kernel_rfl) Ramix Try.func49 rfl (hs := []) (hs' := []) (by kernel_rfl) hl h
def ac41 : ACode :=
 (.seq (.reg [⟨(some 1), none, (.boxv (.t 0))⟩,
  ⟨(some 2), none, (.mv (.c (.sc (.bool false))))⟩] none)
 (.seq (.seq (.reg [⟨(some 5), none, (.faddr 0 (.t 1))⟩,
  ⟨(some 6), none, (.load 1 false (.t 5))⟩,
  ⟨(some 7), none, (.bin .lss (.t 6) (.c (.sc (.int .i64 (1)))))⟩,
  ⟨(some 8), none, (.mv (.t 7))⟩,
  ⟨(some 9), (some (8, false)), (.faddr 0 (.t 1))⟩,
  ⟨(some 10), (some (8, false)), (.load 1 false (.t 9))⟩,
  ⟨(some 11), (some (8, false)), (.bin .gtr (.t 10) (.c (.sc (.int .i64 (1000000)))))⟩,
  ⟨(some 12), none, (.pick (.t 8) (.c (.sc (.bool true))) (.t 11))⟩,
  ⟨(some 13), none, (.mv (.t 12))⟩,
  ⟨(some 14), (some (13, false)), (.faddr 1 (.t 1))⟩,
  ⟨(some 15), (some (13, false)), (.load 1 false (.t 14))⟩,
  ⟨(some 16), (some (13, false)), (.bin .lss (.t 15) (.c (.sc (.int .i64 (0)))))⟩,
  ⟨(some 17), none, (.pick (.t 13) (.c (.sc (.bool true))) (.t 16))⟩,
  ⟨(some 18), none, (.mv (.t 17))⟩,
  ⟨(some 19), (some (18, false)), (.faddr 1 (.t 1))⟩,
  ⟨(some 20), (some (18, false)), (.load 1 false (.t 19))⟩,
  ⟨(some 21), (some (18, false)), (.bin .geq (.t 20) (.c (.sc (.int .i64 (128)))))⟩,
  ⟨(some 22), none, (.pick (.t 18) (.c (.sc (.bool true))) (.t 21))⟩,
  ⟨(some 23), none, (.mv (.t 22))⟩,
  ⟨(some 24), (some (23, false)), (.faddr 2 (.t 1))⟩,
  ⟨(some 25), (some (23, false)), (.load 2 true (.t 24))⟩,
  ⟨(some 26), (some (23, false)), (.call 49 [(.t 25)])⟩,
  ⟨(some 27), (some (23, false)), (.un .not (.t 26))⟩,
  ⟨(some 28), none, (.pick (.t 23) (.c (.sc (.bool true))) (.t 27))⟩,
  ⟨(some 29), none, (.mv (.t 28))⟩,
  ⟨(some 30), (some (29, false)), (.faddr 4 (.t 1))⟩,
  ⟨(some 31), (some (29, false)), (.load 2 true (.t 30))⟩,
  ⟨(some 32), (some (29, false)), (.call 49 [(.t 31)])⟩,
  ⟨(some 33), (some (29, false)), (.un .not (.t 32))⟩,
  ⟨(some 34), none, (.pick (.t 29) (.c (.sc (.bool true))) (.t 33))⟩] none)
 (.cond (.t 34)
 (.seq (.reg [⟨(some 2), none, (.mv (.c (.sc (.bool false))))⟩] none) .ret) .skip))
 (.seq (.seq (.reg [⟨(some 3), none, (.mv (.c (.sc (.int .i64 (0)))))⟩] none) (.block 0 
 (.loop ⟨[1, 3], []⟩
 (.seq (.seq (.reg [⟨(some 35), none, (.mv (.t 3))⟩,
  ⟨(some 36), none, (.faddr 7 (.t 1))⟩,
  ⟨(some 37), none, (.load 1 false (.t 36))⟩,
  ⟨(some 38), none, (.len (.t 37))⟩,
  ⟨(some 39), none, (.bin .lss (.t 35) (.t 38))⟩] none)
 (.cond (.t 39) .skip (.exit 0)))
 (.seq (.block 1
 (.seq (.reg [⟨(some 42), none, (.faddr 7 (.t 1))⟩,
  ⟨(some 43), none, (.load 1 false (.t 42))⟩,
  ⟨(some 44), none, (.mv (.t 3))⟩,
  ⟨(some 45), none, (.iaddr 5 (.t 43) (.t 44))⟩,
  ⟨(some 46), none, (.faddr 1 (.t 45))⟩,
  ⟨(some 47), none, (.load 2 true (.t 46))⟩,
  ⟨(some 48), none, (.call 49 [(.t 47)])⟩,
  ⟨(some 49), none, (.un .not (.t 48))⟩,
  ⟨(some 50), none, (.mv (.t 49))⟩,
  ⟨(some 51), (some (50, false)), (.faddr 7 (.t 1))⟩,
  ⟨(some 52), (some (50, false)), (.load 1 false (.t 51))⟩,
  ⟨(some 53), (some (50, false)), (.mv (.t 3))⟩,
  ⟨(some 54), (some (50, false)), (.iaddr 5 (.t 52) (.t 53))⟩,
  ⟨(some 55), (some (50, false)), (.faddr 3 (.t 54))⟩,
  ⟨(some 56), (some (50, false)), (.load 2 true (.t 55))⟩,
  ⟨(some 57), (some (50, false)), (.call 49 [(.t 56)])⟩,
  ⟨(some 58), (some (50, false)), (.un .not (.t 57))⟩,
  ⟨(some 59), none, (.pick (.t 50) (.c (.sc (.bool true))) (.t 58))⟩] none)
 (.cond (.t 59)
 (.seq (.reg [⟨(some 2), none, (.mv (.c (.sc (.bool false))))⟩] none) .ret) .skip))) (.reg [⟨(some 40), none, (.mv (.t 3))⟩,
  ⟨(some 41), none, (.bin .add (.t 40) (.c (.sc (.int .i64 (1)))))⟩,
  ⟨(some 3), none, (.mv (.t 41))⟩] none))))))
 (.seq (.seq (.reg [⟨(some 4), none, (.mv (.c (.sc (.int .i64 (0)))))⟩] none) (.block 2 
 (.loop ⟨[1, 4], []⟩
 (.seq (.seq (.reg [⟨(some 60), none, (.mv (.t 4))⟩,
  ⟨(some 61), none, (.faddr 8 (.t 1))⟩,
  ⟨(some 62), none, (.load 1 false (.t 61))⟩,
  ⟨(some 63), none, (.len (.t 62))⟩,
  ⟨(some 64), none, (.bin .lss (.t 60) (.t 63))⟩] none)
 (.cond (.t 64) .skip (.exit 2)))
 (.seq (.block 3
 (.seq (.reg [⟨(some 67), none, (.faddr 8 (.t 1))⟩,
  ⟨(some 68), none, (.load 1 false (.t 67))⟩,
  ⟨(some 69), none, (.mv (.t 4))⟩,
  ⟨(some 70), none, (.iaddr 4 (.t 68) (.t 69))⟩,
  ⟨(some 71), none, (.faddr 0 (.t 70))⟩,
  ⟨(some 72), none, (.load 2 true (.t 71))⟩,
  ⟨(some 73), none, (.call 49 [(.t 72)])⟩,
  ⟨(some 74), none, (.un .not (.t 73))⟩,
  ⟨(some 75), none, (.mv (.t 74))⟩,
  ⟨(some 76), (some (75, false)), (.faddr 8 (.t 1))⟩,
  ⟨(some 77), (some (75, false)), (.load 1 false (.t 76))⟩,
  ⟨(some 78), (some (75, false)), (.mv (.t 4))⟩,
  ⟨(some 79), (some (75, false)), (.iaddr 4 (.t 77) (.t 78))⟩,
  ⟨(some 80), (some (75, false)), (.faddr 2 (.t 79))⟩,
  ⟨(some 81), (some (75, false)), (.load 2 true (.t 80))⟩,
  ⟨(some 82), (some (75, false)), (.call 49 [(.t 81)])⟩,
  ⟨(some 83), (some (75, false)), (.un .not (.t 82))⟩,
  ⟨(some 84), none, (.pick (.t 75) (.c (.sc (.bool true))) (.t 83))⟩] none)
 (.cond (.t 84)
 (.seq (.reg [⟨(some 2), none, (.mv (.c (.sc (.bool false))))⟩] none) .ret) .skip))) (.reg [⟨(some 65), none, (.mv (.t 4))⟩,
  ⟨(some 66), none, (.bin .add (.t 65) (.c (.sc (.int .i64 (1)))))⟩,
  ⟨(some 4), none, (.mv (.t 66))⟩] none))))))
 (.seq (.reg [⟨(some 2), none, (.mv (.c (.sc (.bool true))))⟩] none) .ret)))))
theorem good41 {args : List PV} {r : PV} (hl : args.length ≤ 85) (h : Run Try.prog [.code ac41] (endQ [(.t 2)] r) ⟨initT 0 args, [], 0, 85⟩) : Good Try.prog 41 args r :=
  good_run (by kernel_rfl) Ramix Try.func41 rfl (hs := [⟨[1, 3], []⟩, ⟨[1, 4], []⟩]) (hs' := []) (by kernel_rfl) hl h
def ac42 : ACode :=
 (.seq (.reg [⟨(some 1), none, (.boxv (.t 0))⟩,
  ⟨(some 2), none, (.mv (.c (.sc (.bool false))))⟩] none)
 (.seq (.reg [⟨(some 5), none, (.faddr 7 (.t 1))⟩,
  ⟨(some 6), none, (.load 1 false (.t 5))⟩,
  ⟨(some 7), none, (.len (.t 6))⟩,
  ⟨(some 3), none, (.mv (.t 7))⟩] none)
 (.seq (.seq (.reg [⟨(some 8), none, (.mv (.t 3))⟩,
  ⟨(some 9), none, (.bin .lss (.t 8) (.c (.sc (.int .i64 (1)))))⟩,
  ⟨(some 10), none, (.mv (.t 9))⟩,
  ⟨(some 11), (some (10, false)), (.mv (.t 3))⟩,
  ⟨(some 12), (some (10, false)), (.bin .gtr (.t 11) (.c (.sc (.int .i64 (512)))))⟩,
  ⟨(some 13), none, (.pick (.t 10) (.c (.sc (.bool true))) (.t 12))⟩,
  ⟨(some 14), none, (.mv (.t 13))⟩,
  ⟨(some 15), (some (14, false)), (.faddr 8 (.t 1))⟩,
  ⟨(some 16), (some (14, false)), (.load 1 false (.t 15))⟩,
  ⟨(some 17), (some (14, false)), (.len (.t 16))⟩,
  ⟨(some 18), (some (14, false)), (.bin .gtr (.t 17) (.c (.sc (.int .i64 (512)))))⟩,
  ⟨(some 19), none, (.pick (.t 14) (.c (.sc (.bool true))) (.t 18))⟩,
  ⟨(some 20), none, (.mv (.t 19))⟩,
  ⟨(some 21), (some (20, false)), (.faddr 7 (.t 1))⟩,
  ⟨(some 22), (some (20, false)), (.load 1 false (.t 21))⟩,
  ⟨(some 23), (some (20, false)), (.iaddr 5 (.t 22) (.c (.sc (.int .i64 (0)))))⟩,
  ⟨(some 24), (some (20, false)), (.faddr 1 (.t 23))⟩,
  ⟨(some 25), (some (20, false)), (.load 2 true (.t 24))⟩,
  ⟨(some 26), (some (20, false)), (.faddr 2 (.t 1))⟩,
  ⟨(some 27), (some (20, false)), (.load 2 true (.t 26))⟩,
  ⟨(some 28), (some (20, false)), (.eqs true [(.i .i64), (.i .i64)] (.t 25) (.t 27))⟩,
  ⟨(some 29), none, (.pick (.t 20) (.c (.sc (.bool true))) (.t 28))⟩,
  ⟨(some 30), none, (.mv (.t 29))⟩,
  ⟨(some 31), (some (30, false)), (.faddr 7 (.t 1))⟩,
  ⟨(some 32), (some (30, false)), (.load 1 false (.t 31))⟩,
  ⟨(some 33), (some (30, false)), (.mv (.t 3))⟩,
  ⟨(some 34), (some (30, false)), (.bin .sub (.t 33) (.c (.sc (.int .i64 (1)))))⟩,
  ⟨(some 35), (some (30, false)), (.iaddr 5 (.t 32) (.t 34))⟩,
  ⟨(some 36), (some (30, false)), (.faddr 3 (.t 35))⟩,
  ⟨(some 37), (some (30, false)), (.load 2 true (.t 36))⟩,
  ⟨(some 38), (some (30, false)), (.faddr 4 (.t 1))⟩,
  ⟨(some 39), (some (30, false)), (.load 2 true (.t 38))⟩,
  ⟨(some 40), (some (30, false)), (.eqs true [(.i .i64), (.i .i64)] (.t 37) (.t 39))⟩,
  ⟨(some 41), none, (.pick (.t 30) (.c (.sc (.bool true))) (.t 40))⟩] (some [[], [0], [1, 0], [2, 1, 0], [3, 2, 1, 0], [2, 4, 1, 0, 3], [5, 2, 4, 1, 0, 3], [6, 5, 2, 4, 1, 0, 3], [7, 6, 5, 2, 4, 1, 0, 3], [8, 6, 7, 5, 2, 4, 1, 0, 3], [9, 6, 8, 7, 5, 2, 4, 1, 0, 3], [6, 10, 5, 2, 4, 1, 0, 3, 9, 8, 7], [11, 6, 10, 5, 2, 4, 1, 0, 3, 9, 8, 7], [12, 11, 6, 10, 5, 2, 4, 1, 0, 3, 9, 8, 7], [13, 12, 11, 6, 10, 5, 2, 4, 1, 0, 3, 9, 8, 7], [14, 12, 13, 11, 6, 10, 5, 2, 4, 1, 0, 3, 9, 8, 7], [15, 12, 14, 13, 11, 6, 10, 5, 2, 4, 1, 0, 3, 9, 8, 7], [16, 12, 15, 14, 13, 11, 6, 10, 5, 2, 4, 1, 0, 3, 9, 8, 7], [12, 11, 6, 10, 5, 2, 4, 1, 0, 3, 9, 8, 7], [18, 12, 11, 6, 10, 5, 2, 4, 1, 0, 3, 9, 8, 7], [17, 19, 12, 16, 15, 14, 13, 11, 6, 10, 5, 2, 4, 1, 0, 3, 9, 8, 7, 18], [12, 20, 11, 6, 10, 5, 2, 4, 1, 0, 3, 9, 8, 7, 17, 19, 16, 15, 14, 13, 18], [21, 12, 20, 11, 6, 10, 5, 2, 4, 1, 0, 3, 9, 8, 7, 17, 19, 16, 15, 14, 13, 18], [22, 21, 12, 20, 11, 6, 10, 5, 2, 4, 1, 0, 3, 9, 8, 7, 17, 19, 16, 15, 14, 13, 18], [23, 22, 21, 12, 20, 11, 6, 10, 5, 2, 4, 1, 0, 3, 9, 8, 7, 17, 19, 16, 15, 14, 13, 18], [22, 21, 12, 20, 11, 6, 10, 5, 2, 4, 1, 0, 3, 9, 8, 7, 17, 19, 16, 15, 14, 13, 18], [25, 22, 21, 12, 20, 11, 6, 10, 5, 2, 4, 1, 0, 3, 9, 8, 7, 17, 19, 16, 15, 14, 13, 18], [24, 26, 22, 23, 21, 12, 20, 11, 6, 10, 5, 2, 4, 1, 0, 3, 9, 8, 7, 17, 19, 16, 15, 14, 13, 18, 25], [27, 22, 24, 26, 23, 21, 12, 20, 11, 6, 10, 5, 2, 4, 1, 0, 3, 9, 8, 7, 17, 19, 16, 15, 14, 13, 18, 25], [28, 22, 27, 24, 26, 23, 21, 12, 20, 11, 6, 10, 5, 2, 4, 1, 0, 3, 9, 8, 7, 17, 19, 16, 15, 14, 13, 18, 25], [22, 21, 12, 20, 11, 6, 10, 5, 2, 4, 1, 0, 3, 9, 8, 7, 17, 19, 16, 15, 14, 13, 18], [30, 22, 21, 12, 20, 11, 6, 10, 5, 2, 4, 1, 0, 3, 9, 8, 7, 17, 19, 16, 15, 14, 13, 18], [29, 31, 22, 28, 27, 24, 26, 23, 21, 12, 20, 11, 6, 10, 5, 2, 4, 1, 0, 3, 9, 8, 7, 17, 19, 16, 15, 14, 13, 18, 25, 30], [22, 32, 21, 12, 20, 11, 6, 10, 5, 2, 4, 1, 0, 3, 9, 8, 7, 17, 19, 16, 15, 14, 13, 18, 29, 31, 28, 27, 24, 26, 23, 25, 30]]))
 (.cond (.t 41)
 (.seq (.reg [⟨(some 2), none, (.mv (.c (.sc (.bool false))))⟩] none) .ret) .skip))
 (.seq (.seq (.reg [⟨(some 4), none, (.mv (.c (.sc (.int .i64 (1)))))⟩] none) (.block 0 
 (.loop ⟨[1, 3, 4], []⟩
 (.seq (.seq (.reg [⟨(some 42), none, (.mv (.t 4))⟩,
  ⟨(some 43), none, (.mv (.t 3))⟩,
  ⟨(some 44), none, (.bin .lss (.t 42) (.t 43))⟩] none)
 (.cond (.t 44) .skip (.exit 0)))
 (.seq (.block 1
 (.seq (.reg [⟨(some 47), none, (.faddr 7 (.t 1))⟩,
  ⟨(some 48), none, (.load 1 false (.t 47))⟩,
  ⟨(some 49), none, (.mv (.t 4))⟩,
  ⟨(some 50), none, (.iaddr 5 (.t 48) (.t 49))⟩,
  ⟨(some 51), none, (.faddr 1 (.t 50))⟩,
  ⟨(some 52), none, (.load 2 true (.t 51))⟩,
  ⟨(some 53), none, (.faddr 7 (.t 1))⟩,
  ⟨(some 54), none, (.load 1 false (.t 53))⟩,
  ⟨(some 55), none, (.mv (.t 4))⟩,
  ⟨(some 56), none, (.bin .sub (.t 55) (.c (.sc (.int .i64 (1)))))⟩,
  ⟨(some 57), none, (.iaddr 5 (.t 54) (.t 56))⟩,
  ⟨(some 58), none, (.faddr 3 (.t 57))⟩,
  ⟨(some 59), none, (.load 2 true (.t 58))⟩,
  ⟨(some 60), none, (.eqs true [(.i .i64), (.i .i64)] (.t 52) (.t 59))⟩] (some [[], [0], [], [1, 2, 0], [3, 1, 2, 0], [4, 3, 1, 2, 0], [], [6], [], [8], [7, 9, 6, 8], [10, 7, 9, 6, 8], [11, 10, 7, 9, 6, 8], [5, 12, 4, 3, 1, 2, 0, 11, 10, 7, 9, 6, 8]]))
 (.cond (.t 60)
 (.seq (.reg [⟨(some 2), none, (.mv (.c (.sc (.bool false))))⟩] none) .ret) .skip))) (.reg [⟨(some 45), none, (.mv (.t 4))⟩,
  ⟨(some 46), none, (.bin .add (.t 45) (.c (.sc (.int .i64 (1)))))⟩,
  ⟨(some 4), none, (.mv (.t 46))⟩] none))))))
 (.seq (.reg [⟨(some 2), none, (.mv (.c (.sc (.bool true))))⟩] none) .ret)))))
theorem good42 {args : List PV} {r : PV} (hl : args.length ≤ 61) (h : Run Try.prog [.code ac42] (endQ [(.t 2)] r) ⟨initT 0 args, [], 0, 61⟩) : Good Try.prog 42 args r :=
  good_run (by kernel_rfl) Ramix Try.func42 rfl (hs := [⟨[1, 3, 4], []⟩]) (hs' := []) (by kernel_rfl) hl h
def ac43 : ACode :=
 (.seq (.reg [⟨(some 1), none, (.boxv (.t 0))⟩,
  ⟨(some 2), none, (.mv (.c (.sc (.bool false))))⟩] none)
 (.seq (.seq (.reg [⟨(some 3), none, (.mv (.c (.sc (.int .i64 (0)))))⟩] none) (.block 0 
 (.loop ⟨[1, 3], []⟩
 (.seq (.seq (.reg [⟨(some 7), none, (.mv (.t 3))⟩,
  ⟨(some 8), none, (.faddr 7 (.t 1))⟩,
  ⟨(some 9), none, (.load 1 false (.t 8))⟩,
  ⟨(some 10), none, (.len (.t 9))⟩,
  ⟨(some 11), none, (.bin .lss (.t 7) (.t 10))⟩] none)
 (.cond (.t 11) .skip (.exit 0)))
 (.seq (.block 1
 (.seq (.reg [⟨(some 14), none, (.mv (.t 3))⟩,
  ⟨(some 15), none, (.faddr 7 (.t 1))⟩,
  ⟨(some 16), none, (.load 1 false (.t 15))⟩,
  ⟨(some 17), none, (.len (.t 16))⟩,
  ⟨(some 18), none, (.bin .sub (.t 17) (.c (.sc (.int .i64 (1)))))⟩,
  ⟨(some 19), none, (.bin .eql (.t 14) (.t 18))⟩,
  ⟨(some 20), none, (.mv (.t 19))⟩,
  ⟨(some 21), (some (20, true)), (.faddr 6 (.t 1))⟩,
  ⟨(some 22), (some (20, true)), (.load 1 false (.t 21))⟩,
  ⟨(some 23), none, (.pick (.t 20) (.t 22) (.c (.sc (.bool false))))⟩,
  ⟨(some 4), none, (.mv (.t 23))⟩] none)
 (.seq (.reg [⟨(some 24), none, (.mv (.t 4))⟩,
  ⟨(some 25), none, (.un .not (.t 24))⟩,
  ⟨(some 26), none, (.mv (.t 25))⟩,
  ⟨(some 27), (some (26, true)), (.faddr 7 (.t 1))⟩,
  ⟨(some 28), (some (26, true)), (.load 1 false (.t 27))⟩,
  ⟨(some 29), (some (26, true)), (.mv (.t 3))⟩,
  ⟨(some 30), (some (26, true)), (.iaddr 5 (.t 28) (.t 29))⟩,
  ⟨(some 31), (some (26, true)), (.faddr 1 (.t 30))⟩,
  ⟨(some 32), (some (26, true)), (.faddr 0 (.t 31))⟩,
  ⟨(some 33), (some (26, true)), (.load 1 false (.t 32))⟩,
  ⟨(some 34), (some (26, true)), (.faddr 7 (.t 1))⟩,
  ⟨(some 35), (some (26, true)), (.load 1 false (.t 34))⟩,
  ⟨(some 36), (some (26, true)), (.mv (.t 3))⟩,
  ⟨(some 37), (some (26, true)), (.iaddr 5 (.t 35) (.t 36))⟩,
  ⟨(some 38), (some (26, true)), (.faddr 3 (.t 37))⟩,
  ⟨(some 39), (some (26, true)), (.faddr 0 (.t 38))⟩,
  ⟨(some 40), (some (26, true)), (.load 1 false (.t 39))⟩,
  ⟨(some 41), (some (26, true)), (.bin .gtr (.t 33) (.t 40))⟩,
  ⟨(some 42), none, (.pick (.t 26) (.t 41) (.c (.sc (.bool false))))⟩] (some [[], [0], [1, 0], [2, 1, 0], [3, 2, 1, 0], [2, 1, 0], [4, 5, 2, 3, 1, 0], [6, 2, 4, 5, 3, 1, 0], [7, 2, 6, 4, 5, 3, 1, 0], [8, 2, 7, 6, 4, 5, 3, 1, 0], [2, 1, 0], [10, 2, 1, 0], [2, 1, 0], [11, 12, 2, 10, 1, 0], [13, 2, 11, 12, 10, 1, 0], [14, 2, 13, 11, 12, 10, 1, 0], [15, 2, 14, 13, 11, 12, 10, 1, 0], [9, 16, 2, 8, 7, 6, 4, 5, 3, 1, 0, 15, 14, 13, 11, 12, 10], [2, 17, 1, 0, 9, 16, 8, 7, 6, 4, 5, 3, 15, 14, 13, 11, 12, 10]]))
 (.cond (.t 42)
 (.seq (.reg [⟨(some 2), none, (.mv (.c (.sc (.bool false))))⟩] none) .ret) .skip)))) (.reg [⟨(some 12), none, (.mv (.t 3))⟩,
  ⟨(some 13), none, (.bin .add (.t 12) (.c (.sc (.int .i64 (1)))))⟩,
  ⟨(some 3), none, (.mv (.t 13))⟩] none))))))
 (.seq (.reg [⟨(some 43), none, (.load 13 true (.t 1))⟩,
  ⟨(some 44), none, (.call 50 [(.t 43)])⟩,
  ⟨(some 5), none, (.mv (.t 44))⟩] none)
 (.seq (.seq (.reg [⟨(some 6), none, (.mv (.c (.sc (.int .i64 (0)))))⟩] none) (.block 2 
 (.loop ⟨[1, 5, 6], []⟩
 (.seq (.seq (.reg [⟨(some 45), none, (.mv (.t 6))⟩,
  ⟨(some 46), none, (.mv (.t 5))⟩,
  ⟨(some 47), none, (.len (.t 46))⟩,
  ⟨(some 48), none, (.bin .lss (.t 45) (.t 47))⟩] none)
 (.cond (.t 48) .skip (.exit 2)))
 (.seq (.block 3
 (.seq (.reg [⟨(some 51), none, (.mv (.t 6))⟩,
  ⟨(some 52), none, (.bin .eql (.t 51) (.c (.sc (.int .i64 (0)))))⟩,
  ⟨(some 53), none, (.mv (.t 52))⟩,
  ⟨(some 54), (some (53, true)), (.mv (.t 5))⟩,
  ⟨(some 55), (some (53, true)), (.mv (.t 6))⟩,
  ⟨(some 56), (some (53, true)), (.iaddr 1 (.t 54) (.t 55))⟩,
  ⟨(some 57), (some (53, true)), (.load 1 false (.t 56))⟩,
  ⟨(some 58), (some (53, true)), (.faddr 2 (.t 1))⟩,
  ⟨(some 59), (some (53, true)), (.faddr 0 (.t 58))⟩,
  ⟨(some 60), (some (53, true)), (.load 1 false (.t 59))⟩,
  ⟨(some 61), (some (53, true)), (.bin .lss (.t 57) (.t 60))⟩,
  ⟨(some 62), none, (.pick (.t 53) (.t 61) (.c (.sc (.bool false))))⟩,
  ⟨(some 63), none, (.mv (.t 62))⟩,
  ⟨(some 64), (some (63, false)), (.mv (.t 6))⟩,
  ⟨(some 65), (some (63, false)), (.bin .gtr (.t 64) (.c (.sc (.int .i64 (0)))))⟩,
  ⟨(some 66), (some (63, false)), (.mv (.t 65))⟩,
  ⟨(some 67), (some (66, true)), (.mv (.t 5))⟩,
  ⟨(some 68), (some (66, true)), (.mv (.t 6))⟩,
  ⟨(some 69), (some (66, true)), (.iaddr 1 (.t 67) (.t 68))⟩,
  ⟨(some 70), (some (66, true)), (.load 1 false (.t 69))⟩,
  ⟨(some 71), (some (66, true)), (.mv (.t 5))⟩,
  ⟨(some 72), (some (66, true)), (.mv (.t 6))⟩,
  ⟨(some 73), (some (66, true)), (.bin .sub (.t 72) (.c (.sc (.int .i64 (1)))))⟩,
  ⟨(some 74), (some (66, true)), (.iaddr 1 (.t 71) (.t 73))⟩,
  ⟨(some 75), (some (66, true)), (.load 1 false (.t 74))⟩,
  ⟨(some 76), (some (66, true)), (.bin .lss (.t 70) (.t 75))⟩,
  ⟨(some 77), (some (63, false)), (.pick (.t 66) (.t 76) (.c (.sc (.bool false))))⟩,
  ⟨(some 78), none, (.pick (.t 63) (.c (.sc (.bool true))) (.t 77))⟩,
  ⟨(some 79), none, (.mv (.t 78))⟩,
  ⟨(some 80), (some (79, false)), (.faddr 6 (.t 1))⟩,
  ⟨(some 81), (some (79, false)), (.load 1 false (.t 80))⟩,
  ⟨(some 82), (some (79, false)), (.un .not (.t 81))⟩,
  ⟨(some 83), (some (79, false)), (.mv (.t 82))⟩,
  ⟨(some 84), (some (83, true)), (.mv (.t 5))⟩,
  ⟨(some 85), (some (83, true)), (.mv (.t 6))⟩,
  ⟨(some 86), (some (83, true)), (.iaddr 1 (.t 84) (.t 85))⟩,
  ⟨(some 87), (some (83, true)), (.load 1 false (.t 86))⟩,
  ⟨(some 88), (some (83, true)), (.faddr 4 (.t 1))⟩,
  ⟨(some 89), (some (83, true)), (.faddr 0 (.t 88))⟩,
  ⟨(some 90), (some (83, true)), (.load 1 false (.t 89))⟩,
  ⟨(some 91), (some (83, true)), (.bin .gtr (.t 87) (.t 90))⟩,
  ⟨(some 92), (some (79, false)), (.pick (.t 83) (.t 91) (.c (.sc (.bool false))))⟩,
  ⟨(some 93), none, (.pick (.t 79) (.c (.sc (.bool true))) (.t 92))⟩] (some [[], [0], [1, 0], [2, 1, 0], [2, 1, 0], [3, 4, 2, 1, 0], [5, 2, 3, 4, 1, 0], [2, 1, 0], [7, 2, 1, 0], [8, 2, 7, 1, 0], [6, 9, 2, 5, 3, 4, 1, 0, 8, 7], [2, 10, 1, 0, 6, 9, 5, 3, 4, 8, 7], [11, 2, 10, 1, 0, 6, 9, 5, 3, 4, 8, 7], [12, 11, 2, 10, 1, 0, 6, 9, 5, 3, 4, 8, 7], [13, 12, 11, 2, 10, 1, 0, 6, 9, 5, 3, 4, 8, 7], [14, 12, 13, 11, 2, 10, 1, 0, 6, 9, 5, 3, 4, 8, 7], [15, 14, 12, 13, 11, 2, 10, 1, 0, 6, 9, 5, 3, 4, 8, 7], [15, 14, 12, 13, 11, 2, 10, 1, 0, 6, 9, 5, 3, 4, 8, 7], [16, 17, 15, 14, 12, 13, 11, 2, 10, 1, 0, 6, 9, 5, 3, 4, 8, 7], [18, 15, 16, 17, 14, 12, 13, 11, 2, 10, 1, 0, 6, 9, 5, 3, 4, 8, 7], [15, 14, 12, 13, 11, 2, 10, 1, 0, 6, 9, 5, 3, 4, 8, 7], [15, 14, 12, 13, 11, 2, 10, 1, 0, 6, 9, 5, 3, 4, 8, 7], [21, 15, 14, 12, 13, 11, 2, 10, 1, 0, 6, 9, 5, 3, 4, 8, 7], [20, 22, 15, 14, 12, 13, 11, 2, 10, 1, 0, 6, 9, 5, 3, 4, 8, 7, 21], [23, 15, 20, 22, 14, 12, 13, 11, 2, 10, 1, 0, 6, 9, 5, 3, 4, 8, 7, 21], [19, 24, 15, 18, 16, 17, 14, 12, 13, 11, 2, 10, 1, 0, 6, 9, 5, 3, 4, 8, 7, 23, 20, 22, 21], [15, 25, 12, 14, 13, 11, 2, 10, 1, 0, 6, 9, 5, 3, 4, 8, 7, 19, 24, 18, 16, 17, 23, 20, 22, 21], [12, 26, 11, 2, 10, 1, 0, 6, 9, 5, 3, 4, 8, 7, 15, 25, 14, 13, 19, 24, 18, 16, 17, 23, 20, 22, 21], [27, 15, 12, 26, 11, 2, 10, 1, 0, 6, 9, 5, 3, 4, 8, 7, 25, 14, 13, 19, 24, 18, 16, 17, 23, 20, 22, 21], [28, 27, 15, 12, 26, 11, 2, 10, 1, 0, 6, 9, 5, 3, 4, 8, 7, 25, 14, 13, 19, 24, 18, 16, 17, 23, 20, 22, 21], [29, 28, 27, 15, 12, 26, 11, 2, 10, 1, 0, 6, 9, 5, 3, 4, 8, 7, 25, 14, 13, 19, 24, 18, 16, 17, 23, 20, 22, 21], [30, 28, 29, 27, 15, 12, 26, 11, 2, 10, 1, 0, 6, 9, 5, 3, 4, 8, 7, 25, 14, 13, 19, 24, 18, 16, 17, 23, 20, 22, 21], [31, 28, 30, 29, 27, 15, 12, 26, 11, 2, 10, 1, 0, 6, 9, 5, 3, 4, 8, 7, 25, 14, 13, 19, 24, 18, 16, 17, 23, 20, 22, 21], [32, 31, 28, 30, 29, 27, 15, 12, 26, 11, 2, 10, 1, 0, 6, 9, 5, 3, 4, 8, 7, 25, 14, 13, 19, 24, 18, 16, 17, 23, 20, 22, 21], [32, 31, 28, 30, 29, 27, 15, 12, 26, 11, 2, 10, 1, 0, 6, 9, 5, 3, 4, 8, 7, 25, 14, 13, 19, 24, 18, 16, 17, 23, 20, 22, 21], [33, 34, 32, 31, 28, 30, 29, 27, 15, 12, 26, 11, 2, 10, 1, 0, 6, 9, 5, 3, 4, 8, 7, 25, 14, 13, 19, 24, 18, 16, 17, 23, 20, 22, 21], [35, 32, 33, 34, 31, 28, 30, 29, 27, 15, 12, 26, 11, 2, 10, 1, 0, 6, 9, 5, 3, 4, 8, 7, 25, 14, 13, 19, 24, 18, 16, 17, 23, 20, 22, 21], [32, 31, 28, 30, 29, 27, 15, 12, 26, 11, 2, 10, 1, 0, 6, 9, 5, 3, 4, 8, 7, 25, 14, 13, 19, 24, 18, 16, 17, 23, 20, 22, 21], [37, 32, 31, 28, 30, 29, 27, 15, 12, 26, 11, 2, 10, 1, 0, 6, 9, 5, 3, 4, 8, 7, 25, 14, 13, 19, 24, 18, 16, 17, 23, 20, 22, 21], [38, 32, 37, 31, 28, 30, 29, 27, 15, 12, 26, 11, 2, 10, 1, 0, 6, 9, 5, 3, 4, 8, 7, 25, 14, 13, 19, 24, 18, 16, 17, 23, 20, 22, 21], [36, 39, 32, 35, 33, 34, 31, 28, 30, 29, 27, 15, 12, 26, 11, 2, 10, 1, 0, 6, 9, 5, 3, 4, 8, 7, 25, 14, 13, 19, 24, 18, 16, 17, 23, 20, 22, 21, 38, 37], [32, 40, 28, 31, 30, 29, 27, 15, 12, 26, 11, 2, 10, 1, 0, 6, 9, 5, 3, 4, 8, 7, 25, 14, 13, 19, 24, 18, 16, 17, 23, 20, 22, 21, 36, 39, 35, 33, 34, 38, 37], [28, 41, 27, 15, 12, 26, 11, 2, 10, 1, 0, 6, 9, 5, 3, 4, 8, 7, 25, 14, 13, 19, 24, 18, 16, 17, 23, 20, 22, 21, 32, 40, 31, 30, 29, 36, 39, 35, 33, 34, 38, 37]]))
 (.cond (.t 93)
 (.seq (.reg [⟨(some 2), none, (.mv (.c (.sc (.bool false))))⟩] none) .ret) .skip))) (.reg [⟨(some 49), none, (.mv (.t 6))⟩,
  ⟨(some 50), none, (.bin .add (.t 49) (.c (.sc (.int .i64 (1)))))⟩,
  ⟨(some 6), none, (.mv (.t 50))⟩] none))))))
 (.seq (.reg [⟨(some 2), none, (.mv (.c (.sc (.bool true))))⟩] none) .ret)))))
theorem good43 {args : List PV} {r : PV} (hl : args.length ≤ 94) (h : Run Try.prog [.code ac43] (endQ [(.t 2)] r) ⟨initT 0 args, [], 0, 94⟩) : Good Try.prog 43 args r :=
  good_run (by kernel_rfl) Ramix Try.func43 rfl (hs := [⟨[1, 3], []⟩, ⟨[1, 5, 6], []⟩]) (hs' := []) (by kernel_rfl) hl h
def ac50 : ACode :=
 (.seq (.reg [⟨(some 1), none, (.boxv (.t 0))⟩,
  ⟨(some 2), none, (.mv (.c (.sc (.slice none 0 0))))⟩] none)
 (.seq (.reg [⟨(some 3), none, (.mv (.c (.sc (.slice none 0 0))))⟩] none)
 (.seq (.seq (.reg [⟨(some 4), none, (.mv (.c (.sc (.int .i64 (0)))))⟩] none) (.block 0 
 (.loop ⟨[1, 3, 4], [(3, (3, 1))]⟩
 (.seq (.seq (.reg [⟨(some 5), none, (.mv (.t 4))⟩,
  ⟨(some 6), none, (.faddr 8 (.t 1))⟩,
  ⟨(some 7), none, (.load 1 false (.t 6))⟩,
  ⟨(some 8), none, (.len (.t 7))⟩,
  ⟨(some 9), none, (.bin .lss (.t 5) (.t 8))⟩] none)
 (.cond (.t 9) .skip (.exit 0)))
 (.seq (.block 1 (.reg [⟨(some 12), none, (.mv (.t 3))⟩,
  ⟨(some 13), none, (.faddr 8 (.t 1))⟩,
  ⟨(some 14), none, (.load 1 false (.t 13))⟩,
  ⟨(some 15), none, (.mv (.t 4))⟩,
  ⟨(some 16), none, (.iaddr 4 (.t 14) (.t 15))⟩,
  ⟨(some 17), none, (.faddr 0 (.t 16))⟩,
  ⟨(some 18), none, (.faddr 0 (.t 17))⟩,
  ⟨(some 19), none, (.load 1 false (.t 18))⟩,
  ⟨(some 20), none, (.faddr 8 (.t 1))⟩,
  ⟨(some 21), none, (.load 1 false (.t 20))⟩,
  ⟨(some 22), none, (.mv (.t 4))⟩,
  ⟨(some 23), none, (.iaddr 4 (.t 21) (.t 22))⟩,
  ⟨(some 24), none, (.faddr 2 (.t 23))⟩,
  ⟨(some 25), none, (.faddr 0 (.t 24))⟩,
  ⟨(some 26), none, (.load 1 false (.t 25))⟩,
  ⟨(some 27), none, (.bslice 3 1 [(.t 19), (.t 26)])⟩,
  ⟨(some 28), none, (.append 3 1 8 (.t 12) (.t 27))⟩,
  ⟨(some 3), none, (.mv (.t 28))⟩] (some [[], [], [1], [], [2, 3, 1], [4, 2, 3, 1], [5, 4, 2, 3, 1], [6, 5, 4, 2, 3, 1], [], [8], [], [9, 10, 8], [11, 9, 10, 8], [12, 11, 9, 10, 8], [13, 12, 11, 9, 10, 8], [7, 14, 6, 5, 4, 2, 3, 1, 13, 12, 11, 9, 10, 8], [0, 15, 7, 14, 6, 5, 4, 2, 3, 1, 13, 12, 11, 9, 10, 8], [16, 0, 1, 2, 3, 4, 5, 6, 7, 8, 9, 10, 11, 12, 13, 14, 15]]))) (.reg [⟨(some 10), none, (.mv (.t 4))⟩,
  ⟨(some 11), none, (.bin .add (.t 10) (.c (.sc (.int .i64 (1)))))⟩,
  ⟨(some 4), none, (.mv (.t 11))⟩] none))))))
 (.seq (.seq (.reg [⟨(some 29), none, (.mv (.t 3))⟩,
  ⟨(some 30), none, (.len (.t 29))⟩,
  ⟨(some 31), none, (.bin .gtr (.t 30) (.c (.sc (.int .i64 (0)))))⟩,
  ⟨(some 32), none, (.mv (.t 31))⟩,
  ⟨(some 33), (some (32, true)), (.faddr 6 (.t 1))⟩,
  ⟨(some 34), (some (32, true)), (.load 1 false (.t 33))⟩,
  ⟨(some 35), none, (.pick (.t 32) (.t 34) (.c (.sc (.bool false))))⟩,
  ⟨(some 36), none, (.mv (.t 35))⟩,
  ⟨(some 37), (some (36, true)), (.mv (.t 3))⟩,
  ⟨(some 38), (some (36, true)), (.mv (.t 3))⟩,
  ⟨(some 39), (some (36, true)), (.len (.t 38))⟩,
  ⟨(some 40), (some (36, true)), (.bin .sub (.t 39) (.c (.sc (.int .i64 (1)))))⟩,
  ⟨(some 41), (some (36, true)), (.iaddr 1 (.t 37) (.t 40))⟩,
  ⟨(some 42), (some (36, true)), (.load 1 false (.t 41))⟩,
  ⟨(some 43), (some (36, true)), (.bin .eql (.t 42) (.c (.sc (.int .i64 (0)))))⟩,
  ⟨(some 44), none, (.pick (.t 36) (.t 43) (.c (.sc (.bool false))))⟩] none)
 (.cond (.t 44) (.reg [⟨(some 45), none, (.mv (.t 3))⟩,
  ⟨(some 46), none, (.mv (.t 3))⟩,
  ⟨(some 47), none, (.len (.t 46))⟩,
  ⟨(some 48), none, (.bin .sub (.t 47) (.c (.sc (.int .i64 (1)))))⟩,
  ⟨(some 49), none, (.slice 1 (.t 45) none (some (.t 48)) none)⟩,
  ⟨(some 3), none, (.mv (.t 49))⟩] none) .skip))
 (.seq (.reg [⟨(some 50), none, (.mv (.t 3))⟩,
  ⟨(some 2), none, (.mv (.t 50))⟩] none) .ret)))))
theorem good50 {args : List PV} {r : PV} (hl : args.length ≤ 51) (h : Run Try.prog [.code ac50] (endQ [(.t 2)] r) ⟨initT 0 args, [], 0, 51⟩) : Good Try.prog 50 args r :=
  good_run (by kernel_rfl) Ramix Try.func50 rfl (hs := [⟨[1, 3, 4], [(3, 3, 1)]⟩]) (hs' := []) (by kernel_rfl) hl h
def ac31 : ACode :=
 (.seq (.reg [⟨(some 1), none, (.boxv (.t 0))⟩,
  ⟨(some 2), none, (.mv (.c (.sc (.int .i64 (0)))))⟩] none)
 (.seq (.block 0
 (.seq (.reg [⟨(some 4), none, (.load 13 true (.t 1))⟩,
  ⟨(some 5), none, (.call 41 [(.t 4)])⟩,
  ⟨(some 6), none, (.un .not (.t 5))⟩,
  ⟨(some 3), none, (.mv (.t 6))⟩] none)
 (.cond (.t 3)
 (.seq (.reg [⟨(some 2), none, (.mv (.c (.sc (.int .i64 (1)))))⟩] none) .ret)
 (.seq (.reg [⟨(some 8), none, (.load 13 true (.t 1))⟩,
  ⟨(some 9), none, (.call 42 [(.t 8)])⟩,
  ⟨(some 10), none, (.un .not (.t 9))⟩,
  ⟨(some 7), none, (.mv (.t 10))⟩] none)
 (.cond (.t 7)
 (.seq (.reg [⟨(some 2), none, (.mv (.c (.sc (.int .i64 (3)))))⟩] none) .ret)
 (.seq (.reg [⟨(some 12), none, (.load 13 true (.t 1))⟩,
  ⟨(some 13), none, (.call 43 [(.t 12)])⟩,
  ⟨(some 14), none, (.un .not (.t 13))⟩,
  ⟨(some 11), none, (.mv (.t 14))⟩] none)
 (.cond (.t 11)
 (.seq (.reg [⟨(some 2), none, (.mv (.c (.sc (.int .i64 (9)))))⟩] none) .ret)
 (.seq (.reg [⟨(some 16), none, (.faddr 6 (.t 1))⟩,
  ⟨(some 17), none, (.load 1 false (.t 16))⟩,
  ⟨(some 18), none, (.mv (.t 17))⟩,
  ⟨(some 19), (some (18, true)), (.faddr 4 (.t 1))⟩,
  ⟨(some 20), (some (18, true)), (.load 2 true (.t 19))⟩,
  ⟨(some 21), (some (18, true)), (.build [(.sc (.int .i64 (0))), (.sc (.int .i64 (0)))] [])⟩,
  ⟨(some 22), (some (18, true)), (.eqs true [(.i .i64), (.i .i64)] (.t 20) (.t 21))⟩,
  ⟨(some 23), none, (.pick (.t 18) (.t 22) (.c (.sc (.bool false))))⟩,
  ⟨(some 24), none, (.mv (.t 23))⟩,
  ⟨(some 25), (some (24, false)), (.faddr 6 (.t 1))⟩,
  ⟨(some 26), (some (24, false)), (.load 1 false (.t 25))⟩,
  ⟨(some 27), (some (24, false)), (.faddr 11 (.t 1))⟩,
  ⟨(some 28), (some (24, false)), (.load 1 false (.t 27))⟩,
  ⟨(some 29), (some (24, false)), (.bin .eql (.t 28) (.c (.sc (.int .i64 (3)))))⟩,
  ⟨(some 30), (some (24, false)), (.beq true (.t 26) (.t 29))⟩,
  ⟨(some 31), none, (.pick (.t 24) (.c (.sc (.bool true))) (.t 30))⟩,
  ⟨(some 15), none, (.mv (.t 31))⟩] none)
 (.cond (.t 15)
 (.seq (.reg [⟨(some 2), none, (.mv (.c (.sc (.int .i64 (12)))))⟩] none) .ret) .skip)))))))))
 (.seq (.reg [⟨(some 2), none, (.mv (.c (.sc (.int .i64 (0)))))⟩] none) .ret)))
theorem good31 {args : List PV} {r : PV} (hl : args.length ≤ 32) (h : Run Try.prog [.code ac31] (endQ [(.t 2)] r) ⟨initT 0 args, [], 0, 32⟩) : Good Try.prog 31 args r :=
  good_run (by kernel_rfl) Ramix Try.func31 rfl (hs := []) (hs' := []) (by kernel_rfl) hl h
end Go.Proofs.Ythekbdjklmellaa
