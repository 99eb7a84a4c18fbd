/-
  The translated codes of functions, checked by the kernel.
-/
import Derived.Test.YthekbdjklmellaaKc
import Derived.KernelRfl
namespace Go.Proofs.Ythekbdjklmellaa
set_option linter.unusedVariables false
set_option linter.unusedSimpArgs false
set_option linter.unnecessarySimpa false
theorem Jamix : Try.prog.follows .mixedOrders = true := by kernel_rfl
def ac3 : ACode :=
 (.seq (.reg [⟨(some 6), none, (.mv (.c (.sc (.bool false))))⟩] none)
 (.seq (.seq (.reg [⟨(some 11), none, (.mv (.t 0))⟩,
  ⟨(some 12), none, (.call 10 [(.t 11)])⟩,
  ⟨(some 13), none, (.un .not (.t 12))⟩] none)
 (.cond (.t 13)
 (.seq (.reg [⟨(some 14), none, (.call 11 [])⟩,
  ⟨(some 6), none, (.mv (.t 14))⟩] none) .ret) .skip))
 (.seq (.reg [⟨(some 16), none, (.mv (.t 0))⟩,
  ⟨(some 17), none, (.mv (.t 1))⟩,
  ⟨(some 18), none, (.mv (.t 2))⟩,
  ⟨(some 19), none, (.call 12 [(.t 16), (.t 17), (.t 18)])⟩,
  ⟨(some 15), none, (.mv (.t 19))⟩,
  ⟨(some 20), none, (.ext 0 (.t 15))⟩,
  ⟨(some 21), none, (.ext 1 (.t 15))⟩,
  ⟨(some 7), none, (.mv (.t 20))⟩,
  ⟨(some 8), none, (.mv (.t 21))⟩] none)
 (.seq (.reg [⟨(some 23), none, (.mv (.t 0))⟩,
  ⟨(some 24), none, (.mv (.t 1))⟩,
  ⟨(some 25), none, (.mv (.t 2))⟩,
  ⟨(some 26), none, (.call 13 [(.t 23), (.t 24), (.t 25)])⟩,
  ⟨(some 22), none, (.mv (.t 26))⟩,
  ⟨(some 27), none, (.ext 0 (.t 22))⟩,
  ⟨(some 28), none, (.ext 1 (.t 22))⟩,
  ⟨(some 9), none, (.mv (.t 27))⟩,
  ⟨(some 10), none, (.mv (.t 28))⟩] none)
 (.seq (.reg [⟨(some 29), none, (.mv (.t 0))⟩,
  ⟨(some 30), none, (.call 14 [(.t 29)])⟩,
  ⟨(some 31), none, (.mv (.t 0))⟩,
  ⟨(some 32), none, (.call 15 [(.t 31)])⟩,
  ⟨(some 33), none, (.bin .eql (.t 30) (.t 32))⟩,
  ⟨(some 34), none, (.mv (.t 33))⟩,
  ⟨(some 35), (some (34, true)), (.mv (.t 7))⟩,
  ⟨(some 36), (some (34, true)), (.mv (.t 9))⟩,
  ⟨(some 37), (some (34, true)), (.bin .eql (.t 35) (.t 36))⟩,
  ⟨(some 38), none, (.pick (.t 34) (.t 37) (.c (.sc (.bool false))))⟩,
  ⟨(some 39), none, (.mv (.t 38))⟩,
  ⟨(some 40), (some (39, true)), (.mv (.t 8))⟩,
  ⟨(some 41), (some (39, true)), (.mv (.t 10))⟩,
  ⟨(some 42), (some (39, true)), (.beq false (.t 40) (.t 41))⟩,
  ⟨(some 43), none, (.pick (.t 39) (.t 42) (.c (.sc (.bool false))))⟩,
  ⟨(some 44), none, (.mv (.t 43))⟩,
  ⟨(some 45), (some (44, true)), (.call 11 [])⟩,
  ⟨(some 46), none, (.pick (.t 44) (.t 45) (.c (.sc (.bool false))))⟩,
  ⟨(some 6), none, (.mv (.t 46))⟩] none) .ret)))))
theorem good3 {args : List PV} {r : PV} (hl : args.length ≤ 47) (h : Run Try.prog [.code ac3] (endQ [(.t 6)] r) ⟨initT 0 args, [], 0, 47⟩) : Good Try.prog 3 args r :=
  good_run (by kernel_rfl) Jamix Try.func3 rfl (hs := []) (hs' := []) (by kernel_rfl) hl h
def ac4 : ACode :=
 (.seq (.reg [⟨(some 3), none, (.boxv (.t 1))⟩,
  ⟨(some 4), none, (.mv (.c (.sc (.bool false))))⟩] none)
 (.seq (.seq (.reg [⟨(some 9), none, (.mv (.t 0))⟩,
  ⟨(some 10), none, (.call 10 [(.t 9)])⟩,
  ⟨(some 11), none, (.un .not (.t 10))⟩] none)
 (.cond (.t 11)
 (.seq (.reg [⟨(some 12), none, (.call 11 [])⟩,
  ⟨(some 4), none, (.mv (.t 12))⟩] none) .ret) .skip))
 (.seq (.reg [⟨(some 14), none, (.mv (.t 0))⟩,
  ⟨(some 15), none, (.faddr 0 (.t 3))⟩,
  ⟨(some 16), none, (.load 1 false (.t 15))⟩,
  ⟨(some 17), none, (.faddr 1 (.t 3))⟩,
  ⟨(some 18), none, (.load 1 false (.t 17))⟩,
  ⟨(some 19), none, (.faddr 2 (.t 3))⟩,
  ⟨(some 20), none, (.load 1 false (.t 19))⟩,
  ⟨(some 21), none, (.faddr 3 (.t 3))⟩,
  ⟨(some 22), none, (.load 1 false (.t 21))⟩,
  ⟨(some 23), none, (.call 16 [(.t 14), (.t 16), (.t 18), (.t 20), (.t 22)])⟩,
  ⟨(some 13), none, (.mv (.t 23))⟩,
  ⟨(some 24), none, (.ext 0 (.t 13))⟩,
  ⟨(some 25), none, (.ext 1 (.t 13))⟩,
  ⟨(some 5), none, (.mv (.t 24))⟩,
  ⟨(some 6), none, (.mv (.t 25))⟩] none)
 (.seq (.reg [⟨(some 27), none, (.mv (.t 0))⟩,
  ⟨(some 28), none, (.faddr 0 (.t 3))⟩,
  ⟨(some 29), none, (.load 1 false (.t 28))⟩,
  ⟨(some 30), none, (.faddr 1 (.t 3))⟩,
  ⟨(some 31), none, (.load 1 false (.t 30))⟩,
  ⟨(some 32), none, (.faddr 2 (.t 3))⟩,
  ⟨(some 33), none, (.load 1 false (.t 32))⟩,
  ⟨(some 34), none, (.faddr 3 (.t 3))⟩,
  ⟨(some 35), none, (.load 1 false (.t 34))⟩,
  ⟨(some 36), none, (.call 17 [(.t 27), (.t 29), (.t 31), (.t 33), (.t 35)])⟩,
  ⟨(some 26), none, (.mv (.t 36))⟩,
  ⟨(some 37), none, (.ext 0 (.t 26))⟩,
  ⟨(some 38), none, (.ext 1 (.t 26))⟩,
  ⟨(some 7), none, (.mv (.t 37))⟩,
  ⟨(some 8), none, (.mv (.t 38))⟩] none)
 (.seq (.reg [⟨(some 39), none, (.mv (.t 5))⟩,
  ⟨(some 40), none, (.mv (.t 7))⟩,
  ⟨(some 41), none, (.call 18 [(.t 39), (.t 40)])⟩,
  ⟨(some 42), none, (.mv (.t 41))⟩,
  ⟨(some 43), (some (42, true)), (.mv (.t 6))⟩,
  ⟨(some 44), (some (42, true)), (.mv (.t 8))⟩,
  ⟨(some 45), (some (42, true)), (.bin .eql (.t 43) (.t 44))⟩,
  ⟨(some 46), none, (.pick (.t 42) (.t 45) (.c (.sc (.bool false))))⟩,
  ⟨(some 47), none, (.mv (.t 46))⟩,
  ⟨(some 48), (some (47, true)), (.call 11 [])⟩,
  ⟨(some 49), none, (.pick (.t 47) (.t 48) (.c (.sc (.bool false))))⟩,
  ⟨(some 4), none, (.mv (.t 49))⟩] none) .ret)))))
theorem good4 {args : List PV} {r : PV} (hl : args.length ≤ 50) (h : Run Try.prog [.code ac4] (endQ [(.t 4)] r) ⟨initT 0 args, [], 0, 50⟩) : Good Try.prog 4 args r :=
  good_run (by kernel_rfl) Jamix Try.func4 rfl (hs := []) (hs' := []) (by kernel_rfl) hl h
def ac5 : ACode :=
 (.seq (.reg [⟨(some 4), none, (.boxv (.t 1))⟩,
  ⟨(some 6), none, (.mv (.c (.sc (.bool false))))⟩] none)
 (.seq (.seq (.reg [⟨(some 11), none, (.mv (.t 0))⟩,
  ⟨(some 12), none, (.call 10 [(.t 11)])⟩,
  ⟨(some 13), none, (.un .not (.t 12))⟩,
  ⟨(some 14), none, (.mv (.t 13))⟩,
  ⟨(some 15), (some (14, false)), (.load 13 true (.t 4))⟩,
  ⟨(some 16), (some (14, false)), (.bslice 41 13 [(.t 15)])⟩,
  ⟨(some 17), (some (14, false)), (.call 19 [(.t 16), (.c (.sc (.int .i64 (1))))])⟩,
  ⟨(some 18), (some (14, false)), (.un .not (.t 17))⟩,
  ⟨(some 19), none, (.pick (.t 14) (.c (.sc (.bool true))) (.t 18))⟩] none)
 (.cond (.t 19)
 (.seq (.reg [⟨(some 20), none, (.call 11 [])⟩,
  ⟨(some 6), none, (.mv (.t 20))⟩] none) .ret) .skip))
 (.seq (.reg [⟨(some 22), none, (.mv (.t 0))⟩,
  ⟨(some 23), none, (.load 13 true (.t 4))⟩,
  ⟨(some 24), none, (.mv (.t 2))⟩,
  ⟨(some 25), none, (.call 20 [(.t 22), (.t 23), (.t 24)])⟩,
  ⟨(some 21), none, (.mv (.t 25))⟩,
  ⟨(some 26), none, (.ext 0 (.t 21))⟩,
  ⟨(some 27), none, (.ext 1 (.t 21))⟩,
  ⟨(some 7), none, (.mv (.t 26))⟩,
  ⟨(some 8), none, (.mv (.t 27))⟩] none)
 (.seq (.reg [⟨(some 29), none, (.mv (.t 0))⟩,
  ⟨(some 30), none, (.load 13 true (.t 4))⟩,
  ⟨(some 31), none, (.mv (.t 2))⟩,
  ⟨(some 32), none, (.call 21 [(.t 29), (.t 30), (.t 31)])⟩,
  ⟨(some 28), none, (.mv (.t 32))⟩,
  ⟨(some 33), none, (.ext 0 (.t 28))⟩,
  ⟨(some 34), none, (.ext 1 (.t 28))⟩,
  ⟨(some 9), none, (.mv (.t 33))⟩,
  ⟨(some 10), none, (.mv (.t 34))⟩] none)
 (.seq (.reg [⟨(some 35), none, (.mv (.t 7))⟩,
  ⟨(some 36), none, (.mv (.t 9))⟩,
  ⟨(some 37), none, (.call 22 [(.t 35), (.t 36)])⟩,
  ⟨(some 38), none, (.mv (.t 37))⟩,
  ⟨(some 39), (some (38, true)), (.mv (.t 8))⟩,
  ⟨(some 40), (some (38, true)), (.mv (.t 10))⟩,
  ⟨(some 41), (some (38, true)), (.bin .eql (.t 39) (.t 40))⟩,
  ⟨(some 42), none, (.pick (.t 38) (.t 41) (.c (.sc (.bool false))))⟩,
  ⟨(some 43), none, (.mv (.t 42))⟩,
  ⟨(some 44), (some (43, true)), (.call 11 [])⟩,
  ⟨(some 45), none, (.pick (.t 43) (.t 44) (.c (.sc (.bool false))))⟩,
  ⟨(some 6), none, (.mv (.t 45))⟩] none) .ret)))))
theorem good5 {args : List PV} {r : PV} (hl : args.length ≤ 46) (h : Run Try.prog [.code ac5] (endQ [(.t 6)] r) ⟨initT 0 args, [], 0, 46⟩) : Good Try.prog 5 args r :=
  good_run (by kernel_rfl) Jamix Try.func5 rfl (hs := []) (hs' := []) (by kernel_rfl) hl h
def ac6 : ACode :=
 (.seq (.reg [⟨(some 4), none, (.boxv (.t 1))⟩,
  ⟨(some 6), none, (.mv (.c (.sc (.bool false))))⟩] none)
 (.seq (.seq (.reg [⟨(some 13), none, (.mv (.t 0))⟩,
  ⟨(some 14), none, (.len (.t 13))⟩,
  ⟨(some 15), none, (.bin .gtr (.t 14) (.c (.sc (.int .i64 (60)))))⟩,
  ⟨(some 16), none, (.mv (.t 15))⟩,
  ⟨(some 17), (some (16, false)), (.load 13 true (.t 4))⟩,
  ⟨(some 18), (some (16, false)), (.bslice 41 13 [(.t 17)])⟩,
  ⟨(some 19), (some (16, false)), (.call 19 [(.t 18), (.c (.sc (.int .i64 (1))))])⟩,
  ⟨(some 20), (some (16, false)), (.un .not (.t 19))⟩,
  ⟨(some 21), none, (.pick (.t 16) (.c (.sc (.bool true))) (.t 20))⟩] none)
 (.cond (.t 21)
 (.seq (.reg [⟨(some 22), none, (.call 11 [])⟩,
  ⟨(some 6), none, (.mv (.t 22))⟩] none) .ret) .skip))
 (.seq (.reg [⟨(some 24), none, (.mv (.t 0))⟩,
  ⟨(some 25), none, (.load 13 true (.t 4))⟩,
  ⟨(some 26), none, (.mv (.t 2))⟩,
  ⟨(some 27), none, (.call 20 [(.t 24), (.t 25), (.t 26)])⟩,
  ⟨(some 23), none, (.mv (.t 27))⟩,
  ⟨(some 28), none, (.ext 0 (.t 23))⟩,
  ⟨(some 29), none, (.ext 1 (.t 23))⟩,
  ⟨(some 7), none, (.mv (.t 28))⟩,
  ⟨(some 8), none, (.mv (.t 29))⟩] none)
 (.seq (.seq (.reg [⟨(some 30), none, (.mv (.t 8))⟩,
  ⟨(some 31), none, (.bin .neq (.t 30) (.c (.sc (.int .i64 (0)))))⟩] none)
 (.cond (.t 31)
 (.seq (.reg [⟨(some 32), none, (.mv (.t 7))⟩,
  ⟨(some 33), none, (.len (.t 32))⟩,
  ⟨(some 34), none, (.bin .eql (.t 33) (.c (.sc (.int .i64 (0)))))⟩,
  ⟨(some 35), none, (.mv (.t 34))⟩,
  ⟨(some 36), (some (35, true)), (.call 11 [])⟩,
  ⟨(some 37), none, (.pick (.t 35) (.t 36) (.c (.sc (.bool false))))⟩,
  ⟨(some 6), none, (.mv (.t 37))⟩] none) .ret) .skip))
 (.seq (.reg [⟨(some 9), none, (.mv (.c (.sc (.int .i64 (0)))))⟩] none)
 (.seq (.seq (.reg [⟨(some 10), none, (.mv (.c (.sc (.int .i64 (0)))))⟩] none) (.block 0 
 (.loop ⟨[0, 2, 7, 9, 10], []⟩
 (.seq (.seq (.reg [⟨(some 38), none, (.mv (.t 10))⟩,
  ⟨(some 39), none, (.mv (.t 7))⟩,
  ⟨(some 40), none, (.len (.t 39))⟩,
  ⟨(some 41), none, (.bin .lss (.t 38) (.t 40))⟩] none)
 (.cond (.t 41) .skip (.exit 0)))
 (.seq (.block 1
 (.seq (.seq (.reg [⟨(some 44), none, (.mv (.t 7))⟩,
  ⟨(some 45), none, (.mv (.t 10))⟩,
  ⟨(some 46), none, (.iaddr 2 (.t 44) (.t 45))⟩,
  ⟨(some 47), none, (.faddr 1 (.t 46))⟩,
  ⟨(some 48), none, (.load 1 false (.t 47))⟩,
  ⟨(some 49), none, (.bin .lss (.t 48) (.c (.sc (.int .i64 (1)))))⟩,
  ⟨(some 50), none, (.mv (.t 49))⟩,
  ⟨(some 51), (some (50, false)), (.mv (.t 7))⟩,
  ⟨(some 52), (some (50, false)), (.mv (.t 10))⟩,
  ⟨(some 53), (some (50, false)), (.iaddr 2 (.t 51) (.t 52))⟩,
  ⟨(some 54), (some (50, false)), (.faddr 0 (.t 53))⟩,
  ⟨(some 55), (some (50, false)), (.load 1 false (.t 54))⟩,
  ⟨(some 56), (some (50, false)), (.bin .lss (.t 55) (.c (.sc (.int .i64 (0)))))⟩,
  ⟨(some 57), none, (.pick (.t 50) (.c (.sc (.bool true))) (.t 56))⟩,
  ⟨(some 58), none, (.mv (.t 57))⟩,
  ⟨(some 59), (some (58, false)), (.mv (.t 7))⟩,
  ⟨(some 60), (some (58, false)), (.mv (.t 10))⟩,
  ⟨(some 61), (some (58, false)), (.iaddr 2 (.t 59) (.t 60))⟩,
  ⟨(some 62), (some (58, false)), (.faddr 0 (.t 61))⟩,
  ⟨(some 63), (some (58, false)), (.load 1 false (.t 62))⟩,
  ⟨(some 64), (some (58, false)), (.bin .gtr (.t 63) (.c (.sc (.int .i64 (8)))))⟩,
  ⟨(some 65), none, (.pick (.t 58) (.c (.sc (.bool true))) (.t 64))⟩,
  ⟨(some 66), none, (.mv (.t 65))⟩,
  ⟨(some 67), (some (66, false)), (.mv (.t 10))⟩,
  ⟨(some 68), (some (66, false)), (.bin .gtr (.t 67) (.c (.sc (.int .i64 (0)))))⟩,
  ⟨(some 69), (some (66, false)), (.mv (.t 68))⟩,
  ⟨(some 70), (some (69, true)), (.mv (.t 7))⟩,
  ⟨(some 71), (some (69, true)), (.mv (.t 10))⟩,
  ⟨(some 72), (some (69, true)), (.iaddr 2 (.t 70) (.t 71))⟩,
  ⟨(some 73), (some (69, true)), (.faddr 0 (.t 72))⟩,
  ⟨(some 74), (some (69, true)), (.load 1 false (.t 73))⟩,
  ⟨(some 75), (some (69, true)), (.mv (.t 7))⟩,
  ⟨(some 76), (some (69, true)), (.mv (.t 10))⟩,
  ⟨(some 77), (some (69, true)), (.bin .sub (.t 76) (.c (.sc (.int .i64 (1)))))⟩,
  ⟨(some 78), (some (69, true)), (.iaddr 2 (.t 75) (.t 77))⟩,
  ⟨(some 79), (some (69, true)), (.faddr 0 (.t 78))⟩,
  ⟨(some 80), (some (69, true)), (.load 1 false (.t 79))⟩,
  ⟨(some 81), (some (69, true)), (.bin .leq (.t 74) (.t 80))⟩,
  ⟨(some 82), (some (66, false)), (.pick (.t 69) (.t 81) (.c (.sc (.bool false))))⟩,
  ⟨(some 83), none, (.pick (.t 66) (.c (.sc (.bool true))) (.t 82))⟩] (some [[], [], [0, 1], [2, 0, 1], [3, 2, 0, 1], [4, 3, 2, 0, 1], [5, 4, 3, 2, 0, 1], [6, 5, 4, 3, 2, 0, 1], [6, 5, 4, 3, 2, 0, 1], [7, 8, 6, 5, 4, 3, 2, 0, 1], [9, 6, 7, 8, 5, 4, 3, 2, 0, 1], [10, 6, 9, 7, 8, 5, 4, 3, 2, 0, 1], [11, 6, 10, 9, 7, 8, 5, 4, 3, 2, 0, 1], [6, 12, 5, 4, 3, 2, 0, 1, 11, 10, 9, 7, 8], [13, 6, 12, 5, 4, 3, 2, 0, 1, 11, 10, 9, 7, 8], [14, 13, 6, 12, 5, 4, 3, 2, 0, 1, 11, 10, 9, 7, 8], [14, 13, 6, 12, 5, 4, 3, 2, 0, 1, 11, 10, 9, 7, 8], [15, 16, 14, 13, 6, 12, 5, 4, 3, 2, 0, 1, 11, 10, 9, 7, 8], [17, 14, 15, 16, 13, 6, 12, 5, 4, 3, 2, 0, 1, 11, 10, 9, 7, 8], [18, 14, 17, 15, 16, 13, 6, 12, 5, 4, 3, 2, 0, 1, 11, 10, 9, 7, 8], [19, 14, 18, 17, 15, 16, 13, 6, 12, 5, 4, 3, 2, 0, 1, 11, 10, 9, 7, 8], [14, 20, 13, 6, 12, 5, 4, 3, 2, 0, 1, 11, 10, 9, 7, 8, 19, 18, 17, 15, 16], [21, 14, 20, 13, 6, 12, 5, 4, 3, 2, 0, 1, 11, 10, 9, 7, 8, 19, 18, 17, 15, 16], [22, 21, 14, 20, 13, 6, 12, 5, 4, 3, 2, 0, 1, 11, 10, 9, 7, 8, 19, 18, 17, 15, 16], [23, 22, 21, 14, 20, 13, 6, 12, 5, 4, 3, 2, 0, 1, 11, 10, 9, 7, 8, 19, 18, 17, 15, 16], [24, 22, 23, 21, 14, 20, 13, 6, 12, 5, 4, 3, 2, 0, 1, 11, 10, 9, 7, 8, 19, 18, 17, 15, 16], [25, 24, 22, 23, 21, 14, 20, 13, 6, 12, 5, 4, 3, 2, 0, 1, 11, 10, 9, 7, 8, 19, 18, 17, 15, 16], [25, 24, 22, 23, 21, 14, 20, 13, 6, 12, 5, 4, 3, 2, 0, 1, 11, 10, 9, 7, 8, 19, 18, 17, 15, 16], [26, 27, 25, 24, 22, 23, 21, 14, 20, 13, 6, 12, 5, 4, 3, 2, 0, 1, 11, 10, 9, 7, 8, 19, 18, 17, 15, 16], [28, 25, 26, 27, 24, 22, 23, 21, 14, 20, 13, 6, 12, 5, 4, 3, 2, 0, 1, 11, 10, 9, 7, 8, 19, 18, 17, 15, 16], [29, 25, 28, 26, 27, 24, 22, 23, 21, 14, 20, 13, 6, 12, 5, 4, 3, 2, 0, 1, 11, 10, 9, 7, 8, 19, 18, 17, 15, 16], [25, 24, 22, 23, 21, 14, 20, 13, 6, 12, 5, 4, 3, 2, 0, 1, 11, 10, 9, 7, 8, 19, 18, 17, 15, 16], [25, 24, 22, 23, 21, 14, 20, 13, 6, 12, 5, 4, 3, 2, 0, 1, 11, 10, 9, 7, 8, 19, 18, 17, 15, 16], [32, 25, 24, 22, 23, 21, 14, 20, 13, 6, 12, 5, 4, 3, 2, 0, 1, 11, 10, 9, 7, 8, 19, 18, 17, 15, 16], [31, 33, 25, 24, 22, 23, 21, 14, 20, 13, 6, 12, 5, 4, 3, 2, 0, 1, 11, 10, 9, 7, 8, 19, 18, 17, 15, 16, 32], [34, 25, 31, 33, 24, 22, 23, 21, 14, 20, 13, 6, 12, 5, 4, 3, 2, 0, 1, 11, 10, 9, 7, 8, 19, 18, 17, 15, 16, 32], [35, 25, 34, 31, 33, 24, 22, 23, 21, 14, 20, 13, 6, 12, 5, 4, 3, 2, 0, 1, 11, 10, 9, 7, 8, 19, 18, 17, 15, 16, 32], [30, 36, 25, 29, 28, 26, 27, 24, 22, 23, 21, 14, 20, 13, 6, 12, 5, 4, 3, 2, 0, 1, 11, 10, 9, 7, 8, 19, 18, 17, 15, 16, 35, 34, 31, 33, 32], [25, 37, 22, 24, 23, 21, 14, 20, 13, 6, 12, 5, 4, 3, 2, 0, 1, 11, 10, 9, 7, 8, 19, 18, 17, 15, 16, 30, 36, 29, 28, 26, 27, 35, 34, 31, 33, 32], [22, 38, 21, 14, 20, 13, 6, 12, 5, 4, 3, 2, 0, 1, 11, 10, 9, 7, 8, 19, 18, 17, 15, 16, 25, 37, 24, 23, 30, 36, 29, 28, 26, 27, 35, 34, 31, 33, 32]]))
 (.cond (.t 83)
 (.seq (.reg [⟨(some 6), none, (.mv (.c (.sc (.bool false))))⟩] none) .ret) .skip))
 (.seq (.reg [⟨(some 84), none, (.mv (.t 7))⟩,
  ⟨(some 85), none, (.mv (.t 10))⟩,
  ⟨(some 86), none, (.iaddr 2 (.t 84) (.t 85))⟩,
  ⟨(some 87), none, (.faddr 0 (.t 86))⟩,
  ⟨(some 88), none, (.load 1 false (.t 87))⟩,
  ⟨(some 89), none, (.bin .eql (.t 88) (.c (.sc (.int .i64 (0)))))⟩,
  ⟨(some 11), none, (.mv (.t 89))⟩] none)
 (.seq (.seq (.reg [⟨(some 12), none, (.mv (.c (.sc (.int .i64 (0)))))⟩] none) (.block 2 
 (.loop ⟨[0, 2, 7, 9, 10, 11, 12], []⟩
 (.seq (.seq (.reg [⟨(some 90), none, (.mv (.t 12))⟩,
  ⟨(some 91), none, (.mv (.t 0))⟩,
  ⟨(some 92), none, (.len (.t 91))⟩,
  ⟨(some 93), none, (.bin .lss (.t 90) (.t 92))⟩] none)
 (.cond (.t 93) .skip (.exit 2)))
 (.seq (.block 3 (.reg [⟨(some 96), none, (.mv (.t 11))⟩,
  ⟨(some 97), none, (.mv (.t 96))⟩,
  ⟨(some 98), (some (97, false)), (.mv (.t 0))⟩,
  ⟨(some 99), (some (97, false)), (.mv (.t 12))⟩,
  ⟨(some 100), (some (97, false)), (.iaddr 5 (.t 98) (.t 99))⟩,
  ⟨(some 101), (some (97, false)), (.faddr 0 (.t 100))⟩,
  ⟨(some 102), (some (97, false)), (.load 1 false (.t 101))⟩,
  ⟨(some 103), (some (97, false)), (.mv (.t 7))⟩,
  ⟨(some 104), (some (97, false)), (.mv (.t 10))⟩,
  ⟨(some 105), (some (97, false)), (.iaddr 2 (.t 103) (.t 104))⟩,
  ⟨(some 106), (some (97, false)), (.faddr 0 (.t 105))⟩,
  ⟨(some 107), (some (97, false)), (.load 1 false (.t 106))⟩,
  ⟨(some 108), (some (97, false)), (.bin .sub (.t 107) (.c (.sc (.int .i64 (1)))))⟩,
  ⟨(some 109), (some (97, false)), (.bin .eql (.t 102) (.t 108))⟩,
  ⟨(some 110), none, (.pick (.t 97) (.c (.sc (.bool true))) (.t 109))⟩,
  ⟨(some 11), none, (.mv (.t 110))⟩] (some [[], [0], [1, 0], [1, 0], [2, 3, 1, 0], [4, 1, 2, 3, 0], [5, 1, 4, 2, 3, 0], [1, 0], [1, 0], [7, 8, 1, 0], [9, 1, 7, 8, 0], [10, 1, 9, 7, 8, 0], [11, 1, 10, 9, 7, 8, 0], [6, 12, 1, 5, 4, 2, 3, 0, 11, 10, 9, 7, 8], [1, 13, 0, 6, 12, 5, 4, 2, 3, 11, 10, 9, 7, 8], [14, 1, 0, 2, 3, 4, 5, 6, 7, 8, 9, 10, 11, 12, 13]]))) (.reg [⟨(some 94), none, (.mv (.t 12))⟩,
  ⟨(some 95), none, (.bin .add (.t 94) (.c (.sc (.int .i64 (1)))))⟩,
  ⟨(some 12), none, (.mv (.t 95))⟩] none))))))
 (.seq (.seq (.reg [⟨(some 111), none, (.mv (.t 11))⟩,
  ⟨(some 112), none, (.un .not (.t 111))⟩] none)
 (.cond (.t 112)
 (.seq (.reg [⟨(some 6), none, (.mv (.c (.sc (.bool false))))⟩] none) .ret) .skip)) (.reg [⟨(some 113), none, (.mv (.t 9))⟩,
  ⟨(some 114), none, (.mv (.t 7))⟩,
  ⟨(some 115), none, (.mv (.t 10))⟩,
  ⟨(some 116), none, (.iaddr 2 (.t 114) (.t 115))⟩,
  ⟨(some 117), none, (.faddr 1 (.t 116))⟩,
  ⟨(some 118), none, (.load 1 false (.t 117))⟩,
  ⟨(some 119), none, (.bin .add (.t 113) (.t 118))⟩,
  ⟨(some 9), none, (.mv (.t 119))⟩] none)))))) (.reg [⟨(some 42), none, (.mv (.t 10))⟩,
  ⟨(some 43), none, (.bin .add (.t 42) (.c (.sc (.int .i64 (1)))))⟩,
  ⟨(some 10), none, (.mv (.t 43))⟩] none))))))
 (.seq (.reg [⟨(some 120), none, (.mv (.t 9))⟩,
  ⟨(some 121), none, (.mv (.t 2))⟩,
  ⟨(some 122), none, (.bin .eql (.t 120) (.t 121))⟩,
  ⟨(some 123), none, (.mv (.t 122))⟩,
  ⟨(some 124), (some (123, true)), (.mv (.t 0))⟩,
  ⟨(some 125), (some (123, true)), (.call 14 [(.t 124)])⟩,
  ⟨(some 126), (some (123, true)), (.bin .eql (.t 125) (.c (.sc (.int .i64 (0)))))⟩,
  ⟨(some 127), none, (.pick (.t 123) (.t 126) (.c (.sc (.bool false))))⟩,
  ⟨(some 128), none, (.mv (.t 127))⟩,
  ⟨(some 129), (some (128, true)), (.call 11 [])⟩,
  ⟨(some 130), none, (.pick (.t 128) (.t 129) (.c (.sc (.bool false))))⟩,
  ⟨(some 6), none, (.mv (.t 130))⟩] none) .ret)))))))
theorem good6 {args : List PV} {r : PV} (hl : args.length ≤ 131) (h : Run Try.prog [.code ac6] (endQ [(.t 6)] r) ⟨initT 0 args, [], 0, 131⟩) : Good Try.prog 6 args r :=
  good_run (by kernel_rfl) Jamix Try.func6 rfl (hs := [⟨[0, 2, 7, 9, 10], []⟩, ⟨[0, 2, 7, 9, 10, 11, 12], []⟩]) (hs' := []) (by kernel_rfl) hl h
def ac7 : ACode :=
 (.seq (.reg [⟨(some 3), none, (.boxv (.t 0))⟩,
  ⟨(some 6), none, (.mv (.c (.sc (.bool false))))⟩] none)
 (.seq (.seq (.reg [⟨(some 21), none, (.load 13 true (.t 3))⟩,
  ⟨(some 22), none, (.bslice 41 13 [(.t 21)])⟩,
  ⟨(some 23), none, (.call 19 [(.t 22), (.c (.sc (.int .i64 (1))))])⟩,
  ⟨(some 24), none, (.un .not (.t 23))⟩,
  ⟨(some 25), none, (.mv (.t 24))⟩,
  ⟨(some 26), (some (25, false)), (.mv (.t 1))⟩,
  ⟨(some 27), (some (25, false)), (.bin .lss (.t 26) (.c (.sc (.int .i64 (0)))))⟩,
  ⟨(some 28), none, (.pick (.t 25) (.c (.sc (.bool true))) (.t 27))⟩,
  ⟨(some 29), none, (.mv (.t 28))⟩,
  ⟨(some 30), (some (29, false)), (.mv (.t 1))⟩,
  ⟨(some 31), (some (29, false)), (.bin .geq (.t 30) (.c (.sc (.int .i64 (8)))))⟩,
  ⟨(some 32), none, (.pick (.t 29) (.c (.sc (.bool true))) (.t 31))⟩] none)
 (.cond (.t 32)
 (.seq (.reg [⟨(some 33), none, (.call 11 [])⟩,
  ⟨(some 6), none, (.mv (.t 33))⟩] none) .ret) .skip))
 (.seq (.reg [⟨(some 35), none, (.load 13 true (.t 3))⟩,
  ⟨(some 36), none, (.mv (.t 2))⟩,
  ⟨(some 37), none, (.call 20 [(.c (.sc (.slice none 0 0))), (.t 35), (.t 36)])⟩,
  ⟨(some 34), none, (.mv (.t 37))⟩,
  ⟨(some 38), none, (.ext 0 (.t 34))⟩,
  ⟨(some 39), none, (.ext 1 (.t 34))⟩,
  ⟨(some 7), none, (.mv (.t 38))⟩,
  ⟨(some 8), none, (.mv (.t 39))⟩] none)
 (.seq (.reg [⟨(some 9), none, (.mv (.c (.sc (.slice none 0 0))))⟩,
  ⟨(some 10), none, (.mv (.c (.sc (.slice none 0 0))))⟩] none)
 (.seq (.reg [⟨(some 11), none, (.mv (.c (.sc (.bool true))))⟩] none)
 (.seq (.seq (.reg [⟨(some 12), none, (.mv (.c (.sc (.int .i64 (0)))))⟩] none) (.block 0 
 (.loop ⟨[1, 2, 3, 7, 8, 9, 10, 11, 12], [(9, (54, 5)), (10, (54, 5))]⟩
 (.seq (.seq (.reg [⟨(some 40), none, (.mv (.t 12))⟩,
  ⟨(some 41), none, (.faddr 7 (.t 3))⟩,
  ⟨(some 42), none, (.load 1 false (.t 41))⟩,
  ⟨(some 43), none, (.len (.t 42))⟩,
  ⟨(some 44), none, (.bin .lss (.t 40) (.t 43))⟩] none)
 (.cond (.t 44) .skip (.exit 0)))
 (.seq (.block 1
 (.seq (.reg [⟨(some 13), none, (.mv (.c (.sc (.bool false))))⟩] none)
 (.seq (.seq (.reg [⟨(some 14), none, (.mv (.c (.sc (.int .i64 (0)))))⟩] none) (.block 2 
 (.loop ⟨[1, 2, 3, 7, 8, 9, 10, 11, 12, 13, 14], []⟩
 (.seq (.seq (.reg [⟨(some 47), none, (.mv (.t 14))⟩,
  ⟨(some 48), none, (.mv (.t 9))⟩,
  ⟨(some 49), none, (.len (.t 48))⟩,
  ⟨(some 50), none, (.bin .lss (.t 47) (.t 49))⟩] none)
 (.cond (.t 50) .skip (.exit 2)))
 (.seq (.block 3 (.reg [⟨(some 53), none, (.mv (.t 13))⟩,
  ⟨(some 54), none, (.mv (.t 53))⟩,
  ⟨(some 55), (some (54, false)), (.mv (.t 9))⟩,
  ⟨(some 56), (some (54, false)), (.mv (.t 14))⟩,
  ⟨(some 57), (some (54, false)), (.iaddr 5 (.t 55) (.t 56))⟩,
  ⟨(some 58), (some (54, false)), (.faddr 1 (.t 57))⟩,
  ⟨(some 59), (some (54, false)), (.load 1 false (.t 58))⟩,
  ⟨(some 60), (some (54, false)), (.faddr 7 (.t 3))⟩,
  ⟨(some 61), (some (54, false)), (.load 1 false (.t 60))⟩,
  ⟨(some 62), (some (54, false)), (.mv (.t 12))⟩,
  ⟨(some 63), (some (54, false)), (.iaddr 5 (.t 61) (.t 62))⟩,
  ⟨(some 64), (some (54, false)), (.faddr 0 (.t 63))⟩,
  ⟨(some 65), (some (54, false)), (.load 1 false (.t 64))⟩,
  ⟨(some 66), (some (54, false)), (.bin .eql (.t 59) (.t 65))⟩,
  ⟨(some 67), none, (.pick (.t 54) (.c (.sc (.bool true))) (.t 66))⟩,
  ⟨(some 13), none, (.mv (.t 67))⟩] (some [[], [0], [1, 0], [1, 0], [2, 3, 1, 0], [4, 1, 2, 3, 0], [5, 1, 4, 2, 3, 0], [1, 0], [7, 1, 0], [1, 0], [8, 9, 1, 7, 0], [10, 1, 8, 9, 7, 0], [11, 1, 10, 8, 9, 7, 0], [6, 12, 1, 5, 4, 2, 3, 0, 11, 10, 8, 9, 7], [1, 13, 0, 6, 12, 5, 4, 2, 3, 11, 10, 8, 9, 7], [14, 1, 0, 2, 3, 4, 5, 6, 7, 8, 9, 10, 11, 12, 13]]))) (.reg [⟨(some 51), none, (.mv (.t 14))⟩,
  ⟨(some 52), none, (.bin .add (.t 51) (.c (.sc (.int .i64 (1)))))⟩,
  ⟨(some 14), none, (.mv (.t 52))⟩] none))))))
 (.seq (.reg [⟨(some 68), none, (.mv (.t 11))⟩,
  ⟨(some 69), none, (.mv (.t 68))⟩,
  ⟨(some 70), (some (69, true)), (.faddr 7 (.t 3))⟩,
  ⟨(some 71), (some (69, true)), (.load 1 false (.t 70))⟩,
  ⟨(some 72), (some (69, true)), (.mv (.t 12))⟩,
  ⟨(some 73), (some (69, true)), (.iaddr 5 (.t 71) (.t 72))⟩,
  ⟨(some 74), (some (69, true)), (.faddr 0 (.t 73))⟩,
  ⟨(some 75), (some (69, true)), (.load 1 false (.t 74))⟩,
  ⟨(some 76), (some (69, true)), (.bin .geq (.t 75) (.c (.sc (.int .i64 (0)))))⟩,
  ⟨(some 77), none, (.pick (.t 69) (.t 76) (.c (.sc (.bool false))))⟩,
  ⟨(some 78), none, (.mv (.t 77))⟩,
  ⟨(some 79), (some (78, true)), (.faddr 7 (.t 3))⟩,
  ⟨(some 80), (some (78, true)), (.load 1 false (.t 79))⟩,
  ⟨(some 81), (some (78, true)), (.mv (.t 12))⟩,
  ⟨(some 82), (some (78, true)), (.iaddr 5 (.t 80) (.t 81))⟩,
  ⟨(some 83), (some (78, true)), (.faddr 0 (.t 82))⟩,
  ⟨(some 84), (some (78, true)), (.load 1 false (.t 83))⟩,
  ⟨(some 85), (some (78, true)), (.bin .lss (.t 84) (.c (.sc (.int .i64 (128)))))⟩,
  ⟨(some 86), none, (.pick (.t 78) (.t 85) (.c (.sc (.bool false))))⟩,
  ⟨(some 11), none, (.mv (.t 86))⟩] none)
 (.seq (.reg [⟨(some 87), none, (.mv (.t 13))⟩,
  ⟨(some 88), none, (.un .not (.t 87))⟩] none)
 (.cond (.t 88)
 (.seq (.reg [⟨(some 89), none, (.mv (.t 9))⟩,
  ⟨(some 90), none, (.mv (.t 1))⟩,
  ⟨(some 91), none, (.faddr 7 (.t 3))⟩,
  ⟨(some 92), none, (.load 1 false (.t 91))⟩,
  ⟨(some 93), none, (.mv (.t 12))⟩,
  ⟨(some 94), none, (.iaddr 5 (.t 92) (.t 93))⟩,
  ⟨(some 95), none, (.faddr 0 (.t 94))⟩,
  ⟨(some 96), none, (.load 1 false (.t 95))⟩,
  ⟨(some 97), none, (.build [(.sc (.int .i64 (0))), (.sc (.int .i64 (0)))] [(1, (1, (.c (.sc (.int .i64 (4294944000))))))])⟩,
  ⟨(some 98), none, (.build [(.sc (.int .i64 (0))), (.sc (.int .i64 (0))), (.sc (.int .i64 (0))), (.sc (.int .i64 (0))), (.sc (.int .i64 (0)))] [(0, (1, (.t 90))), (1, (1, (.t 96))), (2, (2, (.t 97))), (4, (1, (.c (.sc (.int .i64 (1000))))))])⟩,
  ⟨(some 99), none, (.bslice 54 5 [(.t 98)])⟩,
  ⟨(some 100), none, (.append 54 5 40 (.t 89) (.t 99))⟩,
  ⟨(some 9), none, (.mv (.t 100))⟩] none) (.reg [⟨(some 101), none, (.mv (.t 10))⟩,
  ⟨(some 102), none, (.mv (.t 1))⟩,
  ⟨(some 103), none, (.faddr 7 (.t 3))⟩,
  ⟨(some 104), none, (.load 1 false (.t 103))⟩,
  ⟨(some 105), none, (.mv (.t 12))⟩,
  ⟨(some 106), none, (.iaddr 5 (.t 104) (.t 105))⟩,
  ⟨(some 107), none, (.faddr 0 (.t 106))⟩,
  ⟨(some 108), none, (.load 1 false (.t 107))⟩,
  ⟨(some 109), none, (.build [(.sc (.int .i64 (0))), (.sc (.int .i64 (0)))] [(1, (1, (.c (.sc (.int .i64 (4294944000))))))])⟩,
  ⟨(some 110), none, (.build [(.sc (.int .i64 (0))), (.sc (.int .i64 (0))), (.sc (.int .i64 (0))), (.sc (.int .i64 (0))), (.sc (.int .i64 (0)))] [(0, (1, (.t 102))), (1, (1, (.t 108))), (2, (2, (.t 109)))])⟩,
  ⟨(some 111), none, (.bslice 54 5 [(.t 110)])⟩,
  ⟨(some 112), none, (.append 54 5 40 (.t 101) (.t 111))⟩,
  ⟨(some 10), none, (.mv (.t 112))⟩] none)) .skip)))))) (.reg [⟨(some 45), none, (.mv (.t 12))⟩,
  ⟨(some 46), none, (.bin .add (.t 45) (.c (.sc (.int .i64 (1)))))⟩,
  ⟨(some 12), none, (.mv (.t 46))⟩] none))))))
 (.seq (.seq (.reg [⟨(some 113), none, (.mv (.t 8))⟩,
  ⟨(some 114), none, (.bin .neq (.t 113) (.c (.sc (.int .i64 (0)))))⟩] none)
 (.cond (.t 114)
 (.seq (.reg [⟨(some 115), none, (.mv (.t 7))⟩,
  ⟨(some 116), none, (.len (.t 115))⟩,
  ⟨(some 117), none, (.bin .eql (.t 116) (.c (.sc (.int .i64 (0)))))⟩,
  ⟨(some 118), none, (.mv (.t 117))⟩,
  ⟨(some 119), (some (118, true)), (.call 11 [])⟩,
  ⟨(some 120), none, (.pick (.t 118) (.t 119) (.c (.sc (.bool false))))⟩,
  ⟨(some 6), none, (.mv (.t 120))⟩] none) .ret) .skip))
 (.seq (.reg [⟨(some 121), none, (.mv (.t 2))⟩,
  ⟨(some 122), none, (.build [(.sc (.int .i64 (0))), (.sc (.int .i64 (0)))] [(1, (1, (.t 121)))])⟩,
  ⟨(some 123), none, (.bslice 50 2 [(.t 122)])⟩,
  ⟨(some 124), none, (.mv (.t 1))⟩,
  ⟨(some 125), none, (.bin .add (.c (.sc (.int .i64 (1)))) (.t 124))⟩,
  ⟨(some 126), none, (.mv (.t 2))⟩,
  ⟨(some 127), none, (.build [(.sc (.int .i64 (0))), (.sc (.int .i64 (0)))] [(0, (1, (.t 125))), (1, (1, (.t 126)))])⟩,
  ⟨(some 128), none, (.bslice 50 2 [(.t 127)])⟩,
  ⟨(some 15), none, (.mv (.t 123))⟩,
  ⟨(some 16), none, (.mv (.t 128))⟩] none)
 (.seq (.seq (.reg [⟨(some 129), none, (.mv (.t 2))⟩,
  ⟨(some 130), none, (.bin .eql (.t 129) (.c (.sc (.int .i64 (0)))))⟩] none)
 (.cond (.t 130) (.reg [⟨(some 15), none, (.mv (.c (.sc (.slice none 0 0))))⟩,
  ⟨(some 16), none, (.mv (.c (.sc (.slice none 0 0))))⟩] none) .skip))
 (.seq (.seq (.reg [⟨(some 131), none, (.mv (.t 7))⟩,
  ⟨(some 132), none, (.mv (.t 15))⟩,
  ⟨(some 133), none, (.call 22 [(.t 131), (.t 132)])⟩,
  ⟨(some 134), none, (.un .not (.t 133))⟩] none)
 (.cond (.t 134)
 (.seq (.reg [⟨(some 6), none, (.mv (.c (.sc (.bool false))))⟩] none) .ret) .skip))
 (.seq (.seq (.reg [⟨(some 135), none, (.mv (.t 11))⟩,
  ⟨(some 136), none, (.un .not (.t 135))⟩] none)
 (.cond (.t 136)
 (.seq (.reg [⟨(some 137), none, (.call 11 [])⟩,
  ⟨(some 6), none, (.mv (.t 137))⟩] none) .ret) .skip))
 (.seq (.reg [⟨(some 139), none, (.mv (.t 9))⟩,
  ⟨(some 140), none, (.load 13 true (.t 3))⟩,
  ⟨(some 141), none, (.mv (.t 2))⟩,
  ⟨(some 142), none, (.call 20 [(.t 139), (.t 140), (.t 141)])⟩,
  ⟨(some 138), none, (.mv (.t 142))⟩,
  ⟨(some 143), none, (.ext 0 (.t 138))⟩,
  ⟨(some 144), none, (.ext 1 (.t 138))⟩,
  ⟨(some 17), none, (.mv (.t 143))⟩,
  ⟨(some 18), none, (.mv (.t 144))⟩] none)
 (.seq (.reg [⟨(some 146), none, (.mv (.t 10))⟩,
  ⟨(some 147), none, (.load 13 true (.t 3))⟩,
  ⟨(some 148), none, (.mv (.t 2))⟩,
  ⟨(some 149), none, (.call 20 [(.t 146), (.t 147), (.t 148)])⟩,
  ⟨(some 145), none, (.mv (.t 149))⟩,
  ⟨(some 150), none, (.ext 0 (.t 145))⟩,
  ⟨(some 151), none, (.ext 1 (.t 145))⟩,
  ⟨(some 19), none, (.mv (.t 150))⟩,
  ⟨(some 20), none, (.mv (.t 151))⟩] none)
 (.seq (.reg [⟨(some 152), none, (.mv (.t 18))⟩,
  ⟨(some 153), none, (.bin .eql (.t 152) (.c (.sc (.int .i64 (0)))))⟩,
  ⟨(some 154), none, (.mv (.t 153))⟩,
  ⟨(some 155), (some (154, true)), (.mv (.t 20))⟩,
  ⟨(some 156), (some (154, true)), (.bin .eql (.t 155) (.c (.sc (.int .i64 (0)))))⟩,
  ⟨(some 157), none, (.pick (.t 154) (.t 156) (.c (.sc (.bool false))))⟩,
  ⟨(some 158), none, (.mv (.t 157))⟩,
  ⟨(some 159), (some (158, true)), (.mv (.t 17))⟩,
  ⟨(some 160), (some (158, true)), (.mv (.t 16))⟩,
  ⟨(some 161), (some (158, true)), (.call 22 [(.t 159), (.t 160)])⟩,
  ⟨(some 162), none, (.pick (.t 158) (.t 161) (.c (.sc (.bool false))))⟩,
  ⟨(some 163), none, (.mv (.t 162))⟩,
  ⟨(some 164), (some (163, true)), (.mv (.t 19))⟩,
  ⟨(some 165), (some (163, true)), (.mv (.t 15))⟩,
  ⟨(some 166), (some (163, true)), (.call 22 [(.t 164), (.t 165)])⟩,
  ⟨(some 167), none, (.pick (.t 163) (.t 166) (.c (.sc (.bool false))))⟩,
  ⟨(some 168), none, (.mv (.t 167))⟩,
  ⟨(some 169), (some (168, true)), (.call 11 [])⟩,
  ⟨(some 170), none, (.pick (.t 168) (.t 169) (.c (.sc (.bool false))))⟩,
  ⟨(some 6), none, (.mv (.t 170))⟩] none) .ret))))))))))))))
theorem good7 {args : List PV} {r : PV} (hl : args.length ≤ 171) (h : Run Try.prog [.code ac7] (endQ [(.t 6)] r) ⟨initT 0 args, [], 0, 171⟩) : Good Try.prog 7 args r :=
  good_run (by kernel_rfl) Jamix Try.func7 rfl (hs := [⟨[1, 2, 3, 7, 8, 9, 10, 11, 12], [(9, 54, 5), (10, 54, 5)]⟩, ⟨[1, 2, 3, 7, 8, 9, 10, 11, 12, 13, 14], []⟩]) (hs' := []) (by kernel_rfl) hl h
def ac8 : ACode :=
 (.seq (.reg [⟨(some 4), none, (.boxv (.t 1))⟩,
  ⟨(some 5), none, (.boxv (.t 2))⟩,
  ⟨(some 6), none, (.mv (.c (.sc (.bool false))))⟩] none)
 (.seq (.seq (.reg [⟨(some 14), none, (.mv (.t 0))⟩,
  ⟨(some 15), none, (.len (.t 14))⟩,
  ⟨(some 16), none, (.bin .gtr (.t 15) (.c (.sc (.int .i64 (60)))))⟩] none)
 (.cond (.t 16)
 (.seq (.reg [⟨(some 17), none, (.call 11 [])⟩,
  ⟨(some 6), none, (.mv (.t 17))⟩] none) .ret) .skip))
 (.seq (.reg [⟨(some 19), none, (.mv (.t 0))⟩,
  ⟨(some 20), none, (.faddr 0 (.t 4))⟩,
  ⟨(some 21), none, (.load 1 false (.t 20))⟩,
  ⟨(some 22), none, (.faddr 1 (.t 4))⟩,
  ⟨(some 23), none, (.load 1 false (.t 22))⟩,
  ⟨(some 24), none, (.faddr 2 (.t 4))⟩,
  ⟨(some 25), none, (.load 1 false (.t 24))⟩,
  ⟨(some 26), none, (.faddr 3 (.t 4))⟩,
  ⟨(some 27), none, (.load 1 false (.t 26))⟩,
  ⟨(some 28), none, (.call 16 [(.t 19), (.t 21), (.t 23), (.t 25), (.t 27)])⟩,
  ⟨(some 18), none, (.mv (.t 28))⟩,
  ⟨(some 29), none, (.ext 0 (.t 18))⟩,
  ⟨(some 30), none, (.ext 1 (.t 18))⟩,
  ⟨(some 7), none, (.mv (.t 29))⟩,
  ⟨(some 8), none, (.mv (.t 30))⟩] none)
 (.seq (.seq (.reg [⟨(some 31), none, (.mv (.t 8))⟩,
  ⟨(some 32), none, (.bin .neq (.t 31) (.c (.sc (.int .i64 (0)))))⟩] none)
 (.cond (.t 32)
 (.seq (.reg [⟨(some 33), none, (.mv (.t 7))⟩,
  ⟨(some 34), none, (.len (.t 33))⟩,
  ⟨(some 35), none, (.bin .eql (.t 34) (.c (.sc (.int .i64 (0)))))⟩,
  ⟨(some 36), none, (.mv (.t 35))⟩,
  ⟨(some 37), (some (36, true)), (.call 11 [])⟩,
  ⟨(some 38), none, (.pick (.t 36) (.t 37) (.c (.sc (.bool false))))⟩,
  ⟨(some 6), none, (.mv (.t 38))⟩] none) .ret) .skip))
 (.seq (.reg [⟨(some 39), none, (.mv (.t 0))⟩,
  ⟨(some 40), none, (.faddr 0 (.t 4))⟩,
  ⟨(some 41), none, (.load 1 false (.t 40))⟩,
  ⟨(some 42), none, (.faddr 1 (.t 4))⟩,
  ⟨(some 43), none, (.load 1 false (.t 42))⟩,
  ⟨(some 44), none, (.call 23 [(.t 39), (.t 41), (.t 43)])⟩,
  ⟨(some 9), none, (.mv (.t 44))⟩] none)
 (.seq (.seq (.reg [⟨(some 45), none, (.mv (.t 9))⟩,
  ⟨(some 46), none, (.bin .lss (.t 45) (.c (.sc (.int .i64 (0)))))⟩,
  ⟨(some 47), none, (.mv (.t 46))⟩,
  ⟨(some 48), (some (47, false)), (.mv (.t 7))⟩,
  ⟨(some 49), (some (47, false)), (.call 14 [(.t 48)])⟩,
  ⟨(some 50), (some (47, false)), (.bin .neq (.t 49) (.c (.sc (.int .i64 (0)))))⟩,
  ⟨(some 51), none, (.pick (.t 47) (.c (.sc (.bool true))) (.t 50))⟩] none)
 (.cond (.t 51)
 (.seq (.reg [⟨(some 6), none, (.mv (.c (.sc (.bool false))))⟩] none) .ret) .skip))
 (.seq (.reg [⟨(some 53), none, (.mv (.t 0))⟩,
  ⟨(some 54), none, (.iaddrA 1 2 (.t 5) (.c (.sc (.int .i64 (0)))))⟩,
  ⟨(some 55), none, (.load 1 false (.t 54))⟩,
  ⟨(some 56), none, (.iaddrA 1 2 (.t 5) (.c (.sc (.int .i64 (1)))))⟩,
  ⟨(some 57), none, (.load 1 false (.t 56))⟩,
  ⟨(some 58), none, (.call 12 [(.t 53), (.t 55), (.t 57)])⟩,
  ⟨(some 52), none, (.mv (.t 58))⟩,
  ⟨(some 59), none, (.ext 0 (.t 52))⟩,
  ⟨(some 60), none, (.ext 1 (.t 52))⟩,
  ⟨(some 10), none, (.mv (.t 59))⟩,
  ⟨(some 11), none, (.mv (.t 60))⟩] none)
 (.seq (.reg [⟨(some 62), none, (.mv (.t 7))⟩,
  ⟨(some 63), none, (.iaddrA 1 2 (.t 5) (.c (.sc (.int .i64 (0)))))⟩,
  ⟨(some 64), none, (.load 1 false (.t 63))⟩,
  ⟨(some 65), none, (.iaddrA 1 2 (.t 5) (.c (.sc (.int .i64 (1)))))⟩,
  ⟨(some 66), none, (.load 1 false (.t 65))⟩,
  ⟨(some 67), none, (.call 12 [(.t 62), (.t 64), (.t 66)])⟩,
  ⟨(some 61), none, (.mv (.t 67))⟩,
  ⟨(some 68), none, (.ext 0 (.t 61))⟩,
  ⟨(some 69), none, (.ext 1 (.t 61))⟩,
  ⟨(some 12), none, (.mv (.t 68))⟩,
  ⟨(some 13), none, (.mv (.t 69))⟩] none)
 (.seq (.seq (.reg [⟨(some 70), none, (.iaddrA 1 2 (.t 5) (.c (.sc (.int .i64 (0)))))⟩,
  ⟨(some 71), none, (.load 1 false (.t 70))⟩,
  ⟨(some 72), none, (.faddr 0 (.t 4))⟩,
  ⟨(some 73), none, (.load 1 false (.t 72))⟩,
  ⟨(some 74), none, (.bin .eql (.t 71) (.t 73))⟩,
  ⟨(some 75), none, (.mv (.t 74))⟩,
  ⟨(some 76), (some (75, true)), (.iaddrA 1 2 (.t 5) (.c (.sc (.int .i64 (1)))))⟩,
  ⟨(some 77), (some (75, true)), (.load 1 false (.t 76))⟩,
  ⟨(some 78), (some (75, true)), (.faddr 1 (.t 4))⟩,
  ⟨(some 79), (some (75, true)), (.load 1 false (.t 78))⟩,
  ⟨(some 80), (some (75, true)), (.bin .geq (.t 77) (.t 79))⟩,
  ⟨(some 81), none, (.pick (.t 75) (.t 80) (.c (.sc (.bool false))))⟩,
  ⟨(some 82), none, (.mv (.t 81))⟩,
  ⟨(some 83), (some (82, true)), (.iaddrA 1 2 (.t 5) (.c (.sc (.int .i64 (1)))))⟩,
  ⟨(some 84), (some (82, true)), (.load 1 false (.t 83))⟩,
  ⟨(some 85), (some (82, true)), (.mv (.t 0))⟩,
  ⟨(some 86), (some (82, true)), (.mv (.t 9))⟩,
  ⟨(some 87), (some (82, true)), (.iaddr 5 (.t 85) (.t 86))⟩,
  ⟨(some 88), (some (82, true)), (.faddr 2 (.t 87))⟩,
  ⟨(some 89), (some (82, true)), (.faddr 1 (.t 88))⟩,
  ⟨(some 90), (some (82, true)), (.load 1 false (.t 89))⟩,
  ⟨(some 91), (some (82, true)), (.bin .lss (.t 84) (.t 90))⟩,
  ⟨(some 92), none, (.pick (.t 82) (.t 91) (.c (.sc (.bool false))))⟩] (some [[], [0], [], [2], [1, 3, 0, 2], [4, 1, 3, 0, 2], [5, 4, 1, 3, 0, 2], [6, 5, 4, 1, 3, 0, 2], [5, 4, 1, 3, 0, 2], [8, 5, 4, 1, 3, 0, 2], [7, 9, 5, 6, 4, 1, 3, 0, 2, 8], [5, 10, 4, 1, 3, 0, 2, 7, 9, 6, 8], [11, 5, 10, 4, 1, 3, 0, 2, 7, 9, 6, 8], [12, 11, 5, 10, 4, 1, 3, 0, 2, 7, 9, 6, 8], [13, 12, 11, 5, 10, 4, 1, 3, 0, 2, 7, 9, 6, 8], [12, 11, 5, 10, 4, 1, 3, 0, 2, 7, 9, 6, 8], [12, 11, 5, 10, 4, 1, 3, 0, 2, 7, 9, 6, 8], [15, 16, 12, 11, 5, 10, 4, 1, 3, 0, 2, 7, 9, 6, 8], [17, 12, 15, 16, 11, 5, 10, 4, 1, 3, 0, 2, 7, 9, 6, 8], [18, 12, 17, 15, 16, 11, 5, 10, 4, 1, 3, 0, 2, 7, 9, 6, 8], [19, 12, 18, 17, 15, 16, 11, 5, 10, 4, 1, 3, 0, 2, 7, 9, 6, 8], [14, 20, 12, 13, 11, 5, 10, 4, 1, 3, 0, 2, 7, 9, 6, 8, 19, 18, 17, 15, 16], [12, 21, 11, 5, 10, 4, 1, 3, 0, 2, 7, 9, 6, 8, 14, 20, 13, 19, 18, 17, 15, 16]]))
 (.cond (.t 92)
 (.seq (.reg [⟨(some 93), none, (.mv (.t 12))⟩,
  ⟨(some 94), none, (.faddr 2 (.t 4))⟩,
  ⟨(some 95), none, (.load 1 false (.t 94))⟩,
  ⟨(some 96), none, (.bin .eql (.t 93) (.t 95))⟩,
  ⟨(some 97), none, (.mv (.t 96))⟩,
  ⟨(some 98), (some (97, true)), (.mv (.t 13))⟩,
  ⟨(some 99), none, (.pick (.t 97) (.t 98) (.c (.sc (.bool false))))⟩,
  ⟨(some 100), none, (.mv (.t 99))⟩,
  ⟨(some 101), (some (100, true)), (.call 11 [])⟩,
  ⟨(some 102), none, (.pick (.t 100) (.t 101) (.c (.sc (.bool false))))⟩,
  ⟨(some 6), none, (.mv (.t 102))⟩] none) .ret) .skip))
 (.seq (.reg [⟨(some 103), none, (.mv (.t 12))⟩,
  ⟨(some 104), none, (.mv (.t 10))⟩,
  ⟨(some 105), none, (.bin .eql (.t 103) (.t 104))⟩,
  ⟨(some 106), none, (.mv (.t 105))⟩,
  ⟨(some 107), (some (106, true)), (.mv (.t 13))⟩,
  ⟨(some 108), (some (106, true)), (.mv (.t 11))⟩,
  ⟨(some 109), (some (106, true)), (.beq false (.t 107) (.t 108))⟩,
  ⟨(some 110), none, (.pick (.t 106) (.t 109) (.c (.sc (.bool false))))⟩,
  ⟨(some 111), none, (.mv (.t 110))⟩,
  ⟨(some 112), (some (111, true)), (.call 11 [])⟩,
  ⟨(some 113), none, (.pick (.t 111) (.t 112) (.c (.sc (.bool false))))⟩,
  ⟨(some 6), none, (.mv (.t 113))⟩] none) .ret))))))))))
theorem good8 {args : List PV} {r : PV} (hl : args.length ≤ 114) (h : Run Try.prog [.code ac8] (endQ [(.t 6)] r) ⟨initT 0 args, [], 0, 114⟩) : Good Try.prog 8 args r :=
  good_run (by kernel_rfl) Jamix Try.func8 rfl (hs := []) (hs' := []) (by kernel_rfl) hl h
def ac9 : ACode :=
 (.seq (.reg [⟨(some 6), none, (.mv (.c (.sc (.bool false))))⟩] none)
 (.seq (.seq (.reg [⟨(some 12), none, (.mv (.t 0))⟩,
  ⟨(some 13), none, (.len (.t 12))⟩,
  ⟨(some 14), none, (.bin .gtr (.t 13) (.c (.sc (.int .i64 (60)))))⟩,
  ⟨(some 15), none, (.mv (.t 14))⟩,
  ⟨(some 16), (some (15, false)), (.mv (.t 0))⟩,
  ⟨(some 17), (some (15, false)), (.call 14 [(.t 16)])⟩,
  ⟨(some 18), (some (15, false)), (.bin .neq (.t 17) (.c (.sc (.int .i64 (0)))))⟩,
  ⟨(some 19), none, (.pick (.t 15) (.c (.sc (.bool true))) (.t 18))⟩] none)
 (.cond (.t 19)
 (.seq (.reg [⟨(some 20), none, (.call 11 [])⟩,
  ⟨(some 6), none, (.mv (.t 20))⟩] none) .ret) .skip))
 (.seq (.reg [⟨(some 7), none, (.mv (.c (.sc (.int .i64 (0)))))⟩,
  ⟨(some 8), none, (.mv (.c (.sc (.int .i64 (0)))))⟩] none)
 (.seq (.seq (.reg [⟨(some 9), none, (.mv (.c (.sc (.int .i64 (0)))))⟩] none) (.block 0 
 (.loop ⟨[0, 1, 2, 7, 8, 9], []⟩
 (.seq (.seq (.reg [⟨(some 21), none, (.mv (.t 9))⟩,
  ⟨(some 22), none, (.mv (.t 0))⟩,
  ⟨(some 23), none, (.len (.t 22))⟩,
  ⟨(some 24), none, (.bin .lss (.t 21) (.t 23))⟩] none)
 (.cond (.t 24) .skip (.exit 0)))
 (.seq (.block 1
 (.seq (.reg [⟨(some 27), none, (.mv (.t 0))⟩,
  ⟨(some 28), none, (.mv (.t 9))⟩,
  ⟨(some 29), none, (.iaddr 5 (.t 27) (.t 28))⟩,
  ⟨(some 30), none, (.faddr 1 (.t 29))⟩,
  ⟨(some 31), none, (.load 1 false (.t 30))⟩,
  ⟨(some 32), none, (.mv (.t 1))⟩,
  ⟨(some 33), none, (.bin .eql (.t 31) (.t 32))⟩,
  ⟨(some 34), none, (.mv (.t 33))⟩,
  ⟨(some 35), (some (34, true)), (.mv (.t 0))⟩,
  ⟨(some 36), (some (34, true)), (.mv (.t 9))⟩,
  ⟨(some 37), (some (34, true)), (.iaddr 5 (.t 35) (.t 36))⟩,
  ⟨(some 38), (some (34, true)), (.faddr 2 (.t 37))⟩,
  ⟨(some 39), (some (34, true)), (.faddr 0 (.t 38))⟩,
  ⟨(some 40), (some (34, true)), (.load 1 false (.t 39))⟩,
  ⟨(some 41), (some (34, true)), (.mv (.t 2))⟩,
  ⟨(some 42), (some (34, true)), (.bin .leq (.t 40) (.t 41))⟩,
  ⟨(some 43), none, (.pick (.t 34) (.t 42) (.c (.sc (.bool false))))⟩,
  ⟨(some 44), none, (.mv (.t 43))⟩,
  ⟨(some 45), (some (44, true)), (.mv (.t 2))⟩,
  ⟨(some 46), (some (44, true)), (.mv (.t 0))⟩,
  ⟨(some 47), (some (44, true)), (.mv (.t 9))⟩,
  ⟨(some 48), (some (44, true)), (.iaddr 5 (.t 46) (.t 47))⟩,
  ⟨(some 49), (some (44, true)), (.faddr 2 (.t 48))⟩,
  ⟨(some 50), (some (44, true)), (.faddr 1 (.t 49))⟩,
  ⟨(some 51), (some (44, true)), (.load 1 false (.t 50))⟩,
  ⟨(some 52), (some (44, true)), (.bin .lss (.t 45) (.t 51))⟩,
  ⟨(some 53), none, (.pick (.t 44) (.t 52) (.c (.sc (.bool false))))⟩] none)
 (.cond (.t 53)
 (.seq (.reg [⟨(some 54), none, (.mv (.t 7))⟩,
  ⟨(some 55), none, (.bin .add (.t 54) (.c (.sc (.int .i64 (1)))))⟩,
  ⟨(some 7), none, (.mv (.t 55))⟩] none) (.reg [⟨(some 56), none, (.mv (.t 0))⟩,
  ⟨(some 57), none, (.mv (.t 9))⟩,
  ⟨(some 58), none, (.iaddr 5 (.t 56) (.t 57))⟩,
  ⟨(some 59), none, (.faddr 0 (.t 58))⟩,
  ⟨(some 60), none, (.load 1 false (.t 59))⟩,
  ⟨(some 8), none, (.mv (.t 60))⟩] none)) .skip))) (.reg [⟨(some 25), none, (.mv (.t 9))⟩,
  ⟨(some 26), none, (.bin .add (.t 25) (.c (.sc (.int .i64 (1)))))⟩,
  ⟨(some 9), none, (.mv (.t 26))⟩] none))))))
 (.seq (.reg [⟨(some 62), none, (.mv (.t 0))⟩,
  ⟨(some 63), none, (.mv (.t 1))⟩,
  ⟨(some 64), none, (.mv (.t 2))⟩,
  ⟨(some 65), none, (.call 12 [(.t 62), (.t 63), (.t 64)])⟩,
  ⟨(some 61), none, (.mv (.t 65))⟩,
  ⟨(some 66), none, (.ext 0 (.t 61))⟩,
  ⟨(some 67), none, (.ext 1 (.t 61))⟩,
  ⟨(some 10), none, (.mv (.t 66))⟩,
  ⟨(some 11), none, (.mv (.t 67))⟩] none)
 (.seq (.reg [⟨(some 68), none, (.mv (.t 7))⟩,
  ⟨(some 69), none, (.bin .leq (.t 68) (.c (.sc (.int .i64 (1)))))⟩,
  ⟨(some 70), none, (.mv (.t 69))⟩,
  ⟨(some 71), (some (70, true)), (.mv (.t 11))⟩,
  ⟨(some 72), (some (70, true)), (.mv (.t 7))⟩,
  ⟨(some 73), (some (70, true)), (.bin .eql (.t 72) (.c (.sc (.int .i64 (1)))))⟩,
  ⟨(some 74), (some (70, true)), (.beq false (.t 71) (.t 73))⟩,
  ⟨(some 75), none, (.pick (.t 70) (.t 74) (.c (.sc (.bool false))))⟩,
  ⟨(some 76), none, (.mv (.t 75))⟩,
  ⟨(some 77), (some (76, true)), (.mv (.t 10))⟩,
  ⟨(some 78), (some (76, true)), (.mv (.t 8))⟩,
  ⟨(some 79), (some (76, true)), (.bin .eql (.t 77) (.t 78))⟩,
  ⟨(some 80), none, (.pick (.t 76) (.t 79) (.c (.sc (.bool false))))⟩,
  ⟨(some 81), none, (.mv (.t 80))⟩,
  ⟨(some 82), (some (81, true)), (.call 11 [])⟩,
  ⟨(some 83), none, (.pick (.t 81) (.t 82) (.c (.sc (.bool false))))⟩,
  ⟨(some 6), none, (.mv (.t 83))⟩] none) .ret))))))
theorem good9 {args : List PV} {r : PV} (hl : args.length ≤ 84) (h : Run Try.prog [.code ac9] (endQ [(.t 6)] r) ⟨initT 0 args, [], 0, 84⟩) : Good Try.prog 9 args r :=
  good_run (by kernel_rfl) Jamix Try.func9 rfl (hs := [⟨[0, 1, 2, 7, 8, 9], []⟩]) (hs' := []) (by kernel_rfl) hl h
def ac10 : ACode :=
 (.seq (.reg [⟨(some 2), none, (.mv (.c (.sc (.bool false))))⟩] none)
 (.seq (.reg [⟨(some 3), none, (.mv (.t 0))⟩,
  ⟨(some 4), none, (.len (.t 3))⟩,
  ⟨(some 5), none, (.bin .leq (.t 4) (.c (.sc (.int .i64 (60)))))⟩,
  ⟨(some 6), none, (.mv (.t 5))⟩,
  ⟨(some 7), (some (6, false)), (.mv (.t 0))⟩,
  ⟨(some 8), (some (6, false)), (.len (.t 7))⟩,
  ⟨(some 9), (some (6, false)), (.bin .gtr (.t 8) (.c (.sc (.int .i64 (512)))))⟩,
  ⟨(some 10), (some (6, false)), (.mv (.t 9))⟩,
  ⟨(some 11), (some (10, true)), (.mv (.t 0))⟩,
  ⟨(some 12), (some (10, true)), (.len (.t 11))⟩,
  ⟨(some 13), (some (10, true)), (.bin .leq (.t 12) (.c (.sc (.int .i64 (520)))))⟩,
  ⟨(some 14), (some (6, false)), (.pick (.t 10) (.t 13) (.c (.sc (.bool false))))⟩,
  ⟨(some 15), none, (.pick (.t 6) (.c (.sc (.bool true))) (.t 14))⟩,
  ⟨(some 2), none, (.mv (.t 15))⟩] none) .ret))
theorem good10 {args : List PV} {r : PV} (hl : args.length ≤ 16) (h : Run Try.prog [.code ac10] (endQ [(.t 2)] r) ⟨initT 0 args, [], 0, 16⟩) : Good Try.prog 10 args r :=
  good_run (by kernel_rfl) Jamix Try.func10 rfl (hs := []) (hs' := []) (by kernel_rfl) hl h
def ac11 : ACode :=
 (.seq (.reg [⟨(some 0), none, (.mv (.c (.sc (.bool false))))⟩] none)
 (.seq (.reg [⟨(some 12), none, (.call 24 [])⟩,
  ⟨(some 13), none, (.call 25 [])⟩,
  ⟨(some 14), none, (.call 20 [(.t 12), (.t 13), (.c (.sc (.int .i64 (100))))])⟩,
  ⟨(some 11), none, (.mv (.t 14))⟩,
  ⟨(some 15), none, (.ext 0 (.t 11))⟩,
  ⟨(some 16), none, (.ext 1 (.t 11))⟩,
  ⟨(some 1), none, (.mv (.t 15))⟩,
  ⟨(some 2), none, (.mv (.t 16))⟩] none)
 (.seq (.reg [⟨(some 18), none, (.call 24 [])⟩,
  ⟨(some 19), none, (.call 16 [(.t 18), (.c (.sc (.int .i64 (5)))), (.c (.sc (.int .i64 (400)))), (.c (.sc (.int .i64 (1)))), (.c (.sc (.int .i64 (500))))])⟩,
  ⟨(some 17), none, (.mv (.t 19))⟩,
  ⟨(some 20), none, (.ext 0 (.t 17))⟩,
  ⟨(some 21), none, (.ext 1 (.t 17))⟩,
  ⟨(some 3), none, (.mv (.t 20))⟩,
  ⟨(some 4), none, (.mv (.t 21))⟩] none)
 (.seq (.reg [⟨(some 23), none, (.mv (.t 3))⟩,
  ⟨(some 24), none, (.call 12 [(.t 23), (.c (.sc (.int .i64 (5)))), (.c (.sc (.int .i64 (400))))])⟩,
  ⟨(some 22), none, (.mv (.t 24))⟩,
  ⟨(some 25), none, (.ext 0 (.t 22))⟩,
  ⟨(some 26), none, (.ext 1 (.t 22))⟩,
  ⟨(some 5), none, (.mv (.t 25))⟩,
  ⟨(some 6), none, (.mv (.t 26))⟩] none)
 (.seq (.reg [⟨(some 28), none, (.mv (.t 3))⟩,
  ⟨(some 29), none, (.call 12 [(.t 28), (.c (.sc (.int .i64 (5)))), (.c (.sc (.int .i64 (399))))])⟩,
  ⟨(some 27), none, (.mv (.t 29))⟩,
  ⟨(some 30), none, (.ext 0 (.t 27))⟩,
  ⟨(some 31), none, (.ext 1 (.t 27))⟩,
  ⟨(some 7), none, (.mv (.t 30))⟩,
  ⟨(some 8), none, (.mv (.t 31))⟩] none)
 (.seq (.reg [⟨(some 33), none, (.mv (.t 3))⟩,
  ⟨(some 34), none, (.call 12 [(.t 33), (.c (.sc (.int .i64 (6)))), (.c (.sc (.int .i64 (399))))])⟩,
  ⟨(some 32), none, (.mv (.t 34))⟩,
  ⟨(some 35), none, (.ext 0 (.t 32))⟩,
  ⟨(some 36), none, (.ext 1 (.t 32))⟩,
  ⟨(some 9), none, (.mv (.t 35))⟩,
  ⟨(some 10), none, (.mv (.t 36))⟩] none)
 (.seq (.reg [⟨(some 37), none, (.mv (.t 2))⟩,
  ⟨(some 38), none, (.bin .eql (.t 37) (.c (.sc (.int .i64 (0)))))⟩,
  ⟨(some 39), none, (.mv (.t 38))⟩,
  ⟨(some 40), (some (39, true)), (.mv (.t 1))⟩,
  ⟨(some 41), (some (39, true)), (.build [(.sc (.int .i64 (0))), (.sc (.int .i64 (0)))] [(0, (1, (.c (.sc (.int .i64 (0)))))), (1, (1, (.c (.sc (.int .i64 (53))))))])⟩,
  ⟨(some 42), (some (39, true)), (.build [(.sc (.int .i64 (0))), (.sc (.int .i64 (0)))] [(0, (1, (.c (.sc (.int .i64 (3)))))), (1, (1, (.c (.sc (.int .i64 (47))))))])⟩,
  ⟨(some 43), (some (39, true)), (.bslice 50 2 [(.t 41), (.t 42)])⟩,
  ⟨(some 44), (some (39, true)), (.call 22 [(.t 40), (.t 43)])⟩,
  ⟨(some 45), none, (.pick (.t 39) (.t 44) (.c (.sc (.bool false))))⟩,
  ⟨(some 46), none, (.mv (.t 45))⟩,
  ⟨(some 47), (some (46, true)), (.mv (.t 4))⟩,
  ⟨(some 48), (some (46, true)), (.bin .eql (.t 47) (.c (.sc (.int .i64 (0)))))⟩,
  ⟨(some 49), none, (.pick (.t 46) (.t 48) (.c (.sc (.bool false))))⟩,
  ⟨(some 50), none, (.mv (.t 49))⟩,
  ⟨(some 51), (some (50, true)), (.mv (.t 3))⟩,
  ⟨(some 52), (some (50, true)), (.len (.t 51))⟩,
  ⟨(some 53), (some (50, true)), (.bin .eql (.t 52) (.c (.sc (.int .i64 (2)))))⟩,
  ⟨(some 54), none, (.pick (.t 50) (.t 53) (.c (.sc (.bool false))))⟩,
  ⟨(some 55), none, (.mv (.t 54))⟩,
  ⟨(some 56), (some (55, true)), (.mv (.t 5))⟩,
  ⟨(some 57), (some (55, true)), (.bin .eql (.t 56) (.c (.sc (.int .i64 (1)))))⟩,
  ⟨(some 58), none, (.pick (.t 55) (.t 57) (.c (.sc (.bool false))))⟩,
  ⟨(some 59), none, (.mv (.t 58))⟩,
  ⟨(some 60), (some (59, true)), (.mv (.t 6))⟩,
  ⟨(some 61), none, (.pick (.t 59) (.t 60) (.c (.sc (.bool false))))⟩,
  ⟨(some 62), none, (.mv (.t 61))⟩,
  ⟨(some 63), (some (62, true)), (.mv (.t 7))⟩,
  ⟨(some 64), (some (62, true)), (.bin .eql (.t 63) (.c (.sc (.int .i64 (2)))))⟩,
  ⟨(some 65), none, (.pick (.t 62) (.t 64) (.c (.sc (.bool false))))⟩,
  ⟨(some 66), none, (.mv (.t 65))⟩,
  ⟨(some 67), (some (66, true)), (.mv (.t 8))⟩,
  ⟨(some 68), none, (.pick (.t 66) (.t 67) (.c (.sc (.bool false))))⟩,
  ⟨(some 69), none, (.mv (.t 68))⟩,
  ⟨(some 70), (some (69, true)), (.mv (.t 10))⟩,
  ⟨(some 71), (some (69, true)), (.un .not (.t 70))⟩,
  ⟨(some 72), none, (.pick (.t 69) (.t 71) (.c (.sc (.bool false))))⟩,
  ⟨(some 0), none, (.mv (.t 72))⟩] none) .ret)))))))
theorem good11 {args : List PV} {r : PV} (hl : args.length ≤ 73) (h : Run Try.prog [.code ac11] (endQ [(.t 0)] r) ⟨initT 0 args, [], 0, 73⟩) : Good Try.prog 11 args r :=
  good_run (by kernel_rfl) Jamix Try.func11 rfl (hs := []) (hs' := []) (by kernel_rfl) hl h
def ac12 : ACode :=
 (.seq (.reg [⟨(some 6), none, (.mv (.c (.sc (.int .i64 (0)))))⟩,
  ⟨(some 7), none, (.mv (.c (.sc (.bool false))))⟩] none)
 (.seq (.reg [⟨(some 9), none, (.mv (.t 0))⟩,
  ⟨(some 10), none, (.mv (.t 1))⟩,
  ⟨(some 11), none, (.mv (.t 2))⟩,
  ⟨(some 12), none, (.call 26 [(.t 9), (.t 10), (.t 11)])⟩,
  ⟨(some 8), none, (.mv (.t 12))⟩] none)
 (.seq (.seq (.reg [⟨(some 13), none, (.mv (.t 8))⟩,
  ⟨(some 14), none, (.bin .lss (.t 13) (.c (.sc (.int .i64 (0)))))⟩] none)
 (.cond (.t 14)
 (.seq (.reg [⟨(some 6), none, (.mv (.c (.sc (.int .i64 (0)))))⟩,
  ⟨(some 7), none, (.mv (.c (.sc (.bool false))))⟩] none) .ret) .skip))
 (.seq (.reg [⟨(some 15), none, (.mv (.t 0))⟩,
  ⟨(some 16), none, (.mv (.t 8))⟩,
  ⟨(some 17), none, (.iaddr 5 (.t 15) (.t 16))⟩,
  ⟨(some 18), none, (.faddr 0 (.t 17))⟩,
  ⟨(some 19), none, (.load 1 false (.t 18))⟩,
  ⟨(some 6), none, (.mv (.t 19))⟩,
  ⟨(some 7), none, (.mv (.c (.sc (.bool true))))⟩] none) .ret))))
theorem good12 {args : List PV} {r : PV} (hl : args.length ≤ 20) (h : Run Try.prog [.code ac12] (endQ [(.t 6), (.t 7)] r) ⟨initT 0 args, [], 0, 20⟩) : Good Try.prog 12 args r :=
  good_run (by kernel_rfl) Jamix Try.func12 rfl (hs := []) (hs' := []) (by kernel_rfl) hl h
def ac13 : ACode :=
 (.seq (.reg [⟨(some 6), none, (.mv (.c (.sc (.int .i64 (0)))))⟩,
  ⟨(some 7), none, (.mv (.c (.sc (.bool false))))⟩] none)
 (.seq (.reg [⟨(some 9), none, (.mv (.t 0))⟩,
  ⟨(some 10), none, (.mv (.t 1))⟩,
  ⟨(some 11), none, (.mv (.t 2))⟩,
  ⟨(some 12), none, (.call 23 [(.t 9), (.t 10), (.t 11)])⟩,
  ⟨(some 8), none, (.mv (.t 12))⟩] none)
 (.seq (.seq (.reg [⟨(some 13), none, (.mv (.t 8))⟩,
  ⟨(some 14), none, (.bin .lss (.t 13) (.c (.sc (.int .i64 (0)))))⟩] none)
 (.cond (.t 14)
 (.seq (.reg [⟨(some 6), none, (.mv (.c (.sc (.int .i64 (0)))))⟩,
  ⟨(some 7), none, (.mv (.c (.sc (.bool false))))⟩] none) .ret) .skip))
 (.seq (.reg [⟨(some 15), none, (.mv (.t 0))⟩,
  ⟨(some 16), none, (.mv (.t 8))⟩,
  ⟨(some 17), none, (.iaddr 5 (.t 15) (.t 16))⟩,
  ⟨(some 18), none, (.faddr 0 (.t 17))⟩,
  ⟨(some 19), none, (.load 1 false (.t 18))⟩,
  ⟨(some 6), none, (.mv (.t 19))⟩,
  ⟨(some 7), none, (.mv (.c (.sc (.bool true))))⟩] none) .ret))))
theorem good13 {args : List PV} {r : PV} (hl : args.length ≤ 20) (h : Run Try.prog [.code ac13] (endQ [(.t 6), (.t 7)] r) ⟨initT 0 args, [], 0, 20⟩) : Good Try.prog 13 args r :=
  good_run (by kernel_rfl) Jamix Try.func13 rfl (hs := []) (hs' := []) (by kernel_rfl) hl h
def ac14 : ACode :=
 (.seq (.reg [⟨(some 2), none, (.mv (.c (.sc (.int .i64 (0)))))⟩] none)
 (.seq (.seq (.reg [⟨(some 7), none, (.mv (.t 0))⟩,
  ⟨(some 8), none, (.len (.t 7))⟩,
  ⟨(some 9), none, (.bin .gtr (.t 8) (.c (.sc (.int .i64 (512)))))⟩] none)
 (.cond (.t 9)
 (.seq (.reg [⟨(some 2), none, (.mv (.c (.sc (.int .i64 (8)))))⟩] none) .ret) .skip))
 (.seq (.seq (.reg [⟨(some 10), none, (.mv (.t 0))⟩,
  ⟨(some 11), none, (.len (.t 10))⟩,
  ⟨(some 12), none, (.mv (.c (.sc (.int .i64 (0)))))⟩] none) (.block 0 
 (.loop ⟨[0, 10, 11, 12], []⟩
 (.seq (.reg [⟨(some 13), none, (.bin .lss (.t 12) (.t 11))⟩] none)
 (.seq
 (.cond (.t 13) .skip (.exit 0))
 (.seq (.block 1
 (.seq (.reg [⟨(some 14), none, (.mv (.t 12))⟩,
  ⟨(some 15), none, (.iaddr 5 (.t 10) (.t 12))⟩,
  ⟨(some 16), none, (.load 5 true (.t 15))⟩,
  ⟨(some 4), none, (.new [(.sc (.int .i64 (0))), (.sc (.int .i64 (0))), (.sc (.int .i64 (0))), (.sc (.int .i64 (0))), (.sc (.int .i64 (0)))])⟩,
  ⟨(some 3), none, (.mv (.t 14))⟩,
  ⟨none, none, (.store 5 (.t 4) (.t 16))⟩] none)
 (.seq (.seq (.reg [⟨(some 17), none, (.load 5 true (.t 4))⟩,
  ⟨(some 18), none, (.call 27 [(.t 17)])⟩,
  ⟨(some 19), none, (.un .not (.t 18))⟩] none)
 (.cond (.t 19)
 (.seq (.reg [⟨(some 2), none, (.mv (.c (.sc (.int .i64 (1)))))⟩] none) .ret) .skip))
 (.seq (.reg [⟨(some 20), none, (.mv (.t 0))⟩,
  ⟨(some 21), none, (.mv (.t 3))⟩,
  ⟨(some 22), none, (.slice 5 (.t 20) none (some (.t 21)) none)⟩,
  ⟨(some 23), none, (.len (.t 22))⟩,
  ⟨(some 24), none, (.mv (.c (.sc (.int .i64 (0)))))⟩] none) (.block 2 
 (.loop ⟨[0, 4, 10, 11, 12, 22, 23, 24], []⟩
 (.seq (.reg [⟨(some 25), none, (.bin .lss (.t 24) (.t 23))⟩] none)
 (.seq
 (.cond (.t 25) .skip (.exit 2))
 (.seq (.block 3
 (.seq (.reg [⟨(some 26), none, (.iaddr 5 (.t 22) (.t 24))⟩,
  ⟨(some 27), none, (.load 5 true (.t 26))⟩,
  ⟨(some 6), none, (.new [(.sc (.int .i64 (0))), (.sc (.int .i64 (0))), (.sc (.int .i64 (0))), (.sc (.int .i64 (0))), (.sc (.int .i64 (0)))])⟩,
  ⟨none, none, (.store 5 (.t 6) (.t 27))⟩] none)
 (.seq (.reg [⟨(some 28), none, (.faddr 1 (.t 6))⟩,
  ⟨(some 29), none, (.load 1 false (.t 28))⟩,
  ⟨(some 30), none, (.faddr 1 (.t 4))⟩,
  ⟨(some 31), none, (.load 1 false (.t 30))⟩,
  ⟨(some 32), none, (.bin .eql (.t 29) (.t 31))⟩,
  ⟨(some 33), none, (.mv (.t 32))⟩,
  ⟨(some 34), (some (33, true)), (.faddr 2 (.t 6))⟩,
  ⟨(some 35), (some (33, true)), (.faddr 0 (.t 34))⟩,
  ⟨(some 36), (some (33, true)), (.load 1 false (.t 35))⟩,
  ⟨(some 37), (some (33, true)), (.faddr 2 (.t 4))⟩,
  ⟨(some 38), (some (33, true)), (.faddr 1 (.t 37))⟩,
  ⟨(some 39), (some (33, true)), (.load 1 false (.t 38))⟩,
  ⟨(some 40), (some (33, true)), (.bin .lss (.t 36) (.t 39))⟩,
  ⟨(some 41), none, (.pick (.t 33) (.t 40) (.c (.sc (.bool false))))⟩,
  ⟨(some 42), none, (.mv (.t 41))⟩,
  ⟨(some 43), (some (42, true)), (.faddr 2 (.t 4))⟩,
  ⟨(some 44), (some (42, true)), (.faddr 0 (.t 43))⟩,
  ⟨(some 45), (some (42, true)), (.load 1 false (.t 44))⟩,
  ⟨(some 46), (some (42, true)), (.faddr 2 (.t 6))⟩,
  ⟨(some 47), (some (42, true)), (.faddr 1 (.t 46))⟩,
  ⟨(some 48), (some (42, true)), (.load 1 false (.t 47))⟩,
  ⟨(some 49), (some (42, true)), (.bin .lss (.t 45) (.t 48))⟩,
  ⟨(some 50), none, (.pick (.t 42) (.t 49) (.c (.sc (.bool false))))⟩] none)
 (.cond (.t 50)
 (.seq (.reg [⟨(some 2), none, (.mv (.c (.sc (.int .i64 (22)))))⟩] none) .ret) .skip)))) (.reg [⟨(some 51), none, (.bin .add (.t 24) (.c (.sc (.int .i64 (1)))))⟩,
  ⟨(some 24), none, (.mv (.t 51))⟩] none)))))))))) (.reg [⟨(some 52), none, (.bin .add (.t 12) (.c (.sc (.int .i64 (1)))))⟩,
  ⟨(some 12), none, (.mv (.t 52))⟩] none)))))))
 (.seq (.reg [⟨(some 2), none, (.mv (.c (.sc (.int .i64 (0)))))⟩] none) .ret))))
theorem good14 {args : List PV} {r : PV} (hl : args.length ≤ 53) (h : Run Try.prog [.code ac14] (endQ [(.t 2)] r) ⟨initT 0 args, [], 0, 53⟩) : Good Try.prog 14 args r :=
  good_run (by kernel_rfl) Jamix Try.func14 rfl (hs := [⟨[0, 10, 11, 12], []⟩, ⟨[0, 4, 10, 11, 12, 22, 23, 24], []⟩]) (hs' := []) (by kernel_rfl) hl h
def ac15 : ACode :=
 (.seq (.reg [⟨(some 2), none, (.mv (.c (.sc (.int .i64 (0)))))⟩] none)
 (.seq (.seq (.reg [⟨(some 6), none, (.mv (.t 0))⟩,
  ⟨(some 7), none, (.len (.t 6))⟩,
  ⟨(some 8), none, (.bin .gtr (.t 7) (.c (.sc (.int .i64 (512)))))⟩] none)
 (.cond (.t 8)
 (.seq (.reg [⟨(some 2), none, (.mv (.c (.sc (.int .i64 (8)))))⟩] none) .ret) .skip))
 (.seq (.seq (.reg [⟨(some 3), none, (.mv (.c (.sc (.int .i64 (0)))))⟩] none) (.block 0 
 (.loop ⟨[0, 3], []⟩
 (.seq (.seq (.reg [⟨(some 9), none, (.mv (.t 3))⟩,
  ⟨(some 10), none, (.mv (.t 0))⟩,
  ⟨(some 11), none, (.len (.t 10))⟩,
  ⟨(some 12), none, (.bin .lss (.t 9) (.t 11))⟩] none)
 (.cond (.t 12) .skip (.exit 0)))
 (.seq (.block 1
 (.seq (.reg [⟨(some 15), none, (.mv (.t 0))⟩,
  ⟨(some 16), none, (.mv (.t 3))⟩,
  ⟨(some 17), none, (.iaddr 5 (.t 15) (.t 16))⟩,
  ⟨(some 18), none, (.load 5 true (.t 17))⟩,
  ⟨(some 4), none, (.new [(.sc (.int .i64 (0))), (.sc (.int .i64 (0))), (.sc (.int .i64 (0))), (.sc (.int .i64 (0))), (.sc (.int .i64 (0)))])⟩,
  ⟨none, none, (.store 5 (.t 4) (.t 18))⟩] none)
 (.seq (.seq (.reg [⟨(some 19), none, (.faddr 0 (.t 4))⟩,
  ⟨(some 20), none, (.load 1 false (.t 19))⟩,
  ⟨(some 21), none, (.bin .lss (.t 20) (.c (.sc (.int .i64 (0)))))⟩,
  ⟨(some 22), none, (.mv (.t 21))⟩,
  ⟨(some 23), (some (22, false)), (.faddr 0 (.t 4))⟩,
  ⟨(some 24), (some (22, false)), (.load 1 false (.t 23))⟩,
  ⟨(some 25), (some (22, false)), (.bin .geq (.t 24) (.c (.sc (.int .i64 (8)))))⟩,
  ⟨(some 26), none, (.pick (.t 22) (.c (.sc (.bool true))) (.t 25))⟩,
  ⟨(some 27), none, (.mv (.t 26))⟩,
  ⟨(some 28), (some (27, false)), (.faddr 1 (.t 4))⟩,
  ⟨(some 29), (some (27, false)), (.load 1 false (.t 28))⟩,
  ⟨(some 30), (some (27, false)), (.bin .lss (.t 29) (.c (.sc (.int .i64 (0)))))⟩,
  ⟨(some 31), none, (.pick (.t 27) (.c (.sc (.bool true))) (.t 30))⟩,
  ⟨(some 32), none, (.mv (.t 31))⟩,
  ⟨(some 33), (some (32, false)), (.faddr 1 (.t 4))⟩,
  ⟨(some 34), (some (32, false)), (.load 1 false (.t 33))⟩,
  ⟨(some 35), (some (32, false)), (.bin .geq (.t 34) (.c (.sc (.int .i64 (128)))))⟩,
  ⟨(some 36), none, (.pick (.t 32) (.c (.sc (.bool true))) (.t 35))⟩,
  ⟨(some 37), none, (.mv (.t 36))⟩,
  ⟨(some 38), (some (37, false)), (.faddr 2 (.t 4))⟩,
  ⟨(some 39), (some (37, false)), (.faddr 0 (.t 38))⟩,
  ⟨(some 40), (some (37, false)), (.load 1 false (.t 39))⟩,
  ⟨(some 41), (some (37, false)), (.bin .lss (.t 40) (.c (.sc (.int .i64 (0)))))⟩,
  ⟨(some 42), none, (.pick (.t 37) (.c (.sc (.bool true))) (.t 41))⟩,
  ⟨(some 43), none, (.mv (.t 42))⟩,
  ⟨(some 44), (some (43, false)), (.faddr 2 (.t 4))⟩,
  ⟨(some 45), (some (43, false)), (.faddr 0 (.t 44))⟩,
  ⟨(some 46), (some (43, false)), (.load 1 false (.t 45))⟩,
  ⟨(some 47), (some (43, false)), (.faddr 2 (.t 4))⟩,
  ⟨(some 48), (some (43, false)), (.faddr 1 (.t 47))⟩,
  ⟨(some 49), (some (43, false)), (.load 1 false (.t 48))⟩,
  ⟨(some 50), (some (43, false)), (.bin .geq (.t 46) (.t 49))⟩,
  ⟨(some 51), none, (.pick (.t 43) (.c (.sc (.bool true))) (.t 50))⟩,
  ⟨(some 52), none, (.mv (.t 51))⟩,
  ⟨(some 53), (some (52, false)), (.faddr 2 (.t 4))⟩,
  ⟨(some 54), (some (52, false)), (.faddr 1 (.t 53))⟩,
  ⟨(some 55), (some (52, false)), (.load 1 false (.t 54))⟩,
  ⟨(some 56), (some (52, false)), (.bin .gtr (.t 55) (.c (.sc (.int .i64 (4294944000)))))⟩,
  ⟨(some 57), none, (.pick (.t 52) (.c (.sc (.bool true))) (.t 56))⟩,
  ⟨(some 58), none, (.mv (.t 57))⟩,
  ⟨(some 59), (some (58, false)), (.faddr 4 (.t 4))⟩,
  ⟨(some 60), (some (58, false)), (.load 1 false (.t 59))⟩,
  ⟨(some 61), (some (58, false)), (.bin .lss (.t 60) (.c (.sc (.int .i64 (0)))))⟩,
  ⟨(some 62), none, (.pick (.t 58) (.c (.sc (.bool true))) (.t 61))⟩,
  ⟨(some 63), none, (.mv (.t 62))⟩,
  ⟨(some 64), (some (63, false)), (.faddr 4 (.t 4))⟩,
  ⟨(some 65), (some (63, false)), (.load 1 false (.t 64))⟩,
  ⟨(some 66), (some (63, false)), (.bin .gtr (.t 65) (.c (.sc (.int .i64 (1000)))))⟩,
  ⟨(some 67), none, (.pick (.t 63) (.c (.sc (.bool true))) (.t 66))⟩] none)
 (.cond (.t 67)
 (.seq (.reg [⟨(some 2), none, (.mv (.c (.sc (.int .i64 (1)))))⟩] none) .ret) .skip))
 (.seq (.reg [⟨(some 5), none, (.mv (.c (.sc (.int .i64 (0)))))⟩] none) (.block 2 
 (.loop ⟨[0, 3, 4, 5], []⟩
 (.seq (.seq (.reg [⟨(some 68), none, (.mv (.t 5))⟩,
  ⟨(some 69), none, (.mv (.t 3))⟩,
  ⟨(some 70), none, (.bin .lss (.t 68) (.t 69))⟩] none)
 (.cond (.t 70) .skip (.exit 2)))
 (.seq (.block 3
 (.seq (.reg [⟨(some 73), none, (.mv (.t 0))⟩,
  ⟨(some 74), none, (.mv (.t 5))⟩,
  ⟨(some 75), none, (.iaddr 5 (.t 73) (.t 74))⟩,
  ⟨(some 76), none, (.faddr 1 (.t 75))⟩,
  ⟨(some 77), none, (.load 1 false (.t 76))⟩,
  ⟨(some 78), none, (.faddr 1 (.t 4))⟩,
  ⟨(some 79), none, (.load 1 false (.t 78))⟩,
  ⟨(some 80), none, (.bin .eql (.t 77) (.t 79))⟩,
  ⟨(some 81), none, (.mv (.t 80))⟩,
  ⟨(some 82), (some (81, true)), (.mv (.t 0))⟩,
  ⟨(some 83), (some (81, true)), (.mv (.t 5))⟩,
  ⟨(some 84), (some (81, true)), (.iaddr 5 (.t 82) (.t 83))⟩,
  ⟨(some 85), (some (81, true)), (.faddr 2 (.t 84))⟩,
  ⟨(some 86), (some (81, true)), (.faddr 0 (.t 85))⟩,
  ⟨(some 87), (some (81, true)), (.load 1 false (.t 86))⟩,
  ⟨(some 88), (some (81, true)), (.faddr 2 (.t 4))⟩,
  ⟨(some 89), (some (81, true)), (.faddr 0 (.t 88))⟩,
  ⟨(some 90), (some (81, true)), (.load 1 false (.t 89))⟩,
  ⟨(some 91), (some (81, true)), (.mx (.t 87) (.t 90))⟩,
  ⟨(some 92), (some (81, true)), (.mv (.t 0))⟩,
  ⟨(some 93), (some (81, true)), (.mv (.t 5))⟩,
  ⟨(some 94), (some (81, true)), (.iaddr 5 (.t 92) (.t 93))⟩,
  ⟨(some 95), (some (81, true)), (.faddr 2 (.t 94))⟩,
  ⟨(some 96), (some (81, true)), (.faddr 1 (.t 95))⟩,
  ⟨(some 97), (some (81, true)), (.load 1 false (.t 96))⟩,
  ⟨(some 98), (some (81, true)), (.faddr 2 (.t 4))⟩,
  ⟨(some 99), (some (81, true)), (.faddr 1 (.t 98))⟩,
  ⟨(some 100), (some (81, true)), (.load 1 false (.t 99))⟩,
  ⟨(some 101), (some (81, true)), (.mn (.t 97) (.t 100))⟩,
  ⟨(some 102), (some (81, true)), (.bin .lss (.t 91) (.t 101))⟩,
  ⟨(some 103), none, (.pick (.t 81) (.t 102) (.c (.sc (.bool false))))⟩] (some [[], [], [0, 1], [2, 0, 1], [3, 2, 0, 1], [], [5], [4, 6, 3, 2, 0, 1, 5], [7, 4, 6, 3, 2, 0, 1, 5], [8, 7, 4, 6, 3, 2, 0, 1, 5], [8, 7, 4, 6, 3, 2, 0, 1, 5], [9, 10, 8, 7, 4, 6, 3, 2, 0, 1, 5], [11, 8, 9, 10, 7, 4, 6, 3, 2, 0, 1, 5], [12, 8, 11, 9, 10, 7, 4, 6, 3, 2, 0, 1, 5], [13, 8, 12, 11, 9, 10, 7, 4, 6, 3, 2, 0, 1, 5], [8, 7, 4, 6, 3, 2, 0, 1, 5], [15, 8, 7, 4, 6, 3, 2, 0, 1, 5], [16, 8, 15, 7, 4, 6, 3, 2, 0, 1, 5], [14, 17, 8, 13, 12, 11, 9, 10, 7, 4, 6, 3, 2, 0, 1, 5, 16, 15], [8, 7, 4, 6, 3, 2, 0, 1, 5], [8, 7, 4, 6, 3, 2, 0, 1, 5], [19, 20, 8, 7, 4, 6, 3, 2, 0, 1, 5], [21, 8, 19, 20, 7, 4, 6, 3, 2, 0, 1, 5], [22, 8, 21, 19, 20, 7, 4, 6, 3, 2, 0, 1, 5], [23, 8, 22, 21, 19, 20, 7, 4, 6, 3, 2, 0, 1, 5], [8, 7, 4, 6, 3, 2, 0, 1, 5], [25, 8, 7, 4, 6, 3, 2, 0, 1, 5], [26, 8, 25, 7, 4, 6, 3, 2, 0, 1, 5], [24, 27, 8, 23, 22, 21, 19, 20, 7, 4, 6, 3, 2, 0, 1, 5, 26, 25], [18, 28, 8, 14, 17, 13, 12, 11, 9, 10, 7, 4, 6, 3, 2, 0, 1, 5, 16, 15, 24, 27, 23, 22, 21, 19, 20, 26, 25], [8, 29, 7, 4, 6, 3, 2, 0, 1, 5, 18, 28, 14, 17, 13, 12, 11, 9, 10, 16, 15, 24, 27, 23, 22, 21, 19, 20, 26, 25]]))
 (.cond (.t 103)
 (.seq (.reg [⟨(some 2), none, (.mv (.c (.sc (.int .i64 (22)))))⟩] none) .ret) .skip))) (.reg [⟨(some 71), none, (.mv (.t 5))⟩,
  ⟨(some 72), none, (.bin .add (.t 71) (.c (.sc (.int .i64 (1)))))⟩,
  ⟨(some 5), none, (.mv (.t 72))⟩] none))))))))) (.reg [⟨(some 13), none, (.mv (.t 3))⟩,
  ⟨(some 14), none, (.bin .add (.t 13) (.c (.sc (.int .i64 (1)))))⟩,
  ⟨(some 3), none, (.mv (.t 14))⟩] none))))))
 (.seq (.reg [⟨(some 2), none, (.mv (.c (.sc (.int .i64 (0)))))⟩] none) .ret))))
theorem good15 {args : List PV} {r : PV} (hl : args.length ≤ 104) (h : Run Try.prog [.code ac15] (endQ [(.t 2)] r) ⟨initT 0 args, [], 0, 104⟩) : Good Try.prog 15 args r :=
  good_run (by kernel_rfl) Jamix Try.func15 rfl (hs := [⟨[0, 3], []⟩, ⟨[0, 3, 4, 5], []⟩]) (hs' := []) (by kernel_rfl) hl h
def ac16 : ACode :=
 (.seq (.reg [⟨(some 10), none, (.mv (.c (.sc (.slice none 0 0))))⟩,
  ⟨(some 11), none, (.mv (.c (.sc (.int .i64 (0)))))⟩] none)
 (.seq (.seq (.reg [⟨(some 16), none, (.mv (.t 0))⟩,
  ⟨(some 17), none, (.call 14 [(.t 16)])⟩,
  ⟨(some 12), none, (.mv (.t 17))⟩] none)
 (.seq (.reg [⟨(some 18), none, (.mv (.t 12))⟩,
  ⟨(some 19), none, (.bin .neq (.t 18) (.c (.sc (.int .i64 (0)))))⟩] none)
 (.cond (.t 19)
 (.seq (.reg [⟨(some 20), none, (.mv (.t 12))⟩,
  ⟨(some 10), none, (.mv (.c (.sc (.slice none 0 0))))⟩,
  ⟨(some 11), none, (.mv (.t 20))⟩] none) .ret) .skip)))
 (.seq (.seq (.reg [⟨(some 21), none, (.mv (.t 3))⟩,
  ⟨(some 22), none, (.bin .lss (.t 21) (.c (.sc (.int .i64 (0)))))⟩,
  ⟨(some 23), none, (.mv (.t 22))⟩,
  ⟨(some 24), (some (23, false)), (.mv (.t 3))⟩,
  ⟨(some 25), (some (23, false)), (.bin .geq (.t 24) (.c (.sc (.int .i64 (8)))))⟩,
  ⟨(some 26), none, (.pick (.t 23) (.c (.sc (.bool true))) (.t 25))⟩,
  ⟨(some 27), none, (.mv (.t 26))⟩,
  ⟨(some 28), (some (27, false)), (.mv (.t 4))⟩,
  ⟨(some 29), (some (27, false)), (.bin .lss (.t 28) (.c (.sc (.int .i64 (0)))))⟩,
  ⟨(some 30), none, (.pick (.t 27) (.c (.sc (.bool true))) (.t 29))⟩,
  ⟨(some 31), none, (.mv (.t 30))⟩,
  ⟨(some 32), (some (31, false)), (.mv (.t 4))⟩,
  ⟨(some 33), (some (31, false)), (.bin .gtr (.t 32) (.c (.sc (.int .i64 (1000)))))⟩,
  ⟨(some 34), none, (.pick (.t 31) (.c (.sc (.bool true))) (.t 33))⟩,
  ⟨(some 35), none, (.mv (.t 34))⟩,
  ⟨(some 36), (some (35, false)), (.mv (.t 2))⟩,
  ⟨(some 37), (some (35, false)), (.bin .lss (.t 36) (.c (.sc (.int .i64 (0)))))⟩,
  ⟨(some 38), none, (.pick (.t 35) (.c (.sc (.bool true))) (.t 37))⟩,
  ⟨(some 39), none, (.mv (.t 38))⟩,
  ⟨(some 40), (some (39, false)), (.mv (.t 2))⟩,
  ⟨(some 41), (some (39, false)), (.bin .gtr (.t 40) (.c (.sc (.int .i64 (4294943999)))))⟩,
  ⟨(some 42), none, (.pick (.t 39) (.c (.sc (.bool true))) (.t 41))⟩] none)
 (.cond (.t 42)
 (.seq (.reg [⟨(some 10), none, (.mv (.c (.sc (.slice none 0 0))))⟩,
  ⟨(some 11), none, (.mv (.c (.sc (.int .i64 (1)))))⟩] none) .ret) .skip))
 (.seq (.reg [⟨(some 43), none, (.mv (.t 0))⟩,
  ⟨(some 44), none, (.mv (.t 1))⟩,
  ⟨(some 45), none, (.mv (.t 2))⟩,
  ⟨(some 46), none, (.call 26 [(.t 43), (.t 44), (.t 45)])⟩,
  ⟨(some 13), none, (.mv (.t 46))⟩] none)
 (.seq (.seq (.reg [⟨(some 47), none, (.mv (.t 13))⟩,
  ⟨(some 48), none, (.bin .lss (.t 47) (.c (.sc (.int .i64 (0)))))⟩] none)
 (.cond (.t 48)
 (.seq (.reg [⟨(some 10), none, (.mv (.c (.sc (.slice none 0 0))))⟩,
  ⟨(some 11), none, (.mv (.c (.sc (.int .i64 (7)))))⟩] none) .ret) .skip))
 (.seq (.reg [⟨(some 49), none, (.mv (.t 3))⟩,
  ⟨(some 50), none, (.mv (.t 1))⟩,
  ⟨(some 51), none, (.mv (.t 2))⟩,
  ⟨(some 52), none, (.mv (.t 0))⟩,
  ⟨(some 53), none, (.mv (.t 13))⟩,
  ⟨(some 54), none, (.iaddr 5 (.t 52) (.t 53))⟩,
  ⟨(some 55), none, (.faddr 2 (.t 54))⟩,
  ⟨(some 56), none, (.faddr 1 (.t 55))⟩,
  ⟨(some 57), none, (.load 1 false (.t 56))⟩,
  ⟨(some 58), none, (.build [(.sc (.int .i64 (0))), (.sc (.int .i64 (0)))] [(0, (1, (.t 51))), (1, (1, (.t 57)))])⟩,
  ⟨(some 59), none, (.mv (.t 4))⟩,
  ⟨(some 60), none, (.build [(.sc (.int .i64 (0))), (.sc (.int .i64 (0))), (.sc (.int .i64 (0))), (.sc (.int .i64 (0))), (.sc (.int .i64 (0)))] [(0, (1, (.t 49))), (1, (1, (.t 50))), (2, (2, (.t 58))), (4, (1, (.t 59)))])⟩,
  ⟨(some 14), none, (.new [(.sc (.int .i64 (0))), (.sc (.int .i64 (0))), (.sc (.int .i64 (0))), (.sc (.int .i64 (0))), (.sc (.int .i64 (0)))])⟩,
  ⟨none, none, (.store 5 (.t 14) (.t 60))⟩] none)
 (.seq (.reg [⟨(some 61), none, (.mv (.t 0))⟩,
  ⟨(some 62), none, (.len (.t 61))⟩,
  ⟨(some 63), none, (.mk 54 5 40 [(.sc (.int .i64 (0))), (.sc (.int .i64 (0))), (.sc (.int .i64 (0))), (.sc (.int .i64 (0))), (.sc (.int .i64 (0)))] (.t 62) (.t 62))⟩,
  ⟨(some 15), none, (.mv (.t 63))⟩] none)
 (.seq (.reg [⟨(some 64), none, (.mv (.t 15))⟩,
  ⟨(some 65), none, (.mv (.t 0))⟩,
  ⟨(some 66), none, (.copy 5 (.t 64) (.t 65))⟩] none)
 (.seq (.seq (.reg [⟨(some 67), none, (.mv (.t 0))⟩,
  ⟨(some 68), none, (.mv (.t 13))⟩,
  ⟨(some 69), none, (.iaddr 5 (.t 67) (.t 68))⟩,
  ⟨(some 70), none, (.faddr 2 (.t 69))⟩,
  ⟨(some 71), none, (.faddr 0 (.t 70))⟩,
  ⟨(some 72), none, (.load 1 false (.t 71))⟩,
  ⟨(some 73), none, (.mv (.t 2))⟩,
  ⟨(some 74), none, (.bin .eql (.t 72) (.t 73))⟩] none)
 (.cond (.t 74)
 (.seq (.reg [⟨(some 75), none, (.mv (.t 15))⟩,
  ⟨(some 76), none, (.mv (.t 13))⟩,
  ⟨(some 77), none, (.slice 5 (.t 75) (some (.t 76)) none none)⟩,
  ⟨(some 78), none, (.mv (.t 15))⟩,
  ⟨(some 79), none, (.mv (.t 13))⟩,
  ⟨(some 80), none, (.bin .add (.t 79) (.c (.sc (.int .i64 (1)))))⟩,
  ⟨(some 81), none, (.slice 5 (.t 78) (some (.t 80)) none none)⟩,
  ⟨(some 82), none, (.copy 5 (.t 77) (.t 81))⟩] (some [[], [], [0, 1], [], [], [4], [3, 5, 4], [2, 6, 0, 1, 3, 5, 4]])) (.reg [⟨(some 83), none, (.mv (.t 15))⟩,
  ⟨(some 84), none, (.mv (.t 15))⟩,
  ⟨(some 85), none, (.len (.t 84))⟩,
  ⟨(some 86), none, (.bin .sub (.t 85) (.c (.sc (.int .i64 (1)))))⟩,
  ⟨(some 87), none, (.slice 5 (.t 83) none (some (.t 86)) none)⟩,
  ⟨(some 15), none, (.mv (.t 87))⟩] none)) (.reg [⟨(some 88), none, (.mv (.t 15))⟩,
  ⟨(some 89), none, (.mv (.t 13))⟩,
  ⟨(some 90), none, (.mv (.t 2))⟩,
  ⟨(some 91), none, (.iaddr 5 (.t 88) (.t 89))⟩,
  ⟨(some 92), none, (.faddr 2 (.t 91))⟩,
  ⟨(some 93), none, (.faddr 1 (.t 92))⟩,
  ⟨none, none, (.store 1 (.t 93) (.t 90))⟩] none)))
 (.seq (.seq (.reg [⟨(some 94), none, (.mv (.t 15))⟩,
  ⟨(some 95), none, (.len (.t 94))⟩,
  ⟨(some 96), none, (.bin .geq (.t 95) (.c (.sc (.int .i64 (512)))))⟩] none)
 (.cond (.t 96)
 (.seq (.reg [⟨(some 10), none, (.mv (.c (.sc (.slice none 0 0))))⟩,
  ⟨(some 11), none, (.mv (.c (.sc (.int .i64 (8)))))⟩] none) .ret) .skip))
 (.seq (.reg [⟨(some 97), none, (.mv (.t 15))⟩,
  ⟨(some 98), none, (.load 5 true (.t 14))⟩,
  ⟨(some 99), none, (.bslice 54 5 [(.t 98)])⟩,
  ⟨(some 100), none, (.append 54 5 40 (.t 97) (.t 99))⟩,
  ⟨(some 10), none, (.mv (.t 100))⟩,
  ⟨(some 11), none, (.mv (.c (.sc (.int .i64 (0)))))⟩] none) .ret)))))))))))
theorem good16 {args : List PV} {r : PV} (hl : args.length ≤ 101) (h : Run Try.prog [.code ac16] (endQ [(.t 10), (.t 11)] r) ⟨initT 0 args, [], 0, 101⟩) : Good Try.prog 16 args r :=
  good_run (by kernel_rfl) Jamix Try.func16 rfl (hs := []) (hs' := []) (by kernel_rfl) hl h
def ac17 : ACode :=
 (.seq (.reg [⟨(some 10), none, (.mv (.c (.sc (.slice none 0 0))))⟩,
  ⟨(some 11), none, (.mv (.c (.sc (.int .i64 (0)))))⟩] none)
 (.seq (.seq (.reg [⟨(some 17), none, (.mv (.t 0))⟩,
  ⟨(some 18), none, (.call 15 [(.t 17)])⟩,
  ⟨(some 12), none, (.mv (.t 18))⟩] none)
 (.seq (.reg [⟨(some 19), none, (.mv (.t 12))⟩,
  ⟨(some 20), none, (.bin .neq (.t 19) (.c (.sc (.int .i64 (0)))))⟩] none)
 (.cond (.t 20)
 (.seq (.reg [⟨(some 21), none, (.mv (.t 12))⟩,
  ⟨(some 10), none, (.mv (.c (.sc (.slice none 0 0))))⟩,
  ⟨(some 11), none, (.mv (.t 21))⟩] none) .ret) .skip)))
 (.seq (.seq (.reg [⟨(some 22), none, (.mv (.t 3))⟩,
  ⟨(some 23), none, (.bin .lss (.t 22) (.c (.sc (.int .i64 (0)))))⟩,
  ⟨(some 24), none, (.mv (.t 23))⟩,
  ⟨(some 25), (some (24, false)), (.mv (.t 3))⟩,
  ⟨(some 26), (some (24, false)), (.bin .geq (.t 25) (.c (.sc (.int .i64 (8)))))⟩,
  ⟨(some 27), none, (.pick (.t 24) (.c (.sc (.bool true))) (.t 26))⟩,
  ⟨(some 28), none, (.mv (.t 27))⟩,
  ⟨(some 29), (some (28, false)), (.mv (.t 4))⟩,
  ⟨(some 30), (some (28, false)), (.bin .lss (.t 29) (.c (.sc (.int .i64 (0)))))⟩,
  ⟨(some 31), none, (.pick (.t 28) (.c (.sc (.bool true))) (.t 30))⟩,
  ⟨(some 32), none, (.mv (.t 31))⟩,
  ⟨(some 33), (some (32, false)), (.mv (.t 4))⟩,
  ⟨(some 34), (some (32, false)), (.bin .gtr (.t 33) (.c (.sc (.int .i64 (1000)))))⟩,
  ⟨(some 35), none, (.pick (.t 32) (.c (.sc (.bool true))) (.t 34))⟩,
  ⟨(some 36), none, (.mv (.t 35))⟩,
  ⟨(some 37), (some (36, false)), (.mv (.t 2))⟩,
  ⟨(some 38), (some (36, false)), (.bin .lss (.t 37) (.c (.sc (.int .i64 (0)))))⟩,
  ⟨(some 39), none, (.pick (.t 36) (.c (.sc (.bool true))) (.t 38))⟩,
  ⟨(some 40), none, (.mv (.t 39))⟩,
  ⟨(some 41), (some (40, false)), (.mv (.t 2))⟩,
  ⟨(some 42), (some (40, false)), (.bin .gtr (.t 41) (.c (.sc (.int .i64 (4294943999)))))⟩,
  ⟨(some 43), none, (.pick (.t 40) (.c (.sc (.bool true))) (.t 42))⟩] none)
 (.cond (.t 43)
 (.seq (.reg [⟨(some 10), none, (.mv (.c (.sc (.slice none 0 0))))⟩,
  ⟨(some 11), none, (.mv (.c (.sc (.int .i64 (1)))))⟩] none) .ret) .skip))
 (.seq (.reg [⟨(some 44), none, (.mv (.t 0))⟩,
  ⟨(some 45), none, (.mv (.t 1))⟩,
  ⟨(some 46), none, (.mv (.t 2))⟩,
  ⟨(some 47), none, (.call 23 [(.t 44), (.t 45), (.t 46)])⟩,
  ⟨(some 13), none, (.mv (.t 47))⟩] none)
 (.seq (.seq (.reg [⟨(some 48), none, (.mv (.t 13))⟩,
  ⟨(some 49), none, (.bin .lss (.t 48) (.c (.sc (.int .i64 (0)))))⟩] none)
 (.cond (.t 49)
 (.seq (.reg [⟨(some 10), none, (.mv (.c (.sc (.slice none 0 0))))⟩,
  ⟨(some 11), none, (.mv (.c (.sc (.int .i64 (7)))))⟩] none) .ret) .skip))
 (.seq (.reg [⟨(some 14), none, (.mv (.c (.sc (.slice none 0 0))))⟩] none)
 (.seq (.seq (.reg [⟨(some 15), none, (.mv (.c (.sc (.int .i64 (0)))))⟩] none) (.block 0 
 (.loop ⟨[0, 1, 2, 3, 4, 13, 14, 15], [(14, (54, 5))]⟩
 (.seq (.seq (.reg [⟨(some 50), none, (.mv (.t 15))⟩,
  ⟨(some 51), none, (.mv (.t 0))⟩,
  ⟨(some 52), none, (.len (.t 51))⟩,
  ⟨(some 53), none, (.bin .lss (.t 50) (.t 52))⟩] none)
 (.cond (.t 53) .skip (.exit 0)))
 (.seq (.block 1
 (.seq (.reg [⟨(some 56), none, (.mv (.t 0))⟩,
  ⟨(some 57), none, (.mv (.t 15))⟩,
  ⟨(some 58), none, (.iaddr 5 (.t 56) (.t 57))⟩,
  ⟨(some 59), none, (.load 5 true (.t 58))⟩,
  ⟨(some 16), none, (.new [(.sc (.int .i64 (0))), (.sc (.int .i64 (0))), (.sc (.int .i64 (0))), (.sc (.int .i64 (0))), (.sc (.int .i64 (0)))])⟩,
  ⟨none, none, (.store 5 (.t 16) (.t 59))⟩] none)
 (.seq (.seq (.reg [⟨(some 60), none, (.mv (.t 15))⟩,
  ⟨(some 61), none, (.mv (.t 13))⟩,
  ⟨(some 62), none, (.bin .eql (.t 60) (.t 61))⟩,
  ⟨(some 63), none, (.mv (.t 62))⟩,
  ⟨(some 64), (some (63, true)), (.faddr 2 (.t 16))⟩,
  ⟨(some 65), (some (63, true)), (.faddr 0 (.t 64))⟩,
  ⟨(some 66), (some (63, true)), (.load 1 false (.t 65))⟩,
  ⟨(some 67), (some (63, true)), (.mv (.t 2))⟩,
  ⟨(some 68), (some (63, true)), (.bin .eql (.t 66) (.t 67))⟩,
  ⟨(some 69), none, (.pick (.t 63) (.t 68) (.c (.sc (.bool false))))⟩] none)
 (.cond (.t 69) (.exit 1) .skip))
 (.seq (.seq (.reg [⟨(some 70), none, (.mv (.t 15))⟩,
  ⟨(some 71), none, (.mv (.t 13))⟩,
  ⟨(some 72), none, (.bin .eql (.t 70) (.t 71))⟩] none)
 (.cond (.t 72) (.reg [⟨(some 73), none, (.mv (.t 2))⟩,
  ⟨(some 74), none, (.faddr 2 (.t 16))⟩,
  ⟨(some 75), none, (.faddr 1 (.t 74))⟩,
  ⟨none, none, (.store 1 (.t 75) (.t 73))⟩] none) .skip)) (.reg [⟨(some 76), none, (.mv (.t 14))⟩,
  ⟨(some 77), none, (.load 5 true (.t 16))⟩,
  ⟨(some 78), none, (.bslice 54 5 [(.t 77)])⟩,
  ⟨(some 79), none, (.append 54 5 40 (.t 76) (.t 78))⟩,
  ⟨(some 14), none, (.mv (.t 79))⟩] none))))) (.reg [⟨(some 54), none, (.mv (.t 15))⟩,
  ⟨(some 55), none, (.bin .add (.t 54) (.c (.sc (.int .i64 (1)))))⟩,
  ⟨(some 15), none, (.mv (.t 55))⟩] none))))))
 (.seq (.reg [⟨(some 80), none, (.mv (.t 14))⟩,
  ⟨(some 81), none, (.mv (.t 3))⟩,
  ⟨(some 82), none, (.mv (.t 1))⟩,
  ⟨(some 83), none, (.mv (.t 2))⟩,
  ⟨(some 84), none, (.mv (.t 0))⟩,
  ⟨(some 85), none, (.mv (.t 13))⟩,
  ⟨(some 86), none, (.iaddr 5 (.t 84) (.t 85))⟩,
  ⟨(some 87), none, (.faddr 2 (.t 86))⟩,
  ⟨(some 88), none, (.faddr 1 (.t 87))⟩,
  ⟨(some 89), none, (.load 1 false (.t 88))⟩,
  ⟨(some 90), none, (.build [(.sc (.int .i64 (0))), (.sc (.int .i64 (0)))] [(0, (1, (.t 83))), (1, (1, (.t 89)))])⟩,
  ⟨(some 91), none, (.mv (.t 4))⟩,
  ⟨(some 92), none, (.build [(.sc (.int .i64 (0))), (.sc (.int .i64 (0))), (.sc (.int .i64 (0))), (.sc (.int .i64 (0))), (.sc (.int .i64 (0)))] [(0, (1, (.t 81))), (1, (1, (.t 82))), (2, (2, (.t 90))), (4, (1, (.t 91)))])⟩,
  ⟨(some 93), none, (.bslice 54 5 [(.t 92)])⟩,
  ⟨(some 94), none, (.append 54 5 40 (.t 80) (.t 93))⟩,
  ⟨(some 14), none, (.mv (.t 94))⟩] none)
 (.seq (.seq (.reg [⟨(some 95), none, (.mv (.t 14))⟩,
  ⟨(some 96), none, (.len (.t 95))⟩,
  ⟨(some 97), none, (.bin .gtr (.t 96) (.c (.sc (.int .i64 (512)))))⟩] none)
 (.cond (.t 97)
 (.seq (.reg [⟨(some 10), none, (.mv (.c (.sc (.slice none 0 0))))⟩,
  ⟨(some 11), none, (.mv (.c (.sc (.int .i64 (8)))))⟩] none) .ret) .skip))
 (.seq (.reg [⟨(some 98), none, (.mv (.t 14))⟩,
  ⟨(some 10), none, (.mv (.t 98))⟩,
  ⟨(some 11), none, (.mv (.c (.sc (.int .i64 (0)))))⟩] none) .ret))))))))))
theorem good17 {args : List PV} {r : PV} (hl : args.length ≤ 99) (h : Run Try.prog [.code ac17] (endQ [(.t 10), (.t 11)] r) ⟨initT 0 args, [], 0, 99⟩) : Good Try.prog 17 args r :=
  good_run (by kernel_rfl) Jamix Try.func17 rfl (hs := [⟨[0, 1, 2, 3, 4, 13, 14, 15], [(14, 54, 5)]⟩]) (hs' := []) (by kernel_rfl) hl h
def ac18 : ACode :=
 (.seq (.reg [⟨(some 4), none, (.mv (.c (.sc (.bool false))))⟩] none)
 (.seq (.seq (.reg [⟨(some 6), none, (.mv (.t 0))⟩,
  ⟨(some 7), none, (.len (.t 6))⟩,
  ⟨(some 8), none, (.mv (.t 1))⟩,
  ⟨(some 9), none, (.len (.t 8))⟩,
  ⟨(some 10), none, (.bin .neq (.t 7) (.t 9))⟩] none)
 (.cond (.t 10)
 (.seq (.reg [⟨(some 4), none, (.mv (.c (.sc (.bool false))))⟩] none) .ret) .skip))
 (.seq (.seq (.reg [⟨(some 5), none, (.mv (.c (.sc (.int .i64 (0)))))⟩] none) (.block 0 
 (.loop ⟨[0, 1, 5], []⟩
 (.seq (.seq (.reg [⟨(some 11), none, (.mv (.t 5))⟩,
  ⟨(some 12), none, (.mv (.t 0))⟩,
  ⟨(some 13), none, (.len (.t 12))⟩,
  ⟨(some 14), none, (.bin .lss (.t 11) (.t 13))⟩] none)
 (.cond (.t 14) .skip (.exit 0)))
 (.seq (.block 1
 (.seq (.reg [⟨(some 17), none, (.mv (.t 0))⟩,
  ⟨(some 18), none, (.mv (.t 5))⟩,
  ⟨(some 19), none, (.iaddr 5 (.t 17) (.t 18))⟩,
  ⟨(some 20), none, (.load 5 true (.t 19))⟩,
  ⟨(some 21), none, (.mv (.t 1))⟩,
  ⟨(some 22), none, (.mv (.t 5))⟩,
  ⟨(some 23), none, (.iaddr 5 (.t 21) (.t 22))⟩,
  ⟨(some 24), none, (.load 5 true (.t 23))⟩,
  ⟨(some 25), none, (.eqs true [(.i .i64), (.i .i64), (.i .i64), (.i .i64), (.i .i64)] (.t 20) (.t 24))⟩] (some [[], [], [0, 1], [2, 0, 1], [], [], [4, 5], [6, 4, 5], [3, 7, 2, 0, 1, 6, 4, 5]]))
 (.cond (.t 25)
 (.seq (.reg [⟨(some 4), none, (.mv (.c (.sc (.bool false))))⟩] none) .ret) .skip))) (.reg [⟨(some 15), none, (.mv (.t 5))⟩,
  ⟨(some 16), none, (.bin .add (.t 15) (.c (.sc (.int .i64 (1)))))⟩,
  ⟨(some 5), none, (.mv (.t 16))⟩] none))))))
 (.seq (.reg [⟨(some 4), none, (.mv (.c (.sc (.bool true))))⟩] none) .ret))))
theorem good18 {args : List PV} {r : PV} (hl : args.length ≤ 26) (h : Run Try.prog [.code ac18] (endQ [(.t 4)] r) ⟨initT 0 args, [], 0, 26⟩) : Good Try.prog 18 args r :=
  good_run (by kernel_rfl) Jamix Try.func18 rfl (hs := [⟨[0, 1, 5], []⟩]) (hs' := []) (by kernel_rfl) hl h
def ac19 : ACode :=
 (.seq (.reg [⟨(some 4), none, (.mv (.c (.sc (.bool false))))⟩] none)
 (.seq (.seq (.reg [⟨(some 5), none, (.mv (.c (.sc (.int .i64 (0)))))⟩] none) (.block 0 
 (.loop ⟨[0, 1, 5], []⟩
 (.seq (.seq (.reg [⟨(some 6), none, (.mv (.t 5))⟩,
  ⟨(some 7), none, (.mv (.t 0))⟩,
  ⟨(some 8), none, (.len (.t 7))⟩,
  ⟨(some 9), none, (.bin .lss (.t 6) (.t 8))⟩] none)
 (.cond (.t 9) .skip (.exit 0)))
 (.seq (.block 1
 (.seq (.reg [⟨(some 12), none, (.mv (.t 0))⟩,
  ⟨(some 13), none, (.mv (.t 5))⟩,
  ⟨(some 14), none, (.iaddr 13 (.t 12) (.t 13))⟩,
  ⟨(some 15), none, (.faddr 7 (.t 14))⟩,
  ⟨(some 16), none, (.load 1 false (.t 15))⟩,
  ⟨(some 17), none, (.len (.t 16))⟩,
  ⟨(some 18), none, (.bin .gtr (.t 17) (.c (.sc (.int .i64 (40)))))⟩,
  ⟨(some 19), none, (.mv (.t 18))⟩,
  ⟨(some 20), (some (19, false)), (.mv (.t 0))⟩,
  ⟨(some 21), (some (19, false)), (.mv (.t 5))⟩,
  ⟨(some 22), (some (19, false)), (.iaddr 13 (.t 20) (.t 21))⟩,
  ⟨(some 23), (some (19, false)), (.faddr 8 (.t 22))⟩,
  ⟨(some 24), (some (19, false)), (.load 1 false (.t 23))⟩,
  ⟨(some 25), (some (19, false)), (.len (.t 24))⟩,
  ⟨(some 26), (some (19, false)), (.bin .gtr (.t 25) (.c (.sc (.int .i64 (40)))))⟩,
  ⟨(some 27), none, (.pick (.t 19) (.c (.sc (.bool true))) (.t 26))⟩] none)
 (.cond (.t 27)
 (.seq (.reg [⟨(some 4), none, (.mv (.c (.sc (.bool false))))⟩] none) .ret) .skip))) (.reg [⟨(some 10), none, (.mv (.t 5))⟩,
  ⟨(some 11), none, (.bin .add (.t 10) (.c (.sc (.int .i64 (1)))))⟩,
  ⟨(some 5), none, (.mv (.t 11))⟩] none))))))
 (.seq (.reg [⟨(some 28), none, (.mv (.t 0))⟩,
  ⟨(some 29), none, (.len (.t 28))⟩,
  ⟨(some 30), none, (.mv (.t 1))⟩,
  ⟨(some 31), none, (.bin .leq (.t 29) (.t 30))⟩,
  ⟨(some 4), none, (.mv (.t 31))⟩] none) .ret)))
theorem good19 {args : List PV} {r : PV} (hl : args.length ≤ 32) (h : Run Try.prog [.code ac19] (endQ [(.t 4)] r) ⟨initT 0 args, [], 0, 32⟩) : Good Try.prog 19 args r :=
  good_run (by kernel_rfl) Jamix Try.func19 rfl (hs := [⟨[0, 1, 5], []⟩]) (hs' := []) (by kernel_rfl) hl h
def ac20 : ACode :=
 (.seq (.reg [⟨(some 4), none, (.boxv (.t 1))⟩,
  ⟨(some 6), none, (.mv (.c (.sc (.slice none 0 0))))⟩,
  ⟨(some 7), none, (.mv (.c (.sc (.int .i64 (0)))))⟩] none)
 (.seq (.seq (.reg [⟨(some 21), none, (.mv (.t 0))⟩,
  ⟨(some 22), none, (.call 14 [(.t 21)])⟩,
  ⟨(some 8), none, (.mv (.t 22))⟩] none)
 (.seq (.reg [⟨(some 23), none, (.mv (.t 8))⟩,
  ⟨(some 24), none, (.bin .neq (.t 23) (.c (.sc (.int .i64 (0)))))⟩] none)
 (.cond (.t 24)
 (.seq (.reg [⟨(some 25), none, (.mv (.t 8))⟩,
  ⟨(some 6), none, (.mv (.c (.sc (.slice none 0 0))))⟩,
  ⟨(some 7), none, (.mv (.t 25))⟩] none) .ret) .skip)))
 (.seq (.seq (.reg [⟨(some 26), none, (.load 13 true (.t 4))⟩,
  ⟨(some 27), none, (.call 28 [(.t 26)])⟩,
  ⟨(some 9), none, (.mv (.t 27))⟩] none)
 (.seq (.reg [⟨(some 28), none, (.mv (.t 9))⟩,
  ⟨(some 29), none, (.bin .neq (.t 28) (.c (.sc (.int .i64 (0)))))⟩] none)
 (.cond (.t 29)
 (.seq (.reg [⟨(some 30), none, (.mv (.t 9))⟩,
  ⟨(some 6), none, (.mv (.c (.sc (.slice none 0 0))))⟩,
  ⟨(some 7), none, (.mv (.t 30))⟩] none) .ret) .skip)))
 (.seq (.seq (.reg [⟨(some 31), none, (.faddr 6 (.t 4))⟩,
  ⟨(some 32), none, (.load 1 false (.t 31))⟩] none)
 (.cond (.t 32)
 (.seq (.reg [⟨(some 6), none, (.mv (.c (.sc (.slice none 0 0))))⟩,
  ⟨(some 7), none, (.mv (.c (.sc (.int .i64 (26)))))⟩] none) .ret) .skip))
 (.seq (.seq (.reg [⟨(some 33), none, (.mv (.t 2))⟩,
  ⟨(some 34), none, (.bin .lss (.t 33) (.c (.sc (.int .i64 (0)))))⟩,
  ⟨(some 35), none, (.mv (.t 34))⟩,
  ⟨(some 36), (some (35, false)), (.mv (.t 2))⟩,
  ⟨(some 37), (some (35, false)), (.bin .gtr (.t 36) (.c (.sc (.int .i64 (1000000000000)))))⟩,
  ⟨(some 38), none, (.pick (.t 35) (.c (.sc (.bool true))) (.t 37))⟩] none)
 (.cond (.t 38)
 (.seq (.reg [⟨(some 6), none, (.mv (.c (.sc (.slice none 0 0))))⟩,
  ⟨(some 7), none, (.mv (.c (.sc (.int .i64 (1)))))⟩] none) .ret) .skip))
 (.seq (.reg [⟨(some 40), none, (.mv (.t 2))⟩,
  ⟨(some 41), none, (.load 13 true (.t 4))⟩,
  ⟨(some 42), none, (.call 30 [(.t 41)])⟩,
  ⟨(some 43), none, (.call 29 [(.t 40), (.t 42)])⟩,
  ⟨(some 39), none, (.mv (.t 43))⟩,
  ⟨(some 44), none, (.ext 0 (.t 39))⟩,
  ⟨(some 45), none, (.ext 1 (.t 39))⟩,
  ⟨(some 10), none, (.mv (.t 44))⟩,
  ⟨(some 11), none, (.mv (.t 45))⟩] none)
 (.seq (.seq (.reg [⟨(some 46), none, (.mv (.t 11))⟩,
  ⟨(some 47), none, (.bin .neq (.t 46) (.c (.sc (.int .i64 (0)))))⟩] none)
 (.cond (.t 47)
 (.seq (.reg [⟨(some 48), none, (.mv (.t 11))⟩,
  ⟨(some 6), none, (.mv (.c (.sc (.slice none 0 0))))⟩,
  ⟨(some 7), none, (.mv (.t 48))⟩] none) .ret) .skip))
 (.seq (.reg [⟨(some 12), none, (.new [(.sc (.int .i64 (0))), (.sc (.int .i64 (0))), (.sc (.int .i64 (0))), (.sc (.int .i64 (0))), (.sc (.int .i64 (0))), (.sc (.int .i64 (0))), (.sc (.int .i64 (0))), (.sc (.int .i64 (0))), (.sc (.int .i64 (0)))])⟩] none)
 (.seq (.seq (.reg [⟨(some 49), none, (.mv (.t 10))⟩,
  ⟨(some 50), none, (.len (.t 49))⟩,
  ⟨(some 51), none, (.mv (.c (.sc (.int .i64 (0)))))⟩] none) (.block 0 
 (.loop ⟨[0, 4, 12, 49, 50, 51], []⟩
 (.seq (.reg [⟨(some 52), none, (.bin .lss (.t 51) (.t 50))⟩] none)
 (.seq
 (.cond (.t 52) .skip (.exit 0))
 (.seq (.block 1
 (.seq (.reg [⟨(some 53), none, (.mv (.t 51))⟩,
  ⟨(some 54), none, (.iaddr 1 (.t 49) (.t 51))⟩,
  ⟨(some 55), none, (.load 1 false (.t 54))⟩,
  ⟨(some 13), none, (.mv (.t 53))⟩,
  ⟨(some 14), none, (.mv (.t 55))⟩] none)
 (.seq (.reg [⟨(some 56), none, (.mv (.t 0))⟩,
  ⟨(some 57), none, (.faddr 7 (.t 4))⟩,
  ⟨(some 58), none, (.load 1 false (.t 57))⟩,
  ⟨(some 59), none, (.mv (.t 13))⟩,
  ⟨(some 60), none, (.iaddr 5 (.t 58) (.t 59))⟩,
  ⟨(some 61), none, (.faddr 0 (.t 60))⟩,
  ⟨(some 62), none, (.load 1 false (.t 61))⟩,
  ⟨(some 63), none, (.faddr 7 (.t 4))⟩,
  ⟨(some 64), none, (.load 1 false (.t 63))⟩,
  ⟨(some 65), none, (.mv (.t 13))⟩,
  ⟨(some 66), none, (.iaddr 5 (.t 64) (.t 65))⟩,
  ⟨(some 67), none, (.faddr 1 (.t 66))⟩,
  ⟨(some 68), none, (.faddr 0 (.t 67))⟩,
  ⟨(some 69), none, (.load 1 false (.t 68))⟩,
  ⟨(some 70), none, (.call 26 [(.t 56), (.t 62), (.t 69)])⟩,
  ⟨(some 15), none, (.mv (.t 70))⟩] (some [[], [], [1], [], [2, 3, 1], [4, 2, 3, 1], [5, 4, 2, 3, 1], [], [7], [], [8, 9, 7], [10, 8, 9, 7], [11, 10, 8, 9, 7], [12, 11, 10, 8, 9, 7], [0, 6, 13, 5, 4, 2, 3, 1, 12, 11, 10, 8, 9, 7], [14, 0, 1, 2, 3, 4, 5, 6, 7, 8, 9, 10, 11, 12, 13]]))
 (.seq (.seq (.reg [⟨(some 71), none, (.mv (.t 15))⟩,
  ⟨(some 72), none, (.bin .lss (.t 71) (.c (.sc (.int .i64 (0)))))⟩] none)
 (.cond (.t 72)
 (.seq (.reg [⟨(some 73), none, (.iaddrA 1 9 (.t 12) (.c (.sc (.int .i64 (0)))))⟩,
  ⟨(some 74), none, (.load 1 false (.t 73))⟩,
  ⟨(some 75), none, (.mv (.t 14))⟩,
  ⟨(some 76), none, (.bin .add (.t 74) (.t 75))⟩,
  ⟨(some 77), none, (.iaddrA 1 9 (.t 12) (.c (.sc (.int .i64 (0)))))⟩,
  ⟨none, none, (.store 1 (.t 77) (.t 76))⟩] none) (.exit 1)) .skip))
 (.seq (.reg [⟨(some 79), none, (.mv (.t 14))⟩,
  ⟨(some 80), none, (.mv (.t 0))⟩,
  ⟨(some 81), none, (.mv (.t 15))⟩,
  ⟨(some 82), none, (.iaddr 5 (.t 80) (.t 81))⟩,
  ⟨(some 83), none, (.faddr 4 (.t 82))⟩,
  ⟨(some 84), none, (.load 1 false (.t 83))⟩,
  ⟨(some 85), none, (.mv (.t 0))⟩,
  ⟨(some 86), none, (.mv (.t 15))⟩,
  ⟨(some 87), none, (.iaddr 5 (.t 85) (.t 86))⟩,
  ⟨(some 88), none, (.faddr 4 (.t 87))⟩,
  ⟨(some 89), none, (.load 1 false (.t 88))⟩,
  ⟨(some 90), none, (.bin .sub (.c (.sc (.int .i64 (1000)))) (.t 89))⟩,
  ⟨(some 91), none, (.bslice 3 1 [(.t 84), (.t 90)])⟩,
  ⟨(some 92), none, (.call 29 [(.t 79), (.t 91)])⟩,
  ⟨(some 78), none, (.mv (.t 92))⟩,
  ⟨(some 93), none, (.ext 0 (.t 78))⟩,
  ⟨(some 94), none, (.ext 1 (.t 78))⟩,
  ⟨(some 16), none, (.mv (.t 93))⟩,
  ⟨(some 17), none, (.mv (.t 94))⟩] (some [[], [], [], [1, 2], [3, 1, 2], [4, 3, 1, 2], [], [], [6, 7], [8, 6, 7], [9, 8, 6, 7], [10, 9, 8, 6, 7], [5, 11, 4, 3, 1, 2, 10, 9, 8, 6, 7], [0, 12, 5, 11, 4, 3, 1, 2, 10, 9, 8, 6, 7], [13, 0, 12, 5, 11, 4, 3, 1, 2, 10, 9, 8, 6, 7], [14, 13, 0, 12, 5, 11, 4, 3, 1, 2, 10, 9, 8, 6, 7], [14, 13, 0, 12, 5, 11, 4, 3, 1, 2, 10, 9, 8, 6, 7], [15, 13, 0, 1, 2, 3, 4, 5, 6, 7, 8, 9, 10, 11, 12, 14], [16, 17, 0, 1, 2, 3, 4, 5, 6, 7, 8, 9, 10, 11, 12, 13, 14, 15]]))
 (.seq (.seq (.reg [⟨(some 95), none, (.mv (.t 17))⟩,
  ⟨(some 96), none, (.bin .neq (.t 95) (.c (.sc (.int .i64 (0)))))⟩] none)
 (.cond (.t 96)
 (.seq (.reg [⟨(some 97), none, (.mv (.t 17))⟩,
  ⟨(some 6), none, (.mv (.c (.sc (.slice none 0 0))))⟩,
  ⟨(some 7), none, (.mv (.t 97))⟩] none) .ret) .skip))
 (.seq (.reg [⟨(some 98), none, (.mv (.t 0))⟩,
  ⟨(some 99), none, (.mv (.t 15))⟩,
  ⟨(some 100), none, (.iaddr 5 (.t 98) (.t 99))⟩,
  ⟨(some 101), none, (.faddr 0 (.t 100))⟩,
  ⟨(some 102), none, (.load 1 false (.t 101))⟩,
  ⟨(some 103), none, (.bin .add (.c (.sc (.int .i64 (1)))) (.t 102))⟩,
  ⟨(some 104), none, (.iaddrA 1 9 (.t 12) (.t 103))⟩,
  ⟨(some 105), none, (.load 1 false (.t 104))⟩,
  ⟨(some 106), none, (.mv (.t 16))⟩,
  ⟨(some 107), none, (.iaddr 1 (.t 106) (.c (.sc (.int .i64 (0)))))⟩,
  ⟨(some 108), none, (.load 1 false (.t 107))⟩,
  ⟨(some 109), none, (.bin .add (.t 105) (.t 108))⟩,
  ⟨(some 110), none, (.iaddrA 1 9 (.t 12) (.t 103))⟩,
  ⟨none, none, (.store 1 (.t 110) (.t 109))⟩] (some [[], [], [0, 1], [2, 0, 1], [3, 2, 0, 1], [4, 3, 2, 0, 1], [5, 4, 3, 2, 0, 1], [6, 5, 4, 3, 2, 0, 1], [], [8], [9, 8], [7, 10, 6, 5, 4, 3, 2, 0, 1, 9, 8], [5, 0, 1, 2, 3, 4, 6, 7, 8, 9, 10, 11], [12, 11, 0, 1, 2, 3, 4, 5, 6, 7, 8, 9, 10]])) (.reg [⟨(some 111), none, (.iaddrA 1 9 (.t 12) (.c (.sc (.int .i64 (0)))))⟩,
  ⟨(some 112), none, (.load 1 false (.t 111))⟩,
  ⟨(some 113), none, (.mv (.t 16))⟩,
  ⟨(some 114), none, (.iaddr 1 (.t 113) (.c (.sc (.int .i64 (1)))))⟩,
  ⟨(some 115), none, (.load 1 false (.t 114))⟩,
  ⟨(some 116), none, (.bin .add (.t 112) (.t 115))⟩,
  ⟨(some 117), none, (.iaddrA 1 9 (.t 12) (.c (.sc (.int .i64 (0)))))⟩,
  ⟨none, none, (.store 1 (.t 117) (.t 116))⟩] (some [[], [0], [], [2], [3, 2], [1, 4, 0, 3, 2], [0, 1, 2, 3, 4, 5], [6, 5, 0, 1, 2, 3, 4]]))))))))) (.reg [⟨(some 118), none, (.bin .add (.t 51) (.c (.sc (.int .i64 (1)))))⟩,
  ⟨(some 51), none, (.mv (.t 118))⟩] none)))))))
 (.seq (.reg [⟨(some 18), none, (.mv (.c (.sc (.slice none 0 0))))⟩] none)
 (.seq (.seq (.reg [⟨(some 119), none, (.load 9 true (.t 12))⟩,
  ⟨(some 120), none, (.mv (.c (.sc (.int .i64 (0)))))⟩] none) (.block 2 
 (.loop ⟨[18, 119, 120], [(18, (50, 2))]⟩
 (.seq (.reg [⟨(some 121), none, (.bin .lss (.t 120) (.c (.sc (.int .i64 (9)))))⟩] none)
 (.seq
 (.cond (.t 121) .skip (.exit 2))
 (.seq (.block 3
 (.seq (.reg [⟨(some 122), none, (.mv (.t 120))⟩,
  ⟨(some 123), none, (.aidx 1 9 false (.t 119) (.t 120))⟩,
  ⟨(some 19), none, (.mv (.t 122))⟩,
  ⟨(some 20), none, (.mv (.t 123))⟩] none)
 (.seq (.reg [⟨(some 124), none, (.mv (.t 20))⟩,
  ⟨(some 125), none, (.bin .neq (.t 124) (.c (.sc (.int .i64 (0)))))⟩] none)
 (.cond (.t 125) (.reg [⟨(some 126), none, (.mv (.t 18))⟩,
  ⟨(some 127), none, (.mv (.t 19))⟩,
  ⟨(some 128), none, (.mv (.t 20))⟩,
  ⟨(some 129), none, (.build [(.sc (.int .i64 (0))), (.sc (.int .i64 (0)))] [(0, (1, (.t 127))), (1, (1, (.t 128)))])⟩,
  ⟨(some 130), none, (.bslice 50 2 [(.t 129)])⟩,
  ⟨(some 131), none, (.append 50 2 16 (.t 126) (.t 130))⟩,
  ⟨(some 18), none, (.mv (.t 131))⟩] none) .skip)))) (.reg [⟨(some 132), none, (.bin .add (.t 120) (.c (.sc (.int .i64 (1)))))⟩,
  ⟨(some 120), none, (.mv (.t 132))⟩] none)))))))
 (.seq (.reg [⟨(some 133), none, (.mv (.t 18))⟩,
  ⟨(some 6), none, (.mv (.t 133))⟩,
  ⟨(some 7), none, (.mv (.c (.sc (.int .i64 (0)))))⟩] none) .ret))))))))))))
theorem good20 {args : List PV} {r : PV} (hl : args.length ≤ 134) (h : Run Try.prog [.code ac20] (endQ [(.t 6), (.t 7)] r) ⟨initT 0 args, [], 0, 134⟩) : Good Try.prog 20 args r :=
  good_run (by kernel_rfl) Jamix Try.func20 rfl (hs := [⟨[0, 4, 12, 49, 50, 51], []⟩, ⟨[18, 119, 120], [(18, 50, 2)]⟩]) (hs' := []) (by kernel_rfl) hl h
def ac21 : ACode :=
 (.seq (.reg [⟨(some 4), none, (.boxv (.t 1))⟩,
  ⟨(some 6), none, (.mv (.c (.sc (.slice none 0 0))))⟩,
  ⟨(some 7), none, (.mv (.c (.sc (.int .i64 (0)))))⟩] none)
 (.seq (.seq (.reg [⟨(some 23), none, (.mv (.t 0))⟩,
  ⟨(some 24), none, (.call 15 [(.t 23)])⟩,
  ⟨(some 8), none, (.mv (.t 24))⟩] none)
 (.seq (.reg [⟨(some 25), none, (.mv (.t 8))⟩,
  ⟨(some 26), none, (.bin .neq (.t 25) (.c (.sc (.int .i64 (0)))))⟩] none)
 (.cond (.t 26)
 (.seq (.reg [⟨(some 27), none, (.mv (.t 8))⟩,
  ⟨(some 6), none, (.mv (.c (.sc (.slice none 0 0))))⟩,
  ⟨(some 7), none, (.mv (.t 27))⟩] none) .ret) .skip)))
 (.seq (.seq (.reg [⟨(some 28), none, (.load 13 true (.t 4))⟩,
  ⟨(some 29), none, (.call 31 [(.t 28)])⟩,
  ⟨(some 9), none, (.mv (.t 29))⟩] none)
 (.seq (.reg [⟨(some 30), none, (.mv (.t 9))⟩,
  ⟨(some 31), none, (.bin .neq (.t 30) (.c (.sc (.int .i64 (0)))))⟩] none)
 (.cond (.t 31)
 (.seq (.reg [⟨(some 32), none, (.mv (.t 9))⟩,
  ⟨(some 6), none, (.mv (.c (.sc (.slice none 0 0))))⟩,
  ⟨(some 7), none, (.mv (.t 32))⟩] none) .ret) .skip)))
 (.seq (.seq (.reg [⟨(some 33), none, (.faddr 6 (.t 4))⟩,
  ⟨(some 34), none, (.load 1 false (.t 33))⟩] none)
 (.cond (.t 34)
 (.seq (.reg [⟨(some 6), none, (.mv (.c (.sc (.slice none 0 0))))⟩,
  ⟨(some 7), none, (.mv (.c (.sc (.int .i64 (26)))))⟩] none) .ret) .skip))
 (.seq (.seq (.reg [⟨(some 35), none, (.mv (.t 2))⟩,
  ⟨(some 36), none, (.bin .lss (.t 35) (.c (.sc (.int .i64 (0)))))⟩,
  ⟨(some 37), none, (.mv (.t 36))⟩,
  ⟨(some 38), (some (37, false)), (.mv (.t 2))⟩,
  ⟨(some 39), (some (37, false)), (.bin .gtr (.t 38) (.c (.sc (.int .i64 (1000000000000)))))⟩,
  ⟨(some 40), none, (.pick (.t 37) (.c (.sc (.bool true))) (.t 39))⟩] none)
 (.cond (.t 40)
 (.seq (.reg [⟨(some 6), none, (.mv (.c (.sc (.slice none 0 0))))⟩,
  ⟨(some 7), none, (.mv (.c (.sc (.int .i64 (1)))))⟩] none) .ret) .skip))
 (.seq (.reg [⟨(some 10), none, (.mv (.c (.sc (.slice none 0 0))))⟩,
  ⟨(some 11), none, (.mv (.c (.sc (.slice none 0 0))))⟩] none)
 (.seq (.reg [⟨(some 12), none, (.mv (.c (.sc (.int .i64 (0)))))⟩] none)
 (.seq (.seq (.reg [⟨(some 13), none, (.mv (.c (.sc (.int .i64 (0)))))⟩] none) (.block 0 
 (.loop ⟨[0, 2, 4, 10, 11, 12, 13], [(10, (3, 1)), (11, (3, 1))]⟩
 (.seq (.seq (.reg [⟨(some 41), none, (.mv (.t 13))⟩,
  ⟨(some 42), none, (.faddr 7 (.t 4))⟩,
  ⟨(some 43), none, (.load 1 false (.t 42))⟩,
  ⟨(some 44), none, (.len (.t 43))⟩,
  ⟨(some 45), none, (.bin .lss (.t 41) (.t 44))⟩] none)
 (.cond (.t 45) .skip (.exit 0)))
 (.seq (.block 1
 (.seq (.reg [⟨(some 48), none, (.mv (.t 10))⟩,
  ⟨(some 49), none, (.faddr 7 (.t 4))⟩,
  ⟨(some 50), none, (.load 1 false (.t 49))⟩,
  ⟨(some 51), none, (.mv (.t 13))⟩,
  ⟨(some 52), none, (.iaddr 5 (.t 50) (.t 51))⟩,
  ⟨(some 53), none, (.faddr 3 (.t 52))⟩,
  ⟨(some 54), none, (.faddr 0 (.t 53))⟩,
  ⟨(some 55), none, (.load 1 false (.t 54))⟩,
  ⟨(some 56), none, (.faddr 7 (.t 4))⟩,
  ⟨(some 57), none, (.load 1 false (.t 56))⟩,
  ⟨(some 58), none, (.mv (.t 13))⟩,
  ⟨(some 59), none, (.iaddr 5 (.t 57) (.t 58))⟩,
  ⟨(some 60), none, (.faddr 1 (.t 59))⟩,
  ⟨(some 61), none, (.faddr 0 (.t 60))⟩,
  ⟨(some 62), none, (.load 1 false (.t 61))⟩,
  ⟨(some 63), none, (.bin .sub (.t 55) (.t 62))⟩,
  ⟨(some 64), none, (.bslice 3 1 [(.t 63)])⟩,
  ⟨(some 65), none, (.append 3 1 8 (.t 48) (.t 64))⟩,
  ⟨(some 10), none, (.mv (.t 65))⟩] (some [[], [], [1], [], [2, 3, 1], [4, 2, 3, 1], [5, 4, 2, 3, 1], [6, 5, 4, 2, 3, 1], [], [8], [], [9, 10, 8], [11, 9, 10, 8], [12, 11, 9, 10, 8], [13, 12, 11, 9, 10, 8], [7, 14, 6, 5, 4, 2, 3, 1, 13, 12, 11, 9, 10, 8], [15, 7, 14, 6, 5, 4, 2, 3, 1, 13, 12, 11, 9, 10, 8], [0, 16, 15, 7, 14, 6, 5, 4, 2, 3, 1, 13, 12, 11, 9, 10, 8], [17, 0, 1, 2, 3, 4, 5, 6, 7, 8, 9, 10, 11, 12, 13, 14, 15, 16]]))
 (.seq (.reg [⟨(some 66), none, (.mv (.t 11))⟩,
  ⟨(some 67), none, (.bslice 3 1 [(.c (.sc (.int .i64 (1))))])⟩,
  ⟨(some 68), none, (.append 3 1 8 (.t 66) (.t 67))⟩,
  ⟨(some 11), none, (.mv (.t 68))⟩] none) (.reg [⟨(some 69), none, (.mv (.t 12))⟩,
  ⟨(some 70), none, (.mv (.t 10))⟩,
  ⟨(some 71), none, (.mv (.t 13))⟩,
  ⟨(some 72), none, (.iaddr 1 (.t 70) (.t 71))⟩,
  ⟨(some 73), none, (.load 1 false (.t 72))⟩,
  ⟨(some 74), none, (.bin .add (.t 69) (.t 73))⟩,
  ⟨(some 12), none, (.mv (.t 74))⟩] none)))) (.reg [⟨(some 46), none, (.mv (.t 13))⟩,
  ⟨(some 47), none, (.bin .add (.t 46) (.c (.sc (.int .i64 (1)))))⟩,
  ⟨(some 13), none, (.mv (.t 47))⟩] none))))))
 (.seq (.seq (.reg [⟨(some 75), none, (.mv (.t 12))⟩,
  ⟨(some 76), none, (.bin .eql (.t 75) (.c (.sc (.int .i64 (0)))))⟩] none)
 (.cond (.t 76) (.reg [⟨(some 77), none, (.mv (.t 11))⟩,
  ⟨(some 10), none, (.mv (.t 77))⟩] none) .skip))
 (.seq (.reg [⟨(some 79), none, (.mv (.t 2))⟩,
  ⟨(some 80), none, (.mv (.t 10))⟩,
  ⟨(some 81), none, (.call 32 [(.t 79), (.t 80)])⟩,
  ⟨(some 78), none, (.mv (.t 81))⟩,
  ⟨(some 82), none, (.ext 0 (.t 78))⟩,
  ⟨(some 83), none, (.ext 1 (.t 78))⟩,
  ⟨(some 14), none, (.mv (.t 82))⟩,
  ⟨(some 15), none, (.mv (.t 83))⟩] none)
 (.seq (.seq (.reg [⟨(some 84), none, (.mv (.t 15))⟩,
  ⟨(some 85), none, (.bin .neq (.t 84) (.c (.sc (.int .i64 (0)))))⟩] none)
 (.cond (.t 85)
 (.seq (.reg [⟨(some 86), none, (.mv (.t 15))⟩,
  ⟨(some 6), none, (.mv (.c (.sc (.slice none 0 0))))⟩,
  ⟨(some 7), none, (.mv (.t 86))⟩] none) .ret) .skip))
 (.seq (.reg [⟨(some 16), none, (.new [(.sc (.int .i64 (0))), (.sc (.int .i64 (0))), (.sc (.int .i64 (0))), (.sc (.int .i64 (0))), (.sc (.int .i64 (0))), (.sc (.int .i64 (0))), (.sc (.int .i64 (0))), (.sc (.int .i64 (0))), (.sc (.int .i64 (0)))])⟩] none)
 (.seq (.seq (.reg [⟨(some 17), none, (.mv (.c (.sc (.int .i64 (0)))))⟩] none) (.block 2 
 (.loop ⟨[0, 4, 14, 16, 17], []⟩
 (.seq (.seq (.reg [⟨(some 87), none, (.mv (.t 17))⟩,
  ⟨(some 88), none, (.mv (.t 14))⟩,
  ⟨(some 89), none, (.len (.t 88))⟩,
  ⟨(some 90), none, (.bin .lss (.t 87) (.t 89))⟩] none)
 (.cond (.t 90) .skip (.exit 2)))
 (.seq (.block 3
 (.seq (.reg [⟨(some 93), none, (.mv (.t 0))⟩,
  ⟨(some 94), none, (.faddr 7 (.t 4))⟩,
  ⟨(some 95), none, (.load 1 false (.t 94))⟩,
  ⟨(some 96), none, (.mv (.t 17))⟩,
  ⟨(some 97), none, (.iaddr 5 (.t 95) (.t 96))⟩,
  ⟨(some 98), none, (.faddr 0 (.t 97))⟩,
  ⟨(some 99), none, (.load 1 false (.t 98))⟩,
  ⟨(some 100), none, (.faddr 7 (.t 4))⟩,
  ⟨(some 101), none, (.load 1 false (.t 100))⟩,
  ⟨(some 102), none, (.mv (.t 17))⟩,
  ⟨(some 103), none, (.iaddr 5 (.t 101) (.t 102))⟩,
  ⟨(some 104), none, (.faddr 1 (.t 103))⟩,
  ⟨(some 105), none, (.faddr 0 (.t 104))⟩,
  ⟨(some 106), none, (.load 1 false (.t 105))⟩,
  ⟨(some 107), none, (.call 23 [(.t 93), (.t 99), (.t 106)])⟩,
  ⟨(some 18), none, (.mv (.t 107))⟩] (some [[], [], [1], [], [2, 3, 1], [4, 2, 3, 1], [5, 4, 2, 3, 1], [], [7], [], [8, 9, 7], [10, 8, 9, 7], [11, 10, 8, 9, 7], [12, 11, 10, 8, 9, 7], [0, 6, 13, 5, 4, 2, 3, 1, 12, 11, 10, 8, 9, 7], [14, 0, 1, 2, 3, 4, 5, 6, 7, 8, 9, 10, 11, 12, 13]]))
 (.seq (.seq (.reg [⟨(some 108), none, (.mv (.t 18))⟩,
  ⟨(some 109), none, (.bin .lss (.t 108) (.c (.sc (.int .i64 (0)))))⟩] none)
 (.cond (.t 109)
 (.seq (.reg [⟨(some 110), none, (.iaddrA 1 9 (.t 16) (.c (.sc (.int .i64 (0)))))⟩,
  ⟨(some 111), none, (.load 1 false (.t 110))⟩,
  ⟨(some 112), none, (.mv (.t 14))⟩,
  ⟨(some 113), none, (.mv (.t 17))⟩,
  ⟨(some 114), none, (.iaddr 1 (.t 112) (.t 113))⟩,
  ⟨(some 115), none, (.load 1 false (.t 114))⟩,
  ⟨(some 116), none, (.bin .add (.t 111) (.t 115))⟩,
  ⟨(some 117), none, (.iaddrA 1 9 (.t 16) (.c (.sc (.int .i64 (0)))))⟩,
  ⟨none, none, (.store 1 (.t 117) (.t 116))⟩] (some [[], [0], [], [], [2, 3], [4, 2, 3], [1, 5, 0, 4, 2, 3], [0, 1, 2, 3, 4, 5, 6], [7, 6, 0, 1, 2, 3, 4, 5]])) (.exit 3)) .skip))
 (.seq (.reg [⟨(some 119), none, (.mv (.t 14))⟩,
  ⟨(some 120), none, (.mv (.t 17))⟩,
  ⟨(some 121), none, (.iaddr 1 (.t 119) (.t 120))⟩,
  ⟨(some 122), none, (.load 1 false (.t 121))⟩,
  ⟨(some 123), none, (.mv (.t 0))⟩,
  ⟨(some 124), none, (.mv (.t 18))⟩,
  ⟨(some 125), none, (.iaddr 5 (.t 123) (.t 124))⟩,
  ⟨(some 126), none, (.faddr 4 (.t 125))⟩,
  ⟨(some 127), none, (.load 1 false (.t 126))⟩,
  ⟨(some 128), none, (.mv (.t 0))⟩,
  ⟨(some 129), none, (.mv (.t 18))⟩,
  ⟨(some 130), none, (.iaddr 5 (.t 128) (.t 129))⟩,
  ⟨(some 131), none, (.faddr 4 (.t 130))⟩,
  ⟨(some 132), none, (.load 1 false (.t 131))⟩,
  ⟨(some 133), none, (.bin .sub (.c (.sc (.int .i64 (1000)))) (.t 132))⟩,
  ⟨(some 134), none, (.bslice 3 1 [(.t 127), (.t 133)])⟩,
  ⟨(some 135), none, (.call 32 [(.t 122), (.t 134)])⟩,
  ⟨(some 118), none, (.mv (.t 135))⟩,
  ⟨(some 136), none, (.ext 0 (.t 118))⟩,
  ⟨(some 137), none, (.ext 1 (.t 118))⟩,
  ⟨(some 19), none, (.mv (.t 136))⟩,
  ⟨(some 20), none, (.mv (.t 137))⟩] (some [[], [], [0, 1], [2, 0, 1], [], [], [4, 5], [6, 4, 5], [7, 6, 4, 5], [], [], [9, 10], [11, 9, 10], [12, 11, 9, 10], [13, 12, 11, 9, 10], [8, 14, 7, 6, 4, 5, 13, 12, 11, 9, 10], [3, 15, 2, 0, 1, 8, 14, 7, 6, 4, 5, 13, 12, 11, 9, 10], [16, 3, 15, 2, 0, 1, 8, 14, 7, 6, 4, 5, 13, 12, 11, 9, 10], [17, 16, 3, 15, 2, 0, 1, 8, 14, 7, 6, 4, 5, 13, 12, 11, 9, 10], [17, 16, 3, 15, 2, 0, 1, 8, 14, 7, 6, 4, 5, 13, 12, 11, 9, 10], [18, 16, 0, 1, 2, 3, 4, 5, 6, 7, 8, 9, 10, 11, 12, 13, 14, 15, 17], [19, 20, 0, 1, 2, 3, 4, 5, 6, 7, 8, 9, 10, 11, 12, 13, 14, 15, 16, 17, 18]]))
 (.seq (.reg [⟨(some 138), none, (.mv (.t 0))⟩,
  ⟨(some 139), none, (.mv (.t 18))⟩,
  ⟨(some 140), none, (.iaddr 5 (.t 138) (.t 139))⟩,
  ⟨(some 141), none, (.faddr 0 (.t 140))⟩,
  ⟨(some 142), none, (.load 1 false (.t 141))⟩,
  ⟨(some 143), none, (.bin .add (.c (.sc (.int .i64 (1)))) (.t 142))⟩,
  ⟨(some 144), none, (.mv (.t 0))⟩,
  ⟨(some 145), none, (.mv (.t 18))⟩,
  ⟨(some 146), none, (.iaddr 5 (.t 144) (.t 145))⟩,
  ⟨(some 147), none, (.faddr 0 (.t 146))⟩,
  ⟨(some 148), none, (.load 1 false (.t 147))⟩,
  ⟨(some 149), none, (.bin .add (.c (.sc (.int .i64 (1)))) (.t 148))⟩,
  ⟨(some 150), none, (.iaddrA 1 9 (.t 16) (.t 149))⟩,
  ⟨(some 151), none, (.load 1 false (.t 150))⟩,
  ⟨(some 152), none, (.mv (.t 19))⟩,
  ⟨(some 153), none, (.iaddr 1 (.t 152) (.c (.sc (.int .i64 (0)))))⟩,
  ⟨(some 154), none, (.load 1 false (.t 153))⟩,
  ⟨(some 155), none, (.bin .add (.t 151) (.t 154))⟩,
  ⟨(some 156), none, (.iaddrA 1 9 (.t 16) (.t 143))⟩,
  ⟨none, none, (.store 1 (.t 156) (.t 155))⟩] (some [[], [], [0, 1], [2, 0, 1], [3, 2, 0, 1], [4, 3, 2, 0, 1], [], [], [6, 7], [8, 6, 7], [9, 8, 6, 7], [10, 9, 8, 6, 7], [11, 10, 9, 8, 6, 7], [12, 11, 10, 9, 8, 6, 7], [], [14], [15, 14], [13, 16, 12, 11, 10, 9, 8, 6, 7, 15, 14], [5, 0, 1, 2, 3, 4, 6, 7, 8, 9, 10, 11, 12, 13, 14, 15, 16, 17], [18, 17, 0, 1, 2, 3, 4, 5, 6, 7, 8, 9, 10, 11, 12, 13, 14, 15, 16]])) (.reg [⟨(some 157), none, (.iaddrA 1 9 (.t 16) (.c (.sc (.int .i64 (0)))))⟩,
  ⟨(some 158), none, (.load 1 false (.t 157))⟩,
  ⟨(some 159), none, (.mv (.t 19))⟩,
  ⟨(some 160), none, (.iaddr 1 (.t 159) (.c (.sc (.int .i64 (1)))))⟩,
  ⟨(some 161), none, (.load 1 false (.t 160))⟩,
  ⟨(some 162), none, (.bin .add (.t 158) (.t 161))⟩,
  ⟨(some 163), none, (.iaddrA 1 9 (.t 16) (.c (.sc (.int .i64 (0)))))⟩,
  ⟨none, none, (.store 1 (.t 163) (.t 162))⟩] (some [[], [0], [], [2], [3, 2], [1, 4, 0, 3, 2], [0, 1, 2, 3, 4, 5], [6, 5, 0, 1, 2, 3, 4]]))))))) (.reg [⟨(some 91), none, (.mv (.t 17))⟩,
  ⟨(some 92), none, (.bin .add (.t 91) (.c (.sc (.int .i64 (1)))))⟩,
  ⟨(some 17), none, (.mv (.t 92))⟩] none))))))
 (.seq (.reg [⟨(some 21), none, (.mv (.c (.sc (.slice none 0 0))))⟩] none)
 (.seq (.seq (.reg [⟨(some 22), none, (.mv (.c (.sc (.int .i64 (0)))))⟩] none) (.block 4 
 (.loop ⟨[16, 21, 22], [(21, (50, 2))]⟩
 (.seq (.seq (.reg [⟨(some 164), none, (.mv (.t 22))⟩,
  ⟨(some 165), none, (.bin .lss (.t 164) (.c (.sc (.int .i64 (9)))))⟩] none)
 (.cond (.t 165) .skip (.exit 4)))
 (.seq (.block 5
 (.seq (.reg [⟨(some 168), none, (.mv (.t 22))⟩,
  ⟨(some 169), none, (.iaddrA 1 9 (.t 16) (.t 168))⟩,
  ⟨(some 170), none, (.load 1 false (.t 169))⟩,
  ⟨(some 171), none, (.bin .neq (.t 170) (.c (.sc (.int .i64 (0)))))⟩] none)
 (.cond (.t 171) (.reg [⟨(some 172), none, (.mv (.t 21))⟩,
  ⟨(some 173), none, (.mv (.t 22))⟩,
  ⟨(some 174), none, (.mv (.t 22))⟩,
  ⟨(some 175), none, (.iaddrA 1 9 (.t 16) (.t 174))⟩,
  ⟨(some 176), none, (.load 1 false (.t 175))⟩,
  ⟨(some 177), none, (.build [(.sc (.int .i64 (0))), (.sc (.int .i64 (0)))] [(0, (1, (.t 173))), (1, (1, (.t 176)))])⟩,
  ⟨(some 178), none, (.bslice 50 2 [(.t 177)])⟩,
  ⟨(some 179), none, (.append 50 2 16 (.t 172) (.t 178))⟩,
  ⟨(some 21), none, (.mv (.t 179))⟩] none) .skip))) (.reg [⟨(some 166), none, (.mv (.t 22))⟩,
  ⟨(some 167), none, (.bin .add (.t 166) (.c (.sc (.int .i64 (1)))))⟩,
  ⟨(some 22), none, (.mv (.t 167))⟩] none))))))
 (.seq (.reg [⟨(some 180), none, (.mv (.t 21))⟩,
  ⟨(some 6), none, (.mv (.t 180))⟩,
  ⟨(some 7), none, (.mv (.c (.sc (.int .i64 (0)))))⟩] none) .ret))))))))))))))))
theorem good21 {args : List PV} {r : PV} (hl : args.length ≤ 181) (h : Run Try.prog [.code ac21] (endQ [(.t 6), (.t 7)] r) ⟨initT 0 args, [], 0, 181⟩) : Good Try.prog 21 args r :=
  good_run (by kernel_rfl) Jamix Try.func21 rfl (hs := [⟨[0, 2, 4, 10, 11, 12, 13], [(10, 3, 1), (11, 3, 1)]⟩, ⟨[0, 4, 14, 16, 17], []⟩, ⟨[16, 21, 22], [(21, 50, 2)]⟩]) (hs' := []) (by kernel_rfl) hl h
def ac22 : ACode :=
 (.seq (.reg [⟨(some 4), none, (.mv (.c (.sc (.bool false))))⟩] none)
 (.seq (.seq (.reg [⟨(some 6), none, (.mv (.t 0))⟩,
  ⟨(some 7), none, (.len (.t 6))⟩,
  ⟨(some 8), none, (.mv (.t 1))⟩,
  ⟨(some 9), none, (.len (.t 8))⟩,
  ⟨(some 10), none, (.bin .neq (.t 7) (.t 9))⟩] none)
 (.cond (.t 10)
 (.seq (.reg [⟨(some 4), none, (.mv (.c (.sc (.bool false))))⟩] none) .ret) .skip))
 (.seq (.seq (.reg [⟨(some 5), none, (.mv (.c (.sc (.int .i64 (0)))))⟩] none) (.block 0 
 (.loop ⟨[0, 1, 5], []⟩
 (.seq (.seq (.reg [⟨(some 11), none, (.mv (.t 5))⟩,
  ⟨(some 12), none, (.mv (.t 0))⟩,
  ⟨(some 13), none, (.len (.t 12))⟩,
  ⟨(some 14), none, (.bin .lss (.t 11) (.t 13))⟩] none)
 (.cond (.t 14) .skip (.exit 0)))
 (.seq (.block 1
 (.seq (.reg [⟨(some 17), none, (.mv (.t 0))⟩,
  ⟨(some 18), none, (.mv (.t 5))⟩,
  ⟨(some 19), none, (.iaddr 2 (.t 17) (.t 18))⟩,
  ⟨(some 20), none, (.load 2 true (.t 19))⟩,
  ⟨(some 21), none, (.mv (.t 1))⟩,
  ⟨(some 22), none, (.mv (.t 5))⟩,
  ⟨(some 23), none, (.iaddr 2 (.t 21) (.t 22))⟩,
  ⟨(some 24), none, (.load 2 true (.t 23))⟩,
  ⟨(some 25), none, (.eqs true [(.i .i64), (.i .i64)] (.t 20) (.t 24))⟩] (some [[], [], [0, 1], [2, 0, 1], [], [], [4, 5], [6, 4, 5], [3, 7, 2, 0, 1, 6, 4, 5]]))
 (.cond (.t 25)
 (.seq (.reg [⟨(some 4), none, (.mv (.c (.sc (.bool false))))⟩] none) .ret) .skip))) (.reg [⟨(some 15), none, (.mv (.t 5))⟩,
  ⟨(some 16), none, (.bin .add (.t 15) (.c (.sc (.int .i64 (1)))))⟩,
  ⟨(some 5), none, (.mv (.t 16))⟩] none))))))
 (.seq (.reg [⟨(some 4), none, (.mv (.c (.sc (.bool true))))⟩] none) .ret))))
theorem good22 {args : List PV} {r : PV} (hl : args.length ≤ 26) (h : Run Try.prog [.code ac22] (endQ [(.t 4)] r) ⟨initT 0 args, [], 0, 26⟩) : Good Try.prog 22 args r :=
  good_run (by kernel_rfl) Jamix Try.func22 rfl (hs := [⟨[0, 1, 5], []⟩]) (hs' := []) (by kernel_rfl) hl h
def ac23 : ACode :=
 (.seq (.reg [⟨(some 6), none, (.mv (.c (.sc (.int .i64 (0)))))⟩] none)
 (.seq (.seq (.reg [⟨(some 7), none, (.mv (.c (.sc (.int .i64 (0)))))⟩] none) (.block 0 
 (.loop ⟨[0, 1, 2, 7], []⟩
 (.seq (.seq (.reg [⟨(some 8), none, (.mv (.t 7))⟩,
  ⟨(some 9), none, (.mv (.t 0))⟩,
  ⟨(some 10), none, (.len (.t 9))⟩,
  ⟨(some 11), none, (.bin .lss (.t 8) (.t 10))⟩] none)
 (.cond (.t 11) .skip (.exit 0)))
 (.seq (.block 1
 (.seq (.reg [⟨(some 14), none, (.mv (.t 0))⟩,
  ⟨(some 15), none, (.mv (.t 7))⟩,
  ⟨(some 16), none, (.iaddr 5 (.t 14) (.t 15))⟩,
  ⟨(some 17), none, (.faddr 1 (.t 16))⟩,
  ⟨(some 18), none, (.load 1 false (.t 17))⟩,
  ⟨(some 19), none, (.mv (.t 1))⟩,
  ⟨(some 20), none, (.bin .eql (.t 18) (.t 19))⟩,
  ⟨(some 21), none, (.mv (.t 20))⟩,
  ⟨(some 22), (some (21, true)), (.mv (.t 0))⟩,
  ⟨(some 23), (some (21, true)), (.mv (.t 7))⟩,
  ⟨(some 24), (some (21, true)), (.iaddr 5 (.t 22) (.t 23))⟩,
  ⟨(some 25), (some (21, true)), (.faddr 2 (.t 24))⟩,
  ⟨(some 26), (some (21, true)), (.faddr 0 (.t 25))⟩,
  ⟨(some 27), (some (21, true)), (.load 1 false (.t 26))⟩,
  ⟨(some 28), (some (21, true)), (.mv (.t 2))⟩,
  ⟨(some 29), (some (21, true)), (.bin .leq (.t 27) (.t 28))⟩,
  ⟨(some 30), none, (.pick (.t 21) (.t 29) (.c (.sc (.bool false))))⟩,
  ⟨(some 31), none, (.mv (.t 30))⟩,
  ⟨(some 32), (some (31, true)), (.mv (.t 2))⟩,
  ⟨(some 33), (some (31, true)), (.mv (.t 0))⟩,
  ⟨(some 34), (some (31, true)), (.mv (.t 7))⟩,
  ⟨(some 35), (some (31, true)), (.iaddr 5 (.t 33) (.t 34))⟩,
  ⟨(some 36), (some (31, true)), (.faddr 2 (.t 35))⟩,
  ⟨(some 37), (some (31, true)), (.faddr 1 (.t 36))⟩,
  ⟨(some 38), (some (31, true)), (.load 1 false (.t 37))⟩,
  ⟨(some 39), (some (31, true)), (.bin .lss (.t 32) (.t 38))⟩,
  ⟨(some 40), none, (.pick (.t 31) (.t 39) (.c (.sc (.bool false))))⟩] none)
 (.cond (.t 40)
 (.seq (.reg [⟨(some 41), none, (.mv (.t 7))⟩,
  ⟨(some 6), none, (.mv (.t 41))⟩] none) .ret) .skip))) (.reg [⟨(some 12), none, (.mv (.t 7))⟩,
  ⟨(some 13), none, (.bin .add (.t 12) (.c (.sc (.int .i64 (1)))))⟩,
  ⟨(some 7), none, (.mv (.t 13))⟩] none))))))
 (.seq (.reg [⟨(some 6), none, (.mv (.c (.sc (.int .i64 (-1)))))⟩] none) .ret)))
theorem good23 {args : List PV} {r : PV} (hl : args.length ≤ 42) (h : Run Try.prog [.code ac23] (endQ [(.t 6)] r) ⟨initT 0 args, [], 0, 42⟩) : Good Try.prog 23 args r :=
  good_run (by kernel_rfl) Jamix Try.func23 rfl (hs := [⟨[0, 1, 2, 7], []⟩]) (hs' := []) (by kernel_rfl) hl h
def ac24 : ACode :=
 (.seq (.reg [⟨(some 0), none, (.mv (.c (.sc (.slice none 0 0))))⟩] none)
 (.seq (.reg [⟨(some 1), none, (.build [(.sc (.int .i64 (0))), (.sc (.int .i64 (0)))] [(1, (1, (.c (.sc (.int .i64 (1000))))))])⟩,
  ⟨(some 2), none, (.build [(.sc (.int .i64 (0))), (.sc (.int .i64 (0))), (.sc (.int .i64 (0))), (.sc (.int .i64 (0))), (.sc (.int .i64 (0)))] [(0, (1, (.c (.sc (.int .i64 (2)))))), (1, (1, (.c (.sc (.int .i64 (5)))))), (2, (2, (.t 1))), (4, (1, (.c (.sc (.int .i64 (700))))))])⟩,
  ⟨(some 3), none, (.bslice 54 5 [(.t 2)])⟩,
  ⟨(some 0), none, (.mv (.t 3))⟩] none) .ret))
theorem good24 {args : List PV} {r : PV} (hl : args.length ≤ 4) (h : Run Try.prog [.code ac24] (endQ [(.t 0)] r) ⟨initT 0 args, [], 0, 4⟩) : Good Try.prog 24 args r :=
  good_run (by kernel_rfl) Jamix Try.func24 rfl (hs := []) (hs' := []) (by kernel_rfl) hl h
def ac25 : ACode :=
 (.seq (.reg [⟨(some 0), none, (.new [(.sc (.int .i64 (0))), (.sc (.int .i64 (0))), (.sc (.int .i64 (0))), (.sc (.int .i64 (0))), (.sc (.int .i64 (0))), (.sc (.int .i64 (0))), (.sc (.bool false)), (.sc (.slice none 0 0)), (.sc (.slice none 0 0)), (.sc (.int .i64 (0))), (.sc (.int .i64 (0))), (.sc (.int .i64 (0))), (.sc (.int .i64 (0)))])⟩] none)
 (.seq (.reg [⟨(some 1), none, (.call 33 [(.c (.sc (.int .i64 (100))))])⟩,
  ⟨(some 2), none, (.call 33 [(.c (.sc (.int .i64 (190))))])⟩,
  ⟨(some 3), none, (.call 33 [(.c (.sc (.int .i64 (100))))])⟩,
  ⟨(some 4), none, (.call 33 [(.c (.sc (.int .i64 (160))))])⟩,
  ⟨(some 5), none, (.build [(.sc (.int .i64 (0))), (.sc (.int .i64 (0))), (.sc (.int .i64 (0))), (.sc (.int .i64 (0))), (.sc (.int .i64 (0)))] [(0, (1, (.c (.sc (.int .i64 (5)))))), (1, (2, (.t 3))), (3, (2, (.t 4)))])⟩,
  ⟨(some 6), none, (.call 33 [(.c (.sc (.int .i64 (160))))])⟩,
  ⟨(some 7), none, (.call 33 [(.c (.sc (.int .i64 (190))))])⟩,
  ⟨(some 8), none, (.build [(.sc (.int .i64 (0))), (.sc (.int .i64 (0))), (.sc (.int .i64 (0))), (.sc (.int .i64 (0))), (.sc (.int .i64 (0)))] [(0, (1, (.c (.sc (.int .i64 (6)))))), (1, (2, (.t 6))), (3, (2, (.t 7)))])⟩,
  ⟨(some 9), none, (.bslice 56 5 [(.t 5), (.t 8)])⟩,
  ⟨(some 10), none, (.build [(.sc (.int .i64 (0))), (.sc (.int .i64 (0))), (.sc (.int .i64 (0))), (.sc (.int .i64 (0))), (.sc (.int .i64 (0))), (.sc (.int .i64 (0))), (.sc (.bool false)), (.sc (.slice none 0 0)), (.sc (.slice none 0 0)), (.sc (.int .i64 (0))), (.sc (.int .i64 (0))), (.sc (.int .i64 (0))), (.sc (.int .i64 (0)))] [(0, (1, (.c (.sc (.int .i64 (1)))))), (2, (2, (.t 1))), (4, (2, (.t 2))), (7, (1, (.t 9))), (9, (1, (.c (.sc (.int .i64 (2)))))), (11, (1, (.c (.sc (.int .i64 (2))))))])⟩,
  ⟨none, none, (.store 13 (.t 0) (.t 10))⟩] none) .ret))
theorem good25 {args : List PV} {r : PV} (hl : args.length ≤ 11) (h : Run Try.prog [.code ac25] (endQ [(.c 0 13 true)] r) ⟨initT 0 args, [], 0, 11⟩) : Good Try.prog 25 args r :=
  good_run (by kernel_rfl) Jamix Try.func25 rfl (hs := []) (hs' := []) (by kernel_rfl) hl h
def ac26 : ACode :=
 (.seq (.reg [⟨(some 6), none, (.mv (.c (.sc (.int .i64 (0)))))⟩] none)
 (.seq (.seq (.reg [⟨(some 9), none, (.mv (.t 0))⟩,
  ⟨(some 10), none, (.len (.t 9))⟩,
  ⟨(some 11), none, (.mv (.c (.sc (.int .i64 (0)))))⟩] none) (.block 0 
 (.loop ⟨[1, 2, 9, 10, 11], []⟩
 (.seq (.reg [⟨(some 12), none, (.bin .lss (.t 11) (.t 10))⟩] none)
 (.seq
 (.cond (.t 12) .skip (.exit 0))
 (.seq (.block 1
 (.seq (.reg [⟨(some 13), none, (.mv (.t 11))⟩,
  ⟨(some 14), none, (.iaddr 5 (.t 9) (.t 11))⟩,
  ⟨(some 15), none, (.load 5 true (.t 14))⟩,
  ⟨(some 8), none, (.new [(.sc (.int .i64 (0))), (.sc (.int .i64 (0))), (.sc (.int .i64 (0))), (.sc (.int .i64 (0))), (.sc (.int .i64 (0)))])⟩,
  ⟨(some 7), none, (.mv (.t 13))⟩,
  ⟨none, none, (.store 5 (.t 8) (.t 15))⟩] none)
 (.seq (.reg [⟨(some 16), none, (.faddr 1 (.t 8))⟩,
  ⟨(some 17), none, (.load 1 false (.t 16))⟩,
  ⟨(some 18), none, (.mv (.t 1))⟩,
  ⟨(some 19), none, (.bin .eql (.t 17) (.t 18))⟩,
  ⟨(some 20), none, (.mv (.t 19))⟩,
  ⟨(some 21), (some (20, true)), (.faddr 2 (.t 8))⟩,
  ⟨(some 22), (some (20, true)), (.faddr 0 (.t 21))⟩,
  ⟨(some 23), (some (20, true)), (.load 1 false (.t 22))⟩,
  ⟨(some 24), (some (20, true)), (.mv (.t 2))⟩,
  ⟨(some 25), (some (20, true)), (.bin .leq (.t 23) (.t 24))⟩,
  ⟨(some 26), none, (.pick (.t 20) (.t 25) (.c (.sc (.bool false))))⟩,
  ⟨(some 27), none, (.mv (.t 26))⟩,
  ⟨(some 28), (some (27, true)), (.mv (.t 2))⟩,
  ⟨(some 29), (some (27, true)), (.faddr 2 (.t 8))⟩,
  ⟨(some 30), (some (27, true)), (.faddr 1 (.t 29))⟩,
  ⟨(some 31), (some (27, true)), (.load 1 false (.t 30))⟩,
  ⟨(some 32), (some (27, true)), (.bin .lss (.t 28) (.t 31))⟩,
  ⟨(some 33), none, (.pick (.t 27) (.t 32) (.c (.sc (.bool false))))⟩] none)
 (.cond (.t 33)
 (.seq (.reg [⟨(some 34), none, (.mv (.t 7))⟩,
  ⟨(some 6), none, (.mv (.t 34))⟩] none) .ret) .skip)))) (.reg [⟨(some 35), none, (.bin .add (.t 11) (.c (.sc (.int .i64 (1)))))⟩,
  ⟨(some 11), none, (.mv (.t 35))⟩] none)))))))
 (.seq (.reg [⟨(some 6), none, (.mv (.c (.sc (.int .i64 (-1)))))⟩] none) .ret)))
theorem good26 {args : List PV} {r : PV} (hl : args.length ≤ 36) (h : Run Try.prog [.code ac26] (endQ [(.t 6)] r) ⟨initT 0 args, [], 0, 36⟩) : Good Try.prog 26 args r :=
  good_run (by kernel_rfl) Jamix Try.func26 rfl (hs := [⟨[1, 2, 9, 10, 11], []⟩]) (hs' := []) (by kernel_rfl) hl h
def ac27 : ACode :=
 (.seq (.reg [⟨(some 1), none, (.boxv (.t 0))⟩,
  ⟨(some 2), none, (.mv (.c (.sc (.bool false))))⟩] none)
 (.seq (.reg [⟨(some 3), none, (.faddr 0 (.t 1))⟩,
  ⟨(some 4), none, (.load 1 false (.t 3))⟩,
  ⟨(some 5), none, (.bin .geq (.t 4) (.c (.sc (.int .i64 (0)))))⟩,
  ⟨(some 6), none, (.mv (.t 5))⟩,
  ⟨(some 7), (some (6, true)), (.faddr 0 (.t 1))⟩,
  ⟨(some 8), (some (6, true)), (.load 1 false (.t 7))⟩,
  ⟨(some 9), (some (6, true)), (.bin .lss (.t 8) (.c (.sc (.int .i64 (8)))))⟩,
  ⟨(some 10), none, (.pick (.t 6) (.t 9) (.c (.sc (.bool false))))⟩,
  ⟨(some 11), none, (.mv (.t 10))⟩,
  ⟨(some 12), (some (11, true)), (.faddr 1 (.t 1))⟩,
  ⟨(some 13), (some (11, true)), (.load 1 false (.t 12))⟩,
  ⟨(some 14), (some (11, true)), (.bin .geq (.t 13) (.c (.sc (.int .i64 (0)))))⟩,
  ⟨(some 15), none, (.pick (.t 11) (.t 14) (.c (.sc (.bool false))))⟩,
  ⟨(some 16), none, (.mv (.t 15))⟩,
  ⟨(some 17), (some (16, true)), (.faddr 1 (.t 1))⟩,
  ⟨(some 18), (some (16, true)), (.load 1 false (.t 17))⟩,
  ⟨(some 19), (some (16, true)), (.bin .lss (.t 18) (.c (.sc (.int .i64 (128)))))⟩,
  ⟨(some 20), none, (.pick (.t 16) (.t 19) (.c (.sc (.bool false))))⟩,
  ⟨(some 21), none, (.mv (.t 20))⟩,
  ⟨(some 22), (some (21, true)), (.faddr 2 (.t 1))⟩,
  ⟨(some 23), (some (21, true)), (.faddr 0 (.t 22))⟩,
  ⟨(some 24), (some (21, true)), (.load 1 false (.t 23))⟩,
  ⟨(some 25), (some (21, true)), (.bin .geq (.t 24) (.c (.sc (.int .i64 (0)))))⟩,
  ⟨(some 26), none, (.pick (.t 21) (.t 25) (.c (.sc (.bool false))))⟩,
  ⟨(some 27), none, (.mv (.t 26))⟩,
  ⟨(some 28), (some (27, true)), (.faddr 2 (.t 1))⟩,
  ⟨(some 29), (some (27, true)), (.faddr 0 (.t 28))⟩,
  ⟨(some 30), (some (27, true)), (.load 1 false (.t 29))⟩,
  ⟨(some 31), (some (27, true)), (.faddr 2 (.t 1))⟩,
  ⟨(some 32), (some (27, true)), (.faddr 1 (.t 31))⟩,
  ⟨(some 33), (some (27, true)), (.load 1 false (.t 32))⟩,
  ⟨(some 34), (some (27, true)), (.bin .lss (.t 30) (.t 33))⟩,
  ⟨(some 35), none, (.pick (.t 27) (.t 34) (.c (.sc (.bool false))))⟩,
  ⟨(some 36), none, (.mv (.t 35))⟩,
  ⟨(some 37), (some (36, true)), (.faddr 2 (.t 1))⟩,
  ⟨(some 38), (some (36, true)), (.faddr 1 (.t 37))⟩,
  ⟨(some 39), (some (36, true)), (.load 1 false (.t 38))⟩,
  ⟨(some 40), (some (36, true)), (.bin .leq (.t 39) (.c (.sc (.int .i64 (4294944000)))))⟩,
  ⟨(some 41), none, (.pick (.t 36) (.t 40) (.c (.sc (.bool false))))⟩,
  ⟨(some 42), none, (.mv (.t 41))⟩,
  ⟨(some 43), (some (42, true)), (.faddr 4 (.t 1))⟩,
  ⟨(some 44), (some (42, true)), (.load 1 false (.t 43))⟩,
  ⟨(some 45), (some (42, true)), (.bin .geq (.t 44) (.c (.sc (.int .i64 (0)))))⟩,
  ⟨(some 46), none, (.pick (.t 42) (.t 45) (.c (.sc (.bool false))))⟩,
  ⟨(some 47), none, (.mv (.t 46))⟩,
  ⟨(some 48), (some (47, true)), (.faddr 4 (.t 1))⟩,
  ⟨(some 49), (some (47, true)), (.load 1 false (.t 48))⟩,
  ⟨(some 50), (some (47, true)), (.bin .leq (.t 49) (.c (.sc (.int .i64 (1000)))))⟩,
  ⟨(some 51), none, (.pick (.t 47) (.t 50) (.c (.sc (.bool false))))⟩,
  ⟨(some 2), none, (.mv (.t 51))⟩] none) .ret))
theorem good27 {args : List PV} {r : PV} (hl : args.length ≤ 52) (h : Run Try.prog [.code ac27] (endQ [(.t 2)] r) ⟨initT 0 args, [], 0, 52⟩) : Good Try.prog 27 args r :=
  good_run (by kernel_rfl) Jamix Try.func27 rfl (hs := []) (hs' := []) (by kernel_rfl) hl h
def ac29 : ACode :=
 (.seq (.reg [⟨(some 4), none, (.mv (.c (.sc (.slice none 0 0))))⟩,
  ⟨(some 5), none, (.mv (.c (.sc (.int .i64 (0)))))⟩] none)
 (.seq (.seq (.reg [⟨(some 16), none, (.mv (.t 0))⟩,
  ⟨(some 17), none, (.call 37 [(.t 16), (.c (.sc (.int .i64 (0)))), (.c (.sc (.int .i64 (1125899906842624))))])⟩,
  ⟨(some 18), none, (.un .not (.t 17))⟩,
  ⟨(some 19), none, (.mv (.t 18))⟩,
  ⟨(some 20), (some (19, false)), (.mv (.t 1))⟩,
  ⟨(some 21), (some (19, false)), (.len (.t 20))⟩,
  ⟨(some 22), (some (19, false)), (.call 37 [(.t 21), (.c (.sc (.int .i64 (1)))), (.c (.sc (.int .i64 (512))))])⟩,
  ⟨(some 23), (some (19, false)), (.un .not (.t 22))⟩,
  ⟨(some 24), none, (.pick (.t 19) (.c (.sc (.bool true))) (.t 23))⟩] none)
 (.cond (.t 24)
 (.seq (.reg [⟨(some 4), none, (.mv (.c (.sc (.slice none 0 0))))⟩,
  ⟨(some 5), none, (.mv (.c (.sc (.int .i64 (1)))))⟩] none) .ret) .skip))
 (.seq (.reg [⟨(some 6), none, (.mv (.c (.sc (.int .i64 (0)))))⟩] none)
 (.seq (.seq (.reg [⟨(some 25), none, (.mv (.t 1))⟩,
  ⟨(some 26), none, (.len (.t 25))⟩,
  ⟨(some 27), none, (.mv (.c (.sc (.int .i64 (0)))))⟩] none) (.block 0 
 (.loop ⟨[0, 1, 6, 25, 26, 27], []⟩
 (.seq (.reg [⟨(some 28), none, (.bin .lss (.t 27) (.t 26))⟩] none)
 (.seq
 (.cond (.t 28) .skip (.exit 0))
 (.seq (.block 1
 (.seq (.reg [⟨(some 29), none, (.iaddr 1 (.t 25) (.t 27))⟩,
  ⟨(some 30), none, (.load 1 false (.t 29))⟩,
  ⟨(some 8), none, (.mv (.t 30))⟩] none)
 (.seq (.seq (.reg [⟨(some 31), none, (.mv (.t 8))⟩,
  ⟨(some 32), none, (.call 37 [(.t 31), (.c (.sc (.int .i64 (0)))), (.c (.sc (.int .i64 (1125899906842624))))])⟩,
  ⟨(some 33), none, (.un .not (.t 32))⟩] none)
 (.cond (.t 33)
 (.seq (.reg [⟨(some 4), none, (.mv (.c (.sc (.slice none 0 0))))⟩,
  ⟨(some 5), none, (.mv (.c (.sc (.int .i64 (1)))))⟩] none) .ret) .skip)) (.reg [⟨(some 34), none, (.mv (.t 6))⟩,
  ⟨(some 35), none, (.mv (.t 8))⟩,
  ⟨(some 36), none, (.bin .add (.t 34) (.t 35))⟩,
  ⟨(some 6), none, (.mv (.t 36))⟩] none)))) (.reg [⟨(some 37), none, (.bin .add (.t 27) (.c (.sc (.int .i64 (1)))))⟩,
  ⟨(some 27), none, (.mv (.t 37))⟩] none)))))))
 (.seq (.block 2
 (.seq (.reg [⟨(some 39), none, (.mv (.t 6))⟩,
  ⟨(some 40), none, (.bin .gtr (.t 39) (.c (.sc (.int .i64 (1125899906842624)))))⟩,
  ⟨(some 38), none, (.mv (.t 40))⟩] none)
 (.cond (.t 38)
 (.seq (.reg [⟨(some 4), none, (.mv (.c (.sc (.slice none 0 0))))⟩,
  ⟨(some 5), none, (.mv (.c (.sc (.int .i64 (2)))))⟩] none) .ret)
 (.seq (.reg [⟨(some 42), none, (.mv (.t 6))⟩,
  ⟨(some 43), none, (.bin .eql (.t 42) (.c (.sc (.int .i64 (0)))))⟩,
  ⟨(some 44), none, (.mv (.t 43))⟩,
  ⟨(some 45), (some (44, true)), (.mv (.t 0))⟩,
  ⟨(some 46), (some (44, true)), (.bin .gtr (.t 45) (.c (.sc (.int .i64 (0)))))⟩,
  ⟨(some 47), none, (.pick (.t 44) (.t 46) (.c (.sc (.bool false))))⟩,
  ⟨(some 41), none, (.mv (.t 47))⟩] none)
 (.cond (.t 41)
 (.seq (.reg [⟨(some 4), none, (.mv (.c (.sc (.slice none 0 0))))⟩,
  ⟨(some 5), none, (.mv (.c (.sc (.int .i64 (10)))))⟩] none) .ret) .skip)))))
 (.seq (.reg [⟨(some 48), none, (.mv (.t 1))⟩,
  ⟨(some 49), none, (.len (.t 48))⟩,
  ⟨(some 50), none, (.mk 3 1 8 [(.sc (.int .i64 (0)))] (.t 49) (.t 49))⟩,
  ⟨(some 51), none, (.mv (.t 1))⟩,
  ⟨(some 52), none, (.len (.t 51))⟩,
  ⟨(some 53), none, (.mk 3 1 8 [(.sc (.int .i64 (0)))] (.t 52) (.t 52))⟩,
  ⟨(some 54), none, (.mv (.t 1))⟩,
  ⟨(some 55), none, (.len (.t 54))⟩,
  ⟨(some 56), none, (.mk 3 1 8 [(.sc (.int .i64 (0)))] (.t 55) (.t 55))⟩,
  ⟨(some 10), none, (.new [(.sc (.slice none 0 0))])⟩,
  ⟨(some 9), none, (.mv (.t 50))⟩,
  ⟨none, none, (.store 1 (.t 10) (.t 53))⟩,
  ⟨(some 11), none, (.mv (.t 56))⟩] (some [[], [0], [1, 0], [], [3], [4, 3], [], [6], [7, 6], [], [2, 0, 1, 9], [9, 5, 10, 0, 1, 2, 3, 4], [8, 11, 0, 1, 2, 3, 4, 5, 6, 7, 9, 10]]))
 (.seq (.reg [⟨(some 57), none, (.mv (.t 0))⟩,
  ⟨(some 12), none, (.mv (.t 57))⟩] none)
 (.seq (.seq (.reg [⟨(some 58), none, (.mv (.t 1))⟩,
  ⟨(some 59), none, (.len (.t 58))⟩,
  ⟨(some 60), none, (.mv (.c (.sc (.int .i64 (0)))))⟩] none) (.block 3 
 (.loop ⟨[0, 6, 9, 10, 11, 12, 58, 59, 60], []⟩
 (.seq (.reg [⟨(some 61), none, (.bin .lss (.t 60) (.t 59))⟩] none)
 (.seq
 (.cond (.t 61) .skip (.exit 3))
 (.seq (.block 4
 (.seq (.reg [⟨(some 62), none, (.mv (.t 60))⟩,
  ⟨(some 63), none, (.iaddr 1 (.t 58) (.t 60))⟩,
  ⟨(some 64), none, (.load 1 false (.t 63))⟩,
  ⟨(some 13), none, (.mv (.t 62))⟩,
  ⟨(some 14), none, (.mv (.t 64))⟩] none)
 (.seq (.reg [⟨(some 65), none, (.mv (.t 11))⟩,
  ⟨(some 66), none, (.mv (.t 13))⟩,
  ⟨(some 67), none, (.mv (.t 13))⟩,
  ⟨(some 68), none, (.iaddr 1 (.t 65) (.t 66))⟩,
  ⟨none, none, (.store 1 (.t 68) (.t 67))⟩] none)
 (.seq (.seq (.reg [⟨(some 69), none, (.mv (.t 6))⟩,
  ⟨(some 70), none, (.bin .gtr (.t 69) (.c (.sc (.int .i64 (0)))))⟩] none)
 (.cond (.t 70) (.reg [⟨(some 72), none, (.mv (.t 9))⟩,
  ⟨(some 73), none, (.mv (.t 13))⟩,
  ⟨(some 74), none, (.load 1 false (.t 10))⟩,
  ⟨(some 75), none, (.mv (.t 13))⟩,
  ⟨(some 76), none, (.mv (.t 0))⟩,
  ⟨(some 77), none, (.mv (.t 14))⟩,
  ⟨(some 78), none, (.mv (.t 6))⟩,
  ⟨(some 79), none, (.call 38 [(.t 76), (.t 77), (.t 78)])⟩,
  ⟨(some 71), none, (.mv (.t 79))⟩,
  ⟨(some 80), none, (.ext 0 (.t 71))⟩,
  ⟨(some 81), none, (.ext 1 (.t 71))⟩,
  ⟨(some 82), none, (.iaddr 1 (.t 72) (.t 73))⟩,
  ⟨none, none, (.store 1 (.t 82) (.t 80))⟩,
  ⟨(some 83), none, (.iaddr 1 (.t 74) (.t 75))⟩,
  ⟨none, none, (.store 1 (.t 83) (.t 81))⟩] (some [[], [], [], [], [], [], [], [4, 5, 6], [7, 4, 5, 6], [8, 7, 4, 5, 6], [8, 7, 4, 5, 6], [0, 1, 4, 5, 6, 7, 8, 9], [11, 9, 7, 0, 1, 4, 5, 6, 8], [2, 3, 0, 1, 4, 5, 6, 7, 8, 9, 10, 11, 12], [13, 10, 12, 0, 1, 2, 3, 4, 5, 6, 7, 8, 9, 11]])) .skip)) (.reg [⟨(some 84), none, (.mv (.t 12))⟩,
  ⟨(some 85), none, (.mv (.t 9))⟩,
  ⟨(some 86), none, (.mv (.t 13))⟩,
  ⟨(some 87), none, (.iaddr 1 (.t 85) (.t 86))⟩,
  ⟨(some 88), none, (.load 1 false (.t 87))⟩,
  ⟨(some 89), none, (.bin .sub (.t 84) (.t 88))⟩,
  ⟨(some 12), none, (.mv (.t 89))⟩] none))))) (.reg [⟨(some 90), none, (.bin .add (.t 60) (.c (.sc (.int .i64 (1)))))⟩,
  ⟨(some 60), none, (.mv (.t 90))⟩] none)))))))
 (.seq (.reg [⟨(some 91), none, (.mv (.t 11))⟩,
  ⟨(some 92), none, (.mkclo 40 (.t 10))⟩,
  ⟨(some 93), none, (.call 39 [(.t 91), (.t 92)])⟩] none)
 (.seq (.seq (.reg [⟨(some 94), none, (.mv (.t 12))⟩,
  ⟨(some 95), none, (.mv (.c (.sc (.int .i64 (0)))))⟩] none) (.block 5 
 (.loop ⟨[9, 11, 94, 95], []⟩
 (.seq (.reg [⟨(some 96), none, (.bin .lss (.t 95) (.t 94))⟩] none)
 (.seq
 (.cond (.t 96) .skip (.exit 5))
 (.seq (.block 6
 (.seq (.reg [⟨(some 97), none, (.mv (.t 95))⟩,
  ⟨(some 15), none, (.mv (.t 97))⟩] none) (.reg [⟨(some 98), none, (.mv (.t 9))⟩,
  ⟨(some 99), none, (.mv (.t 11))⟩,
  ⟨(some 100), none, (.mv (.t 15))⟩,
  ⟨(some 101), none, (.iaddr 1 (.t 99) (.t 100))⟩,
  ⟨(some 102), none, (.load 1 false (.t 101))⟩,
  ⟨(some 103), none, (.iaddr 1 (.t 98) (.t 102))⟩,
  ⟨(some 104), none, (.load 1 false (.t 103))⟩,
  ⟨(some 105), none, (.bin .add (.t 104) (.c (.sc (.int .i64 (1)))))⟩,
  ⟨(some 106), none, (.iaddr 1 (.t 98) (.t 102))⟩,
  ⟨none, none, (.store 1 (.t 106) (.t 105))⟩] none))) (.reg [⟨(some 107), none, (.bin .add (.t 95) (.c (.sc (.int .i64 (1)))))⟩,
  ⟨(some 95), none, (.mv (.t 107))⟩] none)))))))
 (.seq (.reg [⟨(some 108), none, (.mv (.t 9))⟩,
  ⟨(some 4), none, (.mv (.t 108))⟩,
  ⟨(some 5), none, (.mv (.c (.sc (.int .i64 (0)))))⟩] none) .ret)))))))))))
theorem good29 {args : List PV} {r : PV} (hl : args.length ≤ 109) (h : Run Try.prog [.code ac29] (endQ [(.t 4), (.t 5)] r) ⟨initT 0 args, [], 0, 109⟩) : Good Try.prog 29 args r :=
  good_run (by kernel_rfl) Jamix Try.func29 rfl (hs := [⟨[0, 1, 6, 25, 26, 27], []⟩, ⟨[0, 6, 9, 10, 11, 12, 58, 59, 60], []⟩, ⟨[9, 11, 94, 95], []⟩]) (hs' := []) (by kernel_rfl) hl h
def ac30 : ACode :=
 (.seq (.reg [⟨(some 1), none, (.boxv (.t 0))⟩,
  ⟨(some 2), none, (.mv (.c (.sc (.slice none 0 0))))⟩] none)
 (.seq (.reg [⟨(some 8), none, (.faddr 7 (.t 1))⟩,
  ⟨(some 9), none, (.load 1 false (.t 8))⟩,
  ⟨(some 10), none, (.len (.t 9))⟩,
  ⟨(some 11), none, (.mk 3 1 8 [(.sc (.int .i64 (0)))] (.t 10) (.t 10))⟩,
  ⟨(some 3), none, (.mv (.t 11))⟩] none)
 (.seq (.reg [⟨(some 4), none, (.mv (.c (.sc (.int .i64 (0)))))⟩] none)
 (.seq (.seq (.reg [⟨(some 12), none, (.faddr 7 (.t 1))⟩,
  ⟨(some 13), none, (.load 1 false (.t 12))⟩,
  ⟨(some 14), none, (.len (.t 13))⟩,
  ⟨(some 15), none, (.mv (.c (.sc (.int .i64 (0)))))⟩] none) (.block 0 
 (.loop ⟨[3, 4, 13, 14, 15], []⟩
 (.seq (.reg [⟨(some 16), none, (.bin .lss (.t 15) (.t 14))⟩] none)
 (.seq
 (.cond (.t 16) .skip (.exit 0))
 (.seq (.block 1
 (.seq (.reg [⟨(some 17), none, (.mv (.t 15))⟩,
  ⟨(some 18), none, (.iaddr 5 (.t 13) (.t 15))⟩,
  ⟨(some 19), none, (.load 5 true (.t 18))⟩,
  ⟨(some 6), none, (.new [(.sc (.int .i64 (0))), (.sc (.int .i64 (0))), (.sc (.int .i64 (0))), (.sc (.int .i64 (0))), (.sc (.int .i64 (0)))])⟩,
  ⟨(some 5), none, (.mv (.t 17))⟩,
  ⟨none, none, (.store 5 (.t 6) (.t 19))⟩] none)
 (.seq (.reg [⟨(some 20), none, (.mv (.t 3))⟩,
  ⟨(some 21), none, (.mv (.t 5))⟩,
  ⟨(some 22), none, (.faddr 3 (.t 6))⟩,
  ⟨(some 23), none, (.faddr 0 (.t 22))⟩,
  ⟨(some 24), none, (.load 1 false (.t 23))⟩,
  ⟨(some 25), none, (.faddr 1 (.t 6))⟩,
  ⟨(some 26), none, (.faddr 0 (.t 25))⟩,
  ⟨(some 27), none, (.load 1 false (.t 26))⟩,
  ⟨(some 28), none, (.bin .sub (.t 24) (.t 27))⟩,
  ⟨(some 29), none, (.iaddr 1 (.t 20) (.t 21))⟩,
  ⟨none, none, (.store 1 (.t 29) (.t 28))⟩] none) (.reg [⟨(some 30), none, (.mv (.t 4))⟩,
  ⟨(some 31), none, (.mv (.t 3))⟩,
  ⟨(some 32), none, (.mv (.t 5))⟩,
  ⟨(some 33), none, (.iaddr 1 (.t 31) (.t 32))⟩,
  ⟨(some 34), none, (.load 1 false (.t 33))⟩,
  ⟨(some 35), none, (.bin .add (.t 30) (.t 34))⟩,
  ⟨(some 4), none, (.mv (.t 35))⟩] none)))) (.reg [⟨(some 36), none, (.bin .add (.t 15) (.c (.sc (.int .i64 (1)))))⟩,
  ⟨(some 15), none, (.mv (.t 36))⟩] none)))))))
 (.seq (.seq (.reg [⟨(some 37), none, (.mv (.t 3))⟩,
  ⟨(some 38), none, (.len (.t 37))⟩,
  ⟨(some 39), none, (.mv (.c (.sc (.int .i64 (0)))))⟩] none) (.block 2 
 (.loop ⟨[3, 4, 38, 39], []⟩
 (.seq (.reg [⟨(some 40), none, (.bin .lss (.t 39) (.t 38))⟩] none)
 (.seq
 (.cond (.t 40) .skip (.exit 2))
 (.seq (.block 3
 (.seq (.reg [⟨(some 41), none, (.mv (.t 39))⟩,
  ⟨(some 7), none, (.mv (.t 41))⟩] none)
 (.seq (.reg [⟨(some 42), none, (.mv (.t 4))⟩,
  ⟨(some 43), none, (.bin .eql (.t 42) (.c (.sc (.int .i64 (0)))))⟩] none)
 (.cond (.t 43) (.reg [⟨(some 44), none, (.mv (.t 3))⟩,
  ⟨(some 45), none, (.mv (.t 7))⟩,
  ⟨(some 46), none, (.iaddr 1 (.t 44) (.t 45))⟩,
  ⟨none, none, (.store 1 (.t 46) (.c (.sc (.int .i64 (1)))))⟩] none) .skip)))) (.reg [⟨(some 47), none, (.bin .add (.t 39) (.c (.sc (.int .i64 (1)))))⟩,
  ⟨(some 39), none, (.mv (.t 47))⟩] none)))))))
 (.seq (.reg [⟨(some 48), none, (.mv (.t 3))⟩,
  ⟨(some 2), none, (.mv (.t 48))⟩] none) .ret))))))
theorem good30 {args : List PV} {r : PV} (hl : args.length ≤ 49) (h : Run Try.prog [.code ac30] (endQ [(.t 2)] r) ⟨initT 0 args, [], 0, 49⟩) : Good Try.prog 30 args r :=
  good_run (by kernel_rfl) Jamix Try.func30 rfl (hs := [⟨[3, 4, 13, 14, 15], []⟩, ⟨[3, 4, 38, 39], []⟩]) (hs' := []) (by kernel_rfl) hl h
def ac32 : ACode :=
 (.seq (.reg [⟨(some 4), none, (.mv (.c (.sc (.slice none 0 0))))⟩,
  ⟨(some 5), none, (.mv (.c (.sc (.int .i64 (0)))))⟩] none)
 (.seq (.seq (.reg [⟨(some 16), none, (.mv (.t 0))⟩,
  ⟨(some 17), none, (.bin .lss (.t 16) (.c (.sc (.int .i64 (0)))))⟩,
  ⟨(some 18), none, (.mv (.t 17))⟩,
  ⟨(some 19), (some (18, false)), (.mv (.t 0))⟩,
  ⟨(some 20), (some (18, false)), (.bin .gtr (.t 19) (.c (.sc (.int .i64 (1125899906842624)))))⟩,
  ⟨(some 21), none, (.pick (.t 18) (.c (.sc (.bool true))) (.t 20))⟩,
  ⟨(some 22), none, (.mv (.t 21))⟩,
  ⟨(some 23), (some (22, false)), (.mv (.t 1))⟩,
  ⟨(some 24), (some (22, false)), (.len (.t 23))⟩,
  ⟨(some 25), (some (22, false)), (.bin .lss (.t 24) (.c (.sc (.int .i64 (1)))))⟩,
  ⟨(some 26), none, (.pick (.t 22) (.c (.sc (.bool true))) (.t 25))⟩,
  ⟨(some 27), none, (.mv (.t 26))⟩,
  ⟨(some 28), (some (27, false)), (.mv (.t 1))⟩,
  ⟨(some 29), (some (27, false)), (.len (.t 28))⟩,
  ⟨(some 30), (some (27, false)), (.bin .gtr (.t 29) (.c (.sc (.int .i64 (512)))))⟩,
  ⟨(some 31), none, (.pick (.t 27) (.c (.sc (.bool true))) (.t 30))⟩] none)
 (.cond (.t 31)
 (.seq (.reg [⟨(some 4), none, (.mv (.c (.sc (.slice none 0 0))))⟩,
  ⟨(some 5), none, (.mv (.c (.sc (.int .i64 (1)))))⟩] none) .ret) .skip))
 (.seq (.reg [⟨(some 6), none, (.mv (.c (.sc (.int .i64 (0)))))⟩] none)
 (.seq (.seq (.reg [⟨(some 7), none, (.mv (.c (.sc (.int .i64 (0)))))⟩] none) (.block 0 
 (.loop ⟨[0, 1, 6, 7], []⟩
 (.seq (.seq (.reg [⟨(some 32), none, (.mv (.t 7))⟩,
  ⟨(some 33), none, (.mv (.t 1))⟩,
  ⟨(some 34), none, (.len (.t 33))⟩,
  ⟨(some 35), none, (.bin .lss (.t 32) (.t 34))⟩] none)
 (.cond (.t 35) .skip (.exit 0)))
 (.seq (.block 1
 (.seq (.seq (.reg [⟨(some 38), none, (.mv (.t 1))⟩,
  ⟨(some 39), none, (.mv (.t 7))⟩,
  ⟨(some 40), none, (.iaddr 1 (.t 38) (.t 39))⟩,
  ⟨(some 41), none, (.load 1 false (.t 40))⟩,
  ⟨(some 42), none, (.bin .lss (.t 41) (.c (.sc (.int .i64 (0)))))⟩,
  ⟨(some 43), none, (.mv (.t 42))⟩,
  ⟨(some 44), (some (43, false)), (.mv (.t 1))⟩,
  ⟨(some 45), (some (43, false)), (.mv (.t 7))⟩,
  ⟨(some 46), (some (43, false)), (.iaddr 1 (.t 44) (.t 45))⟩,
  ⟨(some 47), (some (43, false)), (.load 1 false (.t 46))⟩,
  ⟨(some 48), (some (43, false)), (.bin .gtr (.t 47) (.c (.sc (.int .i64 (1125899906842624)))))⟩,
  ⟨(some 49), none, (.pick (.t 43) (.c (.sc (.bool true))) (.t 48))⟩] none)
 (.cond (.t 49)
 (.seq (.reg [⟨(some 4), none, (.mv (.c (.sc (.slice none 0 0))))⟩,
  ⟨(some 5), none, (.mv (.c (.sc (.int .i64 (1)))))⟩] none) .ret) .skip)) (.reg [⟨(some 50), none, (.mv (.t 6))⟩,
  ⟨(some 51), none, (.mv (.t 1))⟩,
  ⟨(some 52), none, (.mv (.t 7))⟩,
  ⟨(some 53), none, (.iaddr 1 (.t 51) (.t 52))⟩,
  ⟨(some 54), none, (.load 1 false (.t 53))⟩,
  ⟨(some 55), none, (.bin .add (.t 50) (.t 54))⟩,
  ⟨(some 6), none, (.mv (.t 55))⟩] none))) (.reg [⟨(some 36), none, (.mv (.t 7))⟩,
  ⟨(some 37), none, (.bin .add (.t 36) (.c (.sc (.int .i64 (1)))))⟩,
  ⟨(some 7), none, (.mv (.t 37))⟩] none))))))
 (.seq (.seq (.reg [⟨(some 56), none, (.mv (.t 6))⟩,
  ⟨(some 57), none, (.bin .gtr (.t 56) (.c (.sc (.int .i64 (1125899906842624)))))⟩] none)
 (.cond (.t 57)
 (.seq (.reg [⟨(some 4), none, (.mv (.c (.sc (.slice none 0 0))))⟩,
  ⟨(some 5), none, (.mv (.c (.sc (.int .i64 (2)))))⟩] none) .ret) .skip))
 (.seq (.seq (.reg [⟨(some 58), none, (.mv (.t 6))⟩,
  ⟨(some 59), none, (.bin .eql (.t 58) (.c (.sc (.int .i64 (0)))))⟩,
  ⟨(some 60), none, (.mv (.t 59))⟩,
  ⟨(some 61), (some (60, true)), (.mv (.t 0))⟩,
  ⟨(some 62), (some (60, true)), (.bin .gtr (.t 61) (.c (.sc (.int .i64 (0)))))⟩,
  ⟨(some 63), none, (.pick (.t 60) (.t 62) (.c (.sc (.bool false))))⟩] none)
 (.cond (.t 63)
 (.seq (.reg [⟨(some 4), none, (.mv (.c (.sc (.slice none 0 0))))⟩,
  ⟨(some 5), none, (.mv (.c (.sc (.int .i64 (10)))))⟩] none) .ret) .skip))
 (.seq (.seq (.reg [⟨(some 64), none, (.mv (.t 6))⟩,
  ⟨(some 65), none, (.bin .eql (.t 64) (.c (.sc (.int .i64 (0)))))⟩] none)
 (.cond (.t 65)
 (.seq (.reg [⟨(some 66), none, (.mv (.t 1))⟩,
  ⟨(some 67), none, (.len (.t 66))⟩,
  ⟨(some 68), none, (.mk 3 1 8 [(.sc (.int .i64 (0)))] (.t 67) (.t 67))⟩,
  ⟨(some 4), none, (.mv (.t 68))⟩,
  ⟨(some 5), none, (.mv (.c (.sc (.int .i64 (0)))))⟩] none) .ret) .skip))
 (.seq (.reg [⟨(some 8), none, (.mv (.c (.sc (.slice none 0 0))))⟩,
  ⟨(some 9), none, (.mv (.c (.sc (.slice none 0 0))))⟩] none)
 (.seq (.reg [⟨(some 69), none, (.mv (.t 0))⟩,
  ⟨(some 10), none, (.mv (.t 69))⟩] none)
 (.seq (.seq (.reg [⟨(some 11), none, (.mv (.c (.sc (.int .i64 (0)))))⟩] none) (.block 2 
 (.loop ⟨[0, 1, 6, 8, 9, 10, 11], [(8, (3, 1)), (9, (3, 1))]⟩
 (.seq (.seq (.reg [⟨(some 70), none, (.mv (.t 11))⟩,
  ⟨(some 71), none, (.mv (.t 1))⟩,
  ⟨(some 72), none, (.len (.t 71))⟩,
  ⟨(some 73), none, (.bin .lss (.t 70) (.t 72))⟩] none)
 (.cond (.t 73) .skip (.exit 2)))
 (.seq (.block 3
 (.seq (.reg [⟨(some 77), none, (.mv (.t 0))⟩,
  ⟨(some 78), none, (.mv (.t 1))⟩,
  ⟨(some 79), none, (.mv (.t 11))⟩,
  ⟨(some 80), none, (.iaddr 1 (.t 78) (.t 79))⟩,
  ⟨(some 81), none, (.load 1 false (.t 80))⟩,
  ⟨(some 82), none, (.mv (.t 6))⟩,
  ⟨(some 83), none, (.call 44 [(.t 77), (.t 81), (.t 82)])⟩,
  ⟨(some 76), none, (.mv (.t 83))⟩,
  ⟨(some 84), none, (.ext 0 (.t 76))⟩,
  ⟨(some 85), none, (.ext 1 (.t 76))⟩,
  ⟨(some 12), none, (.mv (.t 84))⟩,
  ⟨(some 13), none, (.mv (.t 85))⟩] none)
 (.seq (.reg [⟨(some 86), none, (.mv (.t 8))⟩,
  ⟨(some 87), none, (.mv (.t 12))⟩,
  ⟨(some 88), none, (.bslice 3 1 [(.t 87)])⟩,
  ⟨(some 89), none, (.append 3 1 8 (.t 86) (.t 88))⟩,
  ⟨(some 8), none, (.mv (.t 89))⟩] none)
 (.seq (.reg [⟨(some 90), none, (.mv (.t 9))⟩,
  ⟨(some 91), none, (.mv (.t 13))⟩,
  ⟨(some 92), none, (.bslice 3 1 [(.t 91)])⟩,
  ⟨(some 93), none, (.append 3 1 8 (.t 90) (.t 92))⟩,
  ⟨(some 9), none, (.mv (.t 93))⟩] none) (.reg [⟨(some 94), none, (.mv (.t 10))⟩,
  ⟨(some 95), none, (.mv (.t 12))⟩,
  ⟨(some 96), none, (.bin .sub (.t 94) (.t 95))⟩,
  ⟨(some 10), none, (.mv (.t 96))⟩] none))))) (.reg [⟨(some 74), none, (.mv (.t 11))⟩,
  ⟨(some 75), none, (.bin .add (.t 74) (.c (.sc (.int .i64 (1)))))⟩,
  ⟨(some 11), none, (.mv (.t 75))⟩] none))))))
 (.seq (.block 4 
 (.loop ⟨[8, 9, 10], []⟩
 (.seq (.seq (.reg [⟨(some 97), none, (.mv (.t 10))⟩,
  ⟨(some 98), none, (.bin .gtr (.t 97) (.c (.sc (.int .i64 (0)))))⟩] none)
 (.cond (.t 98) .skip (.exit 4)))
 (.seq (.block 5
 (.seq (.reg [⟨(some 14), none, (.mv (.c (.sc (.int .i64 (0)))))⟩] none)
 (.seq (.seq (.reg [⟨(some 15), none, (.mv (.c (.sc (.int .i64 (1)))))⟩] none) (.block 6 
 (.loop ⟨[8, 9, 10, 14, 15], []⟩
 (.seq (.seq (.reg [⟨(some 101), none, (.mv (.t 15))⟩,
  ⟨(some 102), none, (.mv (.t 9))⟩,
  ⟨(some 103), none, (.len (.t 102))⟩,
  ⟨(some 104), none, (.bin .lss (.t 101) (.t 103))⟩] none)
 (.cond (.t 104) .skip (.exit 6)))
 (.seq (.block 7
 (.seq (.reg [⟨(some 107), none, (.mv (.t 9))⟩,
  ⟨(some 108), none, (.mv (.t 15))⟩,
  ⟨(some 109), none, (.iaddr 1 (.t 107) (.t 108))⟩,
  ⟨(some 110), none, (.load 1 false (.t 109))⟩,
  ⟨(some 111), none, (.mv (.t 9))⟩,
  ⟨(some 112), none, (.mv (.t 14))⟩,
  ⟨(some 113), none, (.iaddr 1 (.t 111) (.t 112))⟩,
  ⟨(some 114), none, (.load 1 false (.t 113))⟩,
  ⟨(some 115), none, (.bin .gtr (.t 110) (.t 114))⟩] (some [[], [], [0, 1], [2, 0, 1], [], [], [4, 5], [6, 4, 5], [3, 7, 2, 0, 1, 6, 4, 5]]))
 (.cond (.t 115) (.reg [⟨(some 116), none, (.mv (.t 15))⟩,
  ⟨(some 14), none, (.mv (.t 116))⟩] none) .skip))) (.reg [⟨(some 105), none, (.mv (.t 15))⟩,
  ⟨(some 106), none, (.bin .add (.t 105) (.c (.sc (.int .i64 (1)))))⟩,
  ⟨(some 15), none, (.mv (.t 106))⟩] none))))))
 (.seq (.reg [⟨(some 117), none, (.mv (.t 8))⟩,
  ⟨(some 118), none, (.mv (.t 14))⟩,
  ⟨(some 119), none, (.mv (.t 8))⟩,
  ⟨(some 120), none, (.mv (.t 14))⟩,
  ⟨(some 121), none, (.iaddr 1 (.t 119) (.t 120))⟩,
  ⟨(some 122), none, (.load 1 false (.t 121))⟩,
  ⟨(some 123), none, (.bin .add (.t 122) (.c (.sc (.int .i64 (1)))))⟩,
  ⟨(some 124), none, (.iaddr 1 (.t 117) (.t 118))⟩,
  ⟨none, none, (.store 1 (.t 124) (.t 123))⟩] none) (.reg [⟨(some 125), none, (.mv (.t 9))⟩,
  ⟨(some 126), none, (.mv (.t 14))⟩,
  ⟨(some 127), none, (.iaddr 1 (.t 125) (.t 126))⟩,
  ⟨none, none, (.store 1 (.t 127) (.c (.sc (.int .i64 (-1)))))⟩] none))))) (.reg [⟨(some 99), none, (.mv (.t 10))⟩,
  ⟨(some 100), none, (.bin .sub (.t 99) (.c (.sc (.int .i64 (1)))))⟩,
  ⟨(some 10), none, (.mv (.t 100))⟩] none)))))
 (.seq (.reg [⟨(some 128), none, (.mv (.t 8))⟩,
  ⟨(some 4), none, (.mv (.t 128))⟩,
  ⟨(some 5), none, (.mv (.c (.sc (.int .i64 (0)))))⟩] none) .ret))))))))))))
theorem good32 {args : List PV} {r : PV} (hl : args.length ≤ 129) (h : Run Try.prog [.code ac32] (endQ [(.t 4), (.t 5)] r) ⟨initT 0 args, [], 0, 129⟩) : Good Try.prog 32 args r :=
  good_run (by kernel_rfl) Jamix Try.func32 rfl (hs := [⟨[0, 1, 6, 7], []⟩, ⟨[0, 1, 6, 8, 9, 10, 11], [(8, 3, 1), (9, 3, 1)]⟩, ⟨[8, 9, 10], []⟩, ⟨[8, 9, 10, 14, 15], []⟩]) (hs' := []) (by kernel_rfl) hl h
def ac33 : ACode :=
 (.seq (.reg [⟨(some 2), none, (.new [(.sc (.int .i64 (0))), (.sc (.int .i64 (0)))])⟩] none)
 (.seq (.reg [⟨(some 3), none, (.mv (.t 0))⟩,
  ⟨(some 4), none, (.mv (.t 0))⟩,
  ⟨(some 5), none, (.build [(.sc (.int .i64 (0))), (.sc (.int .i64 (0)))] [(0, (1, (.t 3))), (1, (1, (.t 4)))])⟩,
  ⟨none, none, (.store 2 (.t 2) (.t 5))⟩] none) .ret))
theorem good33 {args : List PV} {r : PV} (hl : args.length ≤ 6) (h : Run Try.prog [.code ac33] (endQ [(.c 2 2 true)] r) ⟨initT 0 args, [], 0, 6⟩) : Good Try.prog 33 args r :=
  good_run (by kernel_rfl) Jamix Try.func33 rfl (hs := []) (hs' := []) (by kernel_rfl) hl h
def ac37 : ACode :=
 (.seq (.reg [⟨(some 6), none, (.mv (.c (.sc (.bool false))))⟩] none)
 (.seq (.reg [⟨(some 7), none, (.mv (.t 1))⟩,
  ⟨(some 8), none, (.mv (.t 0))⟩,
  ⟨(some 9), none, (.bin .leq (.t 7) (.t 8))⟩,
  ⟨(some 10), none, (.mv (.t 9))⟩,
  ⟨(some 11), (some (10, true)), (.mv (.t 0))⟩,
  ⟨(some 12), (some (10, true)), (.mv (.t 2))⟩,
  ⟨(some 13), (some (10, true)), (.bin .leq (.t 11) (.t 12))⟩,
  ⟨(some 14), none, (.pick (.t 10) (.t 13) (.c (.sc (.bool false))))⟩,
  ⟨(some 6), none, (.mv (.t 14))⟩] none) .ret))
theorem good37 {args : List PV} {r : PV} (hl : args.length ≤ 15) (h : Run Try.prog [.code ac37] (endQ [(.t 6)] r) ⟨initT 0 args, [], 0, 15⟩) : Good Try.prog 37 args r :=
  good_run (by kernel_rfl) Jamix Try.func37 rfl (hs := []) (hs' := []) (by kernel_rfl) hl h
def ac38 : ACode :=
 (.seq (.reg [⟨(some 6), none, (.mv (.c (.sc (.int .i64 (0)))))⟩,
  ⟨(some 7), none, (.mv (.c (.sc (.int .i64 (0)))))⟩] none)
 (.seq (.reg [⟨(some 13), none, (.mv (.t 0))⟩,
  ⟨(some 14), none, (.conv .u64 (.t 13))⟩,
  ⟨(some 15), none, (.mv (.t 1))⟩,
  ⟨(some 16), none, (.conv .u64 (.t 15))⟩,
  ⟨(some 17), none, (.call 46 [(.t 14), (.t 16)])⟩,
  ⟨(some 12), none, (.mv (.t 17))⟩,
  ⟨(some 18), none, (.ext 0 (.t 12))⟩,
  ⟨(some 19), none, (.ext 1 (.t 12))⟩,
  ⟨(some 8), none, (.mv (.t 18))⟩,
  ⟨(some 9), none, (.mv (.t 19))⟩] none)
 (.seq (.reg [⟨(some 21), none, (.mv (.t 8))⟩,
  ⟨(some 22), none, (.mv (.t 9))⟩,
  ⟨(some 23), none, (.mv (.t 2))⟩,
  ⟨(some 24), none, (.conv .u64 (.t 23))⟩,
  ⟨(some 25), none, (.call 47 [(.t 21), (.t 22), (.t 24)])⟩,
  ⟨(some 20), none, (.mv (.t 25))⟩,
  ⟨(some 26), none, (.ext 0 (.t 20))⟩,
  ⟨(some 27), none, (.ext 1 (.t 20))⟩,
  ⟨(some 10), none, (.mv (.t 26))⟩,
  ⟨(some 11), none, (.mv (.t 27))⟩] none)
 (.seq (.reg [⟨(some 28), none, (.mv (.t 10))⟩,
  ⟨(some 29), none, (.conv .i64 (.t 28))⟩,
  ⟨(some 30), none, (.mv (.t 11))⟩,
  ⟨(some 31), none, (.conv .i64 (.t 30))⟩,
  ⟨(some 6), none, (.mv (.t 29))⟩,
  ⟨(some 7), none, (.mv (.t 31))⟩] none) .ret))))
theorem good38 {args : List PV} {r : PV} (hl : args.length ≤ 32) (h : Run Try.prog [.code ac38] (endQ [(.t 6), (.t 7)] r) ⟨initT 0 args, [], 0, 32⟩) : Good Try.prog 38 args r :=
  good_run (by kernel_rfl) Jamix Try.func38 rfl (hs := []) (hs' := []) (by kernel_rfl) hl h
def ac39 : ACode :=
 (.reg [⟨(some 4), none, (.mv (.t 0))⟩,
  ⟨(some 5), none, (.mv (.t 0))⟩,
  ⟨(some 6), none, (.len (.t 5))⟩,
  ⟨(some 7), none, (.mv (.t 1))⟩,
  ⟨(some 8), none, (.call 48 [(.t 4), (.t 6), (.t 7)])⟩] none)
theorem good39 {args : List PV} {r : PV} (hl : args.length ≤ 9) (h : Run Try.prog [.code ac39] (endQ [] r) ⟨initT 0 args, [], 0, 9⟩) : Good Try.prog 39 args r :=
  good_run (by kernel_rfl) Jamix Try.func39 rfl (hs := []) (hs' := []) (by kernel_rfl) hl h
theorem goodM39 {pre post : List PV} {e : TypeId} {sz : Nat} {es es2 : List PV} {r : PV} (hl : pre.length + 1 + post.length ≤ 9) (hfr : flatR r = true) (hfe : (flatL es2).all PV.isSc = true) (h : Run Try.prog [.code ac39] (endM [] r e sz es2) ⟨initT 0 (pre ++ .own 0 0 :: post), [(0, .row e sz 0 es)], 1, 9⟩) : GoodM Try.prog 39 pre post e sz es r es2 :=
  goodM_run (by kernel_rfl) Jamix Try.func39 rfl (hs := []) (hs' := []) (by kernel_rfl) hl hfr hfe h
def ac40 : ACode :=
 (.seq (.reg [⟨(some 5), none, (.mv (.c (.sc (.int .i64 (0)))))⟩] none)
 (.seq (.reg [⟨(some 6), none, (.load 1 false (.t 2))⟩,
  ⟨(some 7), none, (.mv (.t 1))⟩,
  ⟨(some 8), none, (.iaddr 1 (.t 6) (.t 7))⟩,
  ⟨(some 9), none, (.load 1 false (.t 8))⟩,
  ⟨(some 10), none, (.load 1 false (.t 2))⟩,
  ⟨(some 11), none, (.mv (.t 0))⟩,
  ⟨(some 12), none, (.iaddr 1 (.t 10) (.t 11))⟩,
  ⟨(some 13), none, (.load 1 false (.t 12))⟩,
  ⟨(some 14), none, (.bin .sub (.t 9) (.t 13))⟩,
  ⟨(some 5), none, (.mv (.t 14))⟩] (some [[], [], [0, 1], [2, 0, 1], [], [], [4, 5], [6, 4, 5], [3, 7, 2, 0, 1, 6, 4, 5], [8, 0, 1, 2, 3, 4, 5, 6, 7]])) .ret))
theorem good40 {args : List PV} {r : PV} (hl : args.length ≤ 15) (h : Run Try.prog [.code ac40] (endQ [(.t 5)] r) ⟨initT 0 args, [], 0, 15⟩) : Good Try.prog 40 args r :=
  good_run (by kernel_rfl) Jamix Try.func40 rfl (hs := []) (hs' := []) (by kernel_rfl) hl h
def ac44 : ACode :=
 (.seq (.reg [⟨(some 6), none, (.mv (.c (.sc (.int .i64 (0)))))⟩,
  ⟨(some 7), none, (.mv (.c (.sc (.int .i64 (0)))))⟩] none)
 (.seq (.reg [⟨(some 8), none, (.mv (.c (.sc (.int .i64 (0)))))⟩,
  ⟨(some 9), none, (.mv (.c (.sc (.int .i64 (0)))))⟩] none)
 (.seq (.seq (.reg [⟨(some 10), none, (.mv (.c (.sc (.int .i64 (1125899906842624)))))⟩] none) (.block 0 
 (.loop ⟨[0, 1, 2, 8, 9, 10], []⟩
 (.seq (.seq (.reg [⟨(some 11), none, (.mv (.t 10))⟩,
  ⟨(some 12), none, (.bin .gtr (.t 11) (.c (.sc (.int .i64 (0)))))⟩] none)
 (.cond (.t 12) .skip (.exit 0)))
 (.seq (.block 1
 (.seq (.reg [⟨(some 15), none, (.mv (.t 8))⟩,
  ⟨(some 16), none, (.bin .mul (.c (.sc (.int .i64 (2)))) (.t 15))⟩,
  ⟨(some 17), none, (.mv (.t 9))⟩,
  ⟨(some 18), none, (.bin .mul (.c (.sc (.int .i64 (2)))) (.t 17))⟩,
  ⟨(some 8), none, (.mv (.t 16))⟩,
  ⟨(some 9), none, (.mv (.t 18))⟩] none)
 (.seq (.seq (.reg [⟨(some 19), none, (.mv (.t 0))⟩,
  ⟨(some 20), none, (.mv (.t 10))⟩,
  ⟨(some 21), none, (.bin .quo (.t 19) (.t 20))⟩,
  ⟨(some 22), none, (.bin .rem (.t 21) (.c (.sc (.int .i64 (2)))))⟩,
  ⟨(some 23), none, (.bin .eql (.t 22) (.c (.sc (.int .i64 (1)))))⟩] none)
 (.cond (.t 23) (.reg [⟨(some 24), none, (.mv (.t 8))⟩,
  ⟨(some 25), none, (.mv (.t 1))⟩,
  ⟨(some 26), none, (.mv (.t 2))⟩,
  ⟨(some 27), none, (.bin .quo (.t 25) (.t 26))⟩,
  ⟨(some 28), none, (.bin .add (.t 24) (.t 27))⟩,
  ⟨(some 29), none, (.mv (.t 9))⟩,
  ⟨(some 30), none, (.mv (.t 1))⟩,
  ⟨(some 31), none, (.mv (.t 2))⟩,
  ⟨(some 32), none, (.bin .rem (.t 30) (.t 31))⟩,
  ⟨(some 33), none, (.bin .add (.t 29) (.t 32))⟩,
  ⟨(some 8), none, (.mv (.t 28))⟩,
  ⟨(some 9), none, (.mv (.t 33))⟩] (some [[], [], [], [1, 2], [0, 3, 1, 2], [], [], [], [6, 7], [5, 8, 6, 7], [4, 0, 1, 2, 3], [9, 10, 0, 1, 2, 3, 4, 5, 6, 7, 8]])) .skip)) (.reg [⟨(some 34), none, (.mv (.t 8))⟩,
  ⟨(some 35), none, (.mv (.t 9))⟩,
  ⟨(some 36), none, (.mv (.t 2))⟩,
  ⟨(some 37), none, (.bin .quo (.t 35) (.t 36))⟩,
  ⟨(some 38), none, (.bin .add (.t 34) (.t 37))⟩,
  ⟨(some 39), none, (.mn (.t 38) (.c (.sc (.int .i64 (1125899906842625)))))⟩,
  ⟨(some 40), none, (.mv (.t 9))⟩,
  ⟨(some 41), none, (.mv (.t 2))⟩,
  ⟨(some 42), none, (.bin .rem (.t 40) (.t 41))⟩,
  ⟨(some 8), none, (.mv (.t 39))⟩,
  ⟨(some 9), none, (.mv (.t 42))⟩] (some [[], [], [], [1, 2], [0, 3, 1, 2], [4, 0, 3, 1, 2], [], [], [6, 7], [5, 0, 1, 2, 3, 4], [8, 9, 0, 1, 2, 3, 4, 5, 6, 7]]))))) (.reg [⟨(some 13), none, (.mv (.t 10))⟩,
  ⟨(some 14), none, (.bin .quo (.t 13) (.c (.sc (.int .i64 (2)))))⟩,
  ⟨(some 10), none, (.mv (.t 14))⟩] none))))))
 (.seq (.reg [⟨(some 43), none, (.mv (.t 8))⟩,
  ⟨(some 44), none, (.mv (.t 9))⟩,
  ⟨(some 6), none, (.mv (.t 43))⟩,
  ⟨(some 7), none, (.mv (.t 44))⟩] none) .ret))))
theorem good44 {args : List PV} {r : PV} (hl : args.length ≤ 45) (h : Run Try.prog [.code ac44] (endQ [(.t 6), (.t 7)] r) ⟨initT 0 args, [], 0, 45⟩) : Good Try.prog 44 args r :=
  good_run (by kernel_rfl) Jamix Try.func44 rfl (hs := [⟨[0, 1, 2, 8, 9, 10], []⟩]) (hs' := []) (by kernel_rfl) hl h
def ac47 : ACode :=
 (.seq (.reg [⟨(some 6), none, (.mv (.c (.sc (.int .u64 (0)))))⟩,
  ⟨(some 7), none, (.mv (.c (.sc (.int .u64 (0)))))⟩] none)
 (.seq (.seq (.reg [⟨(some 19), none, (.mv (.t 2))⟩,
  ⟨(some 20), none, (.bin .eql (.t 19) (.c (.sc (.int .u64 (0)))))⟩] none)
 (.cond (.t 20) .dead .skip))
 (.seq (.seq (.reg [⟨(some 22), none, (.mv (.t 2))⟩,
  ⟨(some 23), none, (.mv (.t 0))⟩,
  ⟨(some 24), none, (.bin .leq (.t 22) (.t 23))⟩] none)
 (.cond (.t 24) .dead .skip))
 (.seq (.seq (.reg [⟨(some 26), none, (.mv (.t 0))⟩,
  ⟨(some 27), none, (.bin .eql (.t 26) (.c (.sc (.int .u64 (0)))))⟩] none)
 (.cond (.t 27)
 (.seq (.reg [⟨(some 28), none, (.mv (.t 1))⟩,
  ⟨(some 29), none, (.mv (.t 2))⟩,
  ⟨(some 30), none, (.bin .quo (.t 28) (.t 29))⟩,
  ⟨(some 31), none, (.mv (.t 1))⟩,
  ⟨(some 32), none, (.mv (.t 2))⟩,
  ⟨(some 33), none, (.bin .rem (.t 31) (.t 32))⟩,
  ⟨(some 6), none, (.mv (.t 30))⟩,
  ⟨(some 7), none, (.mv (.t 33))⟩] (some [[], [], [0, 1], [], [], [3, 4], [2, 0, 1], [5, 6, 0, 1, 2, 3, 4]])) .ret) .skip))
 (.seq (.reg [⟨(some 34), none, (.mv (.t 2))⟩,
  ⟨(some 35), none, (.call 51 [(.t 34)])⟩,
  ⟨(some 36), none, (.conv .u64 (.t 35))⟩,
  ⟨(some 8), none, (.mv (.t 36))⟩] none)
 (.seq (.reg [⟨(some 37), none, (.mv (.t 2))⟩,
  ⟨(some 38), none, (.mv (.t 8))⟩,
  ⟨(some 39), none, (.bin .shl (.t 37) (.t 38))⟩,
  ⟨(some 2), none, (.mv (.t 39))⟩] none)
 (.seq (.reg [⟨(some 40), none, (.mv (.t 2))⟩,
  ⟨(some 41), none, (.bin .shr (.t 40) (.c (.sc (.int .u64 (32)))))⟩,
  ⟨(some 9), none, (.mv (.t 41))⟩] none)
 (.seq (.reg [⟨(some 42), none, (.mv (.t 2))⟩,
  ⟨(some 43), none, (.bin .and (.t 42) (.c (.sc (.int .u64 (4294967295)))))⟩,
  ⟨(some 10), none, (.mv (.t 43))⟩] none)
 (.seq (.reg [⟨(some 44), none, (.mv (.t 0))⟩,
  ⟨(some 45), none, (.mv (.t 8))⟩,
  ⟨(some 46), none, (.bin .shl (.t 44) (.t 45))⟩,
  ⟨(some 47), none, (.mv (.t 1))⟩,
  ⟨(some 48), none, (.mv (.t 8))⟩,
  ⟨(some 49), none, (.bin .sub (.c (.sc (.int .u64 (64)))) (.t 48))⟩,
  ⟨(some 50), none, (.bin .shr (.t 47) (.t 49))⟩,
  ⟨(some 51), none, (.bin .or (.t 46) (.t 50))⟩,
  ⟨(some 11), none, (.mv (.t 51))⟩] none)
 (.seq (.reg [⟨(some 52), none, (.mv (.t 1))⟩,
  ⟨(some 53), none, (.mv (.t 8))⟩,
  ⟨(some 54), none, (.bin .shl (.t 52) (.t 53))⟩,
  ⟨(some 12), none, (.mv (.t 54))⟩] none)
 (.seq (.reg [⟨(some 55), none, (.mv (.t 12))⟩,
  ⟨(some 56), none, (.bin .shr (.t 55) (.c (.sc (.int .u64 (32)))))⟩,
  ⟨(some 13), none, (.mv (.t 56))⟩] none)
 (.seq (.reg [⟨(some 57), none, (.mv (.t 12))⟩,
  ⟨(some 58), none, (.bin .and (.t 57) (.c (.sc (.int .u64 (4294967295)))))⟩,
  ⟨(some 14), none, (.mv (.t 58))⟩] none)
 (.seq (.reg [⟨(some 59), none, (.mv (.t 11))⟩,
  ⟨(some 60), none, (.mv (.t 9))⟩,
  ⟨(some 61), none, (.bin .quo (.t 59) (.t 60))⟩,
  ⟨(some 15), none, (.mv (.t 61))⟩] none)
 (.seq (.reg [⟨(some 62), none, (.mv (.t 11))⟩,
  ⟨(some 63), none, (.mv (.t 15))⟩,
  ⟨(some 64), none, (.mv (.t 9))⟩,
  ⟨(some 65), none, (.bin .mul (.t 63) (.t 64))⟩,
  ⟨(some 66), none, (.bin .sub (.t 62) (.t 65))⟩,
  ⟨(some 16), none, (.mv (.t 66))⟩] none)
 (.seq (.block 0 
 (.loop ⟨[2, 8, 9, 10, 11, 13, 14, 15, 16], []⟩
 (.seq (.seq (.reg [⟨(some 67), none, (.mv (.t 15))⟩,
  ⟨(some 68), none, (.bin .geq (.t 67) (.c (.sc (.int .u64 (4294967296)))))⟩,
  ⟨(some 69), none, (.mv (.t 68))⟩,
  ⟨(some 70), (some (69, false)), (.mv (.t 15))⟩,
  ⟨(some 71), (some (69, false)), (.mv (.t 10))⟩,
  ⟨(some 72), (some (69, false)), (.bin .mul (.t 70) (.t 71))⟩,
  ⟨(some 73), (some (69, false)), (.mv (.t 16))⟩,
  ⟨(some 74), (some (69, false)), (.bin .mul (.c (.sc (.int .u64 (4294967296)))) (.t 73))⟩,
  ⟨(some 75), (some (69, false)), (.mv (.t 13))⟩,
  ⟨(some 76), (some (69, false)), (.bin .add (.t 74) (.t 75))⟩,
  ⟨(some 77), (some (69, false)), (.bin .gtr (.t 72) (.t 76))⟩,
  ⟨(some 78), none, (.pick (.t 69) (.c (.sc (.bool true))) (.t 77))⟩] none)
 (.cond (.t 78) .skip (.exit 0))) (.block 1
 (.seq (.reg [⟨(some 79), none, (.mv (.t 15))⟩,
  ⟨(some 80), none, (.bin .sub (.t 79) (.c (.sc (.int .u64 (1)))))⟩,
  ⟨(some 15), none, (.mv (.t 80))⟩] none)
 (.seq (.reg [⟨(some 81), none, (.mv (.t 16))⟩,
  ⟨(some 82), none, (.mv (.t 9))⟩,
  ⟨(some 83), none, (.bin .add (.t 81) (.t 82))⟩,
  ⟨(some 16), none, (.mv (.t 83))⟩] none)
 (.seq (.reg [⟨(some 84), none, (.mv (.t 16))⟩,
  ⟨(some 85), none, (.bin .geq (.t 84) (.c (.sc (.int .u64 (4294967296)))))⟩] none)
 (.cond (.t 85) (.exit 0) .skip))))))))
 (.seq (.reg [⟨(some 86), none, (.mv (.t 11))⟩,
  ⟨(some 87), none, (.bin .mul (.t 86) (.c (.sc (.int .u64 (4294967296)))))⟩,
  ⟨(some 88), none, (.mv (.t 13))⟩,
  ⟨(some 89), none, (.bin .add (.t 87) (.t 88))⟩,
  ⟨(some 90), none, (.mv (.t 15))⟩,
  ⟨(some 91), none, (.mv (.t 2))⟩,
  ⟨(some 92), none, (.bin .mul (.t 90) (.t 91))⟩,
  ⟨(some 93), none, (.bin .sub (.t 89) (.t 92))⟩,
  ⟨(some 17), none, (.mv (.t 93))⟩] none)
 (.seq (.reg [⟨(some 94), none, (.mv (.t 17))⟩,
  ⟨(some 95), none, (.mv (.t 9))⟩,
  ⟨(some 96), none, (.bin .quo (.t 94) (.t 95))⟩,
  ⟨(some 18), none, (.mv (.t 96))⟩] none)
 (.seq (.reg [⟨(some 97), none, (.mv (.t 17))⟩,
  ⟨(some 98), none, (.mv (.t 18))⟩,
  ⟨(some 99), none, (.mv (.t 9))⟩,
  ⟨(some 100), none, (.bin .mul (.t 98) (.t 99))⟩,
  ⟨(some 101), none, (.bin .sub (.t 97) (.t 100))⟩,
  ⟨(some 16), none, (.mv (.t 101))⟩] none)
 (.seq (.block 2 
 (.loop ⟨[2, 8, 9, 10, 14, 15, 16, 17, 18], []⟩
 (.seq (.seq (.reg [⟨(some 102), none, (.mv (.t 18))⟩,
  ⟨(some 103), none, (.bin .geq (.t 102) (.c (.sc (.int .u64 (4294967296)))))⟩,
  ⟨(some 104), none, (.mv (.t 103))⟩,
  ⟨(some 105), (some (104, false)), (.mv (.t 18))⟩,
  ⟨(some 106), (some (104, false)), (.mv (.t 10))⟩,
  ⟨(some 107), (some (104, false)), (.bin .mul (.t 105) (.t 106))⟩,
  ⟨(some 108), (some (104, false)), (.mv (.t 16))⟩,
  ⟨(some 109), (some (104, false)), (.bin .mul (.c (.sc (.int .u64 (4294967296)))) (.t 108))⟩,
  ⟨(some 110), (some (104, false)), (.mv (.t 14))⟩,
  ⟨(some 111), (some (104, false)), (.bin .add (.t 109) (.t 110))⟩,
  ⟨(some 112), (some (104, false)), (.bin .gtr (.t 107) (.t 111))⟩,
  ⟨(some 113), none, (.pick (.t 104) (.c (.sc (.bool true))) (.t 112))⟩] none)
 (.cond (.t 113) .skip (.exit 2))) (.block 3
 (.seq (.reg [⟨(some 114), none, (.mv (.t 18))⟩,
  ⟨(some 115), none, (.bin .sub (.t 114) (.c (.sc (.int .u64 (1)))))⟩,
  ⟨(some 18), none, (.mv (.t 115))⟩] none)
 (.seq (.reg [⟨(some 116), none, (.mv (.t 16))⟩,
  ⟨(some 117), none, (.mv (.t 9))⟩,
  ⟨(some 118), none, (.bin .add (.t 116) (.t 117))⟩,
  ⟨(some 16), none, (.mv (.t 118))⟩] none)
 (.seq (.reg [⟨(some 119), none, (.mv (.t 16))⟩,
  ⟨(some 120), none, (.bin .geq (.t 119) (.c (.sc (.int .u64 (4294967296)))))⟩] none)
 (.cond (.t 120) (.exit 2) .skip))))))))
 (.seq (.reg [⟨(some 121), none, (.mv (.t 15))⟩,
  ⟨(some 122), none, (.bin .mul (.t 121) (.c (.sc (.int .u64 (4294967296)))))⟩,
  ⟨(some 123), none, (.mv (.t 18))⟩,
  ⟨(some 124), none, (.bin .add (.t 122) (.t 123))⟩,
  ⟨(some 125), none, (.mv (.t 17))⟩,
  ⟨(some 126), none, (.bin .mul (.t 125) (.c (.sc (.int .u64 (4294967296)))))⟩,
  ⟨(some 127), none, (.mv (.t 14))⟩,
  ⟨(some 128), none, (.bin .add (.t 126) (.t 127))⟩,
  ⟨(some 129), none, (.mv (.t 18))⟩,
  ⟨(some 130), none, (.mv (.t 2))⟩,
  ⟨(some 131), none, (.bin .mul (.t 129) (.t 130))⟩,
  ⟨(some 132), none, (.bin .sub (.t 128) (.t 131))⟩,
  ⟨(some 133), none, (.mv (.t 8))⟩,
  ⟨(some 134), none, (.bin .shr (.t 132) (.t 133))⟩,
  ⟨(some 6), none, (.mv (.t 124))⟩,
  ⟨(some 7), none, (.mv (.t 134))⟩] none) .ret))))))))))))))))))))
theorem good47 {args : List PV} {r : PV} (hl : args.length ≤ 135) (h : Run Try.prog [.code ac47] (endQ [(.t 6), (.t 7)] r) ⟨initT 0 args, [], 0, 135⟩) : Good Try.prog 47 args r :=
  good_run (by kernel_rfl) Jamix Try.func47 rfl (hs := [⟨[2, 8, 9, 10, 11, 13, 14, 15, 16], []⟩, ⟨[2, 8, 9, 10, 14, 15, 16, 17, 18], []⟩]) (hs' := []) (by kernel_rfl) hl h
def ac48 : ACode :=
 (.seq (.reg [⟨(some 6), none, (.mv (.c (.sc (.int .i64 (20)))))⟩] none)
 (.seq (.reg [⟨(some 10), none, (.mv (.t 6))⟩,
  ⟨(some 7), none, (.mv (.c (.sc (.int .i64 (0)))))⟩,
  ⟨(some 8), none, (.mv (.t 10))⟩] none)
 (.seq (.block 0 
 (.loop ⟨[0, 1, 2, 6, 7, 8], []⟩
 (.seq (.seq (.reg [⟨(some 11), none, (.mv (.t 8))⟩,
  ⟨(some 12), none, (.mv (.t 1))⟩,
  ⟨(some 13), none, (.bin .leq (.t 11) (.t 12))⟩] none)
 (.cond (.t 13) .skip (.exit 0))) (.block 1
 (.seq (.reg [⟨(some 14), none, (.mv (.t 0))⟩,
  ⟨(some 15), none, (.mv (.t 7))⟩,
  ⟨(some 16), none, (.mv (.t 8))⟩,
  ⟨(some 17), none, (.mv (.t 2))⟩,
  ⟨(some 18), none, (.call 52 [(.t 14), (.t 15), (.t 16), (.t 17)])⟩] none)
 (.seq (.reg [⟨(some 19), none, (.mv (.t 8))⟩,
  ⟨(some 7), none, (.mv (.t 19))⟩] none) (.reg [⟨(some 20), none, (.mv (.t 8))⟩,
  ⟨(some 21), none, (.mv (.t 6))⟩,
  ⟨(some 22), none, (.bin .add (.t 20) (.t 21))⟩,
  ⟨(some 8), none, (.mv (.t 22))⟩] none)))))))
 (.seq (.reg [⟨(some 23), none, (.mv (.t 0))⟩,
  ⟨(some 24), none, (.mv (.t 7))⟩,
  ⟨(some 25), none, (.mv (.t 1))⟩,
  ⟨(some 26), none, (.mv (.t 2))⟩,
  ⟨(some 27), none, (.call 52 [(.t 23), (.t 24), (.t 25), (.t 26)])⟩] none) (.block 2 
 (.loop ⟨[0, 1, 2, 6], []⟩
 (.seq (.seq (.reg [⟨(some 28), none, (.mv (.t 6))⟩,
  ⟨(some 29), none, (.mv (.t 1))⟩,
  ⟨(some 30), none, (.bin .lss (.t 28) (.t 29))⟩] none)
 (.cond (.t 30) .skip (.exit 2))) (.block 3
 (.seq (.reg [⟨(some 31), none, (.mv (.t 6))⟩,
  ⟨(some 32), none, (.bin .mul (.c (.sc (.int .i64 (2)))) (.t 31))⟩,
  ⟨(some 7), none, (.mv (.c (.sc (.int .i64 (0)))))⟩,
  ⟨(some 8), none, (.mv (.t 32))⟩] none)
 (.seq (.block 4 
 (.loop ⟨[0, 1, 2, 6, 7, 8], []⟩
 (.seq (.seq (.reg [⟨(some 33), none, (.mv (.t 8))⟩,
  ⟨(some 34), none, (.mv (.t 1))⟩,
  ⟨(some 35), none, (.bin .leq (.t 33) (.t 34))⟩] none)
 (.cond (.t 35) .skip (.exit 4))) (.block 5
 (.seq (.reg [⟨(some 36), none, (.mv (.t 0))⟩,
  ⟨(some 37), none, (.mv (.t 7))⟩,
  ⟨(some 38), none, (.mv (.t 7))⟩,
  ⟨(some 39), none, (.mv (.t 6))⟩,
  ⟨(some 40), none, (.bin .add (.t 38) (.t 39))⟩,
  ⟨(some 41), none, (.mv (.t 8))⟩,
  ⟨(some 42), none, (.mv (.t 2))⟩,
  ⟨(some 43), none, (.call 53 [(.t 36), (.t 37), (.t 40), (.t 41), (.t 42)])⟩] none)
 (.seq (.reg [⟨(some 44), none, (.mv (.t 8))⟩,
  ⟨(some 7), none, (.mv (.t 44))⟩] none) (.reg [⟨(some 45), none, (.mv (.t 8))⟩,
  ⟨(some 46), none, (.mv (.t 6))⟩,
  ⟨(some 47), none, (.bin .mul (.c (.sc (.int .i64 (2)))) (.t 46))⟩,
  ⟨(some 48), none, (.bin .add (.t 45) (.t 47))⟩,
  ⟨(some 8), none, (.mv (.t 48))⟩] none)))))))
 (.seq (.seq (.reg [⟨(some 49), none, (.mv (.t 7))⟩,
  ⟨(some 50), none, (.mv (.t 6))⟩,
  ⟨(some 51), none, (.bin .add (.t 49) (.t 50))⟩,
  ⟨(some 9), none, (.mv (.t 51))⟩] none)
 (.seq (.reg [⟨(some 52), none, (.mv (.t 9))⟩,
  ⟨(some 53), none, (.mv (.t 1))⟩,
  ⟨(some 54), none, (.bin .lss (.t 52) (.t 53))⟩] none)
 (.cond (.t 54) (.reg [⟨(some 55), none, (.mv (.t 0))⟩,
  ⟨(some 56), none, (.mv (.t 7))⟩,
  ⟨(some 57), none, (.mv (.t 9))⟩,
  ⟨(some 58), none, (.mv (.t 1))⟩,
  ⟨(some 59), none, (.mv (.t 2))⟩,
  ⟨(some 60), none, (.call 53 [(.t 55), (.t 56), (.t 57), (.t 58), (.t 59)])⟩] none) .skip))) (.reg [⟨(some 61), none, (.mv (.t 6))⟩,
  ⟨(some 62), none, (.bin .mul (.t 61) (.c (.sc (.int .i64 (2)))))⟩,
  ⟨(some 6), none, (.mv (.t 62))⟩] none))))))))))))
theorem good48 {args : List PV} {r : PV} (hl : args.length ≤ 63) (h : Run Try.prog [.code ac48] (endQ [] r) ⟨initT 0 args, [], 0, 63⟩) : Good Try.prog 48 args r :=
  good_run (by kernel_rfl) Jamix Try.func48 rfl (hs := [⟨[0, 1, 2, 6, 7, 8], []⟩, ⟨[0, 1, 2, 6], []⟩, ⟨[0, 1, 2, 6, 7, 8], []⟩]) (hs' := []) (by kernel_rfl) hl h
theorem goodM48 {pre post : List PV} {e : TypeId} {sz : Nat} {es es2 : List PV} {r : PV} (hl : pre.length + 1 + post.length ≤ 63) (hfr : flatR r = true) (hfe : (flatL es2).all PV.isSc = true) (h : Run Try.prog [.code ac48] (endM [] r e sz es2) ⟨initT 0 (pre ++ .own 0 0 :: post), [(0, .row e sz 0 es)], 1, 63⟩) : GoodM Try.prog 48 pre post e sz es r es2 :=
  goodM_run (by kernel_rfl) Jamix Try.func48 rfl (hs := [⟨[0, 1, 2, 6, 7, 8], []⟩, ⟨[0, 1, 2, 6], []⟩, ⟨[0, 1, 2, 6, 7, 8], []⟩]) (hs' := []) (by kernel_rfl) hl hfr hfe h
def ac52 : ACode :=
 (.seq (.reg [⟨(some 10), none, (.mv (.t 1))⟩,
  ⟨(some 11), none, (.bin .add (.t 10) (.c (.sc (.int .i64 (1)))))⟩,
  ⟨(some 8), none, (.mv (.t 11))⟩] none) (.block 0 
 (.loop ⟨[0, 1, 2, 3, 8], []⟩
 (.seq (.seq (.reg [⟨(some 12), none, (.mv (.t 8))⟩,
  ⟨(some 13), none, (.mv (.t 2))⟩,
  ⟨(some 14), none, (.bin .lss (.t 12) (.t 13))⟩] none)
 (.cond (.t 14) .skip (.exit 0)))
 (.seq (.block 1
 (.seq (.reg [⟨(some 17), none, (.mv (.t 8))⟩,
  ⟨(some 9), none, (.mv (.t 17))⟩] none) (.block 2 
 (.loop ⟨[0, 1, 2, 3, 8, 9], []⟩
 (.seq (.seq (.reg [⟨(some 18), none, (.mv (.t 9))⟩,
  ⟨(some 19), none, (.mv (.t 1))⟩,
  ⟨(some 20), none, (.bin .gtr (.t 18) (.t 19))⟩,
  ⟨(some 21), none, (.mv (.t 20))⟩,
  ⟨(some 22), (some (21, true)), (.mv (.t 3))⟩,
  ⟨(some 23), (some (21, true)), (.mv (.t 0))⟩,
  ⟨(some 24), (some (21, true)), (.mv (.t 9))⟩,
  ⟨(some 25), (some (21, true)), (.iaddr 1 (.t 23) (.t 24))⟩,
  ⟨(some 26), (some (21, true)), (.load 1 false (.t 25))⟩,
  ⟨(some 27), (some (21, true)), (.mv (.t 0))⟩,
  ⟨(some 28), (some (21, true)), (.mv (.t 9))⟩,
  ⟨(some 29), (some (21, true)), (.bin .sub (.t 28) (.c (.sc (.int .i64 (1)))))⟩,
  ⟨(some 30), (some (21, true)), (.iaddr 1 (.t 27) (.t 29))⟩,
  ⟨(some 31), (some (21, true)), (.load 1 false (.t 30))⟩,
  ⟨(some 32), (some (21, true)), (.callv (.t 22) [(.t 26), (.t 31)])⟩,
  ⟨(some 33), (some (21, true)), (.bin .lss (.t 32) (.c (.sc (.int .i64 (0)))))⟩,
  ⟨(some 34), none, (.pick (.t 21) (.t 33) (.c (.sc (.bool false))))⟩] (some [[], [], [0, 1], [2, 0, 1], [3, 2, 0, 1], [3, 2, 0, 1], [3, 2, 0, 1], [5, 6, 3, 2, 0, 1], [7, 3, 5, 6, 2, 0, 1], [3, 2, 0, 1], [3, 2, 0, 1], [10, 3, 2, 0, 1], [9, 11, 3, 2, 0, 1, 10], [12, 3, 9, 11, 2, 0, 1, 10], [4, 8, 13, 3, 2, 0, 1, 7, 5, 6, 12, 9, 11, 10], [14, 3, 4, 8, 13, 2, 0, 1, 7, 5, 6, 12, 9, 11, 10], [3, 15, 2, 0, 1, 14, 4, 8, 13, 7, 5, 6, 12, 9, 11, 10]]))
 (.cond (.t 34) .skip (.exit 2)))
 (.seq (.block 3 (.reg [⟨(some 37), none, (.mv (.t 0))⟩,
  ⟨(some 38), none, (.mv (.t 9))⟩,
  ⟨(some 39), none, (.mv (.t 0))⟩,
  ⟨(some 40), none, (.mv (.t 9))⟩,
  ⟨(some 41), none, (.bin .sub (.t 40) (.c (.sc (.int .i64 (1)))))⟩,
  ⟨(some 42), none, (.mv (.t 0))⟩,
  ⟨(some 43), none, (.mv (.t 9))⟩,
  ⟨(some 44), none, (.bin .sub (.t 43) (.c (.sc (.int .i64 (1)))))⟩,
  ⟨(some 45), none, (.iaddr 1 (.t 42) (.t 44))⟩,
  ⟨(some 46), none, (.load 1 false (.t 45))⟩,
  ⟨(some 47), none, (.mv (.t 0))⟩,
  ⟨(some 48), none, (.mv (.t 9))⟩,
  ⟨(some 49), none, (.iaddr 1 (.t 47) (.t 48))⟩,
  ⟨(some 50), none, (.load 1 false (.t 49))⟩,
  ⟨(some 51), none, (.iaddr 1 (.t 37) (.t 38))⟩,
  ⟨none, none, (.store 1 (.t 51) (.t 46))⟩,
  ⟨(some 52), none, (.iaddr 1 (.t 39) (.t 41))⟩,
  ⟨none, none, (.store 1 (.t 52) (.t 50))⟩] (some [[], [], [], [], [3], [], [], [6], [5, 7, 6], [8, 5, 7, 6], [], [], [10, 11], [12, 10, 11], [0, 1, 5, 6, 7, 8, 9, 13, 12, 10, 11], [14, 9, 0, 1, 5, 6, 7, 8, 13, 12, 10, 11], [2, 4, 0, 1, 3, 5, 6, 7, 8, 9, 10, 11, 12, 13, 14, 15], [16, 13, 15, 0, 1, 2, 3, 4, 5, 6, 7, 8, 9, 10, 11, 12, 14]]))) (.reg [⟨(some 35), none, (.mv (.t 9))⟩,
  ⟨(some 36), none, (.bin .sub (.t 35) (.c (.sc (.int .i64 (1)))))⟩,
  ⟨(some 9), none, (.mv (.t 36))⟩] none))))))) (.reg [⟨(some 15), none, (.mv (.t 8))⟩,
  ⟨(some 16), none, (.bin .add (.t 15) (.c (.sc (.int .i64 (1)))))⟩,
  ⟨(some 8), none, (.mv (.t 16))⟩] none))))))
theorem good52 {args : List PV} {r : PV} (hl : args.length ≤ 53) (h : Run Try.prog [.code ac52] (endQ [] r) ⟨initT 0 args, [], 0, 53⟩) : Good Try.prog 52 args r :=
  good_run (by kernel_rfl) Jamix Try.func52 rfl (hs := [⟨[0, 1, 2, 3, 8], []⟩, ⟨[0, 1, 2, 3, 8, 9], []⟩]) (hs' := []) (by kernel_rfl) hl h
theorem goodM52 {pre post : List PV} {e : TypeId} {sz : Nat} {es es2 : List PV} {r : PV} (hl : pre.length + 1 + post.length ≤ 53) (hfr : flatR r = true) (hfe : (flatL es2).all PV.isSc = true) (h : Run Try.prog [.code ac52] (endM [] r e sz es2) ⟨initT 0 (pre ++ .own 0 0 :: post), [(0, .row e sz 0 es)], 1, 53⟩) : GoodM Try.prog 52 pre post e sz es r es2 :=
  goodM_run (by kernel_rfl) Jamix Try.func52 rfl (hs := [⟨[0, 1, 2, 3, 8], []⟩, ⟨[0, 1, 2, 3, 8, 9], []⟩]) (hs' := []) (by kernel_rfl) hl hfr hfe h
def ac53 : ACode :=
 (.seq
 (.seq (.reg [⟨(some 25), none, (.mv (.t 2))⟩,
  ⟨(some 26), none, (.mv (.t 1))⟩,
  ⟨(some 27), none, (.bin .sub (.t 25) (.t 26))⟩,
  ⟨(some 28), none, (.bin .eql (.t 27) (.c (.sc (.int .i64 (1)))))⟩] none)
 (.cond (.t 28)
 (.seq (.reg [⟨(some 29), none, (.mv (.t 2))⟩,
  ⟨(some 10), none, (.mv (.t 29))⟩] none)
 (.seq (.reg [⟨(some 30), none, (.mv (.t 3))⟩,
  ⟨(some 11), none, (.mv (.t 30))⟩] none)
 (.seq (.block 0 
 (.loop ⟨[0, 1, 4, 10, 11], []⟩
 (.seq (.seq (.reg [⟨(some 31), none, (.mv (.t 10))⟩,
  ⟨(some 32), none, (.mv (.t 11))⟩,
  ⟨(some 33), none, (.bin .lss (.t 31) (.t 32))⟩] none)
 (.cond (.t 33) .skip (.exit 0))) (.block 1
 (.seq (.reg [⟨(some 34), none, (.mv (.t 10))⟩,
  ⟨(some 35), none, (.mv (.t 11))⟩,
  ⟨(some 36), none, (.bin .add (.t 34) (.t 35))⟩,
  ⟨(some 37), none, (.conv .u64 (.t 36))⟩,
  ⟨(some 38), none, (.bin .shr (.t 37) (.c (.sc (.int .u64 (1)))))⟩,
  ⟨(some 39), none, (.conv .i64 (.t 38))⟩,
  ⟨(some 12), none, (.mv (.t 39))⟩] none)
 (.seq (.reg [⟨(some 40), none, (.mv (.t 4))⟩,
  ⟨(some 41), none, (.mv (.t 0))⟩,
  ⟨(some 42), none, (.mv (.t 12))⟩,
  ⟨(some 43), none, (.iaddr 1 (.t 41) (.t 42))⟩,
  ⟨(some 44), none, (.load 1 false (.t 43))⟩,
  ⟨(some 45), none, (.mv (.t 0))⟩,
  ⟨(some 46), none, (.mv (.t 1))⟩,
  ⟨(some 47), none, (.iaddr 1 (.t 45) (.t 46))⟩,
  ⟨(some 48), none, (.load 1 false (.t 47))⟩,
  ⟨(some 49), none, (.callv (.t 40) [(.t 44), (.t 48)])⟩,
  ⟨(some 50), none, (.bin .lss (.t 49) (.c (.sc (.int .i64 (0)))))⟩] (some [[], [], [], [1, 2], [3, 1, 2], [], [], [5, 6], [7, 5, 6], [0, 4, 8, 3, 1, 2, 7, 5, 6], [9, 0, 4, 8, 3, 1, 2, 7, 5, 6]]))
 (.cond (.t 50) (.reg [⟨(some 51), none, (.mv (.t 12))⟩,
  ⟨(some 52), none, (.bin .add (.t 51) (.c (.sc (.int .i64 (1)))))⟩,
  ⟨(some 10), none, (.mv (.t 52))⟩] none) (.reg [⟨(some 53), none, (.mv (.t 12))⟩,
  ⟨(some 11), none, (.mv (.t 53))⟩] none))))))))
 (.seq (.seq (.reg [⟨(some 54), none, (.mv (.t 1))⟩,
  ⟨(some 13), none, (.mv (.t 54))⟩] none) (.block 2 
 (.loop ⟨[0, 10, 13], []⟩
 (.seq (.seq (.reg [⟨(some 55), none, (.mv (.t 13))⟩,
  ⟨(some 56), none, (.mv (.t 10))⟩,
  ⟨(some 57), none, (.bin .sub (.t 56) (.c (.sc (.int .i64 (1)))))⟩,
  ⟨(some 58), none, (.bin .lss (.t 55) (.t 57))⟩] none)
 (.cond (.t 58) .skip (.exit 2)))
 (.seq (.block 3 (.reg [⟨(some 61), none, (.mv (.t 0))⟩,
  ⟨(some 62), none, (.mv (.t 13))⟩,
  ⟨(some 63), none, (.mv (.t 0))⟩,
  ⟨(some 64), none, (.mv (.t 13))⟩,
  ⟨(some 65), none, (.bin .add (.t 64) (.c (.sc (.int .i64 (1)))))⟩,
  ⟨(some 66), none, (.mv (.t 0))⟩,
  ⟨(some 67), none, (.mv (.t 13))⟩,
  ⟨(some 68), none, (.bin .add (.t 67) (.c (.sc (.int .i64 (1)))))⟩,
  ⟨(some 69), none, (.iaddr 1 (.t 66) (.t 68))⟩,
  ⟨(some 70), none, (.load 1 false (.t 69))⟩,
  ⟨(some 71), none, (.mv (.t 0))⟩,
  ⟨(some 72), none, (.mv (.t 13))⟩,
  ⟨(some 73), none, (.iaddr 1 (.t 71) (.t 72))⟩,
  ⟨(some 74), none, (.load 1 false (.t 73))⟩,
  ⟨(some 75), none, (.iaddr 1 (.t 61) (.t 62))⟩,
  ⟨none, none, (.store 1 (.t 75) (.t 70))⟩,
  ⟨(some 76), none, (.iaddr 1 (.t 63) (.t 65))⟩,
  ⟨none, none, (.store 1 (.t 76) (.t 74))⟩] (some [[], [], [], [], [3], [], [], [6], [5, 7, 6], [8, 5, 7, 6], [], [], [10, 11], [12, 10, 11], [0, 1, 5, 6, 7, 8, 9, 13, 12, 10, 11], [14, 9, 0, 1, 5, 6, 7, 8, 13, 12, 10, 11], [2, 4, 0, 1, 3, 5, 6, 7, 8, 9, 10, 11, 12, 13, 14, 15], [16, 13, 15, 0, 1, 2, 3, 4, 5, 6, 7, 8, 9, 10, 11, 12, 14]]))) (.reg [⟨(some 59), none, (.mv (.t 13))⟩,
  ⟨(some 60), none, (.bin .add (.t 59) (.c (.sc (.int .i64 (1)))))⟩,
  ⟨(some 13), none, (.mv (.t 60))⟩] none)))))) .ret)))) .skip))
 (.seq (.seq (.reg [⟨(some 77), none, (.mv (.t 3))⟩,
  ⟨(some 78), none, (.mv (.t 2))⟩,
  ⟨(some 79), none, (.bin .sub (.t 77) (.t 78))⟩,
  ⟨(some 80), none, (.bin .eql (.t 79) (.c (.sc (.int .i64 (1)))))⟩] none)
 (.cond (.t 80)
 (.seq (.reg [⟨(some 81), none, (.mv (.t 1))⟩,
  ⟨(some 14), none, (.mv (.t 81))⟩] none)
 (.seq (.reg [⟨(some 82), none, (.mv (.t 2))⟩,
  ⟨(some 15), none, (.mv (.t 82))⟩] none)
 (.seq (.block 4 
 (.loop ⟨[0, 2, 4, 14, 15], []⟩
 (.seq (.seq (.reg [⟨(some 83), none, (.mv (.t 14))⟩,
  ⟨(some 84), none, (.mv (.t 15))⟩,
  ⟨(some 85), none, (.bin .lss (.t 83) (.t 84))⟩] none)
 (.cond (.t 85) .skip (.exit 4))) (.block 5
 (.seq (.reg [⟨(some 86), none, (.mv (.t 14))⟩,
  ⟨(some 87), none, (.mv (.t 15))⟩,
  ⟨(some 88), none, (.bin .add (.t 86) (.t 87))⟩,
  ⟨(some 89), none, (.conv .u64 (.t 88))⟩,
  ⟨(some 90), none, (.bin .shr (.t 89) (.c (.sc (.int .u64 (1)))))⟩,
  ⟨(some 91), none, (.conv .i64 (.t 90))⟩,
  ⟨(some 16), none, (.mv (.t 91))⟩] none)
 (.seq (.reg [⟨(some 92), none, (.mv (.t 4))⟩,
  ⟨(some 93), none, (.mv (.t 0))⟩,
  ⟨(some 94), none, (.mv (.t 2))⟩,
  ⟨(some 95), none, (.iaddr 1 (.t 93) (.t 94))⟩,
  ⟨(some 96), none, (.load 1 false (.t 95))⟩,
  ⟨(some 97), none, (.mv (.t 0))⟩,
  ⟨(some 98), none, (.mv (.t 16))⟩,
  ⟨(some 99), none, (.iaddr 1 (.t 97) (.t 98))⟩,
  ⟨(some 100), none, (.load 1 false (.t 99))⟩,
  ⟨(some 101), none, (.callv (.t 92) [(.t 96), (.t 100)])⟩,
  ⟨(some 102), none, (.bin .lss (.t 101) (.c (.sc (.int .i64 (0)))))⟩,
  ⟨(some 103), none, (.un .not (.t 102))⟩] (some [[], [], [], [1, 2], [3, 1, 2], [], [], [5, 6], [7, 5, 6], [0, 4, 8, 3, 1, 2, 7, 5, 6], [9, 0, 4, 8, 3, 1, 2, 7, 5, 6], [10, 9, 0, 4, 8, 3, 1, 2, 7, 5, 6]]))
 (.cond (.t 103) (.reg [⟨(some 104), none, (.mv (.t 16))⟩,
  ⟨(some 105), none, (.bin .add (.t 104) (.c (.sc (.int .i64 (1)))))⟩,
  ⟨(some 14), none, (.mv (.t 105))⟩] none) (.reg [⟨(some 106), none, (.mv (.t 16))⟩,
  ⟨(some 15), none, (.mv (.t 106))⟩] none))))))))
 (.seq (.seq (.reg [⟨(some 107), none, (.mv (.t 2))⟩,
  ⟨(some 17), none, (.mv (.t 107))⟩] none) (.block 6 
 (.loop ⟨[0, 14, 17], []⟩
 (.seq (.seq (.reg [⟨(some 108), none, (.mv (.t 17))⟩,
  ⟨(some 109), none, (.mv (.t 14))⟩,
  ⟨(some 110), none, (.bin .gtr (.t 108) (.t 109))⟩] none)
 (.cond (.t 110) .skip (.exit 6)))
 (.seq (.block 7 (.reg [⟨(some 113), none, (.mv (.t 0))⟩,
  ⟨(some 114), none, (.mv (.t 17))⟩,
  ⟨(some 115), none, (.mv (.t 0))⟩,
  ⟨(some 116), none, (.mv (.t 17))⟩,
  ⟨(some 117), none, (.bin .sub (.t 116) (.c (.sc (.int .i64 (1)))))⟩,
  ⟨(some 118), none, (.mv (.t 0))⟩,
  ⟨(some 119), none, (.mv (.t 17))⟩,
  ⟨(some 120), none, (.bin .sub (.t 119) (.c (.sc (.int .i64 (1)))))⟩,
  ⟨(some 121), none, (.iaddr 1 (.t 118) (.t 120))⟩,
  ⟨(some 122), none, (.load 1 false (.t 121))⟩,
  ⟨(some 123), none, (.mv (.t 0))⟩,
  ⟨(some 124), none, (.mv (.t 17))⟩,
  ⟨(some 125), none, (.iaddr 1 (.t 123) (.t 124))⟩,
  ⟨(some 126), none, (.load 1 false (.t 125))⟩,
  ⟨(some 127), none, (.iaddr 1 (.t 113) (.t 114))⟩,
  ⟨none, none, (.store 1 (.t 127) (.t 122))⟩,
  ⟨(some 128), none, (.iaddr 1 (.t 115) (.t 117))⟩,
  ⟨none, none, (.store 1 (.t 128) (.t 126))⟩] (some [[], [], [], [], [3], [], [], [6], [5, 7, 6], [8, 5, 7, 6], [], [], [10, 11], [12, 10, 11], [0, 1, 5, 6, 7, 8, 9, 13, 12, 10, 11], [14, 9, 0, 1, 5, 6, 7, 8, 13, 12, 10, 11], [2, 4, 0, 1, 3, 5, 6, 7, 8, 9, 10, 11, 12, 13, 14, 15], [16, 13, 15, 0, 1, 2, 3, 4, 5, 6, 7, 8, 9, 10, 11, 12, 14]]))) (.reg [⟨(some 111), none, (.mv (.t 17))⟩,
  ⟨(some 112), none, (.bin .sub (.t 111) (.c (.sc (.int .i64 (1)))))⟩,
  ⟨(some 17), none, (.mv (.t 112))⟩] none)))))) .ret)))) .skip))
 (.seq (.reg [⟨(some 129), none, (.mv (.t 1))⟩,
  ⟨(some 130), none, (.mv (.t 3))⟩,
  ⟨(some 131), none, (.bin .add (.t 129) (.t 130))⟩,
  ⟨(some 132), none, (.conv .u64 (.t 131))⟩,
  ⟨(some 133), none, (.bin .shr (.t 132) (.c (.sc (.int .u64 (1)))))⟩,
  ⟨(some 134), none, (.conv .i64 (.t 133))⟩,
  ⟨(some 18), none, (.mv (.t 134))⟩] none)
 (.seq (.reg [⟨(some 135), none, (.mv (.t 18))⟩,
  ⟨(some 136), none, (.mv (.t 2))⟩,
  ⟨(some 137), none, (.bin .add (.t 135) (.t 136))⟩,
  ⟨(some 19), none, (.mv (.t 137))⟩] none)
 (.seq (.reg [⟨(some 20), none, (.mv (.c (.sc (.int .i64 (0)))))⟩,
  ⟨(some 21), none, (.mv (.c (.sc (.int .i64 (0)))))⟩] none)
 (.seq (.seq (.reg [⟨(some 138), none, (.mv (.t 2))⟩,
  ⟨(some 139), none, (.mv (.t 18))⟩,
  ⟨(some 140), none, (.bin .gtr (.t 138) (.t 139))⟩] none)
 (.cond (.t 140)
 (.seq (.reg [⟨(some 141), none, (.mv (.t 19))⟩,
  ⟨(some 142), none, (.mv (.t 3))⟩,
  ⟨(some 143), none, (.bin .sub (.t 141) (.t 142))⟩,
  ⟨(some 20), none, (.mv (.t 143))⟩] none) (.reg [⟨(some 144), none, (.mv (.t 18))⟩,
  ⟨(some 21), none, (.mv (.t 144))⟩] none))
 (.seq (.reg [⟨(some 145), none, (.mv (.t 1))⟩,
  ⟨(some 20), none, (.mv (.t 145))⟩] none) (.reg [⟨(some 146), none, (.mv (.t 2))⟩,
  ⟨(some 21), none, (.mv (.t 146))⟩] none))))
 (.seq (.reg [⟨(some 147), none, (.mv (.t 19))⟩,
  ⟨(some 148), none, (.bin .sub (.t 147) (.c (.sc (.int .i64 (1)))))⟩,
  ⟨(some 22), none, (.mv (.t 148))⟩] none)
 (.seq (.block 8 
 (.loop ⟨[0, 1, 2, 3, 4, 18, 19, 20, 21, 22], []⟩
 (.seq (.seq (.reg [⟨(some 149), none, (.mv (.t 20))⟩,
  ⟨(some 150), none, (.mv (.t 21))⟩,
  ⟨(some 151), none, (.bin .lss (.t 149) (.t 150))⟩] none)
 (.cond (.t 151) .skip (.exit 8))) (.block 9
 (.seq (.reg [⟨(some 152), none, (.mv (.t 20))⟩,
  ⟨(some 153), none, (.mv (.t 21))⟩,
  ⟨(some 154), none, (.bin .add (.t 152) (.t 153))⟩,
  ⟨(some 155), none, (.conv .u64 (.t 154))⟩,
  ⟨(some 156), none, (.bin .shr (.t 155) (.c (.sc (.int .u64 (1)))))⟩,
  ⟨(some 157), none, (.conv .i64 (.t 156))⟩,
  ⟨(some 23), none, (.mv (.t 157))⟩] none)
 (.seq (.reg [⟨(some 158), none, (.mv (.t 4))⟩,
  ⟨(some 159), none, (.mv (.t 0))⟩,
  ⟨(some 160), none, (.mv (.t 22))⟩,
  ⟨(some 161), none, (.mv (.t 23))⟩,
  ⟨(some 162), none, (.bin .sub (.t 160) (.t 161))⟩,
  ⟨(some 163), none, (.iaddr 1 (.t 159) (.t 162))⟩,
  ⟨(some 164), none, (.load 1 false (.t 163))⟩,
  ⟨(some 165), none, (.mv (.t 0))⟩,
  ⟨(some 166), none, (.mv (.t 23))⟩,
  ⟨(some 167), none, (.iaddr 1 (.t 165) (.t 166))⟩,
  ⟨(some 168), none, (.load 1 false (.t 167))⟩,
  ⟨(some 169), none, (.callv (.t 158) [(.t 164), (.t 168)])⟩,
  ⟨(some 170), none, (.bin .lss (.t 169) (.c (.sc (.int .i64 (0)))))⟩,
  ⟨(some 171), none, (.un .not (.t 170))⟩] (some [[], [], [], [], [2, 3], [1, 4, 2, 3], [5, 1, 4, 2, 3], [], [], [7, 8], [9, 7, 8], [0, 6, 10, 5, 1, 4, 2, 3, 9, 7, 8], [11, 0, 6, 10, 5, 1, 4, 2, 3, 9, 7, 8], [12, 11, 0, 6, 10, 5, 1, 4, 2, 3, 9, 7, 8]]))
 (.cond (.t 171) (.reg [⟨(some 172), none, (.mv (.t 23))⟩,
  ⟨(some 173), none, (.bin .add (.t 172) (.c (.sc (.int .i64 (1)))))⟩,
  ⟨(some 20), none, (.mv (.t 173))⟩] none) (.reg [⟨(some 174), none, (.mv (.t 23))⟩,
  ⟨(some 21), none, (.mv (.t 174))⟩] none))))))))
 (.seq (.reg [⟨(some 175), none, (.mv (.t 19))⟩,
  ⟨(some 176), none, (.mv (.t 20))⟩,
  ⟨(some 177), none, (.bin .sub (.t 175) (.t 176))⟩,
  ⟨(some 24), none, (.mv (.t 177))⟩] none)
 (.seq (.seq (.reg [⟨(some 178), none, (.mv (.t 20))⟩,
  ⟨(some 179), none, (.mv (.t 2))⟩,
  ⟨(some 180), none, (.bin .lss (.t 178) (.t 179))⟩,
  ⟨(some 181), none, (.mv (.t 180))⟩,
  ⟨(some 182), (some (181, true)), (.mv (.t 2))⟩,
  ⟨(some 183), (some (181, true)), (.mv (.t 24))⟩,
  ⟨(some 184), (some (181, true)), (.bin .lss (.t 182) (.t 183))⟩,
  ⟨(some 185), none, (.pick (.t 181) (.t 184) (.c (.sc (.bool false))))⟩] none)
 (.cond (.t 185) (.reg [⟨(some 186), none, (.mv (.t 0))⟩,
  ⟨(some 187), none, (.mv (.t 20))⟩,
  ⟨(some 188), none, (.mv (.t 2))⟩,
  ⟨(some 189), none, (.mv (.t 24))⟩,
  ⟨(some 190), none, (.mv (.t 4))⟩,
  ⟨(some 191), none, (.call 55 [(.t 186), (.t 187), (.t 188), (.t 189), (.t 190)])⟩] none) .skip))
 (.seq (.seq (.reg [⟨(some 192), none, (.mv (.t 1))⟩,
  ⟨(some 193), none, (.mv (.t 20))⟩,
  ⟨(some 194), none, (.bin .lss (.t 192) (.t 193))⟩,
  ⟨(some 195), none, (.mv (.t 194))⟩,
  ⟨(some 196), (some (195, true)), (.mv (.t 20))⟩,
  ⟨(some 197), (some (195, true)), (.mv (.t 18))⟩,
  ⟨(some 198), (some (195, true)), (.bin .lss (.t 196) (.t 197))⟩,
  ⟨(some 199), none, (.pick (.t 195) (.t 198) (.c (.sc (.bool false))))⟩] none)
 (.cond (.t 199) (.reg [⟨(some 200), none, (.mv (.t 0))⟩,
  ⟨(some 201), none, (.mv (.t 1))⟩,
  ⟨(some 202), none, (.mv (.t 20))⟩,
  ⟨(some 203), none, (.mv (.t 18))⟩,
  ⟨(some 204), none, (.mv (.t 4))⟩,
  ⟨(some 205), none, (.call 53 [(.t 200), (.t 201), (.t 202), (.t 203), (.t 204)])⟩] none) .skip))
 (.seq (.reg [⟨(some 206), none, (.mv (.t 18))⟩,
  ⟨(some 207), none, (.mv (.t 24))⟩,
  ⟨(some 208), none, (.bin .lss (.t 206) (.t 207))⟩,
  ⟨(some 209), none, (.mv (.t 208))⟩,
  ⟨(some 210), (some (209, true)), (.mv (.t 24))⟩,
  ⟨(some 211), (some (209, true)), (.mv (.t 3))⟩,
  ⟨(some 212), (some (209, true)), (.bin .lss (.t 210) (.t 211))⟩,
  ⟨(some 213), none, (.pick (.t 209) (.t 212) (.c (.sc (.bool false))))⟩] none)
 (.cond (.t 213) (.reg [⟨(some 214), none, (.mv (.t 0))⟩,
  ⟨(some 215), none, (.mv (.t 18))⟩,
  ⟨(some 216), none, (.mv (.t 24))⟩,
  ⟨(some 217), none, (.mv (.t 3))⟩,
  ⟨(some 218), none, (.mv (.t 4))⟩,
  ⟨(some 219), none, (.call 53 [(.t 214), (.t 215), (.t 216), (.t 217), (.t 218)])⟩] none) .skip)))))))))))))
theorem good53 {args : List PV} {r : PV} (hl : args.length ≤ 220) (h : Run Try.prog [.code ac53] (endQ [] r) ⟨initT 0 args, [], 0, 220⟩) : Good Try.prog 53 args r :=
  good_run (by kernel_rfl) Jamix Try.func53 rfl (hs := [⟨[0, 1, 4, 10, 11], []⟩, ⟨[0, 10, 13], []⟩, ⟨[0, 2, 4, 14, 15], []⟩, ⟨[0, 14, 17], []⟩, ⟨[0, 1, 2, 3, 4, 18, 19, 20, 21, 22], []⟩]) (hs' := []) (by kernel_rfl) hl h
theorem goodM53 {pre post : List PV} {e : TypeId} {sz : Nat} {es es2 : List PV} {r : PV} (hl : pre.length + 1 + post.length ≤ 220) (hfr : flatR r = true) (hfe : (flatL es2).all PV.isSc = true) (h : Run Try.prog [.code ac53] (endM [] r e sz es2) ⟨initT 0 (pre ++ .own 0 0 :: post), [(0, .row e sz 0 es)], 1, 220⟩) : GoodM Try.prog 53 pre post e sz es r es2 :=
  goodM_run (by kernel_rfl) Jamix Try.func53 rfl (hs := [⟨[0, 1, 4, 10, 11], []⟩, ⟨[0, 10, 13], []⟩, ⟨[0, 2, 4, 14, 15], []⟩, ⟨[0, 14, 17], []⟩, ⟨[0, 1, 2, 3, 4, 18, 19, 20, 21, 22], []⟩]) (hs' := []) (by kernel_rfl) hl hfr hfe h
def ac55 : ACode :=
 (.seq (.reg [⟨(some 12), none, (.mv (.t 2))⟩,
  ⟨(some 13), none, (.mv (.t 1))⟩,
  ⟨(some 14), none, (.bin .sub (.t 12) (.t 13))⟩,
  ⟨(some 10), none, (.mv (.t 14))⟩] none)
 (.seq (.reg [⟨(some 15), none, (.mv (.t 3))⟩,
  ⟨(some 16), none, (.mv (.t 2))⟩,
  ⟨(some 17), none, (.bin .sub (.t 15) (.t 16))⟩,
  ⟨(some 11), none, (.mv (.t 17))⟩] none)
 (.seq (.block 0 
 (.loop ⟨[0, 2, 4, 10, 11], []⟩
 (.seq (.seq (.reg [⟨(some 18), none, (.mv (.t 10))⟩,
  ⟨(some 19), none, (.mv (.t 11))⟩,
  ⟨(some 20), none, (.bin .neq (.t 18) (.t 19))⟩] none)
 (.cond (.t 20) .skip (.exit 0))) (.block 1
 (.seq (.reg [⟨(some 21), none, (.mv (.t 10))⟩,
  ⟨(some 22), none, (.mv (.t 11))⟩,
  ⟨(some 23), none, (.bin .gtr (.t 21) (.t 22))⟩] none)
 (.cond (.t 23)
 (.seq (.reg [⟨(some 24), none, (.mv (.t 0))⟩,
  ⟨(some 25), none, (.mv (.t 2))⟩,
  ⟨(some 26), none, (.mv (.t 10))⟩,
  ⟨(some 27), none, (.bin .sub (.t 25) (.t 26))⟩,
  ⟨(some 28), none, (.mv (.t 2))⟩,
  ⟨(some 29), none, (.mv (.t 11))⟩,
  ⟨(some 30), none, (.mv (.t 4))⟩,
  ⟨(some 31), none, (.call 56 [(.t 24), (.t 27), (.t 28), (.t 29), (.t 30)])⟩] none) (.reg [⟨(some 32), none, (.mv (.t 10))⟩,
  ⟨(some 33), none, (.mv (.t 11))⟩,
  ⟨(some 34), none, (.bin .sub (.t 32) (.t 33))⟩,
  ⟨(some 10), none, (.mv (.t 34))⟩] none))
 (.seq (.reg [⟨(some 35), none, (.mv (.t 0))⟩,
  ⟨(some 36), none, (.mv (.t 2))⟩,
  ⟨(some 37), none, (.mv (.t 10))⟩,
  ⟨(some 38), none, (.bin .sub (.t 36) (.t 37))⟩,
  ⟨(some 39), none, (.mv (.t 2))⟩,
  ⟨(some 40), none, (.mv (.t 11))⟩,
  ⟨(some 41), none, (.bin .add (.t 39) (.t 40))⟩,
  ⟨(some 42), none, (.mv (.t 10))⟩,
  ⟨(some 43), none, (.bin .sub (.t 41) (.t 42))⟩,
  ⟨(some 44), none, (.mv (.t 10))⟩,
  ⟨(some 45), none, (.mv (.t 4))⟩,
  ⟨(some 46), none, (.call 56 [(.t 35), (.t 38), (.t 43), (.t 44), (.t 45)])⟩] none) (.reg [⟨(some 47), none, (.mv (.t 11))⟩,
  ⟨(some 48), none, (.mv (.t 10))⟩,
  ⟨(some 49), none, (.bin .sub (.t 47) (.t 48))⟩,
  ⟨(some 11), none, (.mv (.t 49))⟩] none)))))))) (.reg [⟨(some 50), none, (.mv (.t 0))⟩,
  ⟨(some 51), none, (.mv (.t 2))⟩,
  ⟨(some 52), none, (.mv (.t 10))⟩,
  ⟨(some 53), none, (.bin .sub (.t 51) (.t 52))⟩,
  ⟨(some 54), none, (.mv (.t 2))⟩,
  ⟨(some 55), none, (.mv (.t 10))⟩,
  ⟨(some 56), none, (.mv (.t 4))⟩,
  ⟨(some 57), none, (.call 56 [(.t 50), (.t 53), (.t 54), (.t 55), (.t 56)])⟩] none))))
theorem good55 {args : List PV} {r : PV} (hl : args.length ≤ 58) (h : Run Try.prog [.code ac55] (endQ [] r) ⟨initT 0 args, [], 0, 58⟩) : Good Try.prog 55 args r :=
  good_run (by kernel_rfl) Jamix Try.func55 rfl (hs := [⟨[0, 2, 4, 10, 11], []⟩]) (hs' := []) (by kernel_rfl) hl h
theorem goodM55 {pre post : List PV} {e : TypeId} {sz : Nat} {es es2 : List PV} {r : PV} (hl : pre.length + 1 + post.length ≤ 58) (hfr : flatR r = true) (hfe : (flatL es2).all PV.isSc = true) (h : Run Try.prog [.code ac55] (endM [] r e sz es2) ⟨initT 0 (pre ++ .own 0 0 :: post), [(0, .row e sz 0 es)], 1, 58⟩) : GoodM Try.prog 55 pre post e sz es r es2 :=
  goodM_run (by kernel_rfl) Jamix Try.func55 rfl (hs := [⟨[0, 2, 4, 10, 11], []⟩]) (hs' := []) (by kernel_rfl) hl hfr hfe h
def ac56 : ACode :=
 (.seq (.reg [⟨(some 10), none, (.mv (.c (.sc (.int .i64 (0)))))⟩] none) (.block 0 
 (.loop ⟨[0, 1, 2, 3, 10], []⟩
 (.seq (.seq (.reg [⟨(some 11), none, (.mv (.t 10))⟩,
  ⟨(some 12), none, (.mv (.t 3))⟩,
  ⟨(some 13), none, (.bin .lss (.t 11) (.t 12))⟩] none)
 (.cond (.t 13) .skip (.exit 0)))
 (.seq (.block 1 (.reg [⟨(some 16), none, (.mv (.t 0))⟩,
  ⟨(some 17), none, (.mv (.t 1))⟩,
  ⟨(some 18), none, (.mv (.t 10))⟩,
  ⟨(some 19), none, (.bin .add (.t 17) (.t 18))⟩,
  ⟨(some 20), none, (.mv (.t 0))⟩,
  ⟨(some 21), none, (.mv (.t 2))⟩,
  ⟨(some 22), none, (.mv (.t 10))⟩,
  ⟨(some 23), none, (.bin .add (.t 21) (.t 22))⟩,
  ⟨(some 24), none, (.mv (.t 0))⟩,
  ⟨(some 25), none, (.mv (.t 2))⟩,
  ⟨(some 26), none, (.mv (.t 10))⟩,
  ⟨(some 27), none, (.bin .add (.t 25) (.t 26))⟩,
  ⟨(some 28), none, (.iaddr 1 (.t 24) (.t 27))⟩,
  ⟨(some 29), none, (.load 1 false (.t 28))⟩,
  ⟨(some 30), none, (.mv (.t 0))⟩,
  ⟨(some 31), none, (.mv (.t 1))⟩,
  ⟨(some 32), none, (.mv (.t 10))⟩,
  ⟨(some 33), none, (.bin .add (.t 31) (.t 32))⟩,
  ⟨(some 34), none, (.iaddr 1 (.t 30) (.t 33))⟩,
  ⟨(some 35), none, (.load 1 false (.t 34))⟩,
  ⟨(some 36), none, (.iaddr 1 (.t 16) (.t 19))⟩,
  ⟨none, none, (.store 1 (.t 36) (.t 29))⟩,
  ⟨(some 37), none, (.iaddr 1 (.t 20) (.t 23))⟩,
  ⟨none, none, (.store 1 (.t 37) (.t 35))⟩] (some [[], [], [], [1, 2], [], [], [], [5, 6], [], [], [], [9, 10], [8, 11, 9, 10], [12, 8, 11, 9, 10], [], [], [], [15, 16], [14, 17, 15, 16], [18, 14, 17, 15, 16], [0, 3, 1, 2, 8, 9, 10, 11, 12, 13, 19, 18, 14, 17, 15, 16], [20, 13, 0, 1, 2, 3, 8, 9, 10, 11, 12, 19, 18, 14, 17, 15, 16], [4, 7, 0, 1, 2, 3, 5, 6, 8, 9, 10, 11, 12, 13, 14, 15, 16, 17, 18, 19, 20, 21], [22, 19, 21, 0, 1, 2, 3, 4, 5, 6, 7, 8, 9, 10, 11, 12, 13, 14, 15, 16, 17, 18, 20]]))) (.reg [⟨(some 14), none, (.mv (.t 10))⟩,
  ⟨(some 15), none, (.bin .add (.t 14) (.c (.sc (.int .i64 (1)))))⟩,
  ⟨(some 10), none, (.mv (.t 15))⟩] none))))))
theorem good56 {args : List PV} {r : PV} (hl : args.length ≤ 38) (h : Run Try.prog [.code ac56] (endQ [] r) ⟨initT 0 args, [], 0, 38⟩) : Good Try.prog 56 args r :=
  good_run (by kernel_rfl) Jamix Try.func56 rfl (hs := [⟨[0, 1, 2, 3, 10], []⟩]) (hs' := []) (by kernel_rfl) hl h
theorem goodM56 {pre post : List PV} {e : TypeId} {sz : Nat} {es es2 : List PV} {r : PV} (hl : pre.length + 1 + post.length ≤ 38) (hfr : flatR r = true) (hfe : (flatL es2).all PV.isSc = true) (h : Run Try.prog [.code ac56] (endM [] r e sz es2) ⟨initT 0 (pre ++ .own 0 0 :: post), [(0, .row e sz 0 es)], 1, 38⟩) : GoodM Try.prog 56 pre post e sz es r es2 :=
  goodM_run (by kernel_rfl) Jamix Try.func56 rfl (hs := [⟨[0, 1, 2, 3, 10], []⟩]) (hs' := []) (by kernel_rfl) hl hfr hfe h
end Go.Proofs.Ythekbdjklmellaa
