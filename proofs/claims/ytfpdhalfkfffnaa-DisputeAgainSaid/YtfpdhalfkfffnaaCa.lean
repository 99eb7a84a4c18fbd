/-
  The translated codes of functions, checked by the kernel.
-/
import Derived.Test.YtfpdhalfkfffnaaKc
import Derived.KernelRfl
namespace Go.Proofs.Ytfpdhalfkfffnaa
set_option linter.unusedVariables false
set_option linter.unusedSimpArgs false
set_option linter.unnecessarySimpa false
theorem Camix : Try.prog.follows .mixedOrders = true := by kernel_rfl
def ac3 : ACode :=
 (.seq (.reg [⟨(some 2), none, (.boxv (.t 0))⟩,
  ⟨(some 3), none, (.boxv (.t 1))⟩,
  ⟨(some 4), none, (.mv (.c (.sc (.bool false))))⟩] none)
 (.seq (.seq (.reg [⟨(some 9), none, (.load 13 true (.t 2))⟩,
  ⟨(some 10), none, (.call 10 [(.t 9)])⟩,
  ⟨(some 11), none, (.un .not (.t 10))⟩] none)
 (.cond (.t 11)
 (.seq (.reg [⟨(some 12), none, (.call 11 [])⟩,
  ⟨(some 4), none, (.mv (.t 12))⟩] none) .ret) .skip))
 (.seq (.reg [⟨(some 14), none, (.load 13 true (.t 2))⟩,
  ⟨(some 15), none, (.load 3 true (.t 3))⟩,
  ⟨(some 16), none, (.call 12 [(.t 14), (.t 15)])⟩,
  ⟨(some 13), none, (.mv (.t 16))⟩,
  ⟨(some 17), none, (.ext 0 (.t 13))⟩,
  ⟨(some 18), none, (.ext 1 (.t 13))⟩,
  ⟨(some 5), none, (.new [(.sc (.int .i64 (0))), (.sc (.int .i64 (0))), (.sc (.int .i64 (0))), (.sc (.int .i64 (0))), (.sc (.int .i64 (0))), (.sc (.int .i64 (0))), (.sc (.bool false)), (.sc (.slice none 0 0)), (.sc (.slice none 0 0)), (.sc (.int .i64 (0))), (.sc (.int .i64 (0))), (.sc (.int .i64 (0))), (.sc (.int .i64 (0)))])⟩,
  ⟨none, none, (.store 13 (.t 5) (.t 17))⟩,
  ⟨(some 6), none, (.mv (.t 18))⟩] none)
 (.seq (.reg [⟨(some 20), none, (.load 13 true (.t 2))⟩,
  ⟨(some 21), none, (.load 3 true (.t 3))⟩,
  ⟨(some 22), none, (.call 13 [(.t 20), (.t 21)])⟩,
  ⟨(some 19), none, (.mv (.t 22))⟩,
  ⟨(some 23), none, (.ext 0 (.t 19))⟩,
  ⟨(some 24), none, (.ext 1 (.t 19))⟩,
  ⟨(some 7), none, (.new [(.sc (.int .i64 (0))), (.sc (.int .i64 (0))), (.sc (.int .i64 (0))), (.sc (.int .i64 (0))), (.sc (.int .i64 (0))), (.sc (.int .i64 (0))), (.sc (.bool false)), (.sc (.slice none 0 0)), (.sc (.slice none 0 0)), (.sc (.int .i64 (0))), (.sc (.int .i64 (0))), (.sc (.int .i64 (0))), (.sc (.int .i64 (0)))])⟩,
  ⟨none, none, (.store 13 (.t 7) (.t 23))⟩,
  ⟨(some 8), none, (.mv (.t 24))⟩] none)
 (.seq (.reg [⟨(some 25), none, (.load 13 true (.t 5))⟩,
  ⟨(some 26), none, (.load 13 true (.t 7))⟩,
  ⟨(some 27), none, (.call 14 [(.t 25), (.t 26)])⟩,
  ⟨(some 28), none, (.mv (.t 27))⟩,
  ⟨(some 29), (some (28, true)), (.mv (.t 6))⟩,
  ⟨(some 30), (some (28, true)), (.mv (.t 8))⟩,
  ⟨(some 31), (some (28, true)), (.bin .eql (.t 29) (.t 30))⟩,
  ⟨(some 32), none, (.pick (.t 28) (.t 31) (.c (.sc (.bool false))))⟩,
  ⟨(some 33), none, (.mv (.t 32))⟩,
  ⟨(some 34), (some (33, true)), (.call 11 [])⟩,
  ⟨(some 35), none, (.pick (.t 33) (.t 34) (.c (.sc (.bool false))))⟩,
  ⟨(some 4), none, (.mv (.t 35))⟩] none) .ret)))))
theorem good3 {args : List PV} {r : PV} (hl : args.length ≤ 36) (h : Run Try.prog [.code ac3] (endQ [(.t 4)] r) ⟨initT 0 args, [], 0, 36⟩) : Good Try.prog 3 args r :=
  good_run (by kernel_rfl) Camix Try.func3 rfl (hs := []) (hs' := []) (by kernel_rfl) hl h
def ac4 : ACode :=
 (.seq (.reg [⟨(some 2), none, (.boxv (.t 0))⟩,
  ⟨(some 4), none, (.mv (.c (.sc (.bool false))))⟩] none)
 (.seq (.seq (.reg [⟨(some 11), none, (.load 13 true (.t 2))⟩,
  ⟨(some 12), none, (.call 10 [(.t 11)])⟩,
  ⟨(some 13), none, (.un .not (.t 12))⟩,
  ⟨(some 14), none, (.mv (.t 13))⟩,
  ⟨(some 15), (some (14, false)), (.mv (.t 1))⟩,
  ⟨(some 16), (some (14, false)), (.call 15 [(.t 15)])⟩,
  ⟨(some 17), (some (14, false)), (.un .not (.t 16))⟩,
  ⟨(some 18), none, (.pick (.t 14) (.c (.sc (.bool true))) (.t 17))⟩] none)
 (.cond (.t 18)
 (.seq (.reg [⟨(some 19), none, (.call 11 [])⟩,
  ⟨(some 4), none, (.mv (.t 19))⟩] none) .ret) .skip))
 (.seq (.reg [⟨(some 21), none, (.load 13 true (.t 2))⟩,
  ⟨(some 22), none, (.mv (.t 1))⟩,
  ⟨(some 23), none, (.call 16 [(.t 21), (.t 22)])⟩,
  ⟨(some 20), none, (.mv (.t 23))⟩,
  ⟨(some 24), none, (.ext 0 (.t 20))⟩,
  ⟨(some 25), none, (.ext 1 (.t 20))⟩,
  ⟨(some 26), none, (.ext 2 (.t 20))⟩,
  ⟨(some 5), none, (.new [(.sc (.int .i64 (0))), (.sc (.int .i64 (0))), (.sc (.int .i64 (0))), (.sc (.int .i64 (0))), (.sc (.int .i64 (0))), (.sc (.int .i64 (0))), (.sc (.bool false)), (.sc (.slice none 0 0)), (.sc (.slice none 0 0)), (.sc (.int .i64 (0))), (.sc (.int .i64 (0))), (.sc (.int .i64 (0))), (.sc (.int .i64 (0)))])⟩,
  ⟨none, none, (.store 13 (.t 5) (.t 24))⟩,
  ⟨(some 6), none, (.mv (.t 25))⟩,
  ⟨(some 7), none, (.mv (.t 26))⟩] none)
 (.seq (.reg [⟨(some 28), none, (.load 13 true (.t 2))⟩,
  ⟨(some 29), none, (.mv (.t 1))⟩,
  ⟨(some 30), none, (.call 17 [(.t 28), (.t 29)])⟩,
  ⟨(some 27), none, (.mv (.t 30))⟩,
  ⟨(some 31), none, (.ext 0 (.t 27))⟩,
  ⟨(some 32), none, (.ext 1 (.t 27))⟩,
  ⟨(some 33), none, (.ext 2 (.t 27))⟩,
  ⟨(some 8), none, (.new [(.sc (.int .i64 (0))), (.sc (.int .i64 (0))), (.sc (.int .i64 (0))), (.sc (.int .i64 (0))), (.sc (.int .i64 (0))), (.sc (.int .i64 (0))), (.sc (.bool false)), (.sc (.slice none 0 0)), (.sc (.slice none 0 0)), (.sc (.int .i64 (0))), (.sc (.int .i64 (0))), (.sc (.int .i64 (0))), (.sc (.int .i64 (0)))])⟩,
  ⟨none, none, (.store 13 (.t 8) (.t 31))⟩,
  ⟨(some 9), none, (.mv (.t 32))⟩,
  ⟨(some 10), none, (.mv (.t 33))⟩] none)
 (.seq (.reg [⟨(some 34), none, (.load 13 true (.t 5))⟩,
  ⟨(some 35), none, (.load 13 true (.t 8))⟩,
  ⟨(some 36), none, (.call 14 [(.t 34), (.t 35)])⟩,
  ⟨(some 37), none, (.mv (.t 36))⟩,
  ⟨(some 38), (some (37, true)), (.mv (.t 6))⟩,
  ⟨(some 39), (some (37, true)), (.mv (.t 9))⟩,
  ⟨(some 40), (some (37, true)), (.call 18 [(.t 38), (.t 39)])⟩,
  ⟨(some 41), none, (.pick (.t 37) (.t 40) (.c (.sc (.bool false))))⟩,
  ⟨(some 42), none, (.mv (.t 41))⟩,
  ⟨(some 43), (some (42, true)), (.mv (.t 7))⟩,
  ⟨(some 44), (some (42, true)), (.mv (.t 10))⟩,
  ⟨(some 45), (some (42, true)), (.bin .eql (.t 43) (.t 44))⟩,
  ⟨(some 46), none, (.pick (.t 42) (.t 45) (.c (.sc (.bool false))))⟩,
  ⟨(some 47), none, (.mv (.t 46))⟩,
  ⟨(some 48), (some (47, true)), (.mv (.t 1))⟩,
  ⟨(some 49), (some (47, true)), (.call 19 [(.t 48)])⟩,
  ⟨(some 50), (some (47, true)), (.mv (.t 1))⟩,
  ⟨(some 51), (some (47, true)), (.call 20 [(.t 50)])⟩,
  ⟨(some 52), (some (47, true)), (.beq false (.t 49) (.t 51))⟩,
  ⟨(some 53), none, (.pick (.t 47) (.t 52) (.c (.sc (.bool false))))⟩,
  ⟨(some 54), none, (.mv (.t 53))⟩,
  ⟨(some 55), (some (54, true)), (.call 11 [])⟩,
  ⟨(some 56), none, (.pick (.t 54) (.t 55) (.c (.sc (.bool false))))⟩,
  ⟨(some 4), none, (.mv (.t 56))⟩] none) .ret)))))
theorem good4 {args : List PV} {r : PV} (hl : args.length ≤ 57) (h : Run Try.prog [.code ac4] (endQ [(.t 4)] r) ⟨initT 0 args, [], 0, 57⟩) : Good Try.prog 4 args r :=
  good_run (by kernel_rfl) Camix Try.func4 rfl (hs := []) (hs' := []) (by kernel_rfl) hl h
def ac5 : ACode :=
 (.seq (.reg [⟨(some 2), none, (.boxv (.t 0))⟩,
  ⟨(some 4), none, (.mv (.c (.sc (.bool false))))⟩] none)
 (.seq (.seq (.reg [⟨(some 18), none, (.load 13 true (.t 2))⟩,
  ⟨(some 19), none, (.call 10 [(.t 18)])⟩,
  ⟨(some 20), none, (.un .not (.t 19))⟩,
  ⟨(some 21), none, (.mv (.t 20))⟩,
  ⟨(some 22), (some (21, false)), (.mv (.t 1))⟩,
  ⟨(some 23), (some (21, false)), (.len (.t 22))⟩,
  ⟨(some 24), (some (21, false)), (.bin .gtr (.t 23) (.c (.sc (.int .i64 (60)))))⟩,
  ⟨(some 25), none, (.pick (.t 21) (.c (.sc (.bool true))) (.t 24))⟩] none)
 (.cond (.t 25)
 (.seq (.reg [⟨(some 26), none, (.call 11 [])⟩,
  ⟨(some 4), none, (.mv (.t 26))⟩] none) .ret) .skip))
 (.seq (.reg [⟨(some 28), none, (.load 13 true (.t 2))⟩,
  ⟨(some 29), none, (.mv (.t 1))⟩,
  ⟨(some 30), none, (.call 16 [(.t 28), (.t 29)])⟩,
  ⟨(some 27), none, (.mv (.t 30))⟩,
  ⟨(some 31), none, (.ext 0 (.t 27))⟩,
  ⟨(some 32), none, (.ext 1 (.t 27))⟩,
  ⟨(some 33), none, (.ext 2 (.t 27))⟩,
  ⟨(some 5), none, (.new [(.sc (.int .i64 (0))), (.sc (.int .i64 (0))), (.sc (.int .i64 (0))), (.sc (.int .i64 (0))), (.sc (.int .i64 (0))), (.sc (.int .i64 (0))), (.sc (.bool false)), (.sc (.slice none 0 0)), (.sc (.slice none 0 0)), (.sc (.int .i64 (0))), (.sc (.int .i64 (0))), (.sc (.int .i64 (0))), (.sc (.int .i64 (0)))])⟩,
  ⟨none, none, (.store 13 (.t 5) (.t 31))⟩,
  ⟨(some 6), none, (.mv (.t 32))⟩,
  ⟨(some 7), none, (.mv (.t 33))⟩] none)
 (.seq (.seq (.reg [⟨(some 34), none, (.mv (.t 7))⟩,
  ⟨(some 35), none, (.bin .neq (.t 34) (.c (.sc (.int .i64 (0)))))⟩] none)
 (.cond (.t 35)
 (.seq (.reg [⟨(some 36), none, (.load 13 true (.t 5))⟩,
  ⟨(some 37), none, (.build [(.sc (.int .i64 (0))), (.sc (.int .i64 (0))), (.sc (.int .i64 (0))), (.sc (.int .i64 (0))), (.sc (.int .i64 (0))), (.sc (.int .i64 (0))), (.sc (.bool false)), (.sc (.slice none 0 0)), (.sc (.slice none 0 0)), (.sc (.int .i64 (0))), (.sc (.int .i64 (0))), (.sc (.int .i64 (0))), (.sc (.int .i64 (0)))] [])⟩,
  ⟨(some 38), none, (.call 14 [(.t 36), (.t 37)])⟩,
  ⟨(some 39), none, (.mv (.t 38))⟩,
  ⟨(some 40), (some (39, true)), (.mv (.t 6))⟩,
  ⟨(some 41), (some (39, true)), (.len (.t 40))⟩,
  ⟨(some 42), (some (39, true)), (.bin .eql (.t 41) (.c (.sc (.int .i64 (0)))))⟩,
  ⟨(some 43), none, (.pick (.t 39) (.t 42) (.c (.sc (.bool false))))⟩,
  ⟨(some 44), none, (.mv (.t 43))⟩,
  ⟨(some 45), (some (44, true)), (.mv (.t 7))⟩,
  ⟨(some 46), (some (44, true)), (.load 13 true (.t 2))⟩,
  ⟨(some 47), (some (44, true)), (.call 21 [(.t 46)])⟩,
  ⟨(some 48), (some (44, true)), (.bin .eql (.t 45) (.t 47))⟩,
  ⟨(some 49), none, (.pick (.t 44) (.t 48) (.c (.sc (.bool false))))⟩,
  ⟨(some 50), none, (.mv (.t 49))⟩,
  ⟨(some 51), (some (50, true)), (.call 11 [])⟩,
  ⟨(some 52), none, (.pick (.t 50) (.t 51) (.c (.sc (.bool false))))⟩,
  ⟨(some 4), none, (.mv (.t 52))⟩] none) .ret) .skip))
 (.seq (.reg [⟨(some 53), none, (.faddr 7 (.t 2))⟩,
  ⟨(some 54), none, (.load 1 false (.t 53))⟩,
  ⟨(some 55), none, (.len (.t 54))⟩,
  ⟨(some 8), none, (.mv (.t 55))⟩] none)
 (.seq (.seq (.reg [⟨(some 56), none, (.load 13 true (.t 5))⟩,
  ⟨(some 57), none, (.call 21 [(.t 56)])⟩,
  ⟨(some 58), none, (.bin .neq (.t 57) (.c (.sc (.int .i64 (0)))))⟩,
  ⟨(some 59), none, (.mv (.t 58))⟩,
  ⟨(some 60), (some (59, false)), (.faddr 7 (.t 5))⟩,
  ⟨(some 61), (some (59, false)), (.load 1 false (.t 60))⟩,
  ⟨(some 62), (some (59, false)), (.len (.t 61))⟩,
  ⟨(some 63), (some (59, false)), (.mv (.t 8))⟩,
  ⟨(some 64), (some (59, false)), (.bin .neq (.t 62) (.t 63))⟩,
  ⟨(some 65), none, (.pick (.t 59) (.c (.sc (.bool true))) (.t 64))⟩,
  ⟨(some 66), none, (.mv (.t 65))⟩,
  ⟨(some 67), (some (66, false)), (.mv (.t 8))⟩,
  ⟨(some 68), (some (66, false)), (.bin .eql (.t 67) (.c (.sc (.int .i64 (0)))))⟩,
  ⟨(some 69), none, (.pick (.t 66) (.c (.sc (.bool true))) (.t 68))⟩,
  ⟨(some 70), none, (.mv (.t 69))⟩,
  ⟨(some 71), (some (70, false)), (.faddr 4 (.t 5))⟩,
  ⟨(some 72), (some (70, false)), (.load 2 true (.t 71))⟩,
  ⟨(some 73), (some (70, false)), (.faddr 4 (.t 2))⟩,
  ⟨(some 74), (some (70, false)), (.load 2 true (.t 73))⟩,
  ⟨(some 75), (some (70, false)), (.call 22 [(.t 72), (.t 74)])⟩,
  ⟨(some 76), (some (70, false)), (.un .not (.t 75))⟩,
  ⟨(some 77), none, (.pick (.t 70) (.c (.sc (.bool true))) (.t 76))⟩,
  ⟨(some 78), none, (.mv (.t 77))⟩,
  ⟨(some 79), (some (78, false)), (.faddr 7 (.t 5))⟩,
  ⟨(some 80), (some (78, false)), (.load 1 false (.t 79))⟩,
  ⟨(some 81), (some (78, false)), (.mv (.t 8))⟩,
  ⟨(some 82), (some (78, false)), (.bin .sub (.t 81) (.c (.sc (.int .i64 (1)))))⟩,
  ⟨(some 83), (some (78, false)), (.iaddr 5 (.t 80) (.t 82))⟩,
  ⟨(some 84), (some (78, false)), (.faddr 3 (.t 83))⟩,
  ⟨(some 85), (some (78, false)), (.load 2 true (.t 84))⟩,
  ⟨(some 86), (some (78, false)), (.faddr 4 (.t 5))⟩,
  ⟨(some 87), (some (78, false)), (.load 2 true (.t 86))⟩,
  ⟨(some 88), (some (78, false)), (.eqs true [(.i .i64), (.i .i64)] (.t 85) (.t 87))⟩,
  ⟨(some 89), none, (.pick (.t 78) (.c (.sc (.bool true))) (.t 88))⟩] (some [[], [0], [1, 0], [2, 1, 0], [3, 2, 1, 0], [4, 3, 2, 1, 0], [5, 3, 4, 2, 1, 0], [3, 2, 1, 0], [6, 7, 3, 5, 4, 2, 1, 0], [3, 8, 2, 1, 0, 6, 7, 5, 4], [9, 3, 8, 2, 1, 0, 6, 7, 5, 4], [10, 9, 3, 8, 2, 1, 0, 6, 7, 5, 4], [11, 10, 9, 3, 8, 2, 1, 0, 6, 7, 5, 4], [10, 12, 9, 3, 8, 2, 1, 0, 6, 7, 5, 4, 11], [13, 10, 12, 9, 3, 8, 2, 1, 0, 6, 7, 5, 4, 11], [14, 13, 10, 12, 9, 3, 8, 2, 1, 0, 6, 7, 5, 4, 11], [15, 14, 13, 10, 12, 9, 3, 8, 2, 1, 0, 6, 7, 5, 4, 11], [14, 13, 10, 12, 9, 3, 8, 2, 1, 0, 6, 7, 5, 4, 11], [17, 14, 13, 10, 12, 9, 3, 8, 2, 1, 0, 6, 7, 5, 4, 11], [16, 18, 14, 15, 13, 10, 12, 9, 3, 8, 2, 1, 0, 6, 7, 5, 4, 11, 17], [19, 14, 16, 18, 15, 13, 10, 12, 9, 3, 8, 2, 1, 0, 6, 7, 5, 4, 11, 17], [14, 20, 13, 10, 12, 9, 3, 8, 2, 1, 0, 6, 7, 5, 4, 11, 19, 16, 18, 15, 17], [21, 19, 14, 20, 13, 10, 12, 9, 3, 8, 2, 1, 0, 6, 7, 5, 4, 11, 16, 18, 15, 17], [22, 21, 19, 14, 20, 13, 10, 12, 9, 3, 8, 2, 1, 0, 6, 7, 5, 4, 11, 16, 18, 15, 17], [23, 22, 21, 19, 14, 20, 13, 10, 12, 9, 3, 8, 2, 1, 0, 6, 7, 5, 4, 11, 16, 18, 15, 17], [22, 21, 19, 14, 20, 13, 10, 12, 9, 3, 8, 2, 1, 0, 6, 7, 5, 4, 11, 16, 18, 15, 17], [25, 22, 21, 19, 14, 20, 13, 10, 12, 9, 3, 8, 2, 1, 0, 6, 7, 5, 4, 11, 16, 18, 15, 17], [24, 26, 22, 23, 21, 19, 14, 20, 13, 10, 12, 9, 3, 8, 2, 1, 0, 6, 7, 5, 4, 11, 16, 18, 15, 17, 25], [27, 22, 24, 26, 23, 21, 19, 14, 20, 13, 10, 12, 9, 3, 8, 2, 1, 0, 6, 7, 5, 4, 11, 16, 18, 15, 17, 25], [28, 22, 27, 24, 26, 23, 21, 19, 14, 20, 13, 10, 12, 9, 3, 8, 2, 1, 0, 6, 7, 5, 4, 11, 16, 18, 15, 17, 25], [22, 21, 19, 14, 20, 13, 10, 12, 9, 3, 8, 2, 1, 0, 6, 7, 5, 4, 11, 16, 18, 15, 17], [30, 22, 21, 19, 14, 20, 13, 10, 12, 9, 3, 8, 2, 1, 0, 6, 7, 5, 4, 11, 16, 18, 15, 17], [29, 31, 22, 28, 27, 24, 26, 23, 21, 19, 14, 20, 13, 10, 12, 9, 3, 8, 2, 1, 0, 6, 7, 5, 4, 11, 16, 18, 15, 17, 25, 30], [22, 32, 21, 19, 14, 20, 13, 10, 12, 9, 3, 8, 2, 1, 0, 6, 7, 5, 4, 11, 16, 18, 15, 17, 29, 31, 28, 27, 24, 26, 23, 25, 30]]))
 (.cond (.t 89)
 (.seq (.reg [⟨(some 4), none, (.mv (.c (.sc (.bool false))))⟩] none) .ret) .skip))
 (.seq (.reg [⟨(some 90), none, (.load 13 true (.t 5))⟩,
  ⟨(some 91), none, (.call 23 [(.t 90)])⟩,
  ⟨(some 9), none, (.new [(.sc (.int .i64 (0))), (.sc (.int .i64 (0))), (.sc (.int .i64 (0))), (.sc (.int .i64 (0))), (.sc (.int .i64 (0))), (.sc (.int .i64 (0))), (.sc (.bool false)), (.sc (.slice none 0 0)), (.sc (.slice none 0 0)), (.sc (.int .i64 (0))), (.sc (.int .i64 (0))), (.sc (.int .i64 (0))), (.sc (.int .i64 (0)))])⟩,
  ⟨none, none, (.store 13 (.t 9) (.t 91))⟩] none)
 (.seq (.reg [⟨(some 92), none, (.faddr 4 (.t 2))⟩,
  ⟨(some 93), none, (.load 2 true (.t 92))⟩,
  ⟨(some 94), none, (.faddr 4 (.t 9))⟩,
  ⟨none, none, (.store 2 (.t 94) (.t 93))⟩] none)
 (.seq (.reg [⟨(some 95), none, (.faddr 7 (.t 9))⟩,
  ⟨(some 96), none, (.load 1 false (.t 95))⟩,
  ⟨(some 97), none, (.mv (.t 8))⟩,
  ⟨(some 98), none, (.bin .sub (.t 97) (.c (.sc (.int .i64 (1)))))⟩,
  ⟨(some 99), none, (.faddr 7 (.t 2))⟩,
  ⟨(some 100), none, (.load 1 false (.t 99))⟩,
  ⟨(some 101), none, (.mv (.t 8))⟩,
  ⟨(some 102), none, (.bin .sub (.t 101) (.c (.sc (.int .i64 (1)))))⟩,
  ⟨(some 103), none, (.iaddr 5 (.t 100) (.t 102))⟩,
  ⟨(some 104), none, (.faddr 3 (.t 103))⟩,
  ⟨(some 105), none, (.load 2 true (.t 104))⟩,
  ⟨(some 106), none, (.iaddr 5 (.t 96) (.t 98))⟩,
  ⟨(some 107), none, (.faddr 3 (.t 106))⟩,
  ⟨none, none, (.store 2 (.t 107) (.t 105))⟩] (some [[], [0], [], [2], [], [4], [], [6], [5, 7, 4, 6], [8, 5, 7, 4, 6], [9, 8, 5, 7, 4, 6], [1, 3, 0, 2, 4, 5, 6, 7, 8, 9, 10], [11, 0, 1, 2, 3, 4, 5, 6, 7, 8, 9, 10], [12, 10, 0, 1, 2, 3, 4, 5, 6, 7, 8, 9, 11]]))
 (.seq (.seq (.reg [⟨(some 108), none, (.load 13 true (.t 9))⟩,
  ⟨(some 109), none, (.load 13 true (.t 2))⟩,
  ⟨(some 110), none, (.call 14 [(.t 108), (.t 109)])⟩,
  ⟨(some 111), none, (.un .not (.t 110))⟩] none)
 (.cond (.t 111)
 (.seq (.reg [⟨(some 4), none, (.mv (.c (.sc (.bool false))))⟩] none) .ret) .skip))
 (.seq (.reg [⟨(some 10), none, (.mv (.c (.sc (.int .i64 (0)))))⟩] none)
 (.seq (.reg [⟨(some 112), none, (.faddr 0 (.t 2))⟩,
  ⟨(some 113), none, (.load 1 false (.t 112))⟩,
  ⟨(some 114), none, (.faddr 4 (.t 2))⟩,
  ⟨(some 115), none, (.load 2 true (.t 114))⟩,
  ⟨(some 116), none, (.build [(.sc (.int .i64 (0))), (.sc (.int .i64 (0))), (.sc (.int .i64 (0)))] [(0, (1, (.t 113))), (1, (2, (.t 115)))])⟩,
  ⟨(some 117), none, (.bslice 29 3 [(.t 116)])⟩,
  ⟨(some 11), none, (.mv (.t 117))⟩] none)
 (.seq (.reg [⟨(some 118), none, (.faddr 6 (.t 2))⟩,
  ⟨(some 119), none, (.load 1 false (.t 118))⟩,
  ⟨(some 120), none, (.un .not (.t 119))⟩,
  ⟨(some 12), none, (.mv (.t 120))⟩] none)
 (.seq (.reg [⟨(some 13), none, (.mv (.c (.sc (.slice none 0 0))))⟩] none)
 (.seq (.seq (.reg [⟨(some 14), none, (.mv (.c (.sc (.int .i64 (0)))))⟩] none) (.block 0 
 (.loop ⟨[1, 2, 5, 6, 10, 11, 12, 13, 14], [(11, (29, 3)), (13, (29, 3))]⟩
 (.seq (.seq (.reg [⟨(some 121), none, (.mv (.t 14))⟩,
  ⟨(some 122), none, (.mv (.t 1))⟩,
  ⟨(some 123), none, (.len (.t 122))⟩,
  ⟨(some 124), none, (.bin .lss (.t 121) (.t 123))⟩] none)
 (.cond (.t 124) .skip (.exit 0)))
 (.seq (.block 1
 (.seq (.seq (.reg [⟨(some 127), none, (.mv (.t 10))⟩,
  ⟨(some 128), none, (.mv (.t 6))⟩,
  ⟨(some 129), none, (.len (.t 128))⟩,
  ⟨(some 130), none, (.bin .lss (.t 127) (.t 129))⟩,
  ⟨(some 131), none, (.mv (.t 130))⟩,
  ⟨(some 132), (some (131, true)), (.mv (.t 6))⟩,
  ⟨(some 133), (some (131, true)), (.mv (.t 10))⟩,
  ⟨(some 134), (some (131, true)), (.iaddr 1 (.t 132) (.t 133))⟩,
  ⟨(some 135), (some (131, true)), (.load 1 false (.t 134))⟩,
  ⟨(some 136), (some (131, true)), (.mv (.t 14))⟩,
  ⟨(some 137), (some (131, true)), (.bin .eql (.t 135) (.t 136))⟩,
  ⟨(some 138), none, (.pick (.t 131) (.t 137) (.c (.sc (.bool false))))⟩] none)
 (.cond (.t 138) (.reg [⟨(some 139), none, (.mv (.t 10))⟩,
  ⟨(some 140), none, (.bin .add (.t 139) (.c (.sc (.int .i64 (1)))))⟩,
  ⟨(some 10), none, (.mv (.t 140))⟩] none)
 (.seq (.reg [⟨(some 141), none, (.faddr 4 (.t 5))⟩,
  ⟨(some 142), none, (.load 2 true (.t 141))⟩,
  ⟨(some 143), none, (.mv (.t 1))⟩,
  ⟨(some 144), none, (.mv (.t 14))⟩,
  ⟨(some 145), none, (.iaddr 3 (.t 143) (.t 144))⟩,
  ⟨(some 146), none, (.faddr 1 (.t 145))⟩,
  ⟨(some 147), none, (.load 2 true (.t 146))⟩,
  ⟨(some 148), none, (.call 22 [(.t 142), (.t 147)])⟩,
  ⟨(some 149), none, (.un .not (.t 148))⟩,
  ⟨(some 150), none, (.mv (.t 149))⟩,
  ⟨(some 151), (some (150, false)), (.mv (.t 1))⟩,
  ⟨(some 152), (some (150, false)), (.mv (.t 14))⟩,
  ⟨(some 153), (some (150, false)), (.iaddr 3 (.t 151) (.t 152))⟩,
  ⟨(some 154), (some (150, false)), (.faddr 0 (.t 153))⟩,
  ⟨(some 155), (some (150, false)), (.load 1 false (.t 154))⟩,
  ⟨(some 156), (some (150, false)), (.faddr 0 (.t 2))⟩,
  ⟨(some 157), (some (150, false)), (.load 1 false (.t 156))⟩,
  ⟨(some 158), (some (150, false)), (.bin .neq (.t 155) (.t 157))⟩,
  ⟨(some 159), none, (.pick (.t 150) (.c (.sc (.bool true))) (.t 158))⟩] (some [[], [0], [], [], [2, 3], [4, 2, 3], [5, 4, 2, 3], [1, 6, 0, 5, 4, 2, 3], [7, 1, 6, 0, 5, 4, 2, 3], [8, 7, 1, 6, 0, 5, 4, 2, 3], [9, 8, 7, 1, 6, 0, 5, 4, 2, 3], [9, 8, 7, 1, 6, 0, 5, 4, 2, 3], [10, 11, 9, 8, 7, 1, 6, 0, 5, 4, 2, 3], [12, 9, 10, 11, 8, 7, 1, 6, 0, 5, 4, 2, 3], [13, 9, 12, 10, 11, 8, 7, 1, 6, 0, 5, 4, 2, 3], [9, 8, 7, 1, 6, 0, 5, 4, 2, 3], [15, 9, 8, 7, 1, 6, 0, 5, 4, 2, 3], [14, 16, 9, 13, 12, 10, 11, 8, 7, 1, 6, 0, 5, 4, 2, 3, 15], [9, 17, 8, 7, 1, 6, 0, 5, 4, 2, 3, 14, 16, 13, 12, 10, 11, 15]]))
 (.cond (.t 159)
 (.seq (.reg [⟨(some 4), none, (.mv (.c (.sc (.bool false))))⟩] none) .ret) .skip))))
 (.seq (.reg [⟨(some 160), none, (.mv (.t 11))⟩,
  ⟨(some 161), none, (.mv (.t 1))⟩,
  ⟨(some 162), none, (.mv (.t 14))⟩,
  ⟨(some 163), none, (.iaddr 3 (.t 161) (.t 162))⟩,
  ⟨(some 164), none, (.load 3 true (.t 163))⟩,
  ⟨(some 165), none, (.bslice 29 3 [(.t 164)])⟩,
  ⟨(some 166), none, (.append 29 3 24 (.t 160) (.t 165))⟩,
  ⟨(some 11), none, (.mv (.t 166))⟩] none)
 (.seq (.reg [⟨(some 167), none, (.mv (.t 13))⟩,
  ⟨(some 168), none, (.mv (.t 1))⟩,
  ⟨(some 169), none, (.mv (.t 1))⟩,
  ⟨(some 170), none, (.len (.t 169))⟩,
  ⟨(some 171), none, (.bin .sub (.t 170) (.c (.sc (.int .i64 (1)))))⟩,
  ⟨(some 172), none, (.mv (.t 14))⟩,
  ⟨(some 173), none, (.bin .sub (.t 171) (.t 172))⟩,
  ⟨(some 174), none, (.iaddr 3 (.t 168) (.t 173))⟩,
  ⟨(some 175), none, (.load 3 true (.t 174))⟩,
  ⟨(some 176), none, (.bslice 29 3 [(.t 175)])⟩,
  ⟨(some 177), none, (.append 29 3 24 (.t 167) (.t 176))⟩,
  ⟨(some 13), none, (.mv (.t 177))⟩] none) (.reg [⟨(some 178), none, (.mv (.t 12))⟩,
  ⟨(some 179), none, (.mv (.t 178))⟩,
  ⟨(some 180), (some (179, true)), (.mv (.t 1))⟩,
  ⟨(some 181), (some (179, true)), (.mv (.t 14))⟩,
  ⟨(some 182), (some (179, true)), (.iaddr 3 (.t 180) (.t 181))⟩,
  ⟨(some 183), (some (179, true)), (.faddr 0 (.t 182))⟩,
  ⟨(some 184), (some (179, true)), (.load 1 false (.t 183))⟩,
  ⟨(some 185), (some (179, true)), (.faddr 0 (.t 2))⟩,
  ⟨(some 186), (some (179, true)), (.load 1 false (.t 185))⟩,
  ⟨(some 187), (some (179, true)), (.bin .eql (.t 184) (.t 186))⟩,
  ⟨(some 188), none, (.pick (.t 179) (.t 187) (.c (.sc (.bool false))))⟩,
  ⟨(some 189), none, (.mv (.t 188))⟩,
  ⟨(some 190), (some (189, true)), (.mv (.t 1))⟩,
  ⟨(some 191), (some (189, true)), (.mv (.t 14))⟩,
  ⟨(some 192), (some (189, true)), (.iaddr 3 (.t 190) (.t 191))⟩,
  ⟨(some 193), (some (189, true)), (.load 3 true (.t 192))⟩,
  ⟨(some 194), (some (189, true)), (.call 24 [(.t 193)])⟩,
  ⟨(some 195), none, (.pick (.t 189) (.t 194) (.c (.sc (.bool false))))⟩,
  ⟨(some 12), none, (.mv (.t 195))⟩] (some [[], [0], [1, 0], [1, 0], [2, 3, 1, 0], [4, 1, 2, 3, 0], [5, 1, 4, 2, 3, 0], [1, 0], [7, 1, 0], [6, 8, 1, 5, 4, 2, 3, 0, 7], [1, 9, 0, 6, 8, 5, 4, 2, 3, 7], [10, 1, 9, 0, 6, 8, 5, 4, 2, 3, 7], [11, 10, 1, 9, 0, 6, 8, 5, 4, 2, 3, 7], [11, 10, 1, 9, 0, 6, 8, 5, 4, 2, 3, 7], [12, 13, 11, 10, 1, 9, 0, 6, 8, 5, 4, 2, 3, 7], [14, 11, 12, 13, 10, 1, 9, 0, 6, 8, 5, 4, 2, 3, 7], [15, 11, 14, 12, 13, 10, 1, 9, 0, 6, 8, 5, 4, 2, 3, 7], [11, 16, 10, 1, 9, 0, 6, 8, 5, 4, 2, 3, 7, 15, 14, 12, 13], [17, 16, 0, 1, 2, 3, 4, 5, 6, 7, 8, 9, 10, 11, 12, 13, 14, 15]])))))) (.reg [⟨(some 125), none, (.mv (.t 14))⟩,
  ⟨(some 126), none, (.bin .add (.t 125) (.c (.sc (.int .i64 (1)))))⟩,
  ⟨(some 14), none, (.mv (.t 126))⟩] none))))))
 (.seq (.seq (.reg [⟨(some 196), none, (.mv (.t 10))⟩,
  ⟨(some 197), none, (.mv (.t 6))⟩,
  ⟨(some 198), none, (.len (.t 197))⟩,
  ⟨(some 199), none, (.bin .neq (.t 196) (.t 198))⟩] none)
 (.cond (.t 199)
 (.seq (.reg [⟨(some 4), none, (.mv (.c (.sc (.bool false))))⟩] none) .ret) .skip))
 (.seq (.seq (.reg [⟨(some 200), none, (.mv (.t 12))⟩,
  ⟨(some 201), none, (.un .not (.t 200))⟩,
  ⟨(some 202), none, (.mv (.t 201))⟩,
  ⟨(some 203), (some (202, false)), (.mv (.t 11))⟩,
  ⟨(some 204), (some (202, false)), (.call 19 [(.t 203)])⟩,
  ⟨(some 205), (some (202, false)), (.un .not (.t 204))⟩,
  ⟨(some 206), none, (.pick (.t 202) (.c (.sc (.bool true))) (.t 205))⟩] none)
 (.cond (.t 206)
 (.seq (.reg [⟨(some 207), none, (.call 11 [])⟩,
  ⟨(some 4), none, (.mv (.t 207))⟩] none) .ret) .skip))
 (.seq (.reg [⟨(some 209), none, (.load 13 true (.t 2))⟩,
  ⟨(some 210), none, (.mv (.t 13))⟩,
  ⟨(some 211), none, (.call 16 [(.t 209), (.t 210)])⟩,
  ⟨(some 208), none, (.mv (.t 211))⟩,
  ⟨(some 212), none, (.ext 0 (.t 208))⟩,
  ⟨(some 213), none, (.ext 1 (.t 208))⟩,
  ⟨(some 214), none, (.ext 2 (.t 208))⟩,
  ⟨(some 15), none, (.new [(.sc (.int .i64 (0))), (.sc (.int .i64 (0))), (.sc (.int .i64 (0))), (.sc (.int .i64 (0))), (.sc (.int .i64 (0))), (.sc (.int .i64 (0))), (.sc (.bool false)), (.sc (.slice none 0 0)), (.sc (.slice none 0 0)), (.sc (.int .i64 (0))), (.sc (.int .i64 (0))), (.sc (.int .i64 (0))), (.sc (.int .i64 (0)))])⟩,
  ⟨none, none, (.store 13 (.t 15) (.t 212))⟩,
  ⟨(some 16), none, (.mv (.t 213))⟩,
  ⟨(some 17), none, (.mv (.t 214))⟩] none)
 (.seq (.reg [⟨(some 215), none, (.mv (.t 6))⟩,
  ⟨(some 216), none, (.len (.t 215))⟩,
  ⟨(some 217), none, (.bin .eql (.t 216) (.c (.sc (.int .i64 (0)))))⟩,
  ⟨(some 218), none, (.mv (.t 217))⟩,
  ⟨(some 219), (some (218, true)), (.mv (.t 16))⟩,
  ⟨(some 220), (some (218, true)), (.len (.t 219))⟩,
  ⟨(some 221), (some (218, true)), (.bin .eql (.t 220) (.c (.sc (.int .i64 (0)))))⟩,
  ⟨(some 222), none, (.pick (.t 218) (.t 221) (.c (.sc (.bool false))))⟩,
  ⟨(some 223), none, (.mv (.t 222))⟩,
  ⟨(some 224), (some (223, true)), (.mv (.t 17))⟩,
  ⟨(some 225), (some (223, true)), (.bin .eql (.t 224) (.c (.sc (.int .i64 (0)))))⟩,
  ⟨(some 226), none, (.pick (.t 223) (.t 225) (.c (.sc (.bool false))))⟩,
  ⟨(some 227), none, (.mv (.t 226))⟩,
  ⟨(some 228), (some (227, true)), (.load 13 true (.t 5))⟩,
  ⟨(some 229), (some (227, true)), (.load 13 true (.t 15))⟩,
  ⟨(some 230), (some (227, true)), (.call 14 [(.t 228), (.t 229)])⟩,
  ⟨(some 231), none, (.pick (.t 227) (.t 230) (.c (.sc (.bool false))))⟩,
  ⟨(some 232), none, (.mv (.t 231))⟩,
  ⟨(some 233), (some (232, true)), (.call 11 [])⟩,
  ⟨(some 234), none, (.pick (.t 232) (.t 233) (.c (.sc (.bool false))))⟩,
  ⟨(some 4), none, (.mv (.t 234))⟩] none) .ret)))))))))))))))))))
theorem good5 {args : List PV} {r : PV} (hl : args.length ≤ 235) (h : Run Try.prog [.code ac5] (endQ [(.t 4)] r) ⟨initT 0 args, [], 0, 235⟩) : Good Try.prog 5 args r :=
  good_run (by kernel_rfl) Camix Try.func5 rfl (hs := [⟨[1, 2, 5, 6, 10, 11, 12, 13, 14], [(11, 29, 3), (13, 29, 3)]⟩]) (hs' := []) (by kernel_rfl) hl h
def ac6 : ACode :=
 (.seq (.reg [⟨(some 3), none, (.boxv (.t 0))⟩,
  ⟨(some 6), none, (.mv (.c (.sc (.bool false))))⟩] none)
 (.seq (.seq (.reg [⟨(some 13), none, (.load 13 true (.t 3))⟩,
  ⟨(some 14), none, (.call 10 [(.t 13)])⟩,
  ⟨(some 15), none, (.un .not (.t 14))⟩,
  ⟨(some 16), none, (.mv (.t 15))⟩,
  ⟨(some 17), (some (16, false)), (.mv (.t 1))⟩,
  ⟨(some 18), (some (16, false)), (.len (.t 17))⟩,
  ⟨(some 19), (some (16, false)), (.bin .gtr (.t 18) (.c (.sc (.int .i64 (60)))))⟩,
  ⟨(some 20), none, (.pick (.t 16) (.c (.sc (.bool true))) (.t 19))⟩,
  ⟨(some 21), none, (.mv (.t 20))⟩,
  ⟨(some 22), (some (21, false)), (.faddr 6 (.t 3))⟩,
  ⟨(some 23), (some (21, false)), (.load 1 false (.t 22))⟩,
  ⟨(some 24), none, (.pick (.t 21) (.c (.sc (.bool true))) (.t 23))⟩,
  ⟨(some 25), none, (.mv (.t 24))⟩,
  ⟨(some 26), (some (25, false)), (.mv (.t 2))⟩,
  ⟨(some 27), (some (25, false)), (.faddr 4 (.t 3))⟩,
  ⟨(some 28), (some (25, false)), (.faddr 0 (.t 27))⟩,
  ⟨(some 29), (some (25, false)), (.load 1 false (.t 28))⟩,
  ⟨(some 30), (some (25, false)), (.bin .lss (.t 26) (.t 29))⟩,
  ⟨(some 31), none, (.pick (.t 25) (.c (.sc (.bool true))) (.t 30))⟩,
  ⟨(some 32), none, (.mv (.t 31))⟩,
  ⟨(some 33), (some (32, false)), (.mv (.t 2))⟩,
  ⟨(some 34), (some (32, false)), (.faddr 4 (.t 3))⟩,
  ⟨(some 35), (some (32, false)), (.faddr 1 (.t 34))⟩,
  ⟨(some 36), (some (32, false)), (.load 1 false (.t 35))⟩,
  ⟨(some 37), (some (32, false)), (.bin .gtr (.t 33) (.t 36))⟩,
  ⟨(some 38), none, (.pick (.t 32) (.c (.sc (.bool true))) (.t 37))⟩] none)
 (.cond (.t 38)
 (.seq (.reg [⟨(some 39), none, (.call 11 [])⟩,
  ⟨(some 6), none, (.mv (.t 39))⟩] none) .ret) .skip))
 (.seq (.seq (.reg [⟨(some 7), none, (.mv (.c (.sc (.int .i64 (0)))))⟩] none) (.block 0 
 (.loop ⟨[1, 2, 3, 7], []⟩
 (.seq (.seq (.reg [⟨(some 40), none, (.mv (.t 7))⟩,
  ⟨(some 41), none, (.mv (.t 1))⟩,
  ⟨(some 42), none, (.len (.t 41))⟩,
  ⟨(some 43), none, (.bin .lss (.t 40) (.t 42))⟩] none)
 (.cond (.t 43) .skip (.exit 0)))
 (.seq (.block 1
 (.seq (.reg [⟨(some 46), none, (.mv (.t 1))⟩,
  ⟨(some 47), none, (.mv (.t 7))⟩,
  ⟨(some 48), none, (.iaddr 3 (.t 46) (.t 47))⟩,
  ⟨(some 49), none, (.faddr 0 (.t 48))⟩,
  ⟨(some 50), none, (.load 1 false (.t 49))⟩,
  ⟨(some 51), none, (.faddr 0 (.t 3))⟩,
  ⟨(some 52), none, (.load 1 false (.t 51))⟩,
  ⟨(some 53), none, (.bin .eql (.t 50) (.t 52))⟩,
  ⟨(some 54), none, (.mv (.t 53))⟩,
  ⟨(some 55), (some (54, true)), (.mv (.t 1))⟩,
  ⟨(some 56), (some (54, true)), (.mv (.t 7))⟩,
  ⟨(some 57), (some (54, true)), (.iaddr 3 (.t 55) (.t 56))⟩,
  ⟨(some 58), (some (54, true)), (.load 3 true (.t 57))⟩,
  ⟨(some 59), (some (54, true)), (.call 24 [(.t 58)])⟩,
  ⟨(some 60), none, (.pick (.t 54) (.t 59) (.c (.sc (.bool false))))⟩,
  ⟨(some 61), none, (.mv (.t 60))⟩,
  ⟨(some 62), (some (61, true)), (.mv (.t 2))⟩,
  ⟨(some 63), (some (61, true)), (.mv (.t 1))⟩,
  ⟨(some 64), (some (61, true)), (.mv (.t 7))⟩,
  ⟨(some 65), (some (61, true)), (.iaddr 3 (.t 63) (.t 64))⟩,
  ⟨(some 66), (some (61, true)), (.faddr 1 (.t 65))⟩,
  ⟨(some 67), (some (61, true)), (.faddr 0 (.t 66))⟩,
  ⟨(some 68), (some (61, true)), (.load 1 false (.t 67))⟩,
  ⟨(some 69), (some (61, true)), (.bin .lss (.t 62) (.t 68))⟩,
  ⟨(some 70), (some (61, true)), (.mv (.t 69))⟩,
  ⟨(some 71), (some (70, false)), (.mv (.t 2))⟩,
  ⟨(some 72), (some (70, false)), (.mv (.t 1))⟩,
  ⟨(some 73), (some (70, false)), (.mv (.t 7))⟩,
  ⟨(some 74), (some (70, false)), (.iaddr 3 (.t 72) (.t 73))⟩,
  ⟨(some 75), (some (70, false)), (.faddr 1 (.t 74))⟩,
  ⟨(some 76), (some (70, false)), (.faddr 1 (.t 75))⟩,
  ⟨(some 77), (some (70, false)), (.load 1 false (.t 76))⟩,
  ⟨(some 78), (some (70, false)), (.bin .gtr (.t 71) (.t 77))⟩,
  ⟨(some 79), (some (61, true)), (.pick (.t 70) (.c (.sc (.bool true))) (.t 78))⟩,
  ⟨(some 80), none, (.pick (.t 61) (.t 79) (.c (.sc (.bool false))))⟩] (some [[], [], [0, 1], [2, 0, 1], [3, 2, 0, 1], [], [5], [4, 6, 3, 2, 0, 1, 5], [7, 4, 6, 3, 2, 0, 1, 5], [8, 7, 4, 6, 3, 2, 0, 1, 5], [8, 7, 4, 6, 3, 2, 0, 1, 5], [9, 10, 8, 7, 4, 6, 3, 2, 0, 1, 5], [11, 8, 9, 10, 7, 4, 6, 3, 2, 0, 1, 5], [12, 8, 11, 9, 10, 7, 4, 6, 3, 2, 0, 1, 5], [8, 13, 7, 4, 6, 3, 2, 0, 1, 5, 12, 11, 9, 10], [14, 13, 8, 7, 4, 6, 3, 2, 0, 1, 5, 12, 11, 9, 10], [15, 14, 13, 8, 7, 4, 6, 3, 2, 0, 1, 5, 12, 11, 9, 10], [15, 14, 13, 8, 7, 4, 6, 3, 2, 0, 1, 5, 12, 11, 9, 10], [15, 14, 13, 8, 7, 4, 6, 3, 2, 0, 1, 5, 12, 11, 9, 10], [17, 18, 15, 14, 13, 8, 7, 4, 6, 3, 2, 0, 1, 5, 12, 11, 9, 10], [19, 15, 17, 18, 14, 13, 8, 7, 4, 6, 3, 2, 0, 1, 5, 12, 11, 9, 10], [20, 15, 19, 17, 18, 14, 13, 8, 7, 4, 6, 3, 2, 0, 1, 5, 12, 11, 9, 10], [21, 15, 20, 19, 17, 18, 14, 13, 8, 7, 4, 6, 3, 2, 0, 1, 5, 12, 11, 9, 10], [16, 22, 15, 14, 13, 8, 7, 4, 6, 3, 2, 0, 1, 5, 12, 11, 9, 10, 21, 20, 19, 17, 18], [23, 15, 16, 22, 14, 13, 8, 7, 4, 6, 3, 2, 0, 1, 5, 12, 11, 9, 10, 21, 20, 19, 17, 18], [24, 23, 15, 16, 22, 14, 13, 8, 7, 4, 6, 3, 2, 0, 1, 5, 12, 11, 9, 10, 21, 20, 19, 17, 18], [24, 23, 15, 16, 22, 14, 13, 8, 7, 4, 6, 3, 2, 0, 1, 5, 12, 11, 9, 10, 21, 20, 19, 17, 18], [24, 23, 15, 16, 22, 14, 13, 8, 7, 4, 6, 3, 2, 0, 1, 5, 12, 11, 9, 10, 21, 20, 19, 17, 18], [26, 27, 24, 23, 15, 16, 22, 14, 13, 8, 7, 4, 6, 3, 2, 0, 1, 5, 12, 11, 9, 10, 21, 20, 19, 17, 18], [28, 24, 26, 27, 23, 15, 16, 22, 14, 13, 8, 7, 4, 6, 3, 2, 0, 1, 5, 12, 11, 9, 10, 21, 20, 19, 17, 18], [29, 24, 28, 26, 27, 23, 15, 16, 22, 14, 13, 8, 7, 4, 6, 3, 2, 0, 1, 5, 12, 11, 9, 10, 21, 20, 19, 17, 18], [30, 24, 29, 28, 26, 27, 23, 15, 16, 22, 14, 13, 8, 7, 4, 6, 3, 2, 0, 1, 5, 12, 11, 9, 10, 21, 20, 19, 17, 18], [25, 31, 24, 23, 15, 16, 22, 14, 13, 8, 7, 4, 6, 3, 2, 0, 1, 5, 12, 11, 9, 10, 21, 20, 19, 17, 18, 30, 29, 28, 26, 27], [24, 32, 15, 23, 16, 22, 14, 13, 8, 7, 4, 6, 3, 2, 0, 1, 5, 12, 11, 9, 10, 21, 20, 19, 17, 18, 25, 31, 30, 29, 28, 26, 27], [15, 33, 14, 13, 8, 7, 4, 6, 3, 2, 0, 1, 5, 12, 11, 9, 10, 24, 32, 23, 16, 22, 21, 20, 19, 17, 18, 25, 31, 30, 29, 28, 26, 27]]))
 (.cond (.t 80)
 (.seq (.reg [⟨(some 81), none, (.call 11 [])⟩,
  ⟨(some 6), none, (.mv (.t 81))⟩] none) .ret) .skip))) (.reg [⟨(some 44), none, (.mv (.t 7))⟩,
  ⟨(some 45), none, (.bin .add (.t 44) (.c (.sc (.int .i64 (1)))))⟩,
  ⟨(some 7), none, (.mv (.t 45))⟩] none))))))
 (.seq (.reg [⟨(some 83), none, (.load 13 true (.t 3))⟩,
  ⟨(some 84), none, (.mv (.t 1))⟩,
  ⟨(some 85), none, (.call 16 [(.t 83), (.t 84)])⟩,
  ⟨(some 82), none, (.mv (.t 85))⟩,
  ⟨(some 86), none, (.ext 0 (.t 82))⟩,
  ⟨(some 87), none, (.ext 1 (.t 82))⟩,
  ⟨(some 88), none, (.ext 2 (.t 82))⟩,
  ⟨(some 8), none, (.new [(.sc (.int .i64 (0))), (.sc (.int .i64 (0))), (.sc (.int .i64 (0))), (.sc (.int .i64 (0))), (.sc (.int .i64 (0))), (.sc (.int .i64 (0))), (.sc (.bool false)), (.sc (.slice none 0 0)), (.sc (.slice none 0 0)), (.sc (.int .i64 (0))), (.sc (.int .i64 (0))), (.sc (.int .i64 (0))), (.sc (.int .i64 (0)))])⟩,
  ⟨none, none, (.store 13 (.t 8) (.t 86))⟩,
  ⟨(some 9), none, (.mv (.t 87))⟩,
  ⟨(some 10), none, (.mv (.t 88))⟩] none)
 (.seq (.seq (.reg [⟨(some 89), none, (.mv (.t 10))⟩,
  ⟨(some 90), none, (.bin .neq (.t 89) (.c (.sc (.int .i64 (0)))))⟩] none)
 (.cond (.t 90)
 (.seq (.reg [⟨(some 91), none, (.mv (.t 10))⟩,
  ⟨(some 92), none, (.load 13 true (.t 3))⟩,
  ⟨(some 93), none, (.call 21 [(.t 92)])⟩,
  ⟨(some 94), none, (.bin .eql (.t 91) (.t 93))⟩,
  ⟨(some 95), none, (.mv (.t 94))⟩,
  ⟨(some 96), (some (95, true)), (.call 11 [])⟩,
  ⟨(some 97), none, (.pick (.t 95) (.t 96) (.c (.sc (.bool false))))⟩,
  ⟨(some 6), none, (.mv (.t 97))⟩] none) .ret) .skip))
 (.seq (.seq (.reg [⟨(some 11), none, (.mv (.c (.sc (.int .i64 (0)))))⟩] none) (.block 2 
 (.loop ⟨[1, 2, 3, 8, 9, 11], []⟩
 (.seq (.seq (.reg [⟨(some 98), none, (.mv (.t 11))⟩,
  ⟨(some 99), none, (.mv (.t 9))⟩,
  ⟨(some 100), none, (.len (.t 99))⟩,
  ⟨(some 101), none, (.bin .lss (.t 98) (.t 100))⟩] none)
 (.cond (.t 101) .skip (.exit 2)))
 (.seq (.block 3
 (.seq (.reg [⟨(some 104), none, (.mv (.t 9))⟩,
  ⟨(some 105), none, (.mv (.t 11))⟩,
  ⟨(some 106), none, (.iaddr 1 (.t 104) (.t 105))⟩,
  ⟨(some 107), none, (.load 1 false (.t 106))⟩,
  ⟨(some 12), none, (.mv (.t 107))⟩] none)
 (.seq (.reg [⟨(some 108), none, (.mv (.t 12))⟩,
  ⟨(some 109), none, (.bin .lss (.t 108) (.c (.sc (.int .i64 (0)))))⟩,
  ⟨(some 110), none, (.mv (.t 109))⟩,
  ⟨(some 111), (some (110, false)), (.mv (.t 12))⟩,
  ⟨(some 112), (some (110, false)), (.mv (.t 1))⟩,
  ⟨(some 113), (some (110, false)), (.len (.t 112))⟩,
  ⟨(some 114), (some (110, false)), (.bin .geq (.t 111) (.t 113))⟩,
  ⟨(some 115), none, (.pick (.t 110) (.c (.sc (.bool true))) (.t 114))⟩,
  ⟨(some 116), none, (.mv (.t 115))⟩,
  ⟨(some 117), (some (116, false)), (.mv (.t 1))⟩,
  ⟨(some 118), (some (116, false)), (.mv (.t 12))⟩,
  ⟨(some 119), (some (116, false)), (.iaddr 3 (.t 117) (.t 118))⟩,
  ⟨(some 120), (some (116, false)), (.faddr 0 (.t 119))⟩,
  ⟨(some 121), (some (116, false)), (.load 1 false (.t 120))⟩,
  ⟨(some 122), (some (116, false)), (.faddr 0 (.t 3))⟩,
  ⟨(some 123), (some (116, false)), (.load 1 false (.t 122))⟩,
  ⟨(some 124), (some (116, false)), (.bin .eql (.t 121) (.t 123))⟩,
  ⟨(some 125), (some (116, false)), (.mv (.t 124))⟩,
  ⟨(some 126), (some (125, true)), (.mv (.t 1))⟩,
  ⟨(some 127), (some (125, true)), (.mv (.t 12))⟩,
  ⟨(some 128), (some (125, true)), (.iaddr 3 (.t 126) (.t 127))⟩,
  ⟨(some 129), (some (125, true)), (.load 3 true (.t 128))⟩,
  ⟨(some 130), (some (125, true)), (.call 24 [(.t 129)])⟩,
  ⟨(some 131), (some (116, false)), (.pick (.t 125) (.t 130) (.c (.sc (.bool false))))⟩,
  ⟨(some 132), none, (.pick (.t 116) (.c (.sc (.bool true))) (.t 131))⟩] (some [[], [0], [1, 0], [2, 1, 0], [2, 1, 0], [4, 2, 1, 0], [3, 5, 2, 1, 0, 4], [2, 6, 1, 0, 3, 5, 4], [7, 2, 6, 1, 0, 3, 5, 4], [8, 7, 2, 6, 1, 0, 3, 5, 4], [8, 7, 2, 6, 1, 0, 3, 5, 4], [9, 10, 8, 7, 2, 6, 1, 0, 3, 5, 4], [11, 8, 9, 10, 7, 2, 6, 1, 0, 3, 5, 4], [12, 8, 11, 9, 10, 7, 2, 6, 1, 0, 3, 5, 4], [8, 7, 2, 6, 1, 0, 3, 5, 4], [14, 8, 7, 2, 6, 1, 0, 3, 5, 4], [13, 15, 8, 12, 11, 9, 10, 7, 2, 6, 1, 0, 3, 5, 4, 14], [16, 8, 13, 15, 12, 11, 9, 10, 7, 2, 6, 1, 0, 3, 5, 4, 14], [17, 16, 8, 13, 15, 12, 11, 9, 10, 7, 2, 6, 1, 0, 3, 5, 4, 14], [17, 16, 8, 13, 15, 12, 11, 9, 10, 7, 2, 6, 1, 0, 3, 5, 4, 14], [18, 19, 17, 16, 8, 13, 15, 12, 11, 9, 10, 7, 2, 6, 1, 0, 3, 5, 4, 14], [20, 17, 18, 19, 16, 8, 13, 15, 12, 11, 9, 10, 7, 2, 6, 1, 0, 3, 5, 4, 14], [21, 17, 20, 18, 19, 16, 8, 13, 15, 12, 11, 9, 10, 7, 2, 6, 1, 0, 3, 5, 4, 14], [17, 22, 8, 16, 13, 15, 12, 11, 9, 10, 7, 2, 6, 1, 0, 3, 5, 4, 14, 21, 20, 18, 19], [8, 23, 7, 2, 6, 1, 0, 3, 5, 4, 17, 22, 16, 13, 15, 12, 11, 9, 10, 14, 21, 20, 18, 19]]))
 (.cond (.t 132)
 (.seq (.reg [⟨(some 6), none, (.mv (.c (.sc (.bool false))))⟩] none) .ret) .skip)))) (.reg [⟨(some 102), none, (.mv (.t 11))⟩,
  ⟨(some 103), none, (.bin .add (.t 102) (.c (.sc (.int .i64 (1)))))⟩,
  ⟨(some 11), none, (.mv (.t 103))⟩] none))))))
 (.seq (.reg [⟨(some 133), none, (.faddr 4 (.t 8))⟩,
  ⟨(some 134), none, (.faddr 0 (.t 133))⟩,
  ⟨(some 135), none, (.load 1 false (.t 134))⟩,
  ⟨(some 136), none, (.mv (.t 2))⟩,
  ⟨(some 137), none, (.bin .leq (.t 135) (.t 136))⟩,
  ⟨(some 138), none, (.mv (.t 137))⟩,
  ⟨(some 139), (some (138, true)), (.mv (.t 2))⟩,
  ⟨(some 140), (some (138, true)), (.faddr 4 (.t 8))⟩,
  ⟨(some 141), (some (138, true)), (.faddr 1 (.t 140))⟩,
  ⟨(some 142), (some (138, true)), (.load 1 false (.t 141))⟩,
  ⟨(some 143), (some (138, true)), (.bin .leq (.t 139) (.t 142))⟩,
  ⟨(some 144), none, (.pick (.t 138) (.t 143) (.c (.sc (.bool false))))⟩,
  ⟨(some 145), none, (.mv (.t 144))⟩,
  ⟨(some 146), (some (145, true)), (.call 11 [])⟩,
  ⟨(some 147), none, (.pick (.t 145) (.t 146) (.c (.sc (.bool false))))⟩,
  ⟨(some 6), none, (.mv (.t 147))⟩] none) .ret)))))))
theorem good6 {args : List PV} {r : PV} (hl : args.length ≤ 148) (h : Run Try.prog [.code ac6] (endQ [(.t 6)] r) ⟨initT 0 args, [], 0, 148⟩) : Good Try.prog 6 args r :=
  good_run (by kernel_rfl) Camix Try.func6 rfl (hs := [⟨[1, 2, 3, 7], []⟩, ⟨[1, 2, 3, 8, 9, 11], []⟩]) (hs' := []) (by kernel_rfl) hl h
def ac7 : ACode :=
 (.seq (.reg [⟨(some 2), none, (.boxv (.t 0))⟩,
  ⟨(some 4), none, (.mv (.c (.sc (.bool false))))⟩] none)
 (.seq (.seq (.reg [⟨(some 17), none, (.load 13 true (.t 2))⟩,
  ⟨(some 18), none, (.call 10 [(.t 17)])⟩,
  ⟨(some 19), none, (.un .not (.t 18))⟩,
  ⟨(some 20), none, (.mv (.t 19))⟩,
  ⟨(some 21), (some (20, false)), (.mv (.t 1))⟩,
  ⟨(some 22), (some (20, false)), (.len (.t 21))⟩,
  ⟨(some 23), (some (20, false)), (.bin .gtr (.t 22) (.c (.sc (.int .i64 (60)))))⟩,
  ⟨(some 24), none, (.pick (.t 20) (.c (.sc (.bool true))) (.t 23))⟩] none)
 (.cond (.t 24)
 (.seq (.reg [⟨(some 25), none, (.call 11 [])⟩,
  ⟨(some 4), none, (.mv (.t 25))⟩] none) .ret) .skip))
 (.seq (.reg [⟨(some 27), none, (.load 13 true (.t 2))⟩,
  ⟨(some 28), none, (.mv (.t 1))⟩,
  ⟨(some 29), none, (.call 16 [(.t 27), (.t 28)])⟩,
  ⟨(some 26), none, (.mv (.t 29))⟩,
  ⟨(some 30), none, (.ext 0 (.t 26))⟩,
  ⟨(some 31), none, (.ext 1 (.t 26))⟩,
  ⟨(some 32), none, (.ext 2 (.t 26))⟩,
  ⟨(some 5), none, (.new [(.sc (.int .i64 (0))), (.sc (.int .i64 (0))), (.sc (.int .i64 (0))), (.sc (.int .i64 (0))), (.sc (.int .i64 (0))), (.sc (.int .i64 (0))), (.sc (.bool false)), (.sc (.slice none 0 0)), (.sc (.slice none 0 0)), (.sc (.int .i64 (0))), (.sc (.int .i64 (0))), (.sc (.int .i64 (0))), (.sc (.int .i64 (0)))])⟩,
  ⟨none, none, (.store 13 (.t 5) (.t 30))⟩,
  ⟨(some 6), none, (.mv (.t 31))⟩,
  ⟨(some 7), none, (.mv (.t 32))⟩] none)
 (.seq (.seq (.reg [⟨(some 33), none, (.mv (.t 7))⟩,
  ⟨(some 34), none, (.bin .neq (.t 33) (.c (.sc (.int .i64 (0)))))⟩] none)
 (.cond (.t 34)
 (.seq (.reg [⟨(some 35), none, (.call 11 [])⟩,
  ⟨(some 4), none, (.mv (.t 35))⟩] none) .ret) .skip))
 (.seq (.reg [⟨(some 37), none, (.load 13 true (.t 5))⟩,
  ⟨(some 38), none, (.mv (.t 1))⟩,
  ⟨(some 39), none, (.call 16 [(.t 37), (.t 38)])⟩,
  ⟨(some 36), none, (.mv (.t 39))⟩,
  ⟨(some 40), none, (.ext 0 (.t 36))⟩,
  ⟨(some 41), none, (.ext 1 (.t 36))⟩,
  ⟨(some 42), none, (.ext 2 (.t 36))⟩,
  ⟨(some 8), none, (.new [(.sc (.int .i64 (0))), (.sc (.int .i64 (0))), (.sc (.int .i64 (0))), (.sc (.int .i64 (0))), (.sc (.int .i64 (0))), (.sc (.int .i64 (0))), (.sc (.bool false)), (.sc (.slice none 0 0)), (.sc (.slice none 0 0)), (.sc (.int .i64 (0))), (.sc (.int .i64 (0))), (.sc (.int .i64 (0))), (.sc (.int .i64 (0)))])⟩,
  ⟨none, none, (.store 13 (.t 8) (.t 40))⟩,
  ⟨(some 9), none, (.mv (.t 41))⟩,
  ⟨(some 10), none, (.mv (.t 42))⟩] none)
 (.seq (.reg [⟨(some 11), none, (.mv (.c (.sc (.slice none 0 0))))⟩] none)
 (.seq (.reg [⟨(some 12), none, (.mv (.c (.sc (.int .i64 (0)))))⟩] none)
 (.seq (.seq (.reg [⟨(some 13), none, (.mv (.c (.sc (.int .i64 (0)))))⟩] none) (.block 0 
 (.loop ⟨[1, 2, 5, 6, 8, 9, 10, 11, 12, 13], [(11, (29, 3))]⟩
 (.seq (.seq (.reg [⟨(some 43), none, (.mv (.t 13))⟩,
  ⟨(some 44), none, (.mv (.t 1))⟩,
  ⟨(some 45), none, (.len (.t 44))⟩,
  ⟨(some 46), none, (.bin .lss (.t 43) (.t 45))⟩] none)
 (.cond (.t 46) .skip (.exit 0)))
 (.seq (.block 1
 (.seq (.seq (.reg [⟨(some 49), none, (.mv (.t 12))⟩,
  ⟨(some 50), none, (.mv (.t 6))⟩,
  ⟨(some 51), none, (.len (.t 50))⟩,
  ⟨(some 52), none, (.bin .lss (.t 49) (.t 51))⟩,
  ⟨(some 53), none, (.mv (.t 52))⟩,
  ⟨(some 54), (some (53, true)), (.mv (.t 6))⟩,
  ⟨(some 55), (some (53, true)), (.mv (.t 12))⟩,
  ⟨(some 56), (some (53, true)), (.iaddr 1 (.t 54) (.t 55))⟩,
  ⟨(some 57), (some (53, true)), (.load 1 false (.t 56))⟩,
  ⟨(some 58), (some (53, true)), (.mv (.t 13))⟩,
  ⟨(some 59), (some (53, true)), (.bin .eql (.t 57) (.t 58))⟩,
  ⟨(some 60), none, (.pick (.t 53) (.t 59) (.c (.sc (.bool false))))⟩] none)
 (.cond (.t 60)
 (.seq (.reg [⟨(some 61), none, (.mv (.t 12))⟩,
  ⟨(some 62), none, (.bin .add (.t 61) (.c (.sc (.int .i64 (1)))))⟩,
  ⟨(some 12), none, (.mv (.t 62))⟩] none) (.exit 1)) .skip)) (.reg [⟨(some 63), none, (.mv (.t 11))⟩,
  ⟨(some 64), none, (.mv (.t 1))⟩,
  ⟨(some 65), none, (.mv (.t 13))⟩,
  ⟨(some 66), none, (.iaddr 3 (.t 64) (.t 65))⟩,
  ⟨(some 67), none, (.load 3 true (.t 66))⟩,
  ⟨(some 68), none, (.bslice 29 3 [(.t 67)])⟩,
  ⟨(some 69), none, (.append 29 3 24 (.t 63) (.t 68))⟩,
  ⟨(some 11), none, (.mv (.t 69))⟩] none))) (.reg [⟨(some 47), none, (.mv (.t 13))⟩,
  ⟨(some 48), none, (.bin .add (.t 47) (.c (.sc (.int .i64 (1)))))⟩,
  ⟨(some 13), none, (.mv (.t 48))⟩] none))))))
 (.seq (.reg [⟨(some 71), none, (.load 13 true (.t 2))⟩,
  ⟨(some 72), none, (.mv (.t 11))⟩,
  ⟨(some 73), none, (.call 16 [(.t 71), (.t 72)])⟩,
  ⟨(some 70), none, (.mv (.t 73))⟩,
  ⟨(some 74), none, (.ext 0 (.t 70))⟩,
  ⟨(some 75), none, (.ext 1 (.t 70))⟩,
  ⟨(some 76), none, (.ext 2 (.t 70))⟩,
  ⟨(some 14), none, (.new [(.sc (.int .i64 (0))), (.sc (.int .i64 (0))), (.sc (.int .i64 (0))), (.sc (.int .i64 (0))), (.sc (.int .i64 (0))), (.sc (.int .i64 (0))), (.sc (.bool false)), (.sc (.slice none 0 0)), (.sc (.slice none 0 0)), (.sc (.int .i64 (0))), (.sc (.int .i64 (0))), (.sc (.int .i64 (0))), (.sc (.int .i64 (0)))])⟩,
  ⟨none, none, (.store 13 (.t 14) (.t 74))⟩,
  ⟨(some 15), none, (.mv (.t 75))⟩,
  ⟨(some 16), none, (.mv (.t 76))⟩] none)
 (.seq (.reg [⟨(some 77), none, (.mv (.t 10))⟩,
  ⟨(some 78), none, (.bin .eql (.t 77) (.c (.sc (.int .i64 (0)))))⟩,
  ⟨(some 79), none, (.mv (.t 78))⟩,
  ⟨(some 80), (some (79, true)), (.load 13 true (.t 5))⟩,
  ⟨(some 81), (some (79, true)), (.load 13 true (.t 8))⟩,
  ⟨(some 82), (some (79, true)), (.call 14 [(.t 80), (.t 81)])⟩,
  ⟨(some 83), none, (.pick (.t 79) (.t 82) (.c (.sc (.bool false))))⟩,
  ⟨(some 84), none, (.mv (.t 83))⟩,
  ⟨(some 85), (some (84, true)), (.mv (.t 6))⟩,
  ⟨(some 86), (some (84, true)), (.mv (.t 9))⟩,
  ⟨(some 87), (some (84, true)), (.call 18 [(.t 85), (.t 86)])⟩,
  ⟨(some 88), none, (.pick (.t 84) (.t 87) (.c (.sc (.bool false))))⟩,
  ⟨(some 89), none, (.mv (.t 88))⟩,
  ⟨(some 90), (some (89, true)), (.mv (.t 16))⟩,
  ⟨(some 91), (some (89, true)), (.bin .eql (.t 90) (.c (.sc (.int .i64 (0)))))⟩,
  ⟨(some 92), none, (.pick (.t 89) (.t 91) (.c (.sc (.bool false))))⟩,
  ⟨(some 93), none, (.mv (.t 92))⟩,
  ⟨(some 94), (some (93, true)), (.load 13 true (.t 5))⟩,
  ⟨(some 95), (some (93, true)), (.load 13 true (.t 14))⟩,
  ⟨(some 96), (some (93, true)), (.call 14 [(.t 94), (.t 95)])⟩,
  ⟨(some 97), none, (.pick (.t 93) (.t 96) (.c (.sc (.bool false))))⟩,
  ⟨(some 98), none, (.mv (.t 97))⟩,
  ⟨(some 99), (some (98, true)), (.mv (.t 15))⟩,
  ⟨(some 100), (some (98, true)), (.len (.t 99))⟩,
  ⟨(some 101), (some (98, true)), (.bin .eql (.t 100) (.c (.sc (.int .i64 (0)))))⟩,
  ⟨(some 102), none, (.pick (.t 98) (.t 101) (.c (.sc (.bool false))))⟩,
  ⟨(some 103), none, (.mv (.t 102))⟩,
  ⟨(some 104), (some (103, true)), (.call 11 [])⟩,
  ⟨(some 105), none, (.pick (.t 103) (.t 104) (.c (.sc (.bool false))))⟩,
  ⟨(some 4), none, (.mv (.t 105))⟩] none) .ret))))))))))
theorem good7 {args : List PV} {r : PV} (hl : args.length ≤ 106) (h : Run Try.prog [.code ac7] (endQ [(.t 4)] r) ⟨initT 0 args, [], 0, 106⟩) : Good Try.prog 7 args r :=
  good_run (by kernel_rfl) Camix Try.func7 rfl (hs := [⟨[1, 2, 5, 6, 8, 9, 10, 11, 12, 13], [(11, 29, 3)]⟩]) (hs' := []) (by kernel_rfl) hl h
def ac8 : ACode :=
 (.seq (.reg [⟨(some 4), none, (.mv (.c (.sc (.bool false))))⟩] none)
 (.seq (.seq (.reg [⟨(some 9), none, (.mv (.t 0))⟩,
  ⟨(some 10), none, (.call 25 [(.t 9), (.c (.sc (.int .i64 (8))))])⟩,
  ⟨(some 11), none, (.un .not (.t 10))⟩,
  ⟨(some 12), none, (.mv (.t 11))⟩,
  ⟨(some 13), (some (12, false)), (.mv (.t 1))⟩,
  ⟨(some 14), (some (12, false)), (.call 15 [(.t 13)])⟩,
  ⟨(some 15), (some (12, false)), (.un .not (.t 14))⟩,
  ⟨(some 16), none, (.pick (.t 12) (.c (.sc (.bool true))) (.t 15))⟩] none)
 (.cond (.t 16)
 (.seq (.reg [⟨(some 17), none, (.call 11 [])⟩,
  ⟨(some 4), none, (.mv (.t 17))⟩] none) .ret) .skip))
 (.seq (.reg [⟨(some 19), none, (.mv (.t 0))⟩,
  ⟨(some 20), none, (.mv (.t 1))⟩,
  ⟨(some 21), none, (.call 26 [(.t 19), (.t 20)])⟩,
  ⟨(some 18), none, (.mv (.t 21))⟩,
  ⟨(some 22), none, (.ext 0 (.t 18))⟩,
  ⟨(some 23), none, (.ext 1 (.t 18))⟩,
  ⟨(some 5), none, (.mv (.t 22))⟩,
  ⟨(some 6), none, (.mv (.t 23))⟩] none)
 (.seq (.reg [⟨(some 25), none, (.mv (.t 0))⟩,
  ⟨(some 26), none, (.mv (.t 1))⟩,
  ⟨(some 27), none, (.call 27 [(.t 25), (.t 26)])⟩,
  ⟨(some 24), none, (.mv (.t 27))⟩,
  ⟨(some 28), none, (.ext 0 (.t 24))⟩,
  ⟨(some 29), none, (.ext 1 (.t 24))⟩,
  ⟨(some 7), none, (.mv (.t 28))⟩,
  ⟨(some 8), none, (.mv (.t 29))⟩] none)
 (.seq (.reg [⟨(some 30), none, (.mv (.t 5))⟩,
  ⟨(some 31), none, (.mv (.t 7))⟩,
  ⟨(some 32), none, (.call 28 [(.t 30), (.t 31)])⟩,
  ⟨(some 33), none, (.mv (.t 32))⟩,
  ⟨(some 34), (some (33, true)), (.mv (.t 6))⟩,
  ⟨(some 35), (some (33, true)), (.mv (.t 8))⟩,
  ⟨(some 36), (some (33, true)), (.bin .eql (.t 34) (.t 35))⟩,
  ⟨(some 37), none, (.pick (.t 33) (.t 36) (.c (.sc (.bool false))))⟩,
  ⟨(some 38), none, (.mv (.t 37))⟩,
  ⟨(some 39), (some (38, true)), (.call 11 [])⟩,
  ⟨(some 40), none, (.pick (.t 38) (.t 39) (.c (.sc (.bool false))))⟩,
  ⟨(some 4), none, (.mv (.t 40))⟩] none) .ret)))))
theorem good8 {args : List PV} {r : PV} (hl : args.length ≤ 41) (h : Run Try.prog [.code ac8] (endQ [(.t 4)] r) ⟨initT 0 args, [], 0, 41⟩) : Good Try.prog 8 args r :=
  good_run (by kernel_rfl) Camix Try.func8 rfl (hs := []) (hs' := []) (by kernel_rfl) hl h
def ac9 : ACode :=
 (.seq (.reg [⟨(some 4), none, (.mv (.c (.sc (.bool false))))⟩] none)
 (.seq (.seq (.reg [⟨(some 13), none, (.mv (.t 0))⟩,
  ⟨(some 14), none, (.call 25 [(.t 13), (.c (.sc (.int .i64 (8))))])⟩,
  ⟨(some 15), none, (.un .not (.t 14))⟩,
  ⟨(some 16), none, (.mv (.t 15))⟩,
  ⟨(some 17), (some (16, false)), (.mv (.t 1))⟩,
  ⟨(some 18), (some (16, false)), (.len (.t 17))⟩,
  ⟨(some 19), (some (16, false)), (.bin .gtr (.t 18) (.c (.sc (.int .i64 (60)))))⟩,
  ⟨(some 20), none, (.pick (.t 16) (.c (.sc (.bool true))) (.t 19))⟩] none)
 (.cond (.t 20)
 (.seq (.reg [⟨(some 21), none, (.call 11 [])⟩,
  ⟨(some 4), none, (.mv (.t 21))⟩] none) .ret) .skip))
 (.seq (.reg [⟨(some 23), none, (.mv (.t 0))⟩,
  ⟨(some 24), none, (.mv (.t 1))⟩,
  ⟨(some 25), none, (.call 26 [(.t 23), (.t 24)])⟩,
  ⟨(some 22), none, (.mv (.t 25))⟩,
  ⟨(some 26), none, (.ext 0 (.t 22))⟩,
  ⟨(some 27), none, (.ext 1 (.t 22))⟩,
  ⟨(some 5), none, (.mv (.t 26))⟩,
  ⟨(some 6), none, (.mv (.t 27))⟩] none)
 (.seq (.seq (.reg [⟨(some 7), none, (.mv (.c (.sc (.int .i64 (0)))))⟩] none) (.block 0 
 (.loop ⟨[0, 1, 5, 6, 7], []⟩
 (.seq (.seq (.reg [⟨(some 28), none, (.mv (.t 7))⟩,
  ⟨(some 29), none, (.mv (.t 0))⟩,
  ⟨(some 30), none, (.len (.t 29))⟩,
  ⟨(some 31), none, (.bin .lss (.t 28) (.t 30))⟩] none)
 (.cond (.t 31) .skip (.exit 0)))
 (.seq (.block 1
 (.seq (.reg [⟨(some 8), none, (.mv (.c (.sc (.slice none 0 0))))⟩] none)
 (.seq (.seq (.reg [⟨(some 9), none, (.mv (.c (.sc (.int .i64 (0)))))⟩] none) (.block 2 
 (.loop ⟨[0, 1, 5, 6, 7, 8, 9], [(8, (29, 3))]⟩
 (.seq (.seq (.reg [⟨(some 34), none, (.mv (.t 9))⟩,
  ⟨(some 35), none, (.mv (.t 1))⟩,
  ⟨(some 36), none, (.len (.t 35))⟩,
  ⟨(some 37), none, (.bin .lss (.t 34) (.t 36))⟩] none)
 (.cond (.t 37) .skip (.exit 2)))
 (.seq (.block 3
 (.seq (.reg [⟨(some 40), none, (.mv (.t 1))⟩,
  ⟨(some 41), none, (.mv (.t 9))⟩,
  ⟨(some 42), none, (.iaddr 3 (.t 40) (.t 41))⟩,
  ⟨(some 43), none, (.faddr 0 (.t 42))⟩,
  ⟨(some 44), none, (.load 1 false (.t 43))⟩,
  ⟨(some 45), none, (.mv (.t 0))⟩,
  ⟨(some 46), none, (.mv (.t 7))⟩,
  ⟨(some 47), none, (.iaddr 13 (.t 45) (.t 46))⟩,
  ⟨(some 48), none, (.faddr 0 (.t 47))⟩,
  ⟨(some 49), none, (.load 1 false (.t 48))⟩,
  ⟨(some 50), none, (.bin .eql (.t 44) (.t 49))⟩] (some [[], [], [0, 1], [2, 0, 1], [3, 2, 0, 1], [], [], [5, 6], [7, 5, 6], [8, 7, 5, 6], [4, 9, 3, 2, 0, 1, 8, 7, 5, 6]]))
 (.cond (.t 50) (.reg [⟨(some 51), none, (.mv (.t 8))⟩,
  ⟨(some 52), none, (.mv (.t 1))⟩,
  ⟨(some 53), none, (.mv (.t 9))⟩,
  ⟨(some 54), none, (.iaddr 3 (.t 52) (.t 53))⟩,
  ⟨(some 55), none, (.load 3 true (.t 54))⟩,
  ⟨(some 56), none, (.bslice 29 3 [(.t 55)])⟩,
  ⟨(some 57), none, (.append 29 3 24 (.t 51) (.t 56))⟩,
  ⟨(some 8), none, (.mv (.t 57))⟩] none) .skip))) (.reg [⟨(some 38), none, (.mv (.t 9))⟩,
  ⟨(some 39), none, (.bin .add (.t 38) (.c (.sc (.int .i64 (1)))))⟩,
  ⟨(some 9), none, (.mv (.t 39))⟩] none))))))
 (.seq (.reg [⟨(some 59), none, (.mv (.t 0))⟩,
  ⟨(some 60), none, (.mv (.t 7))⟩,
  ⟨(some 61), none, (.iaddr 13 (.t 59) (.t 60))⟩,
  ⟨(some 62), none, (.load 13 true (.t 61))⟩,
  ⟨(some 63), none, (.mv (.t 8))⟩,
  ⟨(some 64), none, (.call 16 [(.t 62), (.t 63)])⟩,
  ⟨(some 58), none, (.mv (.t 64))⟩,
  ⟨(some 65), none, (.ext 0 (.t 58))⟩,
  ⟨(some 66), none, (.ext 1 (.t 58))⟩,
  ⟨(some 67), none, (.ext 2 (.t 58))⟩,
  ⟨(some 10), none, (.new [(.sc (.int .i64 (0))), (.sc (.int .i64 (0))), (.sc (.int .i64 (0))), (.sc (.int .i64 (0))), (.sc (.int .i64 (0))), (.sc (.int .i64 (0))), (.sc (.bool false)), (.sc (.slice none 0 0)), (.sc (.slice none 0 0)), (.sc (.int .i64 (0))), (.sc (.int .i64 (0))), (.sc (.int .i64 (0))), (.sc (.int .i64 (0)))])⟩,
  ⟨none, none, (.store 13 (.t 10) (.t 65))⟩,
  ⟨(some 11), none, (.mv (.t 66))⟩,
  ⟨(some 12), none, (.mv (.t 67))⟩] none)
 (.seq (.seq (.reg [⟨(some 68), none, (.mv (.t 12))⟩,
  ⟨(some 69), none, (.bin .neq (.t 68) (.c (.sc (.int .i64 (0)))))⟩] none)
 (.cond (.t 69)
 (.seq (.reg [⟨(some 70), none, (.mv (.t 6))⟩,
  ⟨(some 71), none, (.mv (.t 12))⟩,
  ⟨(some 72), none, (.bin .eql (.t 70) (.t 71))⟩,
  ⟨(some 73), none, (.mv (.t 72))⟩,
  ⟨(some 74), (some (73, true)), (.mv (.t 5))⟩,
  ⟨(some 75), (some (73, true)), (.len (.t 74))⟩,
  ⟨(some 76), (some (73, true)), (.bin .eql (.t 75) (.c (.sc (.int .i64 (0)))))⟩,
  ⟨(some 77), none, (.pick (.t 73) (.t 76) (.c (.sc (.bool false))))⟩,
  ⟨(some 78), none, (.mv (.t 77))⟩,
  ⟨(some 79), (some (78, true)), (.call 11 [])⟩,
  ⟨(some 80), none, (.pick (.t 78) (.t 79) (.c (.sc (.bool false))))⟩,
  ⟨(some 4), none, (.mv (.t 80))⟩] none) .ret) .skip))
 (.seq (.reg [⟨(some 81), none, (.mv (.t 6))⟩,
  ⟨(some 82), none, (.bin .eql (.t 81) (.c (.sc (.int .i64 (0)))))⟩,
  ⟨(some 83), none, (.mv (.t 82))⟩,
  ⟨(some 84), (some (83, true)), (.mv (.t 7))⟩,
  ⟨(some 85), (some (83, true)), (.mv (.t 5))⟩,
  ⟨(some 86), (some (83, true)), (.len (.t 85))⟩,
  ⟨(some 87), (some (83, true)), (.bin .geq (.t 84) (.t 86))⟩,
  ⟨(some 88), (some (83, true)), (.mv (.t 87))⟩,
  ⟨(some 89), (some (88, false)), (.mv (.t 5))⟩,
  ⟨(some 90), (some (88, false)), (.mv (.t 7))⟩,
  ⟨(some 91), (some (88, false)), (.iaddr 13 (.t 89) (.t 90))⟩,
  ⟨(some 92), (some (88, false)), (.load 13 true (.t 91))⟩,
  ⟨(some 93), (some (88, false)), (.load 13 true (.t 10))⟩,
  ⟨(some 94), (some (88, false)), (.call 14 [(.t 92), (.t 93)])⟩,
  ⟨(some 95), (some (88, false)), (.un .not (.t 94))⟩,
  ⟨(some 96), (some (83, true)), (.pick (.t 88) (.c (.sc (.bool true))) (.t 95))⟩,
  ⟨(some 97), none, (.pick (.t 83) (.t 96) (.c (.sc (.bool false))))⟩] (some [[], [0], [1, 0], [2, 1, 0], [2, 1, 0], [4, 2, 1, 0], [3, 5, 2, 1, 0, 4], [6, 2, 3, 5, 1, 0, 4], [7, 6, 2, 3, 5, 1, 0, 4], [7, 6, 2, 3, 5, 1, 0, 4], [8, 9, 7, 6, 2, 3, 5, 1, 0, 4], [10, 7, 8, 9, 6, 2, 3, 5, 1, 0, 4], [7, 6, 2, 3, 5, 1, 0, 4], [11, 12, 7, 10, 8, 9, 6, 2, 3, 5, 1, 0, 4], [13, 7, 11, 12, 10, 8, 9, 6, 2, 3, 5, 1, 0, 4], [7, 14, 2, 6, 3, 5, 1, 0, 4, 13, 11, 12, 10, 8, 9], [2, 15, 1, 0, 7, 14, 6, 3, 5, 4, 13, 11, 12, 10, 8, 9]]))
 (.cond (.t 97)
 (.seq (.reg [⟨(some 4), none, (.mv (.c (.sc (.bool false))))⟩] none) .ret) .skip))))))) (.reg [⟨(some 32), none, (.mv (.t 7))⟩,
  ⟨(some 33), none, (.bin .add (.t 32) (.c (.sc (.int .i64 (1)))))⟩,
  ⟨(some 7), none, (.mv (.t 33))⟩] none))))))
 (.seq (.reg [⟨(some 98), none, (.mv (.t 6))⟩,
  ⟨(some 99), none, (.bin .eql (.t 98) (.c (.sc (.int .i64 (0)))))⟩,
  ⟨(some 100), none, (.mv (.t 99))⟩,
  ⟨(some 101), (some (100, true)), (.mv (.t 5))⟩,
  ⟨(some 102), (some (100, true)), (.len (.t 101))⟩,
  ⟨(some 103), (some (100, true)), (.mv (.t 0))⟩,
  ⟨(some 104), (some (100, true)), (.len (.t 103))⟩,
  ⟨(some 105), (some (100, true)), (.bin .eql (.t 102) (.t 104))⟩,
  ⟨(some 106), none, (.pick (.t 100) (.t 105) (.c (.sc (.bool false))))⟩,
  ⟨(some 107), none, (.mv (.t 106))⟩,
  ⟨(some 108), (some (107, true)), (.call 11 [])⟩,
  ⟨(some 109), none, (.pick (.t 107) (.t 108) (.c (.sc (.bool false))))⟩,
  ⟨(some 4), none, (.mv (.t 109))⟩] none) .ret)))))
theorem good9 {args : List PV} {r : PV} (hl : args.length ≤ 110) (h : Run Try.prog [.code ac9] (endQ [(.t 4)] r) ⟨initT 0 args, [], 0, 110⟩) : Good Try.prog 9 args r :=
  good_run (by kernel_rfl) Camix Try.func9 rfl (hs := [⟨[0, 1, 5, 6, 7], []⟩, ⟨[0, 1, 5, 6, 7, 8, 9], [(8, 29, 3)]⟩]) (hs' := []) (by kernel_rfl) hl h
def ac11 : ACode :=
 (.seq (.reg [⟨(some 0), none, (.mv (.c (.sc (.bool false))))⟩] none)
 (.seq (.reg [⟨(some 9), none, (.call 29 [])⟩,
  ⟨(some 10), none, (.call 30 [(.c (.sc (.int .i64 (1603)))), (.c (.sc (.int .i64 (1700))))])⟩,
  ⟨(some 11), none, (.call 12 [(.t 9), (.t 10)])⟩,
  ⟨(some 8), none, (.mv (.t 11))⟩,
  ⟨(some 12), none, (.ext 0 (.t 8))⟩,
  ⟨(some 13), none, (.ext 1 (.t 8))⟩,
  ⟨(some 1), none, (.new [(.sc (.int .i64 (0))), (.sc (.int .i64 (0))), (.sc (.int .i64 (0))), (.sc (.int .i64 (0))), (.sc (.int .i64 (0))), (.sc (.int .i64 (0))), (.sc (.bool false)), (.sc (.slice none 0 0)), (.sc (.slice none 0 0)), (.sc (.int .i64 (0))), (.sc (.int .i64 (0))), (.sc (.int .i64 (0))), (.sc (.int .i64 (0)))])⟩,
  ⟨none, none, (.store 13 (.t 1) (.t 12))⟩,
  ⟨(some 2), none, (.mv (.t 13))⟩] none)
 (.seq (.reg [⟨(some 15), none, (.call 29 [])⟩,
  ⟨(some 16), none, (.call 30 [(.c (.sc (.int .i64 (1606)))), (.c (.sc (.int .i64 (1700))))])⟩,
  ⟨(some 17), none, (.call 12 [(.t 15), (.t 16)])⟩,
  ⟨(some 14), none, (.mv (.t 17))⟩,
  ⟨(some 18), none, (.ext 0 (.t 14))⟩,
  ⟨(some 19), none, (.ext 1 (.t 14))⟩,
  ⟨(some 3), none, (.new [(.sc (.int .i64 (0))), (.sc (.int .i64 (0))), (.sc (.int .i64 (0))), (.sc (.int .i64 (0))), (.sc (.int .i64 (0))), (.sc (.int .i64 (0))), (.sc (.bool false)), (.sc (.slice none 0 0)), (.sc (.slice none 0 0)), (.sc (.int .i64 (0))), (.sc (.int .i64 (0))), (.sc (.int .i64 (0))), (.sc (.int .i64 (0)))])⟩,
  ⟨none, none, (.store 13 (.t 3) (.t 18))⟩,
  ⟨(some 4), none, (.mv (.t 19))⟩] none)
 (.seq (.reg [⟨(some 21), none, (.call 29 [])⟩,
  ⟨(some 22), none, (.call 30 [(.c (.sc (.int .i64 (1603)))), (.c (.sc (.int .i64 (1700))))])⟩,
  ⟨(some 23), none, (.call 30 [(.c (.sc (.int .i64 (1500)))), (.c (.sc (.int .i64 (1602))))])⟩,
  ⟨(some 24), none, (.call 30 [(.c (.sc (.int .i64 (1590)))), (.c (.sc (.int .i64 (1604))))])⟩,
  ⟨(some 25), none, (.bslice 29 3 [(.t 22), (.t 23), (.t 24)])⟩,
  ⟨(some 26), none, (.call 16 [(.t 21), (.t 25)])⟩,
  ⟨(some 20), none, (.mv (.t 26))⟩,
  ⟨(some 27), none, (.ext 0 (.t 20))⟩,
  ⟨(some 28), none, (.ext 1 (.t 20))⟩,
  ⟨(some 29), none, (.ext 2 (.t 20))⟩,
  ⟨(some 5), none, (.new [(.sc (.int .i64 (0))), (.sc (.int .i64 (0))), (.sc (.int .i64 (0))), (.sc (.int .i64 (0))), (.sc (.int .i64 (0))), (.sc (.int .i64 (0))), (.sc (.bool false)), (.sc (.slice none 0 0)), (.sc (.slice none 0 0)), (.sc (.int .i64 (0))), (.sc (.int .i64 (0))), (.sc (.int .i64 (0))), (.sc (.int .i64 (0)))])⟩,
  ⟨none, none, (.store 13 (.t 5) (.t 27))⟩,
  ⟨(some 6), none, (.mv (.t 28))⟩,
  ⟨(some 7), none, (.mv (.t 29))⟩] none)
 (.seq (.seq (.reg [⟨(some 30), none, (.mv (.t 2))⟩,
  ⟨(some 31), none, (.bin .neq (.t 30) (.c (.sc (.int .i64 (0)))))⟩,
  ⟨(some 32), none, (.mv (.t 31))⟩,
  ⟨(some 33), (some (32, false)), (.mv (.t 4))⟩,
  ⟨(some 34), (some (32, false)), (.bin .neq (.t 33) (.c (.sc (.int .i64 (34)))))⟩,
  ⟨(some 35), none, (.pick (.t 32) (.c (.sc (.bool true))) (.t 34))⟩,
  ⟨(some 36), none, (.mv (.t 35))⟩,
  ⟨(some 37), (some (36, false)), (.mv (.t 7))⟩,
  ⟨(some 38), (some (36, false)), (.bin .neq (.t 37) (.c (.sc (.int .i64 (0)))))⟩,
  ⟨(some 39), none, (.pick (.t 36) (.c (.sc (.bool true))) (.t 38))⟩,
  ⟨(some 40), none, (.mv (.t 39))⟩,
  ⟨(some 41), (some (40, false)), (.faddr 7 (.t 1))⟩,
  ⟨(some 42), (some (40, false)), (.load 1 false (.t 41))⟩,
  ⟨(some 43), (some (40, false)), (.len (.t 42))⟩,
  ⟨(some 44), (some (40, false)), (.bin .neq (.t 43) (.c (.sc (.int .i64 (1)))))⟩,
  ⟨(some 45), none, (.pick (.t 40) (.c (.sc (.bool true))) (.t 44))⟩,
  ⟨(some 46), none, (.mv (.t 45))⟩,
  ⟨(some 47), (some (46, false)), (.faddr 7 (.t 5))⟩,
  ⟨(some 48), (some (46, false)), (.load 1 false (.t 47))⟩,
  ⟨(some 49), (some (46, false)), (.len (.t 48))⟩,
  ⟨(some 50), (some (46, false)), (.bin .neq (.t 49) (.c (.sc (.int .i64 (1)))))⟩,
  ⟨(some 51), none, (.pick (.t 46) (.c (.sc (.bool true))) (.t 50))⟩] none)
 (.cond (.t 51)
 (.seq (.reg [⟨(some 0), none, (.mv (.c (.sc (.bool false))))⟩] none) .ret) .skip))
 (.seq (.reg [⟨(some 52), none, (.faddr 4 (.t 1))⟩,
  ⟨(some 53), none, (.load 2 true (.t 52))⟩,
  ⟨(some 54), none, (.call 31 [(.c (.sc (.int .i64 (1603)))), (.c (.sc (.int .i64 (1605))))])⟩,
  ⟨(some 55), none, (.eqs false [(.i .i64), (.i .i64)] (.t 53) (.t 54))⟩,
  ⟨(some 56), none, (.mv (.t 55))⟩,
  ⟨(some 57), (some (56, true)), (.faddr 7 (.t 1))⟩,
  ⟨(some 58), (some (56, true)), (.load 1 false (.t 57))⟩,
  ⟨(some 59), (some (56, true)), (.iaddr 5 (.t 58) (.c (.sc (.int .i64 (0)))))⟩,
  ⟨(some 60), (some (56, true)), (.faddr 3 (.t 59))⟩,
  ⟨(some 61), (some (56, true)), (.load 2 true (.t 60))⟩,
  ⟨(some 62), (some (56, true)), (.faddr 4 (.t 1))⟩,
  ⟨(some 63), (some (56, true)), (.load 2 true (.t 62))⟩,
  ⟨(some 64), (some (56, true)), (.eqs false [(.i .i64), (.i .i64)] (.t 61) (.t 63))⟩,
  ⟨(some 65), none, (.pick (.t 56) (.t 64) (.c (.sc (.bool false))))⟩,
  ⟨(some 66), none, (.mv (.t 65))⟩,
  ⟨(some 67), (some (66, true)), (.faddr 4 (.t 5))⟩,
  ⟨(some 68), (some (66, true)), (.load 2 true (.t 67))⟩,
  ⟨(some 69), (some (66, true)), (.call 31 [(.c (.sc (.int .i64 (1603)))), (.c (.sc (.int .i64 (1604))))])⟩,
  ⟨(some 70), (some (66, true)), (.eqs false [(.i .i64), (.i .i64)] (.t 68) (.t 69))⟩,
  ⟨(some 71), none, (.pick (.t 66) (.t 70) (.c (.sc (.bool false))))⟩,
  ⟨(some 72), none, (.mv (.t 71))⟩,
  ⟨(some 73), (some (72, true)), (.mv (.t 6))⟩,
  ⟨(some 74), (some (72, true)), (.bslice 3 1 [(.c (.sc (.int .i64 (1))))])⟩,
  ⟨(some 75), (some (72, true)), (.call 18 [(.t 73), (.t 74)])⟩,
  ⟨(some 76), none, (.pick (.t 72) (.t 75) (.c (.sc (.bool false))))⟩,
  ⟨(some 77), none, (.mv (.t 76))⟩,
  ⟨(some 78), (some (77, true)), (.call 30 [(.c (.sc (.int .i64 (1603)))), (.c (.sc (.int .i64 (1700))))])⟩,
  ⟨(some 79), (some (77, true)), (.call 30 [(.c (.sc (.int .i64 (1590)))), (.c (.sc (.int .i64 (1603))))])⟩,
  ⟨(some 80), (some (77, true)), (.bslice 29 3 [(.t 78), (.t 79)])⟩,
  ⟨(some 81), (some (77, true)), (.call 19 [(.t 80)])⟩,
  ⟨(some 82), none, (.pick (.t 77) (.t 81) (.c (.sc (.bool false))))⟩,
  ⟨(some 83), none, (.mv (.t 82))⟩,
  ⟨(some 84), (some (83, true)), (.call 30 [(.c (.sc (.int .i64 (1604)))), (.c (.sc (.int .i64 (1700))))])⟩,
  ⟨(some 85), (some (83, true)), (.call 30 [(.c (.sc (.int .i64 (1590)))), (.c (.sc (.int .i64 (1603))))])⟩,
  ⟨(some 86), (some (83, true)), (.bslice 29 3 [(.t 84), (.t 85)])⟩,
  ⟨(some 87), (some (83, true)), (.call 19 [(.t 86)])⟩,
  ⟨(some 88), (some (83, true)), (.un .not (.t 87))⟩,
  ⟨(some 89), none, (.pick (.t 83) (.t 88) (.c (.sc (.bool false))))⟩,
  ⟨(some 90), none, (.mv (.t 89))⟩,
  ⟨(some 91), (some (90, true)), (.call 19 [(.c (.sc (.slice none 0 0)))])⟩,
  ⟨(some 92), none, (.pick (.t 90) (.t 91) (.c (.sc (.bool false))))⟩,
  ⟨(some 0), none, (.mv (.t 92))⟩] (some [[], [0], [], [1, 2, 0], [3, 2, 1, 0], [4, 3, 2, 1, 0], [5, 4, 3, 2, 1, 0], [6, 4, 5, 3, 2, 1, 0], [7, 4, 6, 5, 3, 2, 1, 0], [8, 4, 7, 6, 5, 3, 2, 1, 0], [4, 3, 2, 1, 0], [10, 4, 3, 2, 1, 0], [9, 11, 4, 8, 7, 6, 5, 3, 2, 1, 0, 10], [4, 12, 3, 2, 1, 0, 9, 11, 8, 7, 6, 5, 10], [13, 4, 12, 3, 2, 1, 0, 9, 11, 8, 7, 6, 5, 10], [14, 13, 4, 12, 3, 2, 1, 0, 9, 11, 8, 7, 6, 5, 10], [15, 14, 13, 4, 12, 3, 2, 1, 0, 9, 11, 8, 7, 6, 5, 10], [14, 13, 4, 12, 3, 2, 1, 0, 9, 11, 8, 7, 6, 5, 10], [16, 17, 14, 15, 13, 4, 12, 3, 2, 1, 0, 9, 11, 8, 7, 6, 5, 10], [14, 18, 13, 4, 12, 3, 2, 1, 0, 9, 11, 8, 7, 6, 5, 10, 16, 17, 15], [19, 17, 14, 18, 13, 4, 12, 3, 2, 1, 0, 9, 11, 8, 7, 6, 5, 10, 16, 15], [20, 19, 17, 14, 18, 13, 4, 12, 3, 2, 1, 0, 9, 11, 8, 7, 6, 5, 10, 16, 15], [20, 19, 17, 14, 18, 13, 4, 12, 3, 2, 1, 0, 9, 11, 8, 7, 6, 5, 10, 16, 15], [21, 22, 20, 19, 17, 14, 18, 13, 4, 12, 3, 2, 1, 0, 9, 11, 8, 7, 6, 5, 10, 16, 15], [20, 23, 19, 17, 14, 18, 13, 4, 12, 3, 2, 1, 0, 9, 11, 8, 7, 6, 5, 10, 16, 15, 21, 22], [24, 23, 20, 19, 17, 14, 18, 13, 4, 12, 3, 2, 1, 0, 9, 11, 8, 7, 6, 5, 10, 16, 15, 21, 22], [25, 24, 23, 20, 19, 17, 14, 18, 13, 4, 12, 3, 2, 1, 0, 9, 11, 8, 7, 6, 5, 10, 16, 15, 21, 22], [26, 25, 24, 23, 20, 19, 17, 14, 18, 13, 4, 12, 3, 2, 1, 0, 9, 11, 8, 7, 6, 5, 10, 16, 15, 21, 22], [26, 27, 25, 24, 23, 20, 19, 17, 14, 18, 13, 4, 12, 3, 2, 1, 0, 9, 11, 8, 7, 6, 5, 10, 16, 15, 21, 22], [28, 27, 25, 26, 24, 23, 20, 19, 17, 14, 18, 13, 4, 12, 3, 2, 1, 0, 9, 11, 8, 7, 6, 5, 10, 16, 15, 21, 22], [25, 29, 24, 23, 20, 19, 17, 14, 18, 13, 4, 12, 3, 2, 1, 0, 9, 11, 8, 7, 6, 5, 10, 16, 15, 21, 22, 28, 27, 26], [30, 29, 25, 24, 23, 20, 19, 17, 14, 18, 13, 4, 12, 3, 2, 1, 0, 9, 11, 8, 7, 6, 5, 10, 16, 15, 21, 22, 28, 27, 26], [31, 30, 29, 25, 24, 23, 20, 19, 17, 14, 18, 13, 4, 12, 3, 2, 1, 0, 9, 11, 8, 7, 6, 5, 10, 16, 15, 21, 22, 28, 27, 26], [32, 31, 30, 29, 25, 24, 23, 20, 19, 17, 14, 18, 13, 4, 12, 3, 2, 1, 0, 9, 11, 8, 7, 6, 5, 10, 16, 15, 21, 22, 28, 27, 26], [32, 33, 31, 30, 29, 25, 24, 23, 20, 19, 17, 14, 18, 13, 4, 12, 3, 2, 1, 0, 9, 11, 8, 7, 6, 5, 10, 16, 15, 21, 22, 28, 27, 26], [34, 33, 31, 32, 30, 29, 25, 24, 23, 20, 19, 17, 14, 18, 13, 4, 12, 3, 2, 1, 0, 9, 11, 8, 7, 6, 5, 10, 16, 15, 21, 22, 28, 27, 26], [35, 31, 34, 33, 32, 30, 29, 25, 24, 23, 20, 19, 17, 14, 18, 13, 4, 12, 3, 2, 1, 0, 9, 11, 8, 7, 6, 5, 10, 16, 15, 21, 22, 28, 27, 26], [31, 36, 30, 29, 25, 24, 23, 20, 19, 17, 14, 18, 13, 4, 12, 3, 2, 1, 0, 9, 11, 8, 7, 6, 5, 10, 16, 15, 21, 22, 28, 27, 26, 35, 34, 33, 32], [37, 35, 31, 36, 30, 29, 25, 24, 23, 20, 19, 17, 14, 18, 13, 4, 12, 3, 2, 1, 0, 9, 11, 8, 7, 6, 5, 10, 16, 15, 21, 22, 28, 27, 26, 34, 33, 32], [38, 37, 35, 31, 36, 30, 29, 25, 24, 23, 20, 19, 17, 14, 18, 13, 4, 12, 3, 2, 1, 0, 9, 11, 8, 7, 6, 5, 10, 16, 15, 21, 22, 28, 27, 26, 34, 33, 32], [38, 39, 37, 35, 31, 36, 30, 29, 25, 24, 23, 20, 19, 17, 14, 18, 13, 4, 12, 3, 2, 1, 0, 9, 11, 8, 7, 6, 5, 10, 16, 15, 21, 22, 28, 27, 26, 34, 33, 32], [40, 39, 0, 1, 2, 3, 4, 5, 6, 7, 8, 9, 10, 11, 12, 13, 14, 15, 16, 17, 18, 19, 20, 21, 22, 23, 24, 25, 26, 27, 28, 29, 30, 31, 32, 33, 34, 35, 36, 37, 38]])) .ret))))))
theorem good11 {args : List PV} {r : PV} (hl : args.length ≤ 93) (h : Run Try.prog [.code ac11] (endQ [(.t 0)] r) ⟨initT 0 args, [], 0, 93⟩) : Good Try.prog 11 args r :=
  good_run (by kernel_rfl) Camix Try.func11 rfl (hs := []) (hs' := []) (by kernel_rfl) hl h
def ac25 : ACode :=
 (.seq (.reg [⟨(some 4), none, (.mv (.c (.sc (.bool false))))⟩] none)
 (.seq (.seq (.reg [⟨(some 5), none, (.mv (.c (.sc (.int .i64 (0)))))⟩] none) (.block 0 
 (.loop ⟨[0, 1, 5], []⟩
 (.seq (.seq (.reg [⟨(some 6), none, (.mv (.t 5))⟩,
  ⟨(some 7), none, (.mv (.t 0))⟩,
  ⟨(some 8), none, (.len (.t 7))⟩,
  ⟨(some 9), none, (.bin .lss (.t 6) (.t 8))⟩] none)
 (.cond (.t 9) .skip (.exit 0)))
 (.seq (.block 1
 (.seq (.reg [⟨(some 12), none, (.mv (.t 0))⟩,
  ⟨(some 13), none, (.mv (.t 5))⟩,
  ⟨(some 14), none, (.iaddr 13 (.t 12) (.t 13))⟩,
  ⟨(some 15), none, (.faddr 7 (.t 14))⟩,
  ⟨(some 16), none, (.load 1 false (.t 15))⟩,
  ⟨(some 17), none, (.len (.t 16))⟩,
  ⟨(some 18), none, (.bin .gtr (.t 17) (.c (.sc (.int .i64 (40)))))⟩,
  ⟨(some 19), none, (.mv (.t 18))⟩,
  ⟨(some 20), (some (19, false)), (.mv (.t 0))⟩,
  ⟨(some 21), (some (19, false)), (.mv (.t 5))⟩,
  ⟨(some 22), (some (19, false)), (.iaddr 13 (.t 20) (.t 21))⟩,
  ⟨(some 23), (some (19, false)), (.faddr 8 (.t 22))⟩,
  ⟨(some 24), (some (19, false)), (.load 1 false (.t 23))⟩,
  ⟨(some 25), (some (19, false)), (.len (.t 24))⟩,
  ⟨(some 26), (some (19, false)), (.bin .gtr (.t 25) (.c (.sc (.int .i64 (40)))))⟩,
  ⟨(some 27), none, (.pick (.t 19) (.c (.sc (.bool true))) (.t 26))⟩] none)
 (.cond (.t 27)
 (.seq (.reg [⟨(some 4), none, (.mv (.c (.sc (.bool false))))⟩] none) .ret) .skip))) (.reg [⟨(some 10), none, (.mv (.t 5))⟩,
  ⟨(some 11), none, (.bin .add (.t 10) (.c (.sc (.int .i64 (1)))))⟩,
  ⟨(some 5), none, (.mv (.t 11))⟩] none))))))
 (.seq (.reg [⟨(some 28), none, (.mv (.t 0))⟩,
  ⟨(some 29), none, (.len (.t 28))⟩,
  ⟨(some 30), none, (.mv (.t 1))⟩,
  ⟨(some 31), none, (.bin .leq (.t 29) (.t 30))⟩,
  ⟨(some 4), none, (.mv (.t 31))⟩] none) .ret)))
theorem good25 {args : List PV} {r : PV} (hl : args.length ≤ 32) (h : Run Try.prog [.code ac25] (endQ [(.t 4)] r) ⟨initT 0 args, [], 0, 32⟩) : Good Try.prog 25 args r :=
  good_run (by kernel_rfl) Camix Try.func25 rfl (hs := [⟨[0, 1, 5], []⟩]) (hs' := []) (by kernel_rfl) hl h
def ac26 : ACode :=
 (.seq (.reg [⟨(some 4), none, (.mv (.c (.sc (.slice none 0 0))))⟩,
  ⟨(some 5), none, (.mv (.c (.sc (.int .i64 (0)))))⟩] none)
 (.seq (.reg [⟨(some 12), none, (.mv (.t 0))⟩,
  ⟨(some 13), none, (.len (.t 12))⟩,
  ⟨(some 14), none, (.mk 27 13 136 [(.sc (.int .i64 (0))), (.sc (.int .i64 (0))), (.sc (.int .i64 (0))), (.sc (.int .i64 (0))), (.sc (.int .i64 (0))), (.sc (.int .i64 (0))), (.sc (.bool false)), (.sc (.slice none 0 0)), (.sc (.slice none 0 0)), (.sc (.int .i64 (0))), (.sc (.int .i64 (0))), (.sc (.int .i64 (0))), (.sc (.int .i64 (0)))] (.c (.sc (.int .i64 (0)))) (.t 13))⟩,
  ⟨(some 6), none, (.mv (.t 14))⟩] none)
 (.seq (.seq (.reg [⟨(some 15), none, (.mv (.t 0))⟩,
  ⟨(some 16), none, (.len (.t 15))⟩,
  ⟨(some 17), none, (.mv (.c (.sc (.int .i64 (0)))))⟩] none) (.block 0 
 (.loop ⟨[1, 6, 15, 16, 17], [(6, (27, 13))]⟩
 (.seq (.reg [⟨(some 18), none, (.bin .lss (.t 17) (.t 16))⟩] none)
 (.seq
 (.cond (.t 18) .skip (.exit 0))
 (.seq (.block 1
 (.seq (.reg [⟨(some 19), none, (.iaddr 13 (.t 15) (.t 17))⟩,
  ⟨(some 20), none, (.load 13 true (.t 19))⟩,
  ⟨(some 8), none, (.new [(.sc (.int .i64 (0))), (.sc (.int .i64 (0))), (.sc (.int .i64 (0))), (.sc (.int .i64 (0))), (.sc (.int .i64 (0))), (.sc (.int .i64 (0))), (.sc (.bool false)), (.sc (.slice none 0 0)), (.sc (.slice none 0 0)), (.sc (.int .i64 (0))), (.sc (.int .i64 (0))), (.sc (.int .i64 (0))), (.sc (.int .i64 (0)))])⟩,
  ⟨none, none, (.store 13 (.t 8) (.t 20))⟩] none)
 (.seq (.reg [⟨(some 22), none, (.load 13 true (.t 8))⟩,
  ⟨(some 23), none, (.mv (.t 1))⟩,
  ⟨(some 24), none, (.call 16 [(.t 22), (.t 23)])⟩,
  ⟨(some 21), none, (.mv (.t 24))⟩,
  ⟨(some 25), none, (.ext 0 (.t 21))⟩,
  ⟨(some 26), none, (.ext 1 (.t 21))⟩,
  ⟨(some 27), none, (.ext 2 (.t 21))⟩,
  ⟨(some 9), none, (.new [(.sc (.int .i64 (0))), (.sc (.int .i64 (0))), (.sc (.int .i64 (0))), (.sc (.int .i64 (0))), (.sc (.int .i64 (0))), (.sc (.int .i64 (0))), (.sc (.bool false)), (.sc (.slice none 0 0)), (.sc (.slice none 0 0)), (.sc (.int .i64 (0))), (.sc (.int .i64 (0))), (.sc (.int .i64 (0))), (.sc (.int .i64 (0)))])⟩,
  ⟨none, none, (.store 13 (.t 9) (.t 25))⟩,
  ⟨(some 10), none, (.mv (.t 26))⟩,
  ⟨(some 11), none, (.mv (.t 27))⟩] none)
 (.seq (.seq (.reg [⟨(some 28), none, (.mv (.t 11))⟩,
  ⟨(some 29), none, (.bin .neq (.t 28) (.c (.sc (.int .i64 (0)))))⟩] none)
 (.cond (.t 29)
 (.seq (.reg [⟨(some 30), none, (.mv (.t 11))⟩,
  ⟨(some 4), none, (.mv (.c (.sc (.slice none 0 0))))⟩,
  ⟨(some 5), none, (.mv (.t 30))⟩] none) .ret) .skip)) (.reg [⟨(some 31), none, (.mv (.t 6))⟩,
  ⟨(some 32), none, (.load 13 true (.t 9))⟩,
  ⟨(some 33), none, (.bslice 27 13 [(.t 32)])⟩,
  ⟨(some 34), none, (.append 27 13 136 (.t 31) (.t 33))⟩,
  ⟨(some 6), none, (.mv (.t 34))⟩] none))))) (.reg [⟨(some 35), none, (.bin .add (.t 17) (.c (.sc (.int .i64 (1)))))⟩,
  ⟨(some 17), none, (.mv (.t 35))⟩] none)))))))
 (.seq (.reg [⟨(some 36), none, (.mv (.t 6))⟩,
  ⟨(some 4), none, (.mv (.t 36))⟩,
  ⟨(some 5), none, (.mv (.c (.sc (.int .i64 (0)))))⟩] none) .ret))))
theorem good26 {args : List PV} {r : PV} (hl : args.length ≤ 37) (h : Run Try.prog [.code ac26] (endQ [(.t 4), (.t 5)] r) ⟨initT 0 args, [], 0, 37⟩) : Good Try.prog 26 args r :=
  good_run (by kernel_rfl) Camix Try.func26 rfl (hs := [⟨[1, 6, 15, 16, 17], [(6, 27, 13)]⟩]) (hs' := []) (by kernel_rfl) hl h
def ac27 : ACode :=
 (.seq (.reg [⟨(some 4), none, (.mv (.c (.sc (.slice none 0 0))))⟩,
  ⟨(some 5), none, (.mv (.c (.sc (.int .i64 (0)))))⟩] none)
 (.seq (.reg [⟨(some 6), none, (.mv (.c (.sc (.slice none 0 0))))⟩] none)
 (.seq (.seq (.reg [⟨(some 7), none, (.mv (.c (.sc (.int .i64 (0)))))⟩] none) (.block 0 
 (.loop ⟨[0, 1, 6, 7], [(6, (27, 13))]⟩
 (.seq (.seq (.reg [⟨(some 11), none, (.mv (.t 7))⟩,
  ⟨(some 12), none, (.mv (.t 0))⟩,
  ⟨(some 13), none, (.len (.t 12))⟩,
  ⟨(some 14), none, (.bin .lss (.t 11) (.t 13))⟩] none)
 (.cond (.t 14) .skip (.exit 0)))
 (.seq (.block 1
 (.seq (.reg [⟨(some 18), none, (.mv (.t 0))⟩,
  ⟨(some 19), none, (.mv (.t 7))⟩,
  ⟨(some 20), none, (.iaddr 13 (.t 18) (.t 19))⟩,
  ⟨(some 21), none, (.load 13 true (.t 20))⟩,
  ⟨(some 22), none, (.mv (.t 1))⟩,
  ⟨(some 23), none, (.call 17 [(.t 21), (.t 22)])⟩,
  ⟨(some 17), none, (.mv (.t 23))⟩,
  ⟨(some 24), none, (.ext 0 (.t 17))⟩,
  ⟨(some 25), none, (.ext 1 (.t 17))⟩,
  ⟨(some 26), none, (.ext 2 (.t 17))⟩,
  ⟨(some 8), none, (.new [(.sc (.int .i64 (0))), (.sc (.int .i64 (0))), (.sc (.int .i64 (0))), (.sc (.int .i64 (0))), (.sc (.int .i64 (0))), (.sc (.int .i64 (0))), (.sc (.bool false)), (.sc (.slice none 0 0)), (.sc (.slice none 0 0)), (.sc (.int .i64 (0))), (.sc (.int .i64 (0))), (.sc (.int .i64 (0))), (.sc (.int .i64 (0)))])⟩,
  ⟨none, none, (.store 13 (.t 8) (.t 24))⟩,
  ⟨(some 9), none, (.mv (.t 25))⟩,
  ⟨(some 10), none, (.mv (.t 26))⟩] none)
 (.seq (.seq (.reg [⟨(some 27), none, (.mv (.t 10))⟩,
  ⟨(some 28), none, (.bin .neq (.t 27) (.c (.sc (.int .i64 (0)))))⟩] none)
 (.cond (.t 28)
 (.seq (.reg [⟨(some 29), none, (.mv (.t 10))⟩,
  ⟨(some 4), none, (.mv (.c (.sc (.slice none 0 0))))⟩,
  ⟨(some 5), none, (.mv (.t 29))⟩] none) .ret) .skip)) (.reg [⟨(some 30), none, (.mv (.t 6))⟩,
  ⟨(some 31), none, (.load 13 true (.t 8))⟩,
  ⟨(some 32), none, (.bslice 27 13 [(.t 31)])⟩,
  ⟨(some 33), none, (.append 27 13 136 (.t 30) (.t 32))⟩,
  ⟨(some 6), none, (.mv (.t 33))⟩] none)))) (.reg [⟨(some 15), none, (.mv (.t 7))⟩,
  ⟨(some 16), none, (.bin .add (.t 15) (.c (.sc (.int .i64 (1)))))⟩,
  ⟨(some 7), none, (.mv (.t 16))⟩] none))))))
 (.seq (.reg [⟨(some 34), none, (.mv (.t 6))⟩,
  ⟨(some 4), none, (.mv (.t 34))⟩,
  ⟨(some 5), none, (.mv (.c (.sc (.int .i64 (0)))))⟩] none) .ret))))
theorem good27 {args : List PV} {r : PV} (hl : args.length ≤ 35) (h : Run Try.prog [.code ac27] (endQ [(.t 4), (.t 5)] r) ⟨initT 0 args, [], 0, 35⟩) : Good Try.prog 27 args r :=
  good_run (by kernel_rfl) Camix Try.func27 rfl (hs := [⟨[0, 1, 6, 7], [(6, 27, 13)]⟩]) (hs' := []) (by kernel_rfl) hl h
def ac28 : ACode :=
 (.seq (.reg [⟨(some 4), none, (.mv (.c (.sc (.bool false))))⟩] none)
 (.seq (.seq (.reg [⟨(some 6), none, (.mv (.t 0))⟩,
  ⟨(some 7), none, (.len (.t 6))⟩,
  ⟨(some 8), none, (.mv (.t 1))⟩,
  ⟨(some 9), none, (.len (.t 8))⟩,
  ⟨(some 10), none, (.bin .neq (.t 7) (.t 9))⟩] none)
 (.cond (.t 10)
 (.seq (.reg [⟨(some 4), none, (.mv (.c (.sc (.bool false))))⟩] none) .ret) .skip))
 (.seq (.seq (.reg [⟨(some 5), none, (.mv (.c (.sc (.int .i64 (0)))))⟩] none) (.block 0 
 (.loop ⟨[0, 1, 5], []⟩
 (.seq (.seq (.reg [⟨(some 11), none, (.mv (.t 5))⟩,
  ⟨(some 12), none, (.mv (.t 0))⟩,
  ⟨(some 13), none, (.len (.t 12))⟩,
  ⟨(some 14), none, (.bin .lss (.t 11) (.t 13))⟩] none)
 (.cond (.t 14) .skip (.exit 0)))
 (.seq (.block 1
 (.seq (.reg [⟨(some 17), none, (.mv (.t 0))⟩,
  ⟨(some 18), none, (.mv (.t 5))⟩,
  ⟨(some 19), none, (.iaddr 13 (.t 17) (.t 18))⟩,
  ⟨(some 20), none, (.load 13 true (.t 19))⟩,
  ⟨(some 21), none, (.mv (.t 1))⟩,
  ⟨(some 22), none, (.mv (.t 5))⟩,
  ⟨(some 23), none, (.iaddr 13 (.t 21) (.t 22))⟩,
  ⟨(some 24), none, (.load 13 true (.t 23))⟩,
  ⟨(some 25), none, (.call 14 [(.t 20), (.t 24)])⟩,
  ⟨(some 26), none, (.un .not (.t 25))⟩] (some [[], [], [0, 1], [2, 0, 1], [], [], [4, 5], [6, 4, 5], [3, 7, 2, 0, 1, 6, 4, 5], [8, 3, 7, 2, 0, 1, 6, 4, 5]]))
 (.cond (.t 26)
 (.seq (.reg [⟨(some 4), none, (.mv (.c (.sc (.bool false))))⟩] none) .ret) .skip))) (.reg [⟨(some 15), none, (.mv (.t 5))⟩,
  ⟨(some 16), none, (.bin .add (.t 15) (.c (.sc (.int .i64 (1)))))⟩,
  ⟨(some 5), none, (.mv (.t 16))⟩] none))))))
 (.seq (.reg [⟨(some 4), none, (.mv (.c (.sc (.bool true))))⟩] none) .ret))))
theorem good28 {args : List PV} {r : PV} (hl : args.length ≤ 27) (h : Run Try.prog [.code ac28] (endQ [(.t 4)] r) ⟨initT 0 args, [], 0, 27⟩) : Good Try.prog 28 args r :=
  good_run (by kernel_rfl) Camix Try.func28 rfl (hs := [⟨[0, 1, 5], []⟩]) (hs' := []) (by kernel_rfl) hl h
def ac29 : ACode :=
 (.seq (.reg [⟨(some 0), none, (.new [(.sc (.int .i64 (0))), (.sc (.int .i64 (0))), (.sc (.int .i64 (0))), (.sc (.int .i64 (0))), (.sc (.int .i64 (0))), (.sc (.int .i64 (0))), (.sc (.bool false)), (.sc (.slice none 0 0)), (.sc (.slice none 0 0)), (.sc (.int .i64 (0))), (.sc (.int .i64 (0))), (.sc (.int .i64 (0))), (.sc (.int .i64 (0)))])⟩] none)
 (.seq (.reg [⟨(some 1), none, (.call 31 [(.c (.sc (.int .i64 (1000)))), (.c (.sc (.int .i64 (1010))))])⟩,
  ⟨(some 2), none, (.call 31 [(.c (.sc (.int .i64 (1600)))), (.c (.sc (.int .i64 (1605))))])⟩,
  ⟨(some 3), none, (.call 31 [(.c (.sc (.int .i64 (1000)))), (.c (.sc (.int .i64 (1010))))])⟩,
  ⟨(some 4), none, (.call 31 [(.c (.sc (.int .i64 (1600)))), (.c (.sc (.int .i64 (1605))))])⟩,
  ⟨(some 5), none, (.build [(.sc (.int .i64 (0))), (.sc (.int .i64 (0))), (.sc (.int .i64 (0))), (.sc (.int .i64 (0))), (.sc (.int .i64 (0)))] [(1, (2, (.t 3))), (3, (2, (.t 4)))])⟩,
  ⟨(some 6), none, (.bslice 47 5 [(.t 5)])⟩,
  ⟨(some 7), none, (.build [(.sc (.int .i64 (0))), (.sc (.int .i64 (0))), (.sc (.int .i64 (0))), (.sc (.int .i64 (0))), (.sc (.int .i64 (0))), (.sc (.int .i64 (0))), (.sc (.bool false)), (.sc (.slice none 0 0)), (.sc (.slice none 0 0)), (.sc (.int .i64 (0))), (.sc (.int .i64 (0))), (.sc (.int .i64 (0))), (.sc (.int .i64 (0)))] [(0, (1, (.c (.sc (.int .i64 (7)))))), (2, (2, (.t 1))), (4, (2, (.t 2))), (7, (1, (.t 6))), (9, (1, (.c (.sc (.int .i64 (2)))))), (11, (1, (.c (.sc (.int .i64 (2))))))])⟩,
  ⟨none, none, (.store 13 (.t 0) (.t 7))⟩] none) .ret))
theorem good29 {args : List PV} {r : PV} (hl : args.length ≤ 8) (h : Run Try.prog [.code ac29] (endQ [(.c 0 13 true)] r) ⟨initT 0 args, [], 0, 8⟩) : Good Try.prog 29 args r :=
  good_run (by kernel_rfl) Camix Try.func29 rfl (hs := []) (hs' := []) (by kernel_rfl) hl h
def ac30 : ACode :=
 (.seq (.reg [⟨(some 4), none, (.new [(.sc (.int .i64 (0))), (.sc (.int .i64 (0))), (.sc (.int .i64 (0)))])⟩] none)
 (.seq (.reg [⟨(some 5), none, (.mv (.t 0))⟩,
  ⟨(some 6), none, (.mv (.t 1))⟩,
  ⟨(some 7), none, (.call 31 [(.t 5), (.t 6)])⟩,
  ⟨(some 8), none, (.build [(.sc (.int .i64 (0))), (.sc (.int .i64 (0))), (.sc (.int .i64 (0)))] [(0, (1, (.c (.sc (.int .i64 (7)))))), (1, (2, (.t 7)))])⟩,
  ⟨none, none, (.store 3 (.t 4) (.t 8))⟩] none) .ret))
theorem good30 {args : List PV} {r : PV} (hl : args.length ≤ 9) (h : Run Try.prog [.code ac30] (endQ [(.c 4 3 true)] r) ⟨initT 0 args, [], 0, 9⟩) : Good Try.prog 30 args r :=
  good_run (by kernel_rfl) Camix Try.func30 rfl (hs := []) (hs' := []) (by kernel_rfl) hl h
def ac31 : ACode :=
 (.seq (.reg [⟨(some 4), none, (.new [(.sc (.int .i64 (0))), (.sc (.int .i64 (0)))])⟩] none)
 (.seq (.reg [⟨(some 5), none, (.mv (.t 0))⟩,
  ⟨(some 6), none, (.mv (.t 1))⟩,
  ⟨(some 7), none, (.build [(.sc (.int .i64 (0))), (.sc (.int .i64 (0)))] [(0, (1, (.t 5))), (1, (1, (.t 6)))])⟩,
  ⟨none, none, (.store 2 (.t 4) (.t 7))⟩] none) .ret))
theorem good31 {args : List PV} {r : PV} (hl : args.length ≤ 8) (h : Run Try.prog [.code ac31] (endQ [(.c 4 2 true)] r) ⟨initT 0 args, [], 0, 8⟩) : Good Try.prog 31 args r :=
  good_run (by kernel_rfl) Camix Try.func31 rfl (hs := []) (hs' := []) (by kernel_rfl) hl h
def ac19 : ACode :=
 (.seq (.reg [⟨(some 2), none, (.mv (.c (.sc (.bool false))))⟩] none)
 (.seq (.reg [⟨(some 6), none, (.build [(.sc (.int .i64 (0))), (.sc (.int .i64 (0)))] [(1, (1, (.c (.sc (.int .i64 (4294943999))))))])⟩,
  ⟨(some 3), none, (.new [(.sc (.int .i64 (0))), (.sc (.int .i64 (0)))])⟩,
  ⟨none, none, (.store 2 (.t 3) (.t 6))⟩] none)
 (.seq (.seq (.reg [⟨(some 7), none, (.mv (.t 0))⟩,
  ⟨(some 8), none, (.len (.t 7))⟩,
  ⟨(some 9), none, (.mv (.c (.sc (.int .i64 (0)))))⟩] none) (.block 0 
 (.loop ⟨[3, 7, 8, 9], []⟩
 (.seq (.reg [⟨(some 10), none, (.bin .lss (.t 9) (.t 8))⟩] none)
 (.seq
 (.cond (.t 10) .skip (.exit 0))
 (.seq (.block 1
 (.seq (.reg [⟨(some 11), none, (.iaddr 3 (.t 7) (.t 9))⟩,
  ⟨(some 12), none, (.load 3 true (.t 11))⟩,
  ⟨(some 5), none, (.new [(.sc (.int .i64 (0))), (.sc (.int .i64 (0))), (.sc (.int .i64 (0)))])⟩,
  ⟨none, none, (.store 3 (.t 5) (.t 12))⟩] none) (.reg [⟨(some 13), none, (.load 2 true (.t 3))⟩,
  ⟨(some 14), none, (.faddr 1 (.t 5))⟩,
  ⟨(some 15), none, (.load 2 true (.t 14))⟩,
  ⟨(some 16), none, (.call 33 [(.t 13), (.t 15)])⟩,
  ⟨none, none, (.store 2 (.t 3) (.t 16))⟩] none))) (.reg [⟨(some 17), none, (.bin .add (.t 9) (.c (.sc (.int .i64 (1)))))⟩,
  ⟨(some 9), none, (.mv (.t 17))⟩] none)))))))
 (.seq (.reg [⟨(some 18), none, (.faddr 0 (.t 3))⟩,
  ⟨(some 19), none, (.load 1 false (.t 18))⟩,
  ⟨(some 20), none, (.faddr 1 (.t 3))⟩,
  ⟨(some 21), none, (.load 1 false (.t 20))⟩,
  ⟨(some 22), none, (.bin .leq (.t 19) (.t 21))⟩,
  ⟨(some 2), none, (.mv (.t 22))⟩] none) .ret))))
theorem good19 {args : List PV} {r : PV} (hl : args.length ≤ 23) (h : Run Try.prog [.code ac19] (endQ [(.t 2)] r) ⟨initT 0 args, [], 0, 23⟩) : Good Try.prog 19 args r :=
  good_run (by kernel_rfl) Camix Try.func19 rfl (hs := [⟨[3, 7, 8, 9], []⟩]) (hs' := []) (by kernel_rfl) hl h
end Go.Proofs.Ytfpdhalfkfffnaa
