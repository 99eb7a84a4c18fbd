/-
  The translated codes of functions, checked by the kernel.
-/
import Derived.Test.YthgnbkcopapbmaaKc
import Derived.KernelRfl
namespace Go.Proofs.Ythgnbkcopapbmaa
set_option linter.unusedVariables false
set_option linter.unusedSimpArgs false
set_option linter.unnecessarySimpa false
theorem Iamix : Try.prog.follows .mixedOrders = true := by kernel_rfl
def ac3 : ACode :=
 (.seq (.reg [⟨(some 6), none, (.boxv (.t 0))⟩,
  ⟨(some 12), none, (.mv (.c (.sc (.bool false))))⟩] none)
 (.seq (.seq (.reg [⟨(some 20), none, (.mv (.t 1))⟩,
  ⟨(some 21), none, (.len (.t 20))⟩,
  ⟨(some 22), none, (.bin .gtr (.t 21) (.c (.sc (.int .i64 (30)))))⟩,
  ⟨(some 23), none, (.mv (.t 22))⟩,
  ⟨(some 24), (some (23, false)), (.faddr 0 (.t 6))⟩,
  ⟨(some 25), (some (23, false)), (.load 1 false (.t 24))⟩,
  ⟨(some 26), (some (23, false)), (.len (.t 25))⟩,
  ⟨(some 27), (some (23, false)), (.bin .gtr (.t 26) (.c (.sc (.int .i64 (20)))))⟩,
  ⟨(some 28), none, (.pick (.t 23) (.c (.sc (.bool true))) (.t 27))⟩,
  ⟨(some 29), none, (.mv (.t 28))⟩,
  ⟨(some 30), (some (29, false)), (.faddr 1 (.t 6))⟩,
  ⟨(some 31), (some (29, false)), (.load 1 false (.t 30))⟩,
  ⟨(some 32), (some (29, false)), (.len (.t 31))⟩,
  ⟨(some 33), (some (29, false)), (.bin .gtr (.t 32) (.c (.sc (.int .i64 (20)))))⟩,
  ⟨(some 34), none, (.pick (.t 29) (.c (.sc (.bool true))) (.t 33))⟩] none)
 (.cond (.t 34)
 (.seq (.reg [⟨(some 35), none, (.call 5 [])⟩,
  ⟨(some 12), none, (.mv (.t 35))⟩] none) .ret) .skip))
 (.seq (.seq (.reg [⟨(some 13), none, (.mv (.c (.sc (.int .i64 (0)))))⟩] none) (.block 0 
 (.loop ⟨[1, 2, 3, 4, 5, 6, 13], []⟩
 (.seq (.seq (.reg [⟨(some 36), none, (.mv (.t 13))⟩,
  ⟨(some 37), none, (.mv (.t 1))⟩,
  ⟨(some 38), none, (.len (.t 37))⟩,
  ⟨(some 39), none, (.bin .lss (.t 36) (.t 38))⟩] none)
 (.cond (.t 39) .skip (.exit 0)))
 (.seq (.block 1
 (.seq (.reg [⟨(some 42), none, (.mv (.t 1))⟩,
  ⟨(some 43), none, (.mv (.t 13))⟩,
  ⟨(some 44), none, (.iaddr 13 (.t 42) (.t 43))⟩,
  ⟨(some 45), none, (.faddr 7 (.t 44))⟩,
  ⟨(some 46), none, (.load 1 false (.t 45))⟩,
  ⟨(some 47), none, (.len (.t 46))⟩,
  ⟨(some 48), none, (.bin .gtr (.t 47) (.c (.sc (.int .i64 (10)))))⟩,
  ⟨(some 49), none, (.mv (.t 48))⟩,
  ⟨(some 50), (some (49, false)), (.mv (.t 1))⟩,
  ⟨(some 51), (some (49, false)), (.mv (.t 13))⟩,
  ⟨(some 52), (some (49, false)), (.iaddr 13 (.t 50) (.t 51))⟩,
  ⟨(some 53), (some (49, false)), (.faddr 8 (.t 52))⟩,
  ⟨(some 54), (some (49, false)), (.load 1 false (.t 53))⟩,
  ⟨(some 55), (some (49, false)), (.len (.t 54))⟩,
  ⟨(some 56), (some (49, false)), (.bin .gtr (.t 55) (.c (.sc (.int .i64 (10)))))⟩,
  ⟨(some 57), none, (.pick (.t 49) (.c (.sc (.bool true))) (.t 56))⟩] none)
 (.cond (.t 57)
 (.seq (.reg [⟨(some 58), none, (.call 5 [])⟩,
  ⟨(some 12), none, (.mv (.t 58))⟩] none) .ret) .skip))) (.reg [⟨(some 40), none, (.mv (.t 13))⟩,
  ⟨(some 41), none, (.bin .add (.t 40) (.c (.sc (.int .i64 (1)))))⟩,
  ⟨(some 13), none, (.mv (.t 41))⟩] none))))))
 (.seq (.reg [⟨(some 59), none, (.mv (.t 3))⟩,
  ⟨(some 60), none, (.mv (.t 4))⟩,
  ⟨(some 61), none, (.build [(.sc (.int .i64 (0))), (.sc (.int .i64 (0))), (.sc (.int .i64 (0)))] [(0, (1, (.t 59))), (1, (1, (.t 60))), (2, (1, (.c (.sc (.int .i64 (49709))))))])⟩,
  ⟨(some 62), none, (.bslice 34 3 [(.t 61)])⟩,
  ⟨(some 14), none, (.mv (.t 62))⟩] none)
 (.seq (.reg [⟨(some 64), none, (.mv (.t 14))⟩,
  ⟨(some 65), none, (.load 2 true (.t 6))⟩,
  ⟨(some 66), none, (.mv (.t 1))⟩,
  ⟨(some 67), none, (.mv (.t 2))⟩,
  ⟨(some 68), none, (.mv (.t 5))⟩,
  ⟨(some 69), none, (.call 6 [(.t 64), (.c (.sc (.slice none 0 0))), (.t 65), (.t 66), (.t 67), (.t 68)])⟩,
  ⟨(some 63), none, (.mv (.t 69))⟩,
  ⟨(some 70), none, (.ext 0 (.t 63))⟩,
  ⟨(some 71), none, (.ext 1 (.t 63))⟩,
  ⟨(some 15), none, (.mv (.t 70))⟩,
  ⟨(some 16), none, (.mv (.t 71))⟩] none)
 (.seq (.reg [⟨(some 73), none, (.load 2 true (.t 6))⟩,
  ⟨(some 74), none, (.mv (.t 1))⟩,
  ⟨(some 75), none, (.mv (.t 2))⟩,
  ⟨(some 76), none, (.mv (.t 3))⟩,
  ⟨(some 77), none, (.mv (.t 4))⟩,
  ⟨(some 78), none, (.call 7 [(.t 73), (.t 74), (.t 75), (.t 76), (.c (.sc (.int .i64 (0)))), (.t 77)])⟩,
  ⟨(some 72), none, (.mv (.t 78))⟩,
  ⟨(some 79), none, (.ext 0 (.t 72))⟩,
  ⟨(some 80), none, (.ext 1 (.t 72))⟩,
  ⟨(some 17), none, (.mv (.t 79))⟩,
  ⟨(some 18), none, (.mv (.t 80))⟩] none)
 (.seq (.seq (.reg [⟨(some 81), none, (.mv (.t 16))⟩,
  ⟨(some 82), none, (.bin .neq (.t 81) (.c (.sc (.int .i64 (0)))))⟩,
  ⟨(some 83), none, (.mv (.t 82))⟩,
  ⟨(some 84), (some (83, false)), (.mv (.t 5))⟩,
  ⟨(some 85), (some (83, false)), (.bin .quo (.t 84) (.c (.sc (.int .i64 (86400)))))⟩,
  ⟨(some 86), (some (83, false)), (.bin .geq (.t 85) (.c (.sc (.int .i64 (49709)))))⟩,
  ⟨(some 87), none, (.pick (.t 83) (.c (.sc (.bool true))) (.t 86))⟩] none)
 (.cond (.t 87)
 (.seq (.reg [⟨(some 88), none, (.call 5 [])⟩,
  ⟨(some 12), none, (.mv (.t 88))⟩] none) .ret) .skip))
 (.seq (.seq (.reg [⟨(some 89), none, (.mv (.t 18))⟩,
  ⟨(some 90), none, (.bin .neq (.t 89) (.c (.sc (.int .i64 (0)))))⟩,
  ⟨(some 91), none, (.mv (.t 90))⟩,
  ⟨(some 92), (some (91, true)), (.mv (.t 18))⟩,
  ⟨(some 93), (some (91, true)), (.bin .neq (.t 92) (.c (.sc (.int .i64 (10)))))⟩,
  ⟨(some 94), none, (.pick (.t 91) (.t 93) (.c (.sc (.bool false))))⟩] none)
 (.cond (.t 94)
 (.seq (.reg [⟨(some 12), none, (.mv (.c (.sc (.bool false))))⟩] none) .ret) .skip))
 (.seq (.reg [⟨(some 95), none, (.mv (.t 18))⟩,
  ⟨(some 96), none, (.bin .eql (.t 95) (.c (.sc (.int .i64 (0)))))⟩,
  ⟨(some 97), none, (.mv (.t 96))⟩,
  ⟨(some 98), (some (97, true)), (.mv (.t 5))⟩,
  ⟨(some 99), (some (97, true)), (.mv (.t 17))⟩,
  ⟨(some 100), (some (97, true)), (.bin .sub (.t 99) (.c (.sc (.int .i64 (1)))))⟩,
  ⟨(some 101), (some (97, true)), (.bin .geq (.t 98) (.t 100))⟩,
  ⟨(some 102), none, (.pick (.t 97) (.t 101) (.c (.sc (.bool false))))⟩,
  ⟨(some 19), none, (.mv (.t 102))⟩] none)
 (.seq (.reg [⟨(some 103), none, (.mv (.t 15))⟩,
  ⟨(some 104), none, (.len (.t 103))⟩,
  ⟨(some 105), none, (.bin .eql (.t 104) (.c (.sc (.int .i64 (1)))))⟩,
  ⟨(some 106), none, (.mv (.t 19))⟩,
  ⟨(some 107), none, (.beq false (.t 105) (.t 106))⟩,
  ⟨(some 108), none, (.mv (.t 107))⟩,
  ⟨(some 109), (some (108, true)), (.mv (.t 15))⟩,
  ⟨(some 110), (some (108, true)), (.len (.t 109))⟩,
  ⟨(some 111), (some (108, true)), (.bin .leq (.t 110) (.c (.sc (.int .i64 (1)))))⟩,
  ⟨(some 112), none, (.pick (.t 108) (.t 111) (.c (.sc (.bool false))))⟩,
  ⟨(some 113), none, (.mv (.t 112))⟩,
  ⟨(some 114), (some (113, true)), (.call 5 [])⟩,
  ⟨(some 115), none, (.pick (.t 113) (.t 114) (.c (.sc (.bool false))))⟩,
  ⟨(some 12), none, (.mv (.t 115))⟩] none) .ret))))))))))
theorem good3 {args : List PV} {r : PV} (hl : args.length ≤ 116) (h : Run Try.prog [.code ac3] (endQ [(.t 12)] r) ⟨initT 0 args, [], 0, 116⟩) : Good Try.prog 3 args r :=
  good_run (by kernel_rfl) Iamix Try.func3 rfl (hs := [⟨[1, 2, 3, 4, 5, 6, 13], []⟩]) (hs' := []) (by kernel_rfl) hl h
def ac5 : ACode :=
 (.seq (.reg [⟨(some 0), none, (.mv (.c (.sc (.bool false))))⟩] none)
 (.seq (.reg [⟨(some 11), none, (.call 14 [(.c (.sc (.int .i64 (100))))])⟩,
  ⟨(some 12), none, (.call 14 [(.c (.sc (.int .i64 (3700))))])⟩,
  ⟨(some 13), none, (.call 14 [(.c (.sc (.int .i64 (100))))])⟩,
  ⟨(some 14), none, (.call 14 [(.c (.sc (.int .i64 (3700))))])⟩,
  ⟨(some 15), none, (.build [(.sc (.int .i64 (0))), (.sc (.int .i64 (0))), (.sc (.int .i64 (0))), (.sc (.int .i64 (0))), (.sc (.int .i64 (0)))] [(1, (2, (.t 13))), (3, (2, (.t 14)))])⟩,
  ⟨(some 16), none, (.bslice 59 5 [(.t 15)])⟩,
  ⟨(some 17), none, (.build [(.sc (.int .i64 (0))), (.sc (.int .i64 (0))), (.sc (.int .i64 (0))), (.sc (.int .i64 (0))), (.sc (.int .i64 (0))), (.sc (.int .i64 (0))), (.sc (.bool false)), (.sc (.slice none 0 0)), (.sc (.slice none 0 0)), (.sc (.int .i64 (0))), (.sc (.int .i64 (0))), (.sc (.int .i64 (0))), (.sc (.int .i64 (0)))] [(0, (1, (.c (.sc (.int .i64 (1)))))), (2, (2, (.t 11))), (4, (2, (.t 12))), (7, (1, (.t 16))), (9, (1, (.c (.sc (.int .i64 (2)))))), (11, (1, (.c (.sc (.int .i64 (2))))))])⟩,
  ⟨(some 18), none, (.bslice 32 13 [(.t 17)])⟩,
  ⟨(some 1), none, (.mv (.t 18))⟩] none)
 (.seq (.reg [⟨(some 19), none, (.bslice 3 1 [(.c (.sc (.int .i64 (50))))])⟩,
  ⟨(some 20), none, (.bslice 3 1 [(.c (.sc (.int .i64 (7))))])⟩,
  ⟨(some 21), none, (.build [(.sc (.slice none 0 0)), (.sc (.slice none 0 0))] [(0, (1, (.t 19))), (1, (1, (.t 20)))])⟩,
  ⟨(some 2), none, (.new [(.sc (.slice none 0 0)), (.sc (.slice none 0 0))])⟩,
  ⟨none, none, (.store 2 (.t 2) (.t 21))⟩] none)
 (.seq (.reg [⟨(some 23), none, (.load 2 true (.t 2))⟩,
  ⟨(some 24), none, (.mv (.t 1))⟩,
  ⟨(some 25), none, (.build [(.sc (.int .i64 (0))), (.sc (.int .i64 (0)))] [(1, (1, (.c (.sc (.int .i64 (101))))))])⟩,
  ⟨(some 26), none, (.call 15 [(.t 23), (.t 24), (.c (.sc (.int .i64 (0)))), (.c (.sc (.int .i64 (0)))), (.t 25)])⟩,
  ⟨(some 22), none, (.mv (.t 26))⟩,
  ⟨(some 27), none, (.ext 0 (.t 22))⟩,
  ⟨(some 28), none, (.ext 1 (.t 22))⟩,
  ⟨(some 3), none, (.mv (.t 27))⟩,
  ⟨(some 4), none, (.mv (.t 28))⟩] none)
 (.seq (.reg [⟨(some 30), none, (.load 2 true (.t 2))⟩,
  ⟨(some 31), none, (.mv (.t 1))⟩,
  ⟨(some 32), none, (.call 7 [(.t 30), (.t 31), (.c (.sc (.int .i64 (0)))), (.c (.sc (.int .i64 (0)))), (.c (.sc (.int .i64 (0)))), (.c (.sc (.int .i64 (57))))])⟩,
  ⟨(some 29), none, (.mv (.t 32))⟩,
  ⟨(some 33), none, (.ext 0 (.t 29))⟩,
  ⟨(some 34), none, (.ext 1 (.t 29))⟩,
  ⟨(some 5), none, (.mv (.t 33))⟩,
  ⟨(some 6), none, (.mv (.t 34))⟩] none)
 (.seq (.reg [⟨(some 36), none, (.build [(.sc (.int .i64 (0))), (.sc (.int .i64 (0))), (.sc (.int .i64 (0)))] [(1, (1, (.c (.sc (.int .i64 (57)))))), (2, (1, (.c (.sc (.int .i64 (49709))))))])⟩,
  ⟨(some 37), none, (.bslice 34 3 [(.t 36)])⟩,
  ⟨(some 38), none, (.load 2 true (.t 2))⟩,
  ⟨(some 39), none, (.mv (.t 1))⟩,
  ⟨(some 40), none, (.call 6 [(.t 37), (.c (.sc (.slice none 0 0))), (.t 38), (.t 39), (.c (.sc (.int .i64 (0)))), (.c (.sc (.int .i64 (100))))])⟩,
  ⟨(some 35), none, (.mv (.t 40))⟩,
  ⟨(some 41), none, (.ext 0 (.t 35))⟩,
  ⟨(some 42), none, (.ext 1 (.t 35))⟩,
  ⟨(some 7), none, (.mv (.t 41))⟩,
  ⟨(some 8), none, (.mv (.t 42))⟩] none)
 (.seq (.reg [⟨(some 44), none, (.build [(.sc (.int .i64 (0))), (.sc (.int .i64 (0))), (.sc (.int .i64 (0)))] [(1, (1, (.c (.sc (.int .i64 (57)))))), (2, (1, (.c (.sc (.int .i64 (49709))))))])⟩,
  ⟨(some 45), none, (.bslice 34 3 [(.t 44)])⟩,
  ⟨(some 46), none, (.load 2 true (.t 2))⟩,
  ⟨(some 47), none, (.mv (.t 1))⟩,
  ⟨(some 48), none, (.call 6 [(.t 45), (.c (.sc (.slice none 0 0))), (.t 46), (.t 47), (.c (.sc (.int .i64 (0)))), (.c (.sc (.int .i64 (99))))])⟩,
  ⟨(some 43), none, (.mv (.t 48))⟩,
  ⟨(some 49), none, (.ext 0 (.t 43))⟩,
  ⟨(some 50), none, (.ext 1 (.t 43))⟩,
  ⟨(some 9), none, (.mv (.t 49))⟩,
  ⟨(some 10), none, (.mv (.t 50))⟩] none)
 (.seq (.reg [⟨(some 51), none, (.mv (.t 4))⟩,
  ⟨(some 52), none, (.bin .eql (.t 51) (.c (.sc (.int .i64 (0)))))⟩,
  ⟨(some 53), none, (.mv (.t 52))⟩,
  ⟨(some 54), (some (53, true)), (.mv (.t 3))⟩,
  ⟨(some 55), (some (53, true)), (.bin .eql (.t 54) (.c (.sc (.int .i64 (57)))))⟩,
  ⟨(some 56), none, (.pick (.t 53) (.t 55) (.c (.sc (.bool false))))⟩,
  ⟨(some 57), none, (.mv (.t 56))⟩,
  ⟨(some 58), (some (57, true)), (.mv (.t 6))⟩,
  ⟨(some 59), (some (57, true)), (.bin .eql (.t 58) (.c (.sc (.int .i64 (0)))))⟩,
  ⟨(some 60), none, (.pick (.t 57) (.t 59) (.c (.sc (.bool false))))⟩,
  ⟨(some 61), none, (.mv (.t 60))⟩,
  ⟨(some 62), (some (61, true)), (.mv (.t 5))⟩,
  ⟨(some 63), (some (61, true)), (.bin .eql (.t 62) (.c (.sc (.int .i64 (101)))))⟩,
  ⟨(some 64), none, (.pick (.t 61) (.t 63) (.c (.sc (.bool false))))⟩,
  ⟨(some 65), none, (.mv (.t 64))⟩,
  ⟨(some 66), (some (65, true)), (.mv (.t 8))⟩,
  ⟨(some 67), (some (65, true)), (.bin .eql (.t 66) (.c (.sc (.int .i64 (0)))))⟩,
  ⟨(some 68), none, (.pick (.t 65) (.t 67) (.c (.sc (.bool false))))⟩,
  ⟨(some 69), none, (.mv (.t 68))⟩,
  ⟨(some 70), (some (69, true)), (.mv (.t 7))⟩,
  ⟨(some 71), (some (69, true)), (.len (.t 70))⟩,
  ⟨(some 72), (some (69, true)), (.bin .eql (.t 71) (.c (.sc (.int .i64 (1)))))⟩,
  ⟨(some 73), none, (.pick (.t 69) (.t 72) (.c (.sc (.bool false))))⟩,
  ⟨(some 74), none, (.mv (.t 73))⟩,
  ⟨(some 75), (some (74, true)), (.mv (.t 7))⟩,
  ⟨(some 76), (some (74, true)), (.iaddr 1 (.t 75) (.c (.sc (.int .i64 (0)))))⟩,
  ⟨(some 77), (some (74, true)), (.load 1 false (.t 76))⟩,
  ⟨(some 78), (some (74, true)), (.bin .eql (.t 77) (.c (.sc (.int .i64 (0)))))⟩,
  ⟨(some 79), none, (.pick (.t 74) (.t 78) (.c (.sc (.bool false))))⟩,
  ⟨(some 80), none, (.mv (.t 79))⟩,
  ⟨(some 81), (some (80, true)), (.mv (.t 10))⟩,
  ⟨(some 82), (some (80, true)), (.bin .eql (.t 81) (.c (.sc (.int .i64 (0)))))⟩,
  ⟨(some 83), none, (.pick (.t 80) (.t 82) (.c (.sc (.bool false))))⟩,
  ⟨(some 84), none, (.mv (.t 83))⟩,
  ⟨(some 85), (some (84, true)), (.mv (.t 9))⟩,
  ⟨(some 86), (some (84, true)), (.len (.t 85))⟩,
  ⟨(some 87), (some (84, true)), (.bin .eql (.t 86) (.c (.sc (.int .i64 (0)))))⟩,
  ⟨(some 88), none, (.pick (.t 84) (.t 87) (.c (.sc (.bool false))))⟩,
  ⟨(some 0), none, (.mv (.t 88))⟩] none) .ret))))))))
theorem good5 {args : List PV} {r : PV} (hl : args.length ≤ 89) (h : Run Try.prog [.code ac5] (endQ [(.t 0)] r) ⟨initT 0 args, [], 0, 89⟩) : Good Try.prog 5 args r :=
  good_run (by kernel_rfl) Iamix Try.func5 rfl (hs := []) (hs' := []) (by kernel_rfl) hl h
def ac14 : ACode :=
 (.seq (.reg [⟨(some 2), none, (.new [(.sc (.int .i64 (0))), (.sc (.int .i64 (0)))])⟩] none)
 (.seq (.reg [⟨(some 3), none, (.mv (.t 0))⟩,
  ⟨(some 4), none, (.mv (.t 0))⟩,
  ⟨(some 5), none, (.build [(.sc (.int .i64 (0))), (.sc (.int .i64 (0)))] [(0, (1, (.t 3))), (1, (1, (.t 4)))])⟩,
  ⟨none, none, (.store 2 (.t 2) (.t 5))⟩] none) .ret))
theorem good14 {args : List PV} {r : PV} (hl : args.length ≤ 6) (h : Run Try.prog [.code ac14] (endQ [(.c 2 2 true)] r) ⟨initT 0 args, [], 0, 6⟩) : Good Try.prog 14 args r :=
  good_run (by kernel_rfl) Iamix Try.func14 rfl (hs := []) (hs' := []) (by kernel_rfl) hl h
def ac6 : ACode :=
 (.seq (.reg [⟨(some 8), none, (.boxv (.t 2))⟩,
  ⟨(some 12), none, (.mv (.c (.sc (.slice none 0 0))))⟩,
  ⟨(some 13), none, (.mv (.c (.sc (.int .i64 (0)))))⟩] none)
 (.seq (.seq (.reg [⟨(some 23), none, (.mv (.t 0))⟩,
  ⟨(some 24), none, (.call 16 [(.t 23)])⟩,
  ⟨(some 14), none, (.mv (.t 24))⟩] none)
 (.seq (.reg [⟨(some 25), none, (.mv (.t 14))⟩,
  ⟨(some 26), none, (.bin .neq (.t 25) (.c (.sc (.int .i64 (0)))))⟩] none)
 (.cond (.t 26)
 (.seq (.reg [⟨(some 27), none, (.mv (.t 14))⟩,
  ⟨(some 12), none, (.mv (.c (.sc (.slice none 0 0))))⟩,
  ⟨(some 13), none, (.mv (.t 27))⟩] none) .ret) .skip)))
 (.seq (.seq (.reg [⟨(some 28), none, (.mv (.t 1))⟩,
  ⟨(some 29), none, (.call 17 [(.t 28)])⟩,
  ⟨(some 15), none, (.mv (.t 29))⟩] none)
 (.seq (.reg [⟨(some 30), none, (.mv (.t 15))⟩,
  ⟨(some 31), none, (.bin .neq (.t 30) (.c (.sc (.int .i64 (0)))))⟩] none)
 (.cond (.t 31)
 (.seq (.reg [⟨(some 32), none, (.mv (.t 15))⟩,
  ⟨(some 12), none, (.mv (.c (.sc (.slice none 0 0))))⟩,
  ⟨(some 13), none, (.mv (.t 32))⟩] none) .ret) .skip)))
 (.seq (.seq (.reg [⟨(some 33), none, (.mv (.t 4))⟩,
  ⟨(some 34), none, (.bin .lss (.t 33) (.c (.sc (.int .i64 (0)))))⟩,
  ⟨(some 35), none, (.mv (.t 34))⟩,
  ⟨(some 36), (some (35, false)), (.mv (.t 4))⟩,
  ⟨(some 37), (some (35, false)), (.bin .geq (.t 36) (.c (.sc (.int .i64 (128)))))⟩,
  ⟨(some 38), none, (.pick (.t 35) (.c (.sc (.bool true))) (.t 37))⟩,
  ⟨(some 39), none, (.mv (.t 38))⟩,
  ⟨(some 40), (some (39, false)), (.mv (.t 5))⟩,
  ⟨(some 41), (some (39, false)), (.bin .lss (.t 40) (.c (.sc (.int .i64 (0)))))⟩,
  ⟨(some 42), none, (.pick (.t 39) (.c (.sc (.bool true))) (.t 41))⟩,
  ⟨(some 43), none, (.mv (.t 42))⟩,
  ⟨(some 44), (some (43, false)), (.mv (.t 5))⟩,
  ⟨(some 45), (some (43, false)), (.bin .gtr (.t 44) (.c (.sc (.int .i64 (4294943999)))))⟩,
  ⟨(some 46), none, (.pick (.t 43) (.c (.sc (.bool true))) (.t 45))⟩] none)
 (.cond (.t 46)
 (.seq (.reg [⟨(some 12), none, (.mv (.c (.sc (.slice none 0 0))))⟩,
  ⟨(some 13), none, (.mv (.c (.sc (.int .i64 (1)))))⟩] none) .ret) .skip))
 (.seq (.reg [⟨(some 16), none, (.mv (.c (.sc (.slice none 0 0))))⟩] none)
 (.seq (.seq (.reg [⟨(some 47), none, (.mv (.t 0))⟩,
  ⟨(some 48), none, (.len (.t 47))⟩,
  ⟨(some 49), none, (.mv (.c (.sc (.int .i64 (0)))))⟩] none) (.block 0 
 (.loop ⟨[1, 3, 4, 5, 8, 16, 47, 48, 49], [(16, (3, 1))]⟩
 (.seq (.reg [⟨(some 50), none, (.bin .lss (.t 49) (.t 48))⟩] none)
 (.seq
 (.cond (.t 50) .skip (.exit 0))
 (.seq (.block 1
 (.seq (.reg [⟨(some 51), none, (.iaddr 3 (.t 47) (.t 49))⟩,
  ⟨(some 52), none, (.load 3 true (.t 51))⟩,
  ⟨(some 18), none, (.new [(.sc (.int .i64 (0))), (.sc (.int .i64 (0))), (.sc (.int .i64 (0)))])⟩,
  ⟨none, none, (.store 3 (.t 18) (.t 52))⟩] none)
 (.seq (.reg [⟨(some 54), none, (.mv (.t 1))⟩,
  ⟨(some 55), none, (.mv (.t 4))⟩,
  ⟨(some 56), none, (.faddr 0 (.t 18))⟩,
  ⟨(some 57), none, (.load 1 false (.t 56))⟩,
  ⟨(some 58), none, (.mv (.t 5))⟩,
  ⟨(some 59), none, (.call 18 [(.t 54), (.t 55), (.t 57), (.t 58)])⟩,
  ⟨(some 53), none, (.mv (.t 59))⟩,
  ⟨(some 60), none, (.ext 0 (.t 53))⟩,
  ⟨(some 61), none, (.ext 1 (.t 53))⟩,
  ⟨(some 19), none, (.new [(.sc (.int .i64 (0))), (.sc (.int .i64 (0))), (.sc (.int .i64 (0))), (.sc (.bool false))])⟩,
  ⟨none, none, (.store 4 (.t 19) (.t 60))⟩,
  ⟨(some 20), none, (.mv (.t 61))⟩] none)
 (.seq (.reg [⟨(some 63), none, (.load 2 true (.t 8))⟩,
  ⟨(some 64), none, (.mv (.t 3))⟩,
  ⟨(some 65), none, (.mv (.t 4))⟩,
  ⟨(some 66), none, (.faddr 0 (.t 18))⟩,
  ⟨(some 67), none, (.load 1 false (.t 66))⟩,
  ⟨(some 68), none, (.faddr 2 (.t 19))⟩,
  ⟨(some 69), none, (.load 1 false (.t 68))⟩,
  ⟨(some 70), none, (.mv (.t 5))⟩,
  ⟨(some 71), none, (.bin .add (.t 70) (.c (.sc (.int .i64 (1)))))⟩,
  ⟨(some 72), none, (.build [(.sc (.int .i64 (0))), (.sc (.int .i64 (0)))] [(0, (1, (.t 69))), (1, (1, (.t 71)))])⟩,
  ⟨(some 73), none, (.call 15 [(.t 63), (.t 64), (.t 65), (.t 67), (.t 72)])⟩,
  ⟨(some 62), none, (.mv (.t 73))⟩,
  ⟨(some 74), none, (.ext 0 (.t 62))⟩,
  ⟨(some 75), none, (.ext 1 (.t 62))⟩,
  ⟨(some 21), none, (.mv (.t 74))⟩,
  ⟨(some 22), none, (.mv (.t 75))⟩] none)
 (.seq (.seq (.reg [⟨(some 76), none, (.mv (.t 22))⟩,
  ⟨(some 77), none, (.bin .neq (.t 76) (.c (.sc (.int .i64 (0)))))⟩] none)
 (.cond (.t 77)
 (.seq (.reg [⟨(some 78), none, (.mv (.t 22))⟩,
  ⟨(some 12), none, (.mv (.c (.sc (.slice none 0 0))))⟩,
  ⟨(some 13), none, (.mv (.t 78))⟩] none) .ret) .skip))
 (.seq (.reg [⟨(some 79), none, (.mv (.t 20))⟩,
  ⟨(some 80), none, (.mv (.t 79))⟩,
  ⟨(some 81), (some (80, true)), (.faddr 3 (.t 19))⟩,
  ⟨(some 82), (some (80, true)), (.load 1 false (.t 81))⟩,
  ⟨(some 83), (some (80, true)), (.un .not (.t 82))⟩,
  ⟨(some 84), none, (.pick (.t 80) (.t 83) (.c (.sc (.bool false))))⟩,
  ⟨(some 85), none, (.mv (.t 84))⟩,
  ⟨(some 86), (some (85, false)), (.mv (.t 5))⟩,
  ⟨(some 87), (some (85, false)), (.bin .quo (.t 86) (.c (.sc (.int .i64 (86400)))))⟩,
  ⟨(some 88), (some (85, false)), (.faddr 2 (.t 19))⟩,
  ⟨(some 89), (some (85, false)), (.load 1 false (.t 88))⟩,
  ⟨(some 90), (some (85, false)), (.bin .quo (.t 89) (.c (.sc (.int .i64 (86400)))))⟩,
  ⟨(some 91), (some (85, false)), (.bin .sub (.t 87) (.t 90))⟩,
  ⟨(some 92), (some (85, false)), (.faddr 2 (.t 18))⟩,
  ⟨(some 93), (some (85, false)), (.load 1 false (.t 92))⟩,
  ⟨(some 94), (some (85, false)), (.bin .geq (.t 91) (.t 93))⟩,
  ⟨(some 95), none, (.pick (.t 85) (.c (.sc (.bool true))) (.t 94))⟩,
  ⟨(some 96), none, (.mv (.t 95))⟩,
  ⟨(some 97), (some (96, false)), (.mv (.t 21))⟩,
  ⟨(some 98), (some (96, false)), (.faddr 1 (.t 18))⟩,
  ⟨(some 99), (some (96, false)), (.load 1 false (.t 98))⟩,
  ⟨(some 100), (some (96, false)), (.bin .geq (.t 97) (.t 99))⟩,
  ⟨(some 101), none, (.pick (.t 96) (.c (.sc (.bool true))) (.t 100))⟩] none)
 (.cond (.t 101) (.reg [⟨(some 102), none, (.mv (.t 16))⟩,
  ⟨(some 103), none, (.faddr 0 (.t 18))⟩,
  ⟨(some 104), none, (.load 1 false (.t 103))⟩,
  ⟨(some 105), none, (.bslice 3 1 [(.t 104)])⟩,
  ⟨(some 106), none, (.append 3 1 8 (.t 102) (.t 105))⟩,
  ⟨(some 16), none, (.mv (.t 106))⟩] none) .skip))))))) (.reg [⟨(some 107), none, (.bin .add (.t 49) (.c (.sc (.int .i64 (1)))))⟩,
  ⟨(some 49), none, (.mv (.t 107))⟩] none)))))))
 (.seq (.reg [⟨(some 108), none, (.mv (.t 16))⟩,
  ⟨(some 12), none, (.mv (.t 108))⟩,
  ⟨(some 13), none, (.mv (.c (.sc (.int .i64 (0)))))⟩] none) .ret)))))))
theorem good6 {args : List PV} {r : PV} (hl : args.length ≤ 109) (h : Run Try.prog [.code ac6] (endQ [(.t 12), (.t 13)] r) ⟨initT 0 args, [], 0, 109⟩) : Good Try.prog 6 args r :=
  good_run (by kernel_rfl) Iamix Try.func6 rfl (hs := [⟨[1, 3, 4, 5, 8, 16, 47, 48, 49], [(16, 3, 1)]⟩]) (hs' := []) (by kernel_rfl) hl h
def ac7 : ACode :=
 (.seq (.reg [⟨(some 6), none, (.boxv (.t 0))⟩,
  ⟨(some 12), none, (.mv (.c (.sc (.int .i64 (0)))))⟩,
  ⟨(some 13), none, (.mv (.c (.sc (.int .i64 (0)))))⟩] none)
 (.seq (.seq (.reg [⟨(some 24), none, (.load 2 true (.t 6))⟩,
  ⟨(some 25), none, (.mv (.t 1))⟩,
  ⟨(some 26), none, (.mv (.t 2))⟩,
  ⟨(some 27), none, (.mv (.t 3))⟩,
  ⟨(some 28), none, (.mv (.t 4))⟩,
  ⟨(some 29), none, (.build [(.sc (.int .i64 (0))), (.sc (.int .i64 (0)))] [(0, (1, (.t 28))), (1, (1, (.c (.sc (.int .i64 (4294944000))))))])⟩,
  ⟨(some 30), none, (.call 15 [(.t 24), (.t 25), (.t 26), (.t 27), (.t 29)])⟩,
  ⟨(some 23), none, (.mv (.t 30))⟩,
  ⟨(some 31), none, (.ext 0 (.t 23))⟩,
  ⟨(some 32), none, (.ext 1 (.t 23))⟩,
  ⟨(some 14), none, (.mv (.t 31))⟩,
  ⟨(some 15), none, (.mv (.t 32))⟩] none)
 (.seq (.reg [⟨(some 33), none, (.mv (.t 15))⟩,
  ⟨(some 34), none, (.bin .neq (.t 33) (.c (.sc (.int .i64 (0)))))⟩] none)
 (.cond (.t 34)
 (.seq (.reg [⟨(some 35), none, (.mv (.t 15))⟩,
  ⟨(some 12), none, (.mv (.c (.sc (.int .i64 (0)))))⟩,
  ⟨(some 13), none, (.mv (.t 35))⟩] none) .ret) .skip)))
 (.seq (.seq (.reg [⟨(some 36), none, (.mv (.t 5))⟩,
  ⟨(some 37), none, (.bin .lss (.t 36) (.c (.sc (.int .i64 (0)))))⟩,
  ⟨(some 38), none, (.mv (.t 37))⟩,
  ⟨(some 39), (some (38, false)), (.mv (.t 5))⟩,
  ⟨(some 40), (some (38, false)), (.bin .gtr (.t 39) (.c (.sc (.int .i64 (1125899906842624)))))⟩,
  ⟨(some 41), none, (.pick (.t 38) (.c (.sc (.bool true))) (.t 40))⟩] none)
 (.cond (.t 41)
 (.seq (.reg [⟨(some 12), none, (.mv (.c (.sc (.int .i64 (0)))))⟩,
  ⟨(some 13), none, (.mv (.c (.sc (.int .i64 (1)))))⟩] none) .ret) .skip))
 (.seq (.reg [⟨(some 42), none, (.mv (.t 4))⟩,
  ⟨(some 43), none, (.bslice 3 1 [(.t 42)])⟩,
  ⟨(some 16), none, (.mv (.t 43))⟩] none)
 (.seq (.seq (.reg [⟨(some 44), none, (.mv (.t 1))⟩,
  ⟨(some 45), none, (.len (.t 44))⟩,
  ⟨(some 46), none, (.mv (.c (.sc (.int .i64 (0)))))⟩] none) (.block 0 
 (.loop ⟨[1, 2, 3, 4, 5, 6, 16, 44, 45, 46], [(16, (3, 1))]⟩
 (.seq (.reg [⟨(some 47), none, (.bin .lss (.t 46) (.t 45))⟩] none)
 (.seq
 (.cond (.t 47) .skip (.exit 0))
 (.seq (.block 1
 (.seq (.reg [⟨(some 48), none, (.iaddr 13 (.t 44) (.t 46))⟩,
  ⟨(some 49), none, (.load 13 true (.t 48))⟩,
  ⟨(some 18), none, (.new [(.sc (.int .i64 (0))), (.sc (.int .i64 (0))), (.sc (.int .i64 (0))), (.sc (.int .i64 (0))), (.sc (.int .i64 (0))), (.sc (.int .i64 (0))), (.sc (.bool false)), (.sc (.slice none 0 0)), (.sc (.slice none 0 0)), (.sc (.int .i64 (0))), (.sc (.int .i64 (0))), (.sc (.int .i64 (0))), (.sc (.int .i64 (0)))])⟩,
  ⟨none, none, (.store 13 (.t 18) (.t 49))⟩] none)
 (.seq (.reg [⟨(some 50), none, (.faddr 7 (.t 18))⟩,
  ⟨(some 51), none, (.load 1 false (.t 50))⟩,
  ⟨(some 52), none, (.len (.t 51))⟩,
  ⟨(some 53), none, (.mv (.c (.sc (.int .i64 (0)))))⟩] none) (.block 2 
 (.loop ⟨[1, 2, 3, 4, 5, 6, 16, 44, 45, 46, 51, 52, 53], [(16, (3, 1))]⟩
 (.seq (.reg [⟨(some 54), none, (.bin .lss (.t 53) (.t 52))⟩] none)
 (.seq
 (.cond (.t 54) .skip (.exit 2))
 (.seq (.block 3
 (.seq (.reg [⟨(some 55), none, (.iaddr 5 (.t 51) (.t 53))⟩,
  ⟨(some 56), none, (.load 5 true (.t 55))⟩,
  ⟨(some 20), none, (.new [(.sc (.int .i64 (0))), (.sc (.int .i64 (0))), (.sc (.int .i64 (0))), (.sc (.int .i64 (0))), (.sc (.int .i64 (0)))])⟩,
  ⟨none, none, (.store 5 (.t 20) (.t 56))⟩] none)
 (.seq (.reg [⟨(some 57), none, (.faddr 0 (.t 20))⟩,
  ⟨(some 58), none, (.load 1 false (.t 57))⟩,
  ⟨(some 59), none, (.mv (.t 2))⟩,
  ⟨(some 60), none, (.bin .eql (.t 58) (.t 59))⟩,
  ⟨(some 61), none, (.mv (.t 60))⟩,
  ⟨(some 62), (some (61, true)), (.faddr 1 (.t 20))⟩,
  ⟨(some 63), (some (61, true)), (.faddr 0 (.t 62))⟩,
  ⟨(some 64), (some (61, true)), (.load 1 false (.t 63))⟩,
  ⟨(some 65), (some (61, true)), (.mv (.t 4))⟩,
  ⟨(some 66), (some (61, true)), (.bin .geq (.t 64) (.t 65))⟩,
  ⟨(some 67), none, (.pick (.t 61) (.t 66) (.c (.sc (.bool false))))⟩] none)
 (.cond (.t 67) (.reg [⟨(some 68), none, (.mv (.t 16))⟩,
  ⟨(some 69), none, (.faddr 1 (.t 20))⟩,
  ⟨(some 70), none, (.faddr 0 (.t 69))⟩,
  ⟨(some 71), none, (.load 1 false (.t 70))⟩,
  ⟨(some 72), none, (.bin .add (.t 71) (.c (.sc (.int .i64 (1)))))⟩,
  ⟨(some 73), none, (.bslice 3 1 [(.t 72)])⟩,
  ⟨(some 74), none, (.append 3 1 8 (.t 68) (.t 73))⟩,
  ⟨(some 16), none, (.mv (.t 74))⟩] none) .skip)))) (.reg [⟨(some 75), none, (.bin .add (.t 53) (.c (.sc (.int .i64 (1)))))⟩,
  ⟨(some 53), none, (.mv (.t 75))⟩] none))))))))) (.reg [⟨(some 76), none, (.bin .add (.t 46) (.c (.sc (.int .i64 (1)))))⟩,
  ⟨(some 46), none, (.mv (.t 76))⟩] none)))))))
 (.seq (.reg [⟨(some 77), none, (.mv (.t 16))⟩,
  ⟨(some 78), none, (.call 19 [(.t 77)])⟩] none)
 (.seq (.seq (.reg [⟨(some 79), none, (.mv (.t 16))⟩,
  ⟨(some 80), none, (.len (.t 79))⟩,
  ⟨(some 81), none, (.mv (.c (.sc (.int .i64 (0)))))⟩] none) (.block 4 
 (.loop ⟨[1, 2, 3, 4, 5, 6, 79, 80, 81], []⟩
 (.seq (.reg [⟨(some 82), none, (.bin .lss (.t 81) (.t 80))⟩] none)
 (.seq
 (.cond (.t 82) .skip (.exit 4))
 (.seq (.block 5
 (.seq (.reg [⟨(some 83), none, (.iaddr 1 (.t 79) (.t 81))⟩,
  ⟨(some 84), none, (.load 1 false (.t 83))⟩,
  ⟨(some 22), none, (.mv (.t 84))⟩] none)
 (.seq (.reg [⟨(some 85), none, (.load 2 true (.t 6))⟩,
  ⟨(some 86), none, (.mv (.t 3))⟩,
  ⟨(some 87), none, (.mv (.t 1))⟩,
  ⟨(some 88), none, (.mv (.t 2))⟩,
  ⟨(some 89), none, (.mv (.t 4))⟩,
  ⟨(some 90), none, (.mv (.t 22))⟩,
  ⟨(some 91), none, (.build [(.sc (.int .i64 (0))), (.sc (.int .i64 (0)))] [(0, (1, (.t 89))), (1, (1, (.t 90)))])⟩,
  ⟨(some 92), none, (.call 21 [(.t 87), (.t 88), (.t 91)])⟩,
  ⟨(some 93), none, (.call 20 [(.t 85), (.t 86), (.t 92)])⟩,
  ⟨(some 94), none, (.mv (.t 5))⟩,
  ⟨(some 95), none, (.bin .geq (.t 93) (.t 94))⟩] (some [[], [], [], [], [], [], [4, 5], [2, 3, 6, 4, 5], [0, 1, 7, 2, 3, 6, 4, 5], [], [8, 9, 0, 1, 7, 2, 3, 6, 4, 5]]))
 (.cond (.t 95)
 (.seq (.reg [⟨(some 96), none, (.mv (.t 22))⟩,
  ⟨(some 12), none, (.mv (.t 96))⟩,
  ⟨(some 13), none, (.mv (.c (.sc (.int .i64 (0)))))⟩] none) .ret) .skip)))) (.reg [⟨(some 97), none, (.bin .add (.t 81) (.c (.sc (.int .i64 (1)))))⟩,
  ⟨(some 81), none, (.mv (.t 97))⟩] none)))))))
 (.seq (.reg [⟨(some 12), none, (.mv (.c (.sc (.int .i64 (0)))))⟩,
  ⟨(some 13), none, (.mv (.c (.sc (.int .i64 (10)))))⟩] none) .ret))))))))
theorem good7 {args : List PV} {r : PV} (hl : args.length ≤ 98) (h : Run Try.prog [.code ac7] (endQ [(.t 12), (.t 13)] r) ⟨initT 0 args, [], 0, 98⟩) : Good Try.prog 7 args r :=
  good_run (by kernel_rfl) Iamix Try.func7 rfl (hs := [⟨[1, 2, 3, 4, 5, 6, 16, 44, 45, 46], [(16, 3, 1)]⟩, ⟨[1, 2, 3, 4, 5, 6, 16, 44, 45, 46, 51, 52, 53], [(16, 3, 1)]⟩, ⟨[1, 2, 3, 4, 5, 6, 79, 80, 81], []⟩]) (hs' := []) (by kernel_rfl) hl h
def ac15 : ACode :=
 (.seq (.reg [⟨(some 5), none, (.boxv (.t 0))⟩,
  ⟨(some 9), none, (.boxv (.t 4))⟩,
  ⟨(some 10), none, (.mv (.c (.sc (.int .i64 (0)))))⟩,
  ⟨(some 11), none, (.mv (.c (.sc (.int .i64 (0)))))⟩] none)
 (.seq (.seq (.reg [⟨(some 14), none, (.load 2 true (.t 5))⟩,
  ⟨(some 15), none, (.call 31 [(.t 14)])⟩,
  ⟨(some 12), none, (.mv (.t 15))⟩] none)
 (.seq (.reg [⟨(some 16), none, (.mv (.t 12))⟩,
  ⟨(some 17), none, (.bin .neq (.t 16) (.c (.sc (.int .i64 (0)))))⟩] none)
 (.cond (.t 17)
 (.seq (.reg [⟨(some 18), none, (.mv (.t 12))⟩,
  ⟨(some 10), none, (.mv (.c (.sc (.int .i64 (0)))))⟩,
  ⟨(some 11), none, (.mv (.t 18))⟩] none) .ret) .skip)))
 (.seq (.seq (.reg [⟨(some 19), none, (.mv (.t 3))⟩,
  ⟨(some 20), none, (.bin .lss (.t 19) (.c (.sc (.int .i64 (0)))))⟩,
  ⟨(some 21), none, (.mv (.t 20))⟩,
  ⟨(some 22), (some (21, false)), (.mv (.t 3))⟩,
  ⟨(some 23), (some (21, false)), (.faddr 0 (.t 5))⟩,
  ⟨(some 24), (some (21, false)), (.load 1 false (.t 23))⟩,
  ⟨(some 25), (some (21, false)), (.len (.t 24))⟩,
  ⟨(some 26), (some (21, false)), (.bin .geq (.t 22) (.t 25))⟩,
  ⟨(some 27), none, (.pick (.t 21) (.c (.sc (.bool true))) (.t 26))⟩] none)
 (.cond (.t 27)
 (.seq (.reg [⟨(some 10), none, (.mv (.c (.sc (.int .i64 (0)))))⟩,
  ⟨(some 11), none, (.mv (.c (.sc (.int .i64 (7)))))⟩] none) .ret) .skip))
 (.seq (.seq (.reg [⟨(some 28), none, (.mv (.t 1))⟩,
  ⟨(some 29), none, (.mv (.t 2))⟩,
  ⟨(some 30), none, (.load 2 true (.t 9))⟩,
  ⟨(some 31), none, (.call 32 [(.t 28), (.t 29), (.t 30)])⟩,
  ⟨(some 13), none, (.mv (.t 31))⟩] none)
 (.seq (.reg [⟨(some 32), none, (.mv (.t 13))⟩,
  ⟨(some 33), none, (.bin .neq (.t 32) (.c (.sc (.int .i64 (0)))))⟩] none)
 (.cond (.t 33)
 (.seq (.reg [⟨(some 34), none, (.mv (.t 13))⟩,
  ⟨(some 10), none, (.mv (.c (.sc (.int .i64 (0)))))⟩,
  ⟨(some 11), none, (.mv (.t 34))⟩] none) .ret) .skip)))
 (.seq (.reg [⟨(some 35), none, (.load 2 true (.t 5))⟩,
  ⟨(some 36), none, (.mv (.t 3))⟩,
  ⟨(some 37), none, (.mv (.t 1))⟩,
  ⟨(some 38), none, (.mv (.t 2))⟩,
  ⟨(some 39), none, (.load 2 true (.t 9))⟩,
  ⟨(some 40), none, (.call 21 [(.t 37), (.t 38), (.t 39)])⟩,
  ⟨(some 41), none, (.call 20 [(.t 35), (.t 36), (.t 40)])⟩,
  ⟨(some 10), none, (.mv (.t 41))⟩,
  ⟨(some 11), none, (.mv (.c (.sc (.int .i64 (0)))))⟩] (some [[], [], [], [], [], [2, 3, 4], [0, 1, 5, 2, 3, 4], [6, 0, 1, 2, 3, 4, 5], [7, 0, 1, 2, 3, 4, 5, 6]])) .ret)))))
theorem good15 {args : List PV} {r : PV} (hl : args.length ≤ 42) (h : Run Try.prog [.code ac15] (endQ [(.t 10), (.t 11)] r) ⟨initT 0 args, [], 0, 42⟩) : Good Try.prog 15 args r :=
  good_run (by kernel_rfl) Iamix Try.func15 rfl (hs := []) (hs' := []) (by kernel_rfl) hl h
def ac16 : ACode :=
 (.seq (.reg [⟨(some 2), none, (.mv (.c (.sc (.int .i64 (0)))))⟩] none)
 (.seq (.seq (.reg [⟨(some 8), none, (.mv (.t 0))⟩,
  ⟨(some 9), none, (.len (.t 8))⟩,
  ⟨(some 10), none, (.bin .gtr (.t 9) (.c (.sc (.int .i64 (8)))))⟩] none)
 (.cond (.t 10)
 (.seq (.reg [⟨(some 2), none, (.mv (.c (.sc (.int .i64 (8)))))⟩] none) .ret) .skip))
 (.seq (.seq (.reg [⟨(some 11), none, (.mv (.t 0))⟩,
  ⟨(some 12), none, (.len (.t 11))⟩,
  ⟨(some 13), none, (.mv (.c (.sc (.int .i64 (0)))))⟩] none) (.block 0 
 (.loop ⟨[0, 11, 12, 13], []⟩
 (.seq (.reg [⟨(some 14), none, (.bin .lss (.t 13) (.t 12))⟩] none)
 (.seq
 (.cond (.t 14) .skip (.exit 0))
 (.seq (.block 1
 (.seq (.reg [⟨(some 15), none, (.iaddr 3 (.t 11) (.t 13))⟩,
  ⟨(some 16), none, (.load 3 true (.t 15))⟩,
  ⟨(some 4), none, (.new [(.sc (.int .i64 (0))), (.sc (.int .i64 (0))), (.sc (.int .i64 (0)))])⟩,
  ⟨none, none, (.store 3 (.t 4) (.t 16))⟩] none) (.block 2
 (.seq (.reg [⟨(some 18), none, (.faddr 0 (.t 4))⟩,
  ⟨(some 19), none, (.load 1 false (.t 18))⟩,
  ⟨(some 20), none, (.call 33 [(.t 19)])⟩,
  ⟨(some 21), none, (.un .not (.t 20))⟩,
  ⟨(some 17), none, (.mv (.t 21))⟩] none)
 (.cond (.t 17)
 (.seq (.reg [⟨(some 2), none, (.mv (.c (.sc (.int .i64 (14)))))⟩] none) .ret)
 (.seq (.reg [⟨(some 23), none, (.faddr 1 (.t 4))⟩,
  ⟨(some 24), none, (.load 1 false (.t 23))⟩,
  ⟨(some 25), none, (.bin .lss (.t 24) (.c (.sc (.int .i64 (1)))))⟩,
  ⟨(some 26), none, (.mv (.t 25))⟩,
  ⟨(some 27), (some (26, false)), (.faddr 1 (.t 4))⟩,
  ⟨(some 28), (some (26, false)), (.load 1 false (.t 27))⟩,
  ⟨(some 29), (some (26, false)), (.bin .gtr (.t 28) (.c (.sc (.int .i64 (1125899906842624)))))⟩,
  ⟨(some 30), none, (.pick (.t 26) (.c (.sc (.bool true))) (.t 29))⟩,
  ⟨(some 31), none, (.mv (.t 30))⟩,
  ⟨(some 32), (some (31, false)), (.faddr 2 (.t 4))⟩,
  ⟨(some 33), (some (31, false)), (.load 1 false (.t 32))⟩,
  ⟨(some 34), (some (31, false)), (.bin .lss (.t 33) (.c (.sc (.int .i64 (1)))))⟩,
  ⟨(some 35), none, (.pick (.t 31) (.c (.sc (.bool true))) (.t 34))⟩,
  ⟨(some 36), none, (.mv (.t 35))⟩,
  ⟨(some 37), (some (36, false)), (.faddr 2 (.t 4))⟩,
  ⟨(some 38), (some (36, false)), (.load 1 false (.t 37))⟩,
  ⟨(some 39), (some (36, false)), (.bin .gtr (.t 38) (.c (.sc (.int .i64 (49709)))))⟩,
  ⟨(some 40), none, (.pick (.t 36) (.c (.sc (.bool true))) (.t 39))⟩,
  ⟨(some 22), none, (.mv (.t 40))⟩] none)
 (.cond (.t 22)
 (.seq (.reg [⟨(some 2), none, (.mv (.c (.sc (.int .i64 (1)))))⟩] none) .ret) .skip))))))) (.reg [⟨(some 41), none, (.bin .add (.t 13) (.c (.sc (.int .i64 (1)))))⟩,
  ⟨(some 13), none, (.mv (.t 41))⟩] none)))))))
 (.seq (.reg [⟨(some 5), none, (.new [(.sc (.bool false)), (.sc (.bool false)), (.sc (.bool false)), (.sc (.bool false)), (.sc (.bool false)), (.sc (.bool false)), (.sc (.bool false)), (.sc (.bool false))])⟩] none)
 (.seq (.seq (.reg [⟨(some 42), none, (.mv (.t 0))⟩,
  ⟨(some 43), none, (.len (.t 42))⟩,
  ⟨(some 44), none, (.mv (.c (.sc (.int .i64 (0)))))⟩] none) (.block 3 
 (.loop ⟨[5, 42, 43, 44], []⟩
 (.seq (.reg [⟨(some 45), none, (.bin .lss (.t 44) (.t 43))⟩] none)
 (.seq
 (.cond (.t 45) .skip (.exit 3))
 (.seq (.block 4
 (.seq (.reg [⟨(some 46), none, (.iaddr 3 (.t 42) (.t 44))⟩,
  ⟨(some 47), none, (.load 3 true (.t 46))⟩,
  ⟨(some 7), none, (.new [(.sc (.int .i64 (0))), (.sc (.int .i64 (0))), (.sc (.int .i64 (0)))])⟩,
  ⟨none, none, (.store 3 (.t 7) (.t 47))⟩] none)
 (.seq (.seq (.reg [⟨(some 48), none, (.faddr 0 (.t 7))⟩,
  ⟨(some 49), none, (.load 1 false (.t 48))⟩,
  ⟨(some 50), none, (.iaddrA 1 8 (.t 5) (.t 49))⟩,
  ⟨(some 51), none, (.load 1 false (.t 50))⟩] none)
 (.cond (.t 51)
 (.seq (.reg [⟨(some 2), none, (.mv (.c (.sc (.int .i64 (6)))))⟩] none) .ret) .skip)) (.reg [⟨(some 52), none, (.faddr 0 (.t 7))⟩,
  ⟨(some 53), none, (.load 1 false (.t 52))⟩,
  ⟨(some 54), none, (.iaddrA 1 8 (.t 5) (.t 53))⟩,
  ⟨none, none, (.store 1 (.t 54) (.c (.sc (.bool true))))⟩] none)))) (.reg [⟨(some 55), none, (.bin .add (.t 44) (.c (.sc (.int .i64 (1)))))⟩,
  ⟨(some 44), none, (.mv (.t 55))⟩] none)))))))
 (.seq (.reg [⟨(some 2), none, (.mv (.c (.sc (.int .i64 (0)))))⟩] none) .ret))))))
theorem good16 {args : List PV} {r : PV} (hl : args.length ≤ 56) (h : Run Try.prog [.code ac16] (endQ [(.t 2)] r) ⟨initT 0 args, [], 0, 56⟩) : Good Try.prog 16 args r :=
  good_run (by kernel_rfl) Iamix Try.func16 rfl (hs := [⟨[0, 11, 12, 13], []⟩, ⟨[5, 42, 43, 44], []⟩]) (hs' := []) (by kernel_rfl) hl h
def ac20 : ACode :=
 (.seq (.reg [⟨(some 3), none, (.boxv (.t 0))⟩,
  ⟨(some 5), none, (.boxv (.t 2))⟩,
  ⟨(some 6), none, (.mv (.c (.sc (.int .i64 (0)))))⟩] none)
 (.seq (.reg [⟨(some 8), none, (.faddr 0 (.t 3))⟩,
  ⟨(some 9), none, (.load 1 false (.t 8))⟩,
  ⟨(some 10), none, (.mv (.t 1))⟩,
  ⟨(some 11), none, (.iaddr 1 (.t 9) (.t 10))⟩,
  ⟨(some 12), none, (.load 1 false (.t 11))⟩,
  ⟨(some 7), none, (.mv (.t 12))⟩] none)
 (.seq (.reg [⟨(some 13), none, (.faddr 1 (.t 3))⟩,
  ⟨(some 14), none, (.load 1 false (.t 13))⟩,
  ⟨(some 15), none, (.mv (.t 1))⟩,
  ⟨(some 16), none, (.iaddr 1 (.t 14) (.t 15))⟩,
  ⟨(some 17), none, (.load 1 false (.t 16))⟩,
  ⟨(some 18), none, (.iaddrA 1 2 (.t 5) (.c (.sc (.int .i64 (0)))))⟩,
  ⟨(some 19), none, (.load 1 false (.t 18))⟩,
  ⟨(some 20), none, (.bin .mul (.t 17) (.t 19))⟩,
  ⟨(some 21), none, (.mv (.t 7))⟩,
  ⟨(some 22), none, (.iaddrA 1 2 (.t 5) (.c (.sc (.int .i64 (1)))))⟩,
  ⟨(some 23), none, (.load 1 false (.t 22))⟩,
  ⟨(some 24), none, (.bin .quo (.t 23) (.c (.sc (.int .i64 (3600)))))⟩,
  ⟨(some 25), none, (.bin .mul (.t 21) (.t 24))⟩,
  ⟨(some 26), none, (.bin .add (.t 20) (.t 25))⟩,
  ⟨(some 27), none, (.mv (.t 7))⟩,
  ⟨(some 28), none, (.iaddrA 1 2 (.t 5) (.c (.sc (.int .i64 (1)))))⟩,
  ⟨(some 29), none, (.load 1 false (.t 28))⟩,
  ⟨(some 30), none, (.bin .rem (.t 29) (.c (.sc (.int .i64 (3600)))))⟩,
  ⟨(some 31), none, (.bin .mul (.t 27) (.t 30))⟩,
  ⟨(some 32), none, (.bin .quo (.t 31) (.c (.sc (.int .i64 (3600)))))⟩,
  ⟨(some 33), none, (.bin .add (.t 26) (.t 32))⟩,
  ⟨(some 6), none, (.mv (.t 33))⟩] (some [[], [0], [], [1, 2, 0], [3, 1, 2, 0], [], [5], [4, 6, 3, 1, 2, 0, 5], [], [], [9], [10, 9], [8, 11, 10, 9], [7, 12, 4, 6, 3, 1, 2, 0, 5, 8, 11, 10, 9], [], [], [15], [16, 15], [14, 17, 16, 15], [18, 14, 17, 16, 15], [13, 19, 7, 12, 4, 6, 3, 1, 2, 0, 5, 8, 11, 10, 9, 18, 14, 17, 16, 15], [20, 0, 1, 2, 3, 4, 5, 6, 7, 8, 9, 10, 11, 12, 13, 14, 15, 16, 17, 18, 19]])) .ret)))
theorem good20 {args : List PV} {r : PV} (hl : args.length ≤ 34) (h : Run Try.prog [.code ac20] (endQ [(.t 6)] r) ⟨initT 0 args, [], 0, 34⟩) : Good Try.prog 20 args r :=
  good_run (by kernel_rfl) Iamix Try.func20 rfl (hs := []) (hs' := []) (by kernel_rfl) hl h
def ac21 : ACode :=
 (.seq (.reg [⟨(some 5), none, (.boxv (.t 2))⟩,
  ⟨(some 6), none, (.new [(.sc (.int .i64 (0))), (.sc (.int .i64 (0)))])⟩] none)
 (.seq (.seq (.reg [⟨(some 11), none, (.mv (.t 0))⟩,
  ⟨(some 12), none, (.len (.t 11))⟩,
  ⟨(some 13), none, (.mv (.c (.sc (.int .i64 (0)))))⟩] none) (.block 0 
 (.loop ⟨[1, 5, 6, 11, 12, 13], []⟩
 (.seq (.reg [⟨(some 14), none, (.bin .lss (.t 13) (.t 12))⟩] none)
 (.seq
 (.cond (.t 14) .skip (.exit 0))
 (.seq (.block 1
 (.seq (.reg [⟨(some 15), none, (.iaddr 13 (.t 11) (.t 13))⟩,
  ⟨(some 16), none, (.load 13 true (.t 15))⟩,
  ⟨(some 8), none, (.new [(.sc (.int .i64 (0))), (.sc (.int .i64 (0))), (.sc (.int .i64 (0))), (.sc (.int .i64 (0))), (.sc (.int .i64 (0))), (.sc (.int .i64 (0))), (.sc (.bool false)), (.sc (.slice none 0 0)), (.sc (.slice none 0 0)), (.sc (.int .i64 (0))), (.sc (.int .i64 (0))), (.sc (.int .i64 (0))), (.sc (.int .i64 (0)))])⟩,
  ⟨none, none, (.store 13 (.t 8) (.t 16))⟩] none)
 (.seq (.reg [⟨(some 17), none, (.faddr 7 (.t 8))⟩,
  ⟨(some 18), none, (.load 1 false (.t 17))⟩,
  ⟨(some 19), none, (.len (.t 18))⟩,
  ⟨(some 20), none, (.mv (.c (.sc (.int .i64 (0)))))⟩] none) (.block 2 
 (.loop ⟨[1, 5, 6, 8, 11, 12, 13, 18, 19, 20], []⟩
 (.seq (.reg [⟨(some 21), none, (.bin .lss (.t 20) (.t 19))⟩] none)
 (.seq
 (.cond (.t 21) .skip (.exit 2))
 (.seq (.block 3
 (.seq (.reg [⟨(some 22), none, (.mv (.t 20))⟩,
  ⟨(some 23), none, (.iaddr 5 (.t 18) (.t 20))⟩,
  ⟨(some 24), none, (.load 5 true (.t 23))⟩,
  ⟨(some 10), none, (.new [(.sc (.int .i64 (0))), (.sc (.int .i64 (0))), (.sc (.int .i64 (0))), (.sc (.int .i64 (0))), (.sc (.int .i64 (0)))])⟩,
  ⟨(some 9), none, (.mv (.t 22))⟩,
  ⟨none, none, (.store 5 (.t 10) (.t 24))⟩] none)
 (.seq (.seq (.reg [⟨(some 25), none, (.faddr 0 (.t 10))⟩,
  ⟨(some 26), none, (.load 1 false (.t 25))⟩,
  ⟨(some 27), none, (.mv (.t 1))⟩,
  ⟨(some 28), none, (.bin .neq (.t 26) (.t 27))⟩,
  ⟨(some 29), none, (.mv (.t 28))⟩,
  ⟨(some 30), (some (29, false)), (.faddr 1 (.t 10))⟩,
  ⟨(some 31), (some (29, false)), (.faddr 0 (.t 30))⟩,
  ⟨(some 32), (some (29, false)), (.load 1 false (.t 31))⟩,
  ⟨(some 33), (some (29, false)), (.faddr 0 (.t 5))⟩,
  ⟨(some 34), (some (29, false)), (.load 1 false (.t 33))⟩,
  ⟨(some 35), (some (29, false)), (.bin .lss (.t 32) (.t 34))⟩,
  ⟨(some 36), none, (.pick (.t 29) (.c (.sc (.bool true))) (.t 35))⟩,
  ⟨(some 37), none, (.mv (.t 36))⟩,
  ⟨(some 38), (some (37, false)), (.faddr 1 (.t 10))⟩,
  ⟨(some 39), (some (37, false)), (.faddr 0 (.t 38))⟩,
  ⟨(some 40), (some (37, false)), (.load 1 false (.t 39))⟩,
  ⟨(some 41), (some (37, false)), (.faddr 1 (.t 5))⟩,
  ⟨(some 42), (some (37, false)), (.load 1 false (.t 41))⟩,
  ⟨(some 43), (some (37, false)), (.bin .geq (.t 40) (.t 42))⟩,
  ⟨(some 44), none, (.pick (.t 37) (.c (.sc (.bool true))) (.t 43))⟩] none)
 (.cond (.t 44) (.exit 3) .skip))
 (.seq (.reg [⟨(some 45), none, (.iaddrA 1 2 (.t 6) (.c (.sc (.int .i64 (0)))))⟩,
  ⟨(some 46), none, (.load 1 false (.t 45))⟩,
  ⟨(some 47), none, (.bin .add (.t 46) (.c (.sc (.int .i64 (1)))))⟩,
  ⟨(some 48), none, (.iaddrA 1 2 (.t 6) (.c (.sc (.int .i64 (0)))))⟩,
  ⟨none, none, (.store 1 (.t 48) (.t 47))⟩] none)
 (.seq (.reg [⟨(some 49), none, (.faddr 6 (.t 8))⟩,
  ⟨(some 50), none, (.load 1 false (.t 49))⟩,
  ⟨(some 51), none, (.un .not (.t 50))⟩,
  ⟨(some 52), none, (.mv (.t 51))⟩,
  ⟨(some 53), (some (52, false)), (.mv (.t 9))⟩,
  ⟨(some 54), (some (52, false)), (.faddr 7 (.t 8))⟩,
  ⟨(some 55), (some (52, false)), (.load 1 false (.t 54))⟩,
  ⟨(some 56), (some (52, false)), (.len (.t 55))⟩,
  ⟨(some 57), (some (52, false)), (.bin .sub (.t 56) (.c (.sc (.int .i64 (1)))))⟩,
  ⟨(some 58), (some (52, false)), (.bin .lss (.t 53) (.t 57))⟩,
  ⟨(some 59), none, (.pick (.t 52) (.c (.sc (.bool true))) (.t 58))⟩] none)
 (.cond (.t 59) (.reg [⟨(some 60), none, (.iaddrA 1 2 (.t 6) (.c (.sc (.int .i64 (1)))))⟩,
  ⟨(some 61), none, (.load 1 false (.t 60))⟩,
  ⟨(some 62), none, (.faddr 3 (.t 10))⟩,
  ⟨(some 63), none, (.faddr 0 (.t 62))⟩,
  ⟨(some 64), none, (.load 1 false (.t 63))⟩,
  ⟨(some 65), none, (.faddr 1 (.t 10))⟩,
  ⟨(some 66), none, (.faddr 0 (.t 65))⟩,
  ⟨(some 67), none, (.load 1 false (.t 66))⟩,
  ⟨(some 68), none, (.bin .sub (.t 64) (.t 67))⟩,
  ⟨(some 69), none, (.bin .add (.t 61) (.t 68))⟩,
  ⟨(some 70), none, (.iaddrA 1 2 (.t 6) (.c (.sc (.int .i64 (1)))))⟩,
  ⟨none, none, (.store 1 (.t 70) (.t 69))⟩] none) .skip)))))) (.reg [⟨(some 71), none, (.bin .add (.t 20) (.c (.sc (.int .i64 (1)))))⟩,
  ⟨(some 20), none, (.mv (.t 71))⟩] none))))))))) (.reg [⟨(some 72), none, (.bin .add (.t 13) (.c (.sc (.int .i64 (1)))))⟩,
  ⟨(some 13), none, (.mv (.t 72))⟩] none)))))))
 (.seq (.reg [⟨(some 73), none, (.load 2 true (.t 6))⟩,
  ⟨none, none, (.store 2 (.t 6) (.t 73))⟩] none) .ret)))
theorem good21 {args : List PV} {r : PV} (hl : args.length ≤ 74) (h : Run Try.prog [.code ac21] (endQ [(.c 6 2 true)] r) ⟨initT 0 args, [], 0, 74⟩) : Good Try.prog 21 args r :=
  good_run (by kernel_rfl) Iamix Try.func21 rfl (hs := [⟨[1, 5, 6, 11, 12, 13], []⟩, ⟨[1, 5, 6, 8, 11, 12, 13, 18, 19, 20], []⟩]) (hs' := []) (by kernel_rfl) hl h
def ac31 : ACode :=
 (.seq (.reg [⟨(some 1), none, (.boxv (.t 0))⟩,
  ⟨(some 2), none, (.mv (.c (.sc (.int .i64 (0)))))⟩] none)
 (.seq (.seq (.reg [⟨(some 5), none, (.faddr 0 (.t 1))⟩,
  ⟨(some 6), none, (.load 1 false (.t 5))⟩,
  ⟨(some 7), none, (.len (.t 6))⟩,
  ⟨(some 8), none, (.faddr 1 (.t 1))⟩,
  ⟨(some 9), none, (.load 1 false (.t 8))⟩,
  ⟨(some 10), none, (.len (.t 9))⟩,
  ⟨(some 11), none, (.bin .neq (.t 7) (.t 10))⟩,
  ⟨(some 12), none, (.mv (.t 11))⟩,
  ⟨(some 13), (some (12, false)), (.faddr 0 (.t 1))⟩,
  ⟨(some 14), (some (12, false)), (.load 1 false (.t 13))⟩,
  ⟨(some 15), (some (12, false)), (.len (.t 14))⟩,
  ⟨(some 16), (some (12, false)), (.bin .lss (.t 15) (.c (.sc (.int .i64 (1)))))⟩,
  ⟨(some 17), none, (.pick (.t 12) (.c (.sc (.bool true))) (.t 16))⟩,
  ⟨(some 18), none, (.mv (.t 17))⟩,
  ⟨(some 19), (some (18, false)), (.faddr 0 (.t 1))⟩,
  ⟨(some 20), (some (18, false)), (.load 1 false (.t 19))⟩,
  ⟨(some 21), (some (18, false)), (.len (.t 20))⟩,
  ⟨(some 22), (some (18, false)), (.bin .gtr (.t 21) (.c (.sc (.int .i64 (8)))))⟩,
  ⟨(some 23), none, (.pick (.t 18) (.c (.sc (.bool true))) (.t 22))⟩] none)
 (.cond (.t 23)
 (.seq (.reg [⟨(some 2), none, (.mv (.c (.sc (.int .i64 (3)))))⟩] none) .ret) .skip))
 (.seq (.seq (.reg [⟨(some 24), none, (.faddr 0 (.t 1))⟩,
  ⟨(some 25), none, (.load 1 false (.t 24))⟩,
  ⟨(some 26), none, (.faddr 1 (.t 1))⟩,
  ⟨(some 27), none, (.load 1 false (.t 26))⟩,
  ⟨(some 28), none, (.bslice 22 1 [(.t 25), (.t 27)])⟩,
  ⟨(some 29), none, (.call 51 [(.t 28)])⟩,
  ⟨(some 30), none, (.len (.t 29))⟩,
  ⟨(some 31), none, (.mv (.c (.sc (.int .i64 (0)))))⟩] none) (.block 0 
 (.loop ⟨[29, 30, 31], []⟩
 (.seq (.reg [⟨(some 32), none, (.bin .lss (.t 31) (.t 30))⟩] none)
 (.seq
 (.cond (.t 32) .skip (.exit 0))
 (.seq (.block 1
 (.seq (.reg [⟨(some 33), none, (.iaddr 1 (.t 29) (.t 31))⟩,
  ⟨(some 34), none, (.load 1 false (.t 33))⟩,
  ⟨(some 4), none, (.mv (.t 34))⟩] none)
 (.seq (.reg [⟨(some 35), none, (.mv (.t 4))⟩,
  ⟨(some 36), none, (.bin .lss (.t 35) (.c (.sc (.int .i64 (0)))))⟩,
  ⟨(some 37), none, (.mv (.t 36))⟩,
  ⟨(some 38), (some (37, false)), (.mv (.t 4))⟩,
  ⟨(some 39), (some (37, false)), (.bin .gtr (.t 38) (.c (.sc (.int .i64 (1000000)))))⟩,
  ⟨(some 40), none, (.pick (.t 37) (.c (.sc (.bool true))) (.t 39))⟩] none)
 (.cond (.t 40)
 (.seq (.reg [⟨(some 2), none, (.mv (.c (.sc (.int .i64 (1)))))⟩] none) .ret) .skip)))) (.reg [⟨(some 41), none, (.bin .add (.t 31) (.c (.sc (.int .i64 (1)))))⟩,
  ⟨(some 31), none, (.mv (.t 41))⟩] none)))))))
 (.seq (.reg [⟨(some 2), none, (.mv (.c (.sc (.int .i64 (0)))))⟩] none) .ret))))
theorem good31 {args : List PV} {r : PV} (hl : args.length ≤ 42) (h : Run Try.prog [.code ac31] (endQ [(.t 2)] r) ⟨initT 0 args, [], 0, 42⟩) : Good Try.prog 31 args r :=
  good_run (by kernel_rfl) Iamix Try.func31 rfl (hs := [⟨[29, 30, 31], []⟩]) (hs' := []) (by kernel_rfl) hl h
def ac32 : ACode :=
 (.seq (.reg [⟨(some 5), none, (.boxv (.t 2))⟩,
  ⟨(some 6), none, (.mv (.c (.sc (.int .i64 (0)))))⟩] none)
 (.seq (.seq (.reg [⟨(some 10), none, (.mv (.t 1))⟩,
  ⟨(some 11), none, (.bin .lss (.t 10) (.c (.sc (.int .i64 (0)))))⟩,
  ⟨(some 12), none, (.mv (.t 11))⟩,
  ⟨(some 13), (some (12, false)), (.mv (.t 1))⟩,
  ⟨(some 14), (some (12, false)), (.bin .geq (.t 13) (.c (.sc (.int .i64 (128)))))⟩,
  ⟨(some 15), none, (.pick (.t 12) (.c (.sc (.bool true))) (.t 14))⟩,
  ⟨(some 16), none, (.mv (.t 15))⟩,
  ⟨(some 17), (some (16, false)), (.faddr 0 (.t 5))⟩,
  ⟨(some 18), (some (16, false)), (.load 1 false (.t 17))⟩,
  ⟨(some 19), (some (16, false)), (.bin .lss (.t 18) (.c (.sc (.int .i64 (0)))))⟩,
  ⟨(some 20), none, (.pick (.t 16) (.c (.sc (.bool true))) (.t 19))⟩,
  ⟨(some 21), none, (.mv (.t 20))⟩,
  ⟨(some 22), (some (21, false)), (.faddr 0 (.t 5))⟩,
  ⟨(some 23), (some (21, false)), (.load 1 false (.t 22))⟩,
  ⟨(some 24), (some (21, false)), (.faddr 1 (.t 5))⟩,
  ⟨(some 25), (some (21, false)), (.load 1 false (.t 24))⟩,
  ⟨(some 26), (some (21, false)), (.bin .gtr (.t 23) (.t 25))⟩,
  ⟨(some 27), none, (.pick (.t 21) (.c (.sc (.bool true))) (.t 26))⟩,
  ⟨(some 28), none, (.mv (.t 27))⟩,
  ⟨(some 29), (some (28, false)), (.faddr 1 (.t 5))⟩,
  ⟨(some 30), (some (28, false)), (.load 1 false (.t 29))⟩,
  ⟨(some 31), (some (28, false)), (.bin .gtr (.t 30) (.c (.sc (.int .i64 (4294944000)))))⟩,
  ⟨(some 32), none, (.pick (.t 28) (.c (.sc (.bool true))) (.t 31))⟩] none)
 (.cond (.t 32)
 (.seq (.reg [⟨(some 6), none, (.mv (.c (.sc (.int .i64 (1)))))⟩] none) .ret) .skip))
 (.seq (.seq (.reg [⟨(some 33), none, (.mv (.t 0))⟩,
  ⟨(some 34), none, (.len (.t 33))⟩,
  ⟨(some 35), none, (.bin .gtr (.t 34) (.c (.sc (.int .i64 (256)))))⟩] none)
 (.cond (.t 35)
 (.seq (.reg [⟨(some 6), none, (.mv (.c (.sc (.int .i64 (8)))))⟩] none) .ret) .skip))
 (.seq (.seq (.reg [⟨(some 36), none, (.mv (.t 0))⟩,
  ⟨(some 37), none, (.len (.t 36))⟩,
  ⟨(some 38), none, (.mv (.c (.sc (.int .i64 (0)))))⟩] none) (.block 0 
 (.loop ⟨[36, 37, 38], []⟩
 (.seq (.reg [⟨(some 39), none, (.bin .lss (.t 38) (.t 37))⟩] none)
 (.seq
 (.cond (.t 39) .skip (.exit 0))
 (.seq (.block 1
 (.seq (.reg [⟨(some 40), none, (.iaddr 13 (.t 36) (.t 38))⟩,
  ⟨(some 41), none, (.load 13 true (.t 40))⟩,
  ⟨(some 8), none, (.new [(.sc (.int .i64 (0))), (.sc (.int .i64 (0))), (.sc (.int .i64 (0))), (.sc (.int .i64 (0))), (.sc (.int .i64 (0))), (.sc (.int .i64 (0))), (.sc (.bool false)), (.sc (.slice none 0 0)), (.sc (.slice none 0 0)), (.sc (.int .i64 (0))), (.sc (.int .i64 (0))), (.sc (.int .i64 (0))), (.sc (.int .i64 (0)))])⟩,
  ⟨none, none, (.store 13 (.t 8) (.t 41))⟩] none)
 (.seq (.reg [⟨(some 42), none, (.load 13 true (.t 8))⟩,
  ⟨(some 43), none, (.call 23 [(.t 42)])⟩,
  ⟨(some 9), none, (.mv (.t 43))⟩] none)
 (.seq (.reg [⟨(some 44), none, (.mv (.t 9))⟩,
  ⟨(some 45), none, (.bin .neq (.t 44) (.c (.sc (.int .i64 (0)))))⟩] none)
 (.cond (.t 45)
 (.seq (.reg [⟨(some 46), none, (.mv (.t 9))⟩,
  ⟨(some 6), none, (.mv (.t 46))⟩] none) .ret) .skip))))) (.reg [⟨(some 47), none, (.bin .add (.t 38) (.c (.sc (.int .i64 (1)))))⟩,
  ⟨(some 38), none, (.mv (.t 47))⟩] none)))))))
 (.seq (.reg [⟨(some 6), none, (.mv (.c (.sc (.int .i64 (0)))))⟩] none) .ret)))))
theorem good32 {args : List PV} {r : PV} (hl : args.length ≤ 48) (h : Run Try.prog [.code ac32] (endQ [(.t 6)] r) ⟨initT 0 args, [], 0, 48⟩) : Good Try.prog 32 args r :=
  good_run (by kernel_rfl) Iamix Try.func32 rfl (hs := [⟨[36, 37, 38], []⟩]) (hs' := []) (by kernel_rfl) hl h
def ac33 : ACode :=
 (.seq (.reg [⟨(some 2), none, (.mv (.c (.sc (.bool false))))⟩] none)
 (.seq (.reg [⟨(some 3), none, (.mv (.t 0))⟩,
  ⟨(some 4), none, (.bin .leq (.c (.sc (.int .i64 (0)))) (.t 3))⟩,
  ⟨(some 5), none, (.mv (.t 4))⟩,
  ⟨(some 6), (some (5, true)), (.mv (.t 0))⟩,
  ⟨(some 7), (some (5, true)), (.bin .lss (.t 6) (.c (.sc (.int .i64 (8)))))⟩,
  ⟨(some 8), none, (.pick (.t 5) (.t 7) (.c (.sc (.bool false))))⟩,
  ⟨(some 2), none, (.mv (.t 8))⟩] none) .ret))
theorem good33 {args : List PV} {r : PV} (hl : args.length ≤ 9) (h : Run Try.prog [.code ac33] (endQ [(.t 2)] r) ⟨initT 0 args, [], 0, 9⟩) : Good Try.prog 33 args r :=
  good_run (by kernel_rfl) Iamix Try.func33 rfl (hs := []) (hs' := []) (by kernel_rfl) hl h
end Go.Proofs.Ythgnbkcopapbmaa
