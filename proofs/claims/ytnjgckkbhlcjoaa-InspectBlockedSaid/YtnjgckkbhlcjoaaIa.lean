/-
  The translated codes of functions, checked by the kernel.
-/
import Derived.Test.YtnjgckkbhlcjoaaKc
import Derived.KernelRfl
namespace Go.Proofs.Ytnjgckkbhlcjoaa
set_option linter.unusedVariables false
set_option linter.unusedSimpArgs false
set_option linter.unnecessarySimpa false
theorem Iamix : Try.prog.follows .mixedOrders = true := by kernel_rfl
def ac3 : ACode :=
 (.seq (.reg [⟨(some 4), none, (.mv (.c (.sc (.bool false))))⟩] none)
 (.seq (.seq (.reg [⟨(some 5), none, (.mv (.t 0))⟩,
  ⟨(some 6), none, (.len (.t 5))⟩,
  ⟨(some 7), none, (.bin .gtr (.t 6) (.c (.sc (.int .i64 (20)))))⟩,
  ⟨(some 8), none, (.mv (.t 7))⟩,
  ⟨(some 9), (some (8, false)), (.mv (.t 1))⟩,
  ⟨(some 10), (some (8, false)), (.len (.t 9))⟩,
  ⟨(some 11), (some (8, false)), (.bin .gtr (.t 10) (.c (.sc (.int .i64 (600)))))⟩,
  ⟨(some 12), none, (.pick (.t 8) (.c (.sc (.bool true))) (.t 11))⟩] none)
 (.cond (.t 12)
 (.seq (.reg [⟨(some 13), none, (.call 11 [])⟩,
  ⟨(some 4), none, (.mv (.t 13))⟩] none) .ret) .skip))
 (.seq (.reg [⟨(some 14), none, (.mv (.t 0))⟩,
  ⟨(some 15), none, (.call 12 [(.t 14)])⟩,
  ⟨(some 16), none, (.mv (.t 0))⟩,
  ⟨(some 17), none, (.call 13 [(.t 16)])⟩,
  ⟨(some 18), none, (.bin .eql (.t 15) (.t 17))⟩,
  ⟨(some 19), none, (.mv (.t 18))⟩,
  ⟨(some 20), (some (19, true)), (.mv (.t 1))⟩,
  ⟨(some 21), (some (19, true)), (.call 14 [(.t 20)])⟩,
  ⟨(some 22), (some (19, true)), (.mv (.t 1))⟩,
  ⟨(some 23), (some (19, true)), (.call 15 [(.t 22)])⟩,
  ⟨(some 24), (some (19, true)), (.bin .eql (.t 21) (.t 23))⟩,
  ⟨(some 25), none, (.pick (.t 19) (.t 24) (.c (.sc (.bool false))))⟩,
  ⟨(some 26), none, (.mv (.t 25))⟩,
  ⟨(some 27), (some (26, true)), (.call 11 [])⟩,
  ⟨(some 28), none, (.pick (.t 26) (.t 27) (.c (.sc (.bool false))))⟩,
  ⟨(some 4), none, (.mv (.t 28))⟩] none) .ret)))
theorem good3 {args : List PV} {r : PV} (hl : args.length ≤ 29) (h : Run Try.prog [.code ac3] (endQ [(.t 4)] r) ⟨initT 0 args, [], 0, 29⟩) : Good Try.prog 3 args r :=
  good_run (by kernel_rfl) Iamix Try.func3 rfl (hs := []) (hs' := []) (by kernel_rfl) hl h
def ac4 : ACode :=
 (.seq (.reg [⟨(some 8), none, (.mv (.c (.sc (.bool false))))⟩] none)
 (.seq (.seq (.reg [⟨(some 13), none, (.mv (.t 0))⟩,
  ⟨(some 14), none, (.len (.t 13))⟩,
  ⟨(some 15), none, (.bin .gtr (.t 14) (.c (.sc (.int .i64 (40)))))⟩] none)
 (.cond (.t 15)
 (.seq (.reg [⟨(some 16), none, (.call 11 [])⟩,
  ⟨(some 8), none, (.mv (.t 16))⟩] none) .ret) .skip))
 (.seq (.reg [⟨(some 18), none, (.mv (.t 0))⟩,
  ⟨(some 19), none, (.mv (.t 1))⟩,
  ⟨(some 20), none, (.mv (.t 2))⟩,
  ⟨(some 21), none, (.mv (.t 3))⟩,
  ⟨(some 22), none, (.call 16 [(.t 18), (.t 19), (.t 20), (.t 21)])⟩,
  ⟨(some 17), none, (.mv (.t 22))⟩,
  ⟨(some 23), none, (.ext 0 (.t 17))⟩,
  ⟨(some 24), none, (.ext 1 (.t 17))⟩,
  ⟨(some 9), none, (.new [(.sc (.int .i64 (0))), (.sc (.int .i64 (0))), (.sc (.int .i64 (0))), (.sc (.bool false))])⟩,
  ⟨none, none, (.store 4 (.t 9) (.t 23))⟩,
  ⟨(some 10), none, (.mv (.t 24))⟩] none)
 (.seq (.reg [⟨(some 26), none, (.mv (.t 0))⟩,
  ⟨(some 27), none, (.mv (.t 1))⟩,
  ⟨(some 28), none, (.mv (.t 2))⟩,
  ⟨(some 29), none, (.mv (.t 3))⟩,
  ⟨(some 30), none, (.call 17 [(.t 26), (.t 27), (.t 28), (.t 29)])⟩,
  ⟨(some 25), none, (.mv (.t 30))⟩,
  ⟨(some 31), none, (.ext 0 (.t 25))⟩,
  ⟨(some 32), none, (.ext 1 (.t 25))⟩,
  ⟨(some 11), none, (.new [(.sc (.int .i64 (0))), (.sc (.int .i64 (0))), (.sc (.int .i64 (0))), (.sc (.bool false))])⟩,
  ⟨none, none, (.store 4 (.t 11) (.t 31))⟩,
  ⟨(some 12), none, (.mv (.t 32))⟩] none)
 (.seq (.reg [⟨(some 33), none, (.load 4 true (.t 9))⟩,
  ⟨(some 34), none, (.load 4 true (.t 11))⟩,
  ⟨(some 35), none, (.eqs false [(.i .i64), (.i .i64), (.i .i64), .b] (.t 33) (.t 34))⟩,
  ⟨(some 36), none, (.mv (.t 35))⟩,
  ⟨(some 37), (some (36, true)), (.mv (.t 10))⟩,
  ⟨(some 38), (some (36, true)), (.mv (.t 12))⟩,
  ⟨(some 39), (some (36, true)), (.beq false (.t 37) (.t 38))⟩,
  ⟨(some 40), none, (.pick (.t 36) (.t 39) (.c (.sc (.bool false))))⟩,
  ⟨(some 41), none, (.mv (.t 40))⟩,
  ⟨(some 42), (some (41, true)), (.mv (.t 0))⟩,
  ⟨(some 43), (some (41, true)), (.mv (.t 1))⟩,
  ⟨(some 44), (some (41, true)), (.mv (.t 3))⟩,
  ⟨(some 45), (some (41, true)), (.call 18 [(.t 42), (.t 43), (.t 44)])⟩,
  ⟨(some 46), (some (41, true)), (.mv (.t 0))⟩,
  ⟨(some 47), (some (41, true)), (.mv (.t 1))⟩,
  ⟨(some 48), (some (41, true)), (.mv (.t 3))⟩,
  ⟨(some 49), (some (41, true)), (.call 19 [(.t 46), (.t 47), (.t 48)])⟩,
  ⟨(some 50), (some (41, true)), (.beq false (.t 45) (.t 49))⟩,
  ⟨(some 51), none, (.pick (.t 41) (.t 50) (.c (.sc (.bool false))))⟩,
  ⟨(some 52), none, (.mv (.t 51))⟩,
  ⟨(some 53), (some (52, true)), (.call 11 [])⟩,
  ⟨(some 54), none, (.pick (.t 52) (.t 53) (.c (.sc (.bool false))))⟩,
  ⟨(some 8), none, (.mv (.t 54))⟩] none) .ret)))))
theorem good4 {args : List PV} {r : PV} (hl : args.length ≤ 55) (h : Run Try.prog [.code ac4] (endQ [(.t 8)] r) ⟨initT 0 args, [], 0, 55⟩) : Good Try.prog 4 args r :=
  good_run (by kernel_rfl) Iamix Try.func4 rfl (hs := []) (hs' := []) (by kernel_rfl) hl h
def ac5 : ACode :=
 (.seq (.reg [⟨(some 1), none, (.boxv (.t 0))⟩,
  ⟨(some 2), none, (.mv (.c (.sc (.bool false))))⟩] none)
 (.seq (.seq (.reg [⟨(some 7), none, (.load 7 true (.t 1))⟩,
  ⟨(some 8), none, (.call 20 [(.t 7)])⟩,
  ⟨(some 9), none, (.un .not (.t 8))⟩] none)
 (.cond (.t 9)
 (.seq (.reg [⟨(some 10), none, (.call 11 [])⟩,
  ⟨(some 2), none, (.mv (.t 10))⟩] none) .ret) .skip))
 (.seq (.reg [⟨(some 12), none, (.load 7 true (.t 1))⟩,
  ⟨(some 13), none, (.call 21 [(.t 12)])⟩,
  ⟨(some 11), none, (.mv (.t 13))⟩,
  ⟨(some 14), none, (.ext 0 (.t 11))⟩,
  ⟨(some 15), none, (.ext 1 (.t 11))⟩,
  ⟨(some 3), none, (.mv (.t 14))⟩,
  ⟨(some 4), none, (.mv (.t 15))⟩] none)
 (.seq (.reg [⟨(some 17), none, (.faddr 0 (.t 1))⟩,
  ⟨(some 18), none, (.load 1 false (.t 17))⟩,
  ⟨(some 19), none, (.faddr 1 (.t 1))⟩,
  ⟨(some 20), none, (.load 1 false (.t 19))⟩,
  ⟨(some 21), none, (.faddr 2 (.t 1))⟩,
  ⟨(some 22), none, (.load 2 true (.t 21))⟩,
  ⟨(some 23), none, (.faddr 4 (.t 1))⟩,
  ⟨(some 24), none, (.load 1 false (.t 23))⟩,
  ⟨(some 25), none, (.faddr 5 (.t 1))⟩,
  ⟨(some 26), none, (.load 1 false (.t 25))⟩,
  ⟨(some 27), none, (.faddr 6 (.t 1))⟩,
  ⟨(some 28), none, (.load 1 false (.t 27))⟩,
  ⟨(some 29), none, (.call 22 [(.t 18), (.t 20), (.t 22), (.t 24), (.t 26), (.t 28)])⟩,
  ⟨(some 16), none, (.mv (.t 29))⟩,
  ⟨(some 30), none, (.ext 0 (.t 16))⟩,
  ⟨(some 31), none, (.ext 1 (.t 16))⟩,
  ⟨(some 5), none, (.mv (.t 30))⟩,
  ⟨(some 6), none, (.mv (.t 31))⟩] none)
 (.seq (.reg [⟨(some 32), none, (.mv (.t 3))⟩,
  ⟨(some 33), none, (.mv (.t 5))⟩,
  ⟨(some 34), none, (.call 23 [(.t 32), (.t 33)])⟩,
  ⟨(some 35), none, (.mv (.t 34))⟩,
  ⟨(some 36), (some (35, true)), (.mv (.t 4))⟩,
  ⟨(some 37), (some (35, true)), (.mv (.t 6))⟩,
  ⟨(some 38), (some (35, true)), (.bin .eql (.t 36) (.t 37))⟩,
  ⟨(some 39), none, (.pick (.t 35) (.t 38) (.c (.sc (.bool false))))⟩,
  ⟨(some 40), none, (.mv (.t 39))⟩,
  ⟨(some 41), (some (40, true)), (.call 11 [])⟩,
  ⟨(some 42), none, (.pick (.t 40) (.t 41) (.c (.sc (.bool false))))⟩,
  ⟨(some 2), none, (.mv (.t 42))⟩] none) .ret)))))
theorem good5 {args : List PV} {r : PV} (hl : args.length ≤ 43) (h : Run Try.prog [.code ac5] (endQ [(.t 2)] r) ⟨initT 0 args, [], 0, 43⟩) : Good Try.prog 5 args r :=
  good_run (by kernel_rfl) Iamix Try.func5 rfl (hs := []) (hs' := []) (by kernel_rfl) hl h
def ac6 : ACode :=
 (.seq (.reg [⟨(some 1), none, (.boxv (.t 0))⟩,
  ⟨(some 2), none, (.mv (.c (.sc (.bool false))))⟩] none)
 (.seq (.seq (.reg [⟨(some 13), none, (.load 7 true (.t 1))⟩,
  ⟨(some 14), none, (.call 20 [(.t 13)])⟩,
  ⟨(some 15), none, (.un .not (.t 14))⟩] none)
 (.cond (.t 15)
 (.seq (.reg [⟨(some 16), none, (.call 11 [])⟩,
  ⟨(some 2), none, (.mv (.t 16))⟩] none) .ret) .skip))
 (.seq (.reg [⟨(some 18), none, (.load 7 true (.t 1))⟩,
  ⟨(some 19), none, (.call 21 [(.t 18)])⟩,
  ⟨(some 17), none, (.mv (.t 19))⟩,
  ⟨(some 20), none, (.ext 0 (.t 17))⟩,
  ⟨(some 21), none, (.ext 1 (.t 17))⟩,
  ⟨(some 3), none, (.mv (.t 20))⟩,
  ⟨(some 4), none, (.mv (.t 21))⟩] none)
 (.seq (.seq (.reg [⟨(some 22), none, (.mv (.t 4))⟩,
  ⟨(some 23), none, (.bin .neq (.t 22) (.c (.sc (.int .i64 (0)))))⟩] none)
 (.cond (.t 23)
 (.seq (.reg [⟨(some 24), none, (.mv (.t 3))⟩,
  ⟨(some 25), none, (.len (.t 24))⟩,
  ⟨(some 26), none, (.bin .eql (.t 25) (.c (.sc (.int .i64 (0)))))⟩,
  ⟨(some 27), none, (.mv (.t 26))⟩,
  ⟨(some 28), (some (27, true)), (.call 11 [])⟩,
  ⟨(some 29), none, (.pick (.t 27) (.t 28) (.c (.sc (.bool false))))⟩,
  ⟨(some 2), none, (.mv (.t 29))⟩] none) .ret) .skip))
 (.seq (.reg [⟨(some 5), none, (.mv (.c (.sc (.int .i64 (0)))))⟩] none)
 (.seq (.seq (.reg [⟨(some 6), none, (.mv (.c (.sc (.int .i64 (0)))))⟩] none) (.block 0 
 (.loop ⟨[1, 3, 5, 6], []⟩
 (.seq (.seq (.reg [⟨(some 30), none, (.mv (.t 6))⟩,
  ⟨(some 31), none, (.faddr 0 (.t 1))⟩,
  ⟨(some 32), none, (.load 1 false (.t 31))⟩,
  ⟨(some 33), none, (.len (.t 32))⟩,
  ⟨(some 34), none, (.bin .lss (.t 30) (.t 33))⟩] none)
 (.cond (.t 34) .skip (.exit 0)))
 (.seq (.block 1
 (.seq (.reg [⟨(some 37), none, (.faddr 0 (.t 1))⟩,
  ⟨(some 38), none, (.load 1 false (.t 37))⟩,
  ⟨(some 39), none, (.mv (.t 6))⟩,
  ⟨(some 40), none, (.iaddr 3 (.t 38) (.t 39))⟩,
  ⟨(some 41), none, (.load 3 true (.t 40))⟩,
  ⟨(some 7), none, (.new [(.sc (.int .i64 (0))), (.sc (.int .i64 (0))), (.sc (.int .i64 (0)))])⟩,
  ⟨none, none, (.store 3 (.t 7) (.t 41))⟩] none)
 (.seq (.reg [⟨(some 43), none, (.faddr 1 (.t 1))⟩,
  ⟨(some 44), none, (.load 1 false (.t 43))⟩,
  ⟨(some 45), none, (.faddr 5 (.t 1))⟩,
  ⟨(some 46), none, (.load 1 false (.t 45))⟩,
  ⟨(some 47), none, (.faddr 0 (.t 7))⟩,
  ⟨(some 48), none, (.load 1 false (.t 47))⟩,
  ⟨(some 49), none, (.faddr 6 (.t 1))⟩,
  ⟨(some 50), none, (.load 1 false (.t 49))⟩,
  ⟨(some 51), none, (.call 16 [(.t 44), (.t 46), (.t 48), (.t 50)])⟩,
  ⟨(some 42), none, (.mv (.t 51))⟩,
  ⟨(some 52), none, (.ext 0 (.t 42))⟩,
  ⟨(some 53), none, (.ext 1 (.t 42))⟩,
  ⟨(some 8), none, (.new [(.sc (.int .i64 (0))), (.sc (.int .i64 (0))), (.sc (.int .i64 (0))), (.sc (.bool false))])⟩,
  ⟨none, none, (.store 4 (.t 8) (.t 52))⟩,
  ⟨(some 9), none, (.mv (.t 53))⟩] none)
 (.seq (.reg [⟨(some 55), none, (.faddr 2 (.t 1))⟩,
  ⟨(some 56), none, (.load 2 true (.t 55))⟩,
  ⟨(some 57), none, (.faddr 4 (.t 1))⟩,
  ⟨(some 58), none, (.load 1 false (.t 57))⟩,
  ⟨(some 59), none, (.faddr 5 (.t 1))⟩,
  ⟨(some 60), none, (.load 1 false (.t 59))⟩,
  ⟨(some 61), none, (.faddr 0 (.t 7))⟩,
  ⟨(some 62), none, (.load 1 false (.t 61))⟩,
  ⟨(some 63), none, (.faddr 2 (.t 8))⟩,
  ⟨(some 64), none, (.load 1 false (.t 63))⟩,
  ⟨(some 65), none, (.faddr 6 (.t 1))⟩,
  ⟨(some 66), none, (.load 1 false (.t 65))⟩,
  ⟨(some 67), none, (.bin .add (.t 66) (.c (.sc (.int .i64 (1)))))⟩,
  ⟨(some 68), none, (.build [(.sc (.int .i64 (0))), (.sc (.int .i64 (0)))] [(0, (1, (.t 64))), (1, (1, (.t 67)))])⟩,
  ⟨(some 69), none, (.call 24 [(.t 56), (.t 58), (.t 60), (.t 62), (.t 68)])⟩,
  ⟨(some 54), none, (.mv (.t 69))⟩,
  ⟨(some 70), none, (.ext 0 (.t 54))⟩,
  ⟨(some 71), none, (.ext 1 (.t 54))⟩,
  ⟨(some 10), none, (.mv (.t 70))⟩,
  ⟨(some 11), none, (.mv (.t 71))⟩] none)
 (.seq (.reg [⟨(some 72), none, (.mv (.t 9))⟩,
  ⟨(some 73), none, (.mv (.t 72))⟩,
  ⟨(some 74), (some (73, true)), (.faddr 3 (.t 8))⟩,
  ⟨(some 75), (some (73, true)), (.load 1 false (.t 74))⟩,
  ⟨(some 76), (some (73, true)), (.un .not (.t 75))⟩,
  ⟨(some 77), none, (.pick (.t 73) (.t 76) (.c (.sc (.bool false))))⟩,
  ⟨(some 78), none, (.mv (.t 77))⟩,
  ⟨(some 79), (some (78, false)), (.faddr 6 (.t 1))⟩,
  ⟨(some 80), (some (78, false)), (.load 1 false (.t 79))⟩,
  ⟨(some 81), (some (78, false)), (.bin .quo (.t 80) (.c (.sc (.int .i64 (86400)))))⟩,
  ⟨(some 82), (some (78, false)), (.faddr 2 (.t 8))⟩,
  ⟨(some 83), (some (78, false)), (.load 1 false (.t 82))⟩,
  ⟨(some 84), (some (78, false)), (.bin .quo (.t 83) (.c (.sc (.int .i64 (86400)))))⟩,
  ⟨(some 85), (some (78, false)), (.bin .sub (.t 81) (.t 84))⟩,
  ⟨(some 86), (some (78, false)), (.faddr 2 (.t 7))⟩,
  ⟨(some 87), (some (78, false)), (.load 1 false (.t 86))⟩,
  ⟨(some 88), (some (78, false)), (.bin .geq (.t 85) (.t 87))⟩,
  ⟨(some 89), none, (.pick (.t 78) (.c (.sc (.bool true))) (.t 88))⟩,
  ⟨(some 90), none, (.mv (.t 89))⟩,
  ⟨(some 91), (some (90, false)), (.mv (.t 10))⟩,
  ⟨(some 92), (some (90, false)), (.faddr 1 (.t 7))⟩,
  ⟨(some 93), (some (90, false)), (.load 1 false (.t 92))⟩,
  ⟨(some 94), (some (90, false)), (.bin .geq (.t 91) (.t 93))⟩,
  ⟨(some 95), none, (.pick (.t 90) (.c (.sc (.bool true))) (.t 94))⟩,
  ⟨(some 12), none, (.mv (.t 95))⟩] none)
 (.seq (.seq (.reg [⟨(some 96), none, (.mv (.t 11))⟩,
  ⟨(some 97), none, (.bin .neq (.t 96) (.c (.sc (.int .i64 (0)))))⟩,
  ⟨(some 98), none, (.mv (.t 97))⟩,
  ⟨(some 99), (some (98, false)), (.mv (.t 12))⟩,
  ⟨(some 100), (some (98, false)), (.mv (.t 99))⟩,
  ⟨(some 101), (some (100, true)), (.mv (.t 5))⟩,
  ⟨(some 102), (some (100, true)), (.mv (.t 3))⟩,
  ⟨(some 103), (some (100, true)), (.len (.t 102))⟩,
  ⟨(some 104), (some (100, true)), (.bin .geq (.t 101) (.t 103))⟩,
  ⟨(some 105), (some (100, true)), (.mv (.t 104))⟩,
  ⟨(some 106), (some (105, false)), (.mv (.t 3))⟩,
  ⟨(some 107), (some (105, false)), (.mv (.t 5))⟩,
  ⟨(some 108), (some (105, false)), (.iaddr 1 (.t 106) (.t 107))⟩,
  ⟨(some 109), (some (105, false)), (.load 1 false (.t 108))⟩,
  ⟨(some 110), (some (105, false)), (.faddr 0 (.t 7))⟩,
  ⟨(some 111), (some (105, false)), (.load 1 false (.t 110))⟩,
  ⟨(some 112), (some (105, false)), (.bin .neq (.t 109) (.t 111))⟩,
  ⟨(some 113), (some (100, true)), (.pick (.t 105) (.c (.sc (.bool true))) (.t 112))⟩,
  ⟨(some 114), (some (98, false)), (.pick (.t 100) (.t 113) (.c (.sc (.bool false))))⟩,
  ⟨(some 115), none, (.pick (.t 98) (.c (.sc (.bool true))) (.t 114))⟩,
  ⟨(some 116), none, (.mv (.t 115))⟩,
  ⟨(some 117), (some (116, false)), (.mv (.t 12))⟩,
  ⟨(some 118), (some (116, false)), (.mv (.t 3))⟩,
  ⟨(some 119), (some (116, false)), (.faddr 0 (.t 7))⟩,
  ⟨(some 120), (some (116, false)), (.load 1 false (.t 119))⟩,
  ⟨(some 121), (some (116, false)), (.call 25 [(.t 118), (.t 120)])⟩,
  ⟨(some 122), (some (116, false)), (.beq true (.t 117) (.t 121))⟩,
  ⟨(some 123), none, (.pick (.t 116) (.c (.sc (.bool true))) (.t 122))⟩] (some [[], [0], [1, 0], [2, 1, 0], [3, 2, 1, 0], [4, 3, 2, 1, 0], [4, 3, 2, 1, 0], [6, 4, 3, 2, 1, 0], [5, 7, 4, 3, 2, 1, 0, 6], [8, 4, 5, 7, 3, 2, 1, 0, 6], [9, 8, 4, 5, 7, 3, 2, 1, 0, 6], [9, 8, 4, 5, 7, 3, 2, 1, 0, 6], [10, 11, 9, 8, 4, 5, 7, 3, 2, 1, 0, 6], [12, 9, 10, 11, 8, 4, 5, 7, 3, 2, 1, 0, 6], [9, 8, 4, 5, 7, 3, 2, 1, 0, 6], [14, 9, 8, 4, 5, 7, 3, 2, 1, 0, 6], [13, 15, 9, 12, 10, 11, 8, 4, 5, 7, 3, 2, 1, 0, 6, 14], [9, 16, 4, 8, 5, 7, 3, 2, 1, 0, 6, 13, 15, 12, 10, 11, 14], [4, 17, 2, 3, 1, 0, 9, 16, 8, 5, 7, 6, 13, 15, 12, 10, 11, 14], [2, 18, 1, 0, 4, 17, 3, 9, 16, 8, 5, 7, 6, 13, 15, 12, 10, 11, 14], [19, 9, 2, 18, 1, 0, 4, 17, 3, 16, 8, 5, 7, 6, 13, 15, 12, 10, 11, 14], [20, 19, 9, 2, 18, 1, 0, 4, 17, 3, 16, 8, 5, 7, 6, 13, 15, 12, 10, 11, 14], [20, 19, 9, 2, 18, 1, 0, 4, 17, 3, 16, 8, 5, 7, 6, 13, 15, 12, 10, 11, 14], [20, 19, 9, 2, 18, 1, 0, 4, 17, 3, 16, 8, 5, 7, 6, 13, 15, 12, 10, 11, 14], [23, 20, 19, 9, 2, 18, 1, 0, 4, 17, 3, 16, 8, 5, 7, 6, 13, 15, 12, 10, 11, 14], [22, 24, 20, 19, 9, 2, 18, 1, 0, 4, 17, 3, 16, 8, 5, 7, 6, 13, 15, 12, 10, 11, 14, 23], [21, 25, 20, 19, 9, 2, 18, 1, 0, 4, 17, 3, 16, 8, 5, 7, 6, 13, 15, 12, 10, 11, 14, 22, 24, 23], [20, 26, 19, 9, 2, 18, 1, 0, 4, 17, 3, 16, 8, 5, 7, 6, 13, 15, 12, 10, 11, 14, 21, 25, 22, 24, 23]]))
 (.cond (.t 123)
 (.seq (.reg [⟨(some 2), none, (.mv (.c (.sc (.bool false))))⟩] none) .ret) .skip))
 (.seq (.reg [⟨(some 124), none, (.mv (.t 12))⟩] none)
 (.cond (.t 124) (.reg [⟨(some 125), none, (.mv (.t 5))⟩,
  ⟨(some 126), none, (.bin .add (.t 125) (.c (.sc (.int .i64 (1)))))⟩,
  ⟨(some 5), none, (.mv (.t 126))⟩] none) .skip)))))))) (.reg [⟨(some 35), none, (.mv (.t 6))⟩,
  ⟨(some 36), none, (.bin .add (.t 35) (.c (.sc (.int .i64 (1)))))⟩,
  ⟨(some 6), none, (.mv (.t 36))⟩] none))))))
 (.seq (.reg [⟨(some 127), none, (.mv (.t 5))⟩,
  ⟨(some 128), none, (.mv (.t 3))⟩,
  ⟨(some 129), none, (.len (.t 128))⟩,
  ⟨(some 130), none, (.bin .eql (.t 127) (.t 129))⟩,
  ⟨(some 131), none, (.mv (.t 130))⟩,
  ⟨(some 132), (some (131, true)), (.call 11 [])⟩,
  ⟨(some 133), none, (.pick (.t 131) (.t 132) (.c (.sc (.bool false))))⟩,
  ⟨(some 2), none, (.mv (.t 133))⟩] none) .ret)))))))
theorem good6 {args : List PV} {r : PV} (hl : args.length ≤ 134) (h : Run Try.prog [.code ac6] (endQ [(.t 2)] r) ⟨initT 0 args, [], 0, 134⟩) : Good Try.prog 6 args r :=
  good_run (by kernel_rfl) Iamix Try.func6 rfl (hs := [⟨[1, 3, 5, 6], []⟩]) (hs' := []) (by kernel_rfl) hl h
def ac7 : ACode :=
 (.seq (.reg [⟨(some 2), none, (.boxv (.t 0))⟩,
  ⟨(some 4), none, (.mv (.c (.sc (.bool false))))⟩] none)
 (.seq (.seq (.reg [⟨(some 13), none, (.load 7 true (.t 2))⟩,
  ⟨(some 14), none, (.call 20 [(.t 13)])⟩,
  ⟨(some 15), none, (.un .not (.t 14))⟩] none)
 (.cond (.t 15)
 (.seq (.reg [⟨(some 16), none, (.call 11 [])⟩,
  ⟨(some 4), none, (.mv (.t 16))⟩] none) .ret) .skip))
 (.seq (.reg [⟨(some 5), none, (.mv (.c (.sc (.slice none 0 0))))⟩] none)
 (.seq (.seq (.reg [⟨(some 6), none, (.mv (.c (.sc (.int .i64 (0)))))⟩] none) (.block 0 
 (.loop ⟨[1, 2, 5, 6], [(5, (30, 4))]⟩
 (.seq (.seq (.reg [⟨(some 17), none, (.mv (.t 6))⟩,
  ⟨(some 18), none, (.faddr 1 (.t 2))⟩,
  ⟨(some 19), none, (.load 1 false (.t 18))⟩,
  ⟨(some 20), none, (.len (.t 19))⟩,
  ⟨(some 21), none, (.bin .lss (.t 17) (.t 20))⟩] none)
 (.cond (.t 21) .skip (.exit 0)))
 (.seq (.block 1
 (.seq (.reg [⟨(some 24), none, (.faddr 1 (.t 2))⟩,
  ⟨(some 25), none, (.load 1 false (.t 24))⟩,
  ⟨(some 26), none, (.mv (.t 6))⟩,
  ⟨(some 27), none, (.iaddr 4 (.t 25) (.t 26))⟩,
  ⟨(some 28), none, (.faddr 0 (.t 27))⟩,
  ⟨(some 29), none, (.load 1 false (.t 28))⟩,
  ⟨(some 30), none, (.faddr 5 (.t 2))⟩,
  ⟨(some 31), none, (.load 1 false (.t 30))⟩,
  ⟨(some 32), none, (.bin .neq (.t 29) (.t 31))⟩,
  ⟨(some 33), none, (.mv (.t 32))⟩,
  ⟨(some 34), (some (33, false)), (.faddr 1 (.t 2))⟩,
  ⟨(some 35), (some (33, false)), (.load 1 false (.t 34))⟩,
  ⟨(some 36), (some (33, false)), (.mv (.t 6))⟩,
  ⟨(some 37), (some (33, false)), (.iaddr 4 (.t 35) (.t 36))⟩,
  ⟨(some 38), (some (33, false)), (.faddr 1 (.t 37))⟩,
  ⟨(some 39), (some (33, false)), (.load 1 false (.t 38))⟩,
  ⟨(some 40), (some (33, false)), (.mv (.t 1))⟩,
  ⟨(some 41), (some (33, false)), (.bin .neq (.t 39) (.t 40))⟩,
  ⟨(some 42), none, (.pick (.t 33) (.c (.sc (.bool true))) (.t 41))⟩,
  ⟨(some 43), none, (.mv (.t 42))⟩,
  ⟨(some 44), (some (43, false)), (.faddr 1 (.t 2))⟩,
  ⟨(some 45), (some (43, false)), (.load 1 false (.t 44))⟩,
  ⟨(some 46), (some (43, false)), (.mv (.t 6))⟩,
  ⟨(some 47), (some (43, false)), (.iaddr 4 (.t 45) (.t 46))⟩,
  ⟨(some 48), (some (43, false)), (.faddr 2 (.t 47))⟩,
  ⟨(some 49), (some (43, false)), (.load 1 false (.t 48))⟩,
  ⟨(some 50), (some (43, false)), (.faddr 6 (.t 2))⟩,
  ⟨(some 51), (some (43, false)), (.load 1 false (.t 50))⟩,
  ⟨(some 52), (some (43, false)), (.bin .neq (.t 49) (.t 51))⟩,
  ⟨(some 53), none, (.pick (.t 43) (.c (.sc (.bool true))) (.t 52))⟩] (some [[], [0], [], [1, 2, 0], [3, 1, 2, 0], [4, 3, 1, 2, 0], [], [6], [5, 7, 4, 3, 1, 2, 0, 6], [8, 5, 7, 4, 3, 1, 2, 0, 6], [9, 8, 5, 7, 4, 3, 1, 2, 0, 6], [10, 9, 8, 5, 7, 4, 3, 1, 2, 0, 6], [9, 8, 5, 7, 4, 3, 1, 2, 0, 6], [11, 12, 9, 10, 8, 5, 7, 4, 3, 1, 2, 0, 6], [13, 9, 11, 12, 10, 8, 5, 7, 4, 3, 1, 2, 0, 6], [14, 9, 13, 11, 12, 10, 8, 5, 7, 4, 3, 1, 2, 0, 6], [9, 8, 5, 7, 4, 3, 1, 2, 0, 6], [15, 16, 9, 14, 13, 11, 12, 10, 8, 5, 7, 4, 3, 1, 2, 0, 6], [9, 17, 8, 5, 7, 4, 3, 1, 2, 0, 6, 15, 16, 14, 13, 11, 12, 10], [18, 9, 17, 8, 5, 7, 4, 3, 1, 2, 0, 6, 15, 16, 14, 13, 11, 12, 10], [19, 18, 9, 17, 8, 5, 7, 4, 3, 1, 2, 0, 6, 15, 16, 14, 13, 11, 12, 10], [20, 19, 18, 9, 17, 8, 5, 7, 4, 3, 1, 2, 0, 6, 15, 16, 14, 13, 11, 12, 10], [19, 18, 9, 17, 8, 5, 7, 4, 3, 1, 2, 0, 6, 15, 16, 14, 13, 11, 12, 10], [21, 22, 19, 20, 18, 9, 17, 8, 5, 7, 4, 3, 1, 2, 0, 6, 15, 16, 14, 13, 11, 12, 10], [23, 19, 21, 22, 20, 18, 9, 17, 8, 5, 7, 4, 3, 1, 2, 0, 6, 15, 16, 14, 13, 11, 12, 10], [24, 19, 23, 21, 22, 20, 18, 9, 17, 8, 5, 7, 4, 3, 1, 2, 0, 6, 15, 16, 14, 13, 11, 12, 10], [19, 18, 9, 17, 8, 5, 7, 4, 3, 1, 2, 0, 6, 15, 16, 14, 13, 11, 12, 10], [26, 19, 18, 9, 17, 8, 5, 7, 4, 3, 1, 2, 0, 6, 15, 16, 14, 13, 11, 12, 10], [25, 27, 19, 24, 23, 21, 22, 20, 18, 9, 17, 8, 5, 7, 4, 3, 1, 2, 0, 6, 15, 16, 14, 13, 11, 12, 10, 26], [19, 28, 18, 9, 17, 8, 5, 7, 4, 3, 1, 2, 0, 6, 15, 16, 14, 13, 11, 12, 10, 25, 27, 24, 23, 21, 22, 20, 26]]))
 (.cond (.t 53) (.reg [⟨(some 54), none, (.mv (.t 5))⟩,
  ⟨(some 55), none, (.faddr 1 (.t 2))⟩,
  ⟨(some 56), none, (.load 1 false (.t 55))⟩,
  ⟨(some 57), none, (.mv (.t 6))⟩,
  ⟨(some 58), none, (.iaddr 4 (.t 56) (.t 57))⟩,
  ⟨(some 59), none, (.load 4 true (.t 58))⟩,
  ⟨(some 60), none, (.bslice 30 4 [(.t 59)])⟩,
  ⟨(some 61), none, (.append 30 4 32 (.t 54) (.t 60))⟩,
  ⟨(some 5), none, (.mv (.t 61))⟩] none) .skip))) (.reg [⟨(some 22), none, (.mv (.t 6))⟩,
  ⟨(some 23), none, (.bin .add (.t 22) (.c (.sc (.int .i64 (1)))))⟩,
  ⟨(some 6), none, (.mv (.t 23))⟩] none))))))
 (.seq (.reg [⟨(some 62), none, (.bslice 30 4 [])⟩,
  ⟨(some 63), none, (.mv (.t 5))⟩,
  ⟨(some 64), none, (.append 30 4 32 (.t 62) (.t 63))⟩,
  ⟨(some 65), none, (.faddr 1 (.t 2))⟩,
  ⟨none, none, (.store 1 (.t 65) (.t 64))⟩] none)
 (.seq (.reg [⟨(some 66), none, (.faddr 1 (.t 2))⟩,
  ⟨(some 67), none, (.load 1 false (.t 66))⟩,
  ⟨(some 68), none, (.faddr 5 (.t 2))⟩,
  ⟨(some 69), none, (.load 1 false (.t 68))⟩,
  ⟨(some 70), none, (.mv (.t 1))⟩,
  ⟨(some 71), none, (.faddr 6 (.t 2))⟩,
  ⟨(some 72), none, (.load 1 false (.t 71))⟩,
  ⟨(some 73), none, (.build [(.sc (.int .i64 (0))), (.sc (.int .i64 (0))), (.sc (.int .i64 (0))), (.sc (.bool false))] [(0, (1, (.t 69))), (1, (1, (.t 70))), (2, (1, (.t 72))), (3, (1, (.c (.sc (.bool true)))))])⟩,
  ⟨(some 74), none, (.bslice 30 4 [(.t 73)])⟩,
  ⟨(some 75), none, (.append 30 4 32 (.t 67) (.t 74))⟩,
  ⟨(some 76), none, (.faddr 1 (.t 2))⟩,
  ⟨none, none, (.store 1 (.t 76) (.t 75))⟩] none)
 (.seq (.reg [⟨(some 78), none, (.load 7 true (.t 2))⟩,
  ⟨(some 79), none, (.call 21 [(.t 78)])⟩,
  ⟨(some 77), none, (.mv (.t 79))⟩,
  ⟨(some 80), none, (.ext 0 (.t 77))⟩,
  ⟨(some 81), none, (.ext 1 (.t 77))⟩,
  ⟨(some 7), none, (.mv (.t 80))⟩,
  ⟨(some 8), none, (.mv (.t 81))⟩] none)
 (.seq (.reg [⟨(some 83), none, (.faddr 2 (.t 2))⟩,
  ⟨(some 84), none, (.load 2 true (.t 83))⟩,
  ⟨(some 85), none, (.faddr 4 (.t 2))⟩,
  ⟨(some 86), none, (.load 1 false (.t 85))⟩,
  ⟨(some 87), none, (.faddr 5 (.t 2))⟩,
  ⟨(some 88), none, (.load 1 false (.t 87))⟩,
  ⟨(some 89), none, (.mv (.t 1))⟩,
  ⟨(some 90), none, (.faddr 6 (.t 2))⟩,
  ⟨(some 91), none, (.load 1 false (.t 90))⟩,
  ⟨(some 92), none, (.faddr 6 (.t 2))⟩,
  ⟨(some 93), none, (.load 1 false (.t 92))⟩,
  ⟨(some 94), none, (.bin .add (.t 93) (.c (.sc (.int .i64 (1)))))⟩,
  ⟨(some 95), none, (.build [(.sc (.int .i64 (0))), (.sc (.int .i64 (0)))] [(0, (1, (.t 91))), (1, (1, (.t 94)))])⟩,
  ⟨(some 96), none, (.call 24 [(.t 84), (.t 86), (.t 88), (.t 89), (.t 95)])⟩,
  ⟨(some 82), none, (.mv (.t 96))⟩,
  ⟨(some 97), none, (.ext 0 (.t 82))⟩,
  ⟨(some 98), none, (.ext 1 (.t 82))⟩,
  ⟨(some 9), none, (.mv (.t 97))⟩,
  ⟨(some 10), none, (.mv (.t 98))⟩] none)
 (.seq (.seq (.reg [⟨(some 99), none, (.mv (.t 8))⟩,
  ⟨(some 100), none, (.bin .neq (.t 99) (.c (.sc (.int .i64 (0)))))⟩,
  ⟨(some 101), none, (.mv (.t 100))⟩,
  ⟨(some 102), (some (101, false)), (.mv (.t 10))⟩,
  ⟨(some 103), (some (101, false)), (.bin .neq (.t 102) (.c (.sc (.int .i64 (0)))))⟩,
  ⟨(some 104), none, (.pick (.t 101) (.c (.sc (.bool true))) (.t 103))⟩] none)
 (.cond (.t 104)
 (.seq (.reg [⟨(some 105), none, (.call 11 [])⟩,
  ⟨(some 4), none, (.mv (.t 105))⟩] none) .ret) .skip))
 (.seq (.reg [⟨(some 11), none, (.mv (.c (.sc (.int .i64 (1125899906842625)))))⟩] none)
 (.seq (.seq (.reg [⟨(some 12), none, (.mv (.c (.sc (.int .i64 (0)))))⟩] none) (.block 2 
 (.loop ⟨[1, 2, 7, 9, 11, 12], []⟩
 (.seq (.seq (.reg [⟨(some 106), none, (.mv (.t 12))⟩,
  ⟨(some 107), none, (.faddr 0 (.t 2))⟩,
  ⟨(some 108), none, (.load 1 false (.t 107))⟩,
  ⟨(some 109), none, (.len (.t 108))⟩,
  ⟨(some 110), none, (.bin .lss (.t 106) (.t 109))⟩] none)
 (.cond (.t 110) .skip (.exit 2)))
 (.seq (.block 3
 (.seq (.reg [⟨(some 113), none, (.faddr 0 (.t 2))⟩,
  ⟨(some 114), none, (.load 1 false (.t 113))⟩,
  ⟨(some 115), none, (.mv (.t 12))⟩,
  ⟨(some 116), none, (.iaddr 3 (.t 114) (.t 115))⟩,
  ⟨(some 117), none, (.faddr 0 (.t 116))⟩,
  ⟨(some 118), none, (.load 1 false (.t 117))⟩,
  ⟨(some 119), none, (.mv (.t 1))⟩,
  ⟨(some 120), none, (.bin .eql (.t 118) (.t 119))⟩] none)
 (.cond (.t 120) (.reg [⟨(some 121), none, (.faddr 0 (.t 2))⟩,
  ⟨(some 122), none, (.load 1 false (.t 121))⟩,
  ⟨(some 123), none, (.mv (.t 12))⟩,
  ⟨(some 124), none, (.iaddr 3 (.t 122) (.t 123))⟩,
  ⟨(some 125), none, (.faddr 1 (.t 124))⟩,
  ⟨(some 126), none, (.load 1 false (.t 125))⟩,
  ⟨(some 11), none, (.mv (.t 126))⟩] none) .skip))) (.reg [⟨(some 111), none, (.mv (.t 12))⟩,
  ⟨(some 112), none, (.bin .add (.t 111) (.c (.sc (.int .i64 (1)))))⟩,
  ⟨(some 12), none, (.mv (.t 112))⟩] none))))))
 (.seq (.reg [⟨(some 127), none, (.mv (.t 7))⟩,
  ⟨(some 128), none, (.mv (.t 1))⟩,
  ⟨(some 129), none, (.call 25 [(.t 127), (.t 128)])⟩,
  ⟨(some 130), none, (.mv (.t 9))⟩,
  ⟨(some 131), none, (.mv (.t 11))⟩,
  ⟨(some 132), none, (.bin .geq (.t 130) (.t 131))⟩,
  ⟨(some 133), none, (.beq false (.t 129) (.t 132))⟩,
  ⟨(some 134), none, (.mv (.t 133))⟩,
  ⟨(some 135), (some (134, true)), (.call 11 [])⟩,
  ⟨(some 136), none, (.pick (.t 134) (.t 135) (.c (.sc (.bool false))))⟩,
  ⟨(some 4), none, (.mv (.t 136))⟩] none) .ret))))))))))))
theorem good7 {args : List PV} {r : PV} (hl : args.length ≤ 137) (h : Run Try.prog [.code ac7] (endQ [(.t 4)] r) ⟨initT 0 args, [], 0, 137⟩) : Good Try.prog 7 args r :=
  good_run (by kernel_rfl) Iamix Try.func7 rfl (hs := [⟨[1, 2, 5, 6], [(5, 30, 4)]⟩, ⟨[1, 2, 7, 9, 11, 12], []⟩]) (hs' := []) (by kernel_rfl) hl h
def ac8 : ACode :=
 (.seq (.reg [⟨(some 2), none, (.boxv (.t 0))⟩,
  ⟨(some 4), none, (.mv (.c (.sc (.bool false))))⟩] none)
 (.seq (.seq (.reg [⟨(some 11), none, (.load 7 true (.t 2))⟩,
  ⟨(some 12), none, (.call 20 [(.t 11)])⟩,
  ⟨(some 13), none, (.un .not (.t 12))⟩,
  ⟨(some 14), none, (.mv (.t 13))⟩,
  ⟨(some 15), (some (14, false)), (.faddr 6 (.t 2))⟩,
  ⟨(some 16), (some (14, false)), (.load 1 false (.t 15))⟩,
  ⟨(some 17), (some (14, false)), (.bin .lss (.t 16) (.c (.sc (.int .i64 (0)))))⟩,
  ⟨(some 18), none, (.pick (.t 14) (.c (.sc (.bool true))) (.t 17))⟩,
  ⟨(some 19), none, (.mv (.t 18))⟩,
  ⟨(some 20), (some (19, false)), (.mv (.t 1))⟩,
  ⟨(some 21), (some (19, false)), (.faddr 6 (.t 2))⟩,
  ⟨(some 22), (some (19, false)), (.load 1 false (.t 21))⟩,
  ⟨(some 23), (some (19, false)), (.bin .lss (.t 20) (.t 22))⟩,
  ⟨(some 24), none, (.pick (.t 19) (.c (.sc (.bool true))) (.t 23))⟩,
  ⟨(some 25), none, (.mv (.t 24))⟩,
  ⟨(some 26), (some (25, false)), (.mv (.t 1))⟩,
  ⟨(some 27), (some (25, false)), (.bin .gtr (.t 26) (.c (.sc (.int .i64 (4294943999)))))⟩,
  ⟨(some 28), none, (.pick (.t 25) (.c (.sc (.bool true))) (.t 27))⟩] none)
 (.cond (.t 28)
 (.seq (.reg [⟨(some 29), none, (.call 11 [])⟩,
  ⟨(some 4), none, (.mv (.t 29))⟩] none) .ret) .skip))
 (.seq (.reg [⟨(some 31), none, (.load 7 true (.t 2))⟩,
  ⟨(some 32), none, (.call 21 [(.t 31)])⟩,
  ⟨(some 30), none, (.mv (.t 32))⟩,
  ⟨(some 33), none, (.ext 0 (.t 30))⟩,
  ⟨(some 34), none, (.ext 1 (.t 30))⟩,
  ⟨(some 5), none, (.mv (.t 33))⟩,
  ⟨(some 6), none, (.mv (.t 34))⟩] none)
 (.seq (.seq (.reg [⟨(some 7), none, (.mv (.c (.sc (.int .i64 (0)))))⟩] none) (.block 0 
 (.loop ⟨[1, 2, 5, 6, 7], []⟩
 (.seq (.seq (.reg [⟨(some 35), none, (.mv (.t 7))⟩,
  ⟨(some 36), none, (.faddr 1 (.t 2))⟩,
  ⟨(some 37), none, (.load 1 false (.t 36))⟩,
  ⟨(some 38), none, (.len (.t 37))⟩,
  ⟨(some 39), none, (.bin .lss (.t 35) (.t 38))⟩] none)
 (.cond (.t 39) .skip (.exit 0)))
 (.seq (.block 1
 (.seq (.reg [⟨(some 42), none, (.faddr 1 (.t 2))⟩,
  ⟨(some 43), none, (.load 1 false (.t 42))⟩,
  ⟨(some 44), none, (.mv (.t 7))⟩,
  ⟨(some 45), none, (.iaddr 4 (.t 43) (.t 44))⟩,
  ⟨(some 46), none, (.faddr 0 (.t 45))⟩,
  ⟨(some 47), none, (.load 1 false (.t 46))⟩,
  ⟨(some 48), none, (.faddr 5 (.t 2))⟩,
  ⟨(some 49), none, (.load 1 false (.t 48))⟩,
  ⟨(some 50), none, (.bin .eql (.t 47) (.t 49))⟩,
  ⟨(some 51), none, (.mv (.t 50))⟩,
  ⟨(some 52), (some (51, true)), (.faddr 1 (.t 2))⟩,
  ⟨(some 53), (some (51, true)), (.load 1 false (.t 52))⟩,
  ⟨(some 54), (some (51, true)), (.mv (.t 7))⟩,
  ⟨(some 55), (some (51, true)), (.iaddr 4 (.t 53) (.t 54))⟩,
  ⟨(some 56), (some (51, true)), (.faddr 2 (.t 55))⟩,
  ⟨(some 57), (some (51, true)), (.load 1 false (.t 56))⟩,
  ⟨(some 58), (some (51, true)), (.faddr 6 (.t 2))⟩,
  ⟨(some 59), (some (51, true)), (.load 1 false (.t 58))⟩,
  ⟨(some 60), (some (51, true)), (.bin .gtr (.t 57) (.t 59))⟩,
  ⟨(some 61), none, (.pick (.t 51) (.t 60) (.c (.sc (.bool false))))⟩,
  ⟨(some 62), none, (.mv (.t 61))⟩,
  ⟨(some 63), (some (62, true)), (.faddr 1 (.t 2))⟩,
  ⟨(some 64), (some (62, true)), (.load 1 false (.t 63))⟩,
  ⟨(some 65), (some (62, true)), (.mv (.t 7))⟩,
  ⟨(some 66), (some (62, true)), (.iaddr 4 (.t 64) (.t 65))⟩,
  ⟨(some 67), (some (62, true)), (.faddr 2 (.t 66))⟩,
  ⟨(some 68), (some (62, true)), (.load 1 false (.t 67))⟩,
  ⟨(some 69), (some (62, true)), (.mv (.t 1))⟩,
  ⟨(some 70), (some (62, true)), (.bin .leq (.t 68) (.t 69))⟩,
  ⟨(some 71), none, (.pick (.t 62) (.t 70) (.c (.sc (.bool false))))⟩] (some [[], [0], [], [1, 2, 0], [3, 1, 2, 0], [4, 3, 1, 2, 0], [], [6], [5, 7, 4, 3, 1, 2, 0, 6], [8, 5, 7, 4, 3, 1, 2, 0, 6], [9, 8, 5, 7, 4, 3, 1, 2, 0, 6], [10, 9, 8, 5, 7, 4, 3, 1, 2, 0, 6], [9, 8, 5, 7, 4, 3, 1, 2, 0, 6], [11, 12, 9, 10, 8, 5, 7, 4, 3, 1, 2, 0, 6], [13, 9, 11, 12, 10, 8, 5, 7, 4, 3, 1, 2, 0, 6], [14, 9, 13, 11, 12, 10, 8, 5, 7, 4, 3, 1, 2, 0, 6], [9, 8, 5, 7, 4, 3, 1, 2, 0, 6], [16, 9, 8, 5, 7, 4, 3, 1, 2, 0, 6], [15, 17, 9, 14, 13, 11, 12, 10, 8, 5, 7, 4, 3, 1, 2, 0, 6, 16], [9, 18, 8, 5, 7, 4, 3, 1, 2, 0, 6, 15, 17, 14, 13, 11, 12, 10, 16], [19, 9, 18, 8, 5, 7, 4, 3, 1, 2, 0, 6, 15, 17, 14, 13, 11, 12, 10, 16], [20, 19, 9, 18, 8, 5, 7, 4, 3, 1, 2, 0, 6, 15, 17, 14, 13, 11, 12, 10, 16], [21, 20, 19, 9, 18, 8, 5, 7, 4, 3, 1, 2, 0, 6, 15, 17, 14, 13, 11, 12, 10, 16], [20, 19, 9, 18, 8, 5, 7, 4, 3, 1, 2, 0, 6, 15, 17, 14, 13, 11, 12, 10, 16], [22, 23, 20, 21, 19, 9, 18, 8, 5, 7, 4, 3, 1, 2, 0, 6, 15, 17, 14, 13, 11, 12, 10, 16], [24, 20, 22, 23, 21, 19, 9, 18, 8, 5, 7, 4, 3, 1, 2, 0, 6, 15, 17, 14, 13, 11, 12, 10, 16], [25, 20, 24, 22, 23, 21, 19, 9, 18, 8, 5, 7, 4, 3, 1, 2, 0, 6, 15, 17, 14, 13, 11, 12, 10, 16], [20, 19, 9, 18, 8, 5, 7, 4, 3, 1, 2, 0, 6, 15, 17, 14, 13, 11, 12, 10, 16], [26, 27, 20, 25, 24, 22, 23, 21, 19, 9, 18, 8, 5, 7, 4, 3, 1, 2, 0, 6, 15, 17, 14, 13, 11, 12, 10, 16], [20, 28, 19, 9, 18, 8, 5, 7, 4, 3, 1, 2, 0, 6, 15, 17, 14, 13, 11, 12, 10, 16, 26, 27, 25, 24, 22, 23, 21]]))
 (.cond (.t 71)
 (.seq (.reg [⟨(some 72), none, (.call 11 [])⟩,
  ⟨(some 4), none, (.mv (.t 72))⟩] none) .ret) .skip))) (.reg [⟨(some 40), none, (.mv (.t 7))⟩,
  ⟨(some 41), none, (.bin .add (.t 40) (.c (.sc (.int .i64 (1)))))⟩,
  ⟨(some 7), none, (.mv (.t 41))⟩] none))))))
 (.seq (.reg [⟨(some 73), none, (.mv (.t 1))⟩,
  ⟨(some 74), none, (.faddr 6 (.t 2))⟩,
  ⟨none, none, (.store 1 (.t 74) (.t 73))⟩] none)
 (.seq (.reg [⟨(some 76), none, (.load 7 true (.t 2))⟩,
  ⟨(some 77), none, (.call 21 [(.t 76)])⟩,
  ⟨(some 75), none, (.mv (.t 77))⟩,
  ⟨(some 78), none, (.ext 0 (.t 75))⟩,
  ⟨(some 79), none, (.ext 1 (.t 75))⟩,
  ⟨(some 8), none, (.mv (.t 78))⟩,
  ⟨(some 9), none, (.mv (.t 79))⟩] none)
 (.seq (.seq (.reg [⟨(some 80), none, (.mv (.t 6))⟩,
  ⟨(some 81), none, (.mv (.t 9))⟩,
  ⟨(some 82), none, (.bin .neq (.t 80) (.t 81))⟩] none)
 (.cond (.t 82)
 (.seq (.reg [⟨(some 4), none, (.mv (.c (.sc (.bool false))))⟩] none) .ret) .skip))
 (.seq (.seq (.reg [⟨(some 10), none, (.mv (.c (.sc (.int .i64 (0)))))⟩] none) (.block 2 
 (.loop ⟨[5, 8, 10], []⟩
 (.seq (.seq (.reg [⟨(some 83), none, (.mv (.t 10))⟩,
  ⟨(some 84), none, (.mv (.t 5))⟩,
  ⟨(some 85), none, (.len (.t 84))⟩,
  ⟨(some 86), none, (.bin .lss (.t 83) (.t 85))⟩] none)
 (.cond (.t 86) .skip (.exit 2)))
 (.seq (.block 3
 (.seq (.reg [⟨(some 89), none, (.mv (.t 8))⟩,
  ⟨(some 90), none, (.mv (.t 5))⟩,
  ⟨(some 91), none, (.mv (.t 10))⟩,
  ⟨(some 92), none, (.iaddr 1 (.t 90) (.t 91))⟩,
  ⟨(some 93), none, (.load 1 false (.t 92))⟩,
  ⟨(some 94), none, (.call 25 [(.t 89), (.t 93)])⟩,
  ⟨(some 95), none, (.un .not (.t 94))⟩] none)
 (.cond (.t 95)
 (.seq (.reg [⟨(some 4), none, (.mv (.c (.sc (.bool false))))⟩] none) .ret) .skip))) (.reg [⟨(some 87), none, (.mv (.t 10))⟩,
  ⟨(some 88), none, (.bin .add (.t 87) (.c (.sc (.int .i64 (1)))))⟩,
  ⟨(some 10), none, (.mv (.t 88))⟩] none))))))
 (.seq (.reg [⟨(some 96), none, (.call 11 [])⟩,
  ⟨(some 4), none, (.mv (.t 96))⟩] none) .ret)))))))))
theorem good8 {args : List PV} {r : PV} (hl : args.length ≤ 97) (h : Run Try.prog [.code ac8] (endQ [(.t 4)] r) ⟨initT 0 args, [], 0, 97⟩) : Good Try.prog 8 args r :=
  good_run (by kernel_rfl) Iamix Try.func8 rfl (hs := [⟨[1, 2, 5, 6, 7], []⟩, ⟨[5, 8, 10], []⟩]) (hs' := []) (by kernel_rfl) hl h
def ac9 : ACode :=
 (.seq (.reg [⟨(some 4), none, (.boxv (.t 0))⟩,
  ⟨(some 8), none, (.mv (.c (.sc (.bool false))))⟩] none)
 (.seq (.seq (.reg [⟨(some 18), none, (.load 7 true (.t 4))⟩,
  ⟨(some 19), none, (.call 20 [(.t 18)])⟩,
  ⟨(some 20), none, (.un .not (.t 19))⟩,
  ⟨(some 21), none, (.mv (.t 20))⟩,
  ⟨(some 22), (some (21, false)), (.mv (.t 1))⟩,
  ⟨(some 23), (some (21, false)), (.bin .lss (.t 22) (.c (.sc (.int .i64 (0)))))⟩,
  ⟨(some 24), none, (.pick (.t 21) (.c (.sc (.bool true))) (.t 23))⟩,
  ⟨(some 25), none, (.mv (.t 24))⟩,
  ⟨(some 26), (some (25, false)), (.mv (.t 1))⟩,
  ⟨(some 27), (some (25, false)), (.faddr 0 (.t 4))⟩,
  ⟨(some 28), (some (25, false)), (.load 1 false (.t 27))⟩,
  ⟨(some 29), (some (25, false)), (.len (.t 28))⟩,
  ⟨(some 30), (some (25, false)), (.bin .geq (.t 26) (.t 29))⟩,
  ⟨(some 31), none, (.pick (.t 25) (.c (.sc (.bool true))) (.t 30))⟩,
  ⟨(some 32), none, (.mv (.t 31))⟩,
  ⟨(some 33), (some (32, false)), (.mv (.t 2))⟩,
  ⟨(some 34), (some (32, false)), (.bin .lss (.t 33) (.c (.sc (.int .i64 (0)))))⟩,
  ⟨(some 35), none, (.pick (.t 32) (.c (.sc (.bool true))) (.t 34))⟩,
  ⟨(some 36), none, (.mv (.t 35))⟩,
  ⟨(some 37), (some (36, false)), (.mv (.t 2))⟩,
  ⟨(some 38), (some (36, false)), (.bin .gtr (.t 37) (.c (.sc (.int .i64 (1000000)))))⟩,
  ⟨(some 39), none, (.pick (.t 36) (.c (.sc (.bool true))) (.t 38))⟩,
  ⟨(some 40), none, (.mv (.t 39))⟩,
  ⟨(some 41), (some (40, false)), (.mv (.t 3))⟩,
  ⟨(some 42), (some (40, false)), (.bin .lss (.t 41) (.c (.sc (.int .i64 (0)))))⟩,
  ⟨(some 43), none, (.pick (.t 40) (.c (.sc (.bool true))) (.t 42))⟩,
  ⟨(some 44), none, (.mv (.t 43))⟩,
  ⟨(some 45), (some (44, false)), (.mv (.t 3))⟩,
  ⟨(some 46), (some (44, false)), (.bin .gtr (.t 45) (.c (.sc (.int .i64 (1000)))))⟩,
  ⟨(some 47), none, (.pick (.t 44) (.c (.sc (.bool true))) (.t 46))⟩] none)
 (.cond (.t 47)
 (.seq (.reg [⟨(some 48), none, (.call 11 [])⟩,
  ⟨(some 8), none, (.mv (.t 48))⟩] none) .ret) .skip))
 (.seq (.reg [⟨(some 50), none, (.load 7 true (.t 4))⟩,
  ⟨(some 51), none, (.call 21 [(.t 50)])⟩,
  ⟨(some 49), none, (.mv (.t 51))⟩,
  ⟨(some 52), none, (.ext 0 (.t 49))⟩,
  ⟨(some 53), none, (.ext 1 (.t 49))⟩,
  ⟨(some 9), none, (.mv (.t 52))⟩,
  ⟨(some 10), none, (.mv (.t 53))⟩] none)
 (.seq (.seq (.reg [⟨(some 54), none, (.mv (.t 10))⟩,
  ⟨(some 55), none, (.bin .neq (.t 54) (.c (.sc (.int .i64 (0)))))⟩] none)
 (.cond (.t 55)
 (.seq (.reg [⟨(some 56), none, (.call 11 [])⟩,
  ⟨(some 8), none, (.mv (.t 56))⟩] none) .ret) .skip))
 (.seq (.reg [⟨(some 57), none, (.faddr 0 (.t 4))⟩,
  ⟨(some 58), none, (.load 1 false (.t 57))⟩,
  ⟨(some 59), none, (.mv (.t 1))⟩,
  ⟨(some 60), none, (.iaddr 3 (.t 58) (.t 59))⟩,
  ⟨(some 61), none, (.load 3 true (.t 60))⟩,
  ⟨(some 11), none, (.new [(.sc (.int .i64 (0))), (.sc (.int .i64 (0))), (.sc (.int .i64 (0)))])⟩,
  ⟨none, none, (.store 3 (.t 11) (.t 61))⟩] none)
 (.seq (.reg [⟨(some 62), none, (.load 7 true (.t 4))⟩,
  ⟨(some 12), none, (.new [(.sc (.slice none 0 0)), (.sc (.slice none 0 0)), (.sc (.slice none 0 0)), (.sc (.slice none 0 0)), (.sc (.slice none 0 0)), (.sc (.int .i64 (0))), (.sc (.int .i64 (0)))])⟩,
  ⟨none, none, (.store 7 (.t 12) (.t 62))⟩] none)
 (.seq (.reg [⟨(some 63), none, (.load 3 true (.t 11))⟩,
  ⟨(some 64), none, (.bslice 47 3 [(.t 63)])⟩,
  ⟨(some 65), none, (.faddr 0 (.t 12))⟩,
  ⟨none, none, (.store 1 (.t 65) (.t 64))⟩] none)
 (.seq (.reg [⟨(some 66), none, (.faddr 1 (.t 12))⟩,
  ⟨none, none, (.store 1 (.t 66) (.c (.sc (.slice none 0 0))))⟩] none)
 (.seq (.seq (.reg [⟨(some 13), none, (.mv (.c (.sc (.int .i64 (0)))))⟩] none) (.block 0 
 (.loop ⟨[2, 3, 4, 9, 11, 12, 13], [(200012, (30, 4))]⟩
 (.seq (.seq (.reg [⟨(some 67), none, (.mv (.t 13))⟩,
  ⟨(some 68), none, (.faddr 1 (.t 4))⟩,
  ⟨(some 69), none, (.load 1 false (.t 68))⟩,
  ⟨(some 70), none, (.len (.t 69))⟩,
  ⟨(some 71), none, (.bin .lss (.t 67) (.t 70))⟩] none)
 (.cond (.t 71) .skip (.exit 0)))
 (.seq (.block 1
 (.seq (.reg [⟨(some 74), none, (.faddr 1 (.t 4))⟩,
  ⟨(some 75), none, (.load 1 false (.t 74))⟩,
  ⟨(some 76), none, (.mv (.t 13))⟩,
  ⟨(some 77), none, (.iaddr 4 (.t 75) (.t 76))⟩,
  ⟨(some 78), none, (.faddr 0 (.t 77))⟩,
  ⟨(some 79), none, (.load 1 false (.t 78))⟩,
  ⟨(some 80), none, (.faddr 5 (.t 4))⟩,
  ⟨(some 81), none, (.load 1 false (.t 80))⟩,
  ⟨(some 82), none, (.bin .eql (.t 79) (.t 81))⟩,
  ⟨(some 83), none, (.mv (.t 82))⟩,
  ⟨(some 84), (some (83, true)), (.faddr 1 (.t 4))⟩,
  ⟨(some 85), (some (83, true)), (.load 1 false (.t 84))⟩,
  ⟨(some 86), (some (83, true)), (.mv (.t 13))⟩,
  ⟨(some 87), (some (83, true)), (.iaddr 4 (.t 85) (.t 86))⟩,
  ⟨(some 88), (some (83, true)), (.faddr 1 (.t 87))⟩,
  ⟨(some 89), (some (83, true)), (.load 1 false (.t 88))⟩,
  ⟨(some 90), (some (83, true)), (.faddr 0 (.t 11))⟩,
  ⟨(some 91), (some (83, true)), (.load 1 false (.t 90))⟩,
  ⟨(some 92), (some (83, true)), (.bin .eql (.t 89) (.t 91))⟩,
  ⟨(some 93), none, (.pick (.t 83) (.t 92) (.c (.sc (.bool false))))⟩] (some [[], [0], [], [1, 2, 0], [3, 1, 2, 0], [4, 3, 1, 2, 0], [], [6], [5, 7, 4, 3, 1, 2, 0, 6], [8, 5, 7, 4, 3, 1, 2, 0, 6], [9, 8, 5, 7, 4, 3, 1, 2, 0, 6], [10, 9, 8, 5, 7, 4, 3, 1, 2, 0, 6], [9, 8, 5, 7, 4, 3, 1, 2, 0, 6], [11, 12, 9, 10, 8, 5, 7, 4, 3, 1, 2, 0, 6], [13, 9, 11, 12, 10, 8, 5, 7, 4, 3, 1, 2, 0, 6], [14, 9, 13, 11, 12, 10, 8, 5, 7, 4, 3, 1, 2, 0, 6], [9, 8, 5, 7, 4, 3, 1, 2, 0, 6], [16, 9, 8, 5, 7, 4, 3, 1, 2, 0, 6], [15, 17, 9, 14, 13, 11, 12, 10, 8, 5, 7, 4, 3, 1, 2, 0, 6, 16], [9, 18, 8, 5, 7, 4, 3, 1, 2, 0, 6, 15, 17, 14, 13, 11, 12, 10, 16]]))
 (.cond (.t 93) (.reg [⟨(some 94), none, (.faddr 1 (.t 12))⟩,
  ⟨(some 95), none, (.load 1 false (.t 94))⟩,
  ⟨(some 96), none, (.faddr 1 (.t 4))⟩,
  ⟨(some 97), none, (.load 1 false (.t 96))⟩,
  ⟨(some 98), none, (.mv (.t 13))⟩,
  ⟨(some 99), none, (.iaddr 4 (.t 97) (.t 98))⟩,
  ⟨(some 100), none, (.load 4 true (.t 99))⟩,
  ⟨(some 101), none, (.bslice 30 4 [(.t 100)])⟩,
  ⟨(some 102), none, (.append 30 4 32 (.t 95) (.t 101))⟩,
  ⟨(some 103), none, (.faddr 1 (.t 12))⟩,
  ⟨none, none, (.store 1 (.t 103) (.t 102))⟩] (some [[], [0], [], [2], [], [3, 4, 2], [5, 3, 4, 2], [6, 5, 3, 4, 2], [1, 7, 0, 6, 5, 3, 4, 2], [0, 1, 2, 3, 4, 5, 6, 7, 8], [9, 8, 0, 1, 2, 3, 4, 5, 6, 7]])) .skip))) (.reg [⟨(some 72), none, (.mv (.t 13))⟩,
  ⟨(some 73), none, (.bin .add (.t 72) (.c (.sc (.int .i64 (1)))))⟩,
  ⟨(some 13), none, (.mv (.t 73))⟩] none))))))
 (.seq (.reg [⟨(some 105), none, (.load 7 true (.t 12))⟩,
  ⟨(some 106), none, (.call 21 [(.t 105)])⟩,
  ⟨(some 104), none, (.mv (.t 106))⟩,
  ⟨(some 107), none, (.ext 0 (.t 104))⟩,
  ⟨(some 108), none, (.ext 1 (.t 104))⟩,
  ⟨(some 14), none, (.mv (.t 107))⟩,
  ⟨(some 15), none, (.mv (.t 108))⟩] none)
 (.seq (.reg [⟨(some 109), none, (.faddr 0 (.t 11))⟩,
  ⟨(some 110), none, (.load 1 false (.t 109))⟩,
  ⟨(some 111), none, (.faddr 1 (.t 11))⟩,
  ⟨(some 112), none, (.load 1 false (.t 111))⟩,
  ⟨(some 113), none, (.mv (.t 2))⟩,
  ⟨(some 114), none, (.bin .add (.t 112) (.t 113))⟩,
  ⟨(some 115), none, (.mn (.t 114) (.c (.sc (.int .i64 (1125899906842624)))))⟩,
  ⟨(some 116), none, (.faddr 2 (.t 11))⟩,
  ⟨(some 117), none, (.load 1 false (.t 116))⟩,
  ⟨(some 118), none, (.mv (.t 3))⟩,
  ⟨(some 119), none, (.bin .add (.t 117) (.t 118))⟩,
  ⟨(some 120), none, (.mn (.t 119) (.c (.sc (.int .i64 (49709)))))⟩,
  ⟨(some 121), none, (.build [(.sc (.int .i64 (0))), (.sc (.int .i64 (0))), (.sc (.int .i64 (0)))] [(0, (1, (.t 110))), (1, (1, (.t 115))), (2, (1, (.t 120)))])⟩,
  ⟨(some 122), none, (.bslice 47 3 [(.t 121)])⟩,
  ⟨(some 123), none, (.faddr 0 (.t 12))⟩,
  ⟨none, none, (.store 1 (.t 123) (.t 122))⟩] none)
 (.seq (.reg [⟨(some 125), none, (.load 7 true (.t 12))⟩,
  ⟨(some 126), none, (.call 21 [(.t 125)])⟩,
  ⟨(some 124), none, (.mv (.t 126))⟩,
  ⟨(some 127), none, (.ext 0 (.t 124))⟩,
  ⟨(some 128), none, (.ext 1 (.t 124))⟩,
  ⟨(some 16), none, (.mv (.t 127))⟩,
  ⟨(some 17), none, (.mv (.t 128))⟩] none)
 (.seq (.seq (.reg [⟨(some 129), none, (.mv (.t 15))⟩,
  ⟨(some 130), none, (.bin .neq (.t 129) (.c (.sc (.int .i64 (0)))))⟩,
  ⟨(some 131), none, (.mv (.t 130))⟩,
  ⟨(some 132), (some (131, false)), (.mv (.t 17))⟩,
  ⟨(some 133), (some (131, false)), (.bin .neq (.t 132) (.c (.sc (.int .i64 (0)))))⟩,
  ⟨(some 134), none, (.pick (.t 131) (.c (.sc (.bool true))) (.t 133))⟩] none)
 (.cond (.t 134)
 (.seq (.reg [⟨(some 8), none, (.mv (.c (.sc (.bool false))))⟩] none) .ret) .skip))
 (.seq (.reg [⟨(some 135), none, (.mv (.t 14))⟩,
  ⟨(some 136), none, (.faddr 0 (.t 11))⟩,
  ⟨(some 137), none, (.load 1 false (.t 136))⟩,
  ⟨(some 138), none, (.call 25 [(.t 135), (.t 137)])⟩,
  ⟨(some 139), none, (.mv (.t 9))⟩,
  ⟨(some 140), none, (.faddr 0 (.t 11))⟩,
  ⟨(some 141), none, (.load 1 false (.t 140))⟩,
  ⟨(some 142), none, (.call 25 [(.t 139), (.t 141)])⟩,
  ⟨(some 143), none, (.beq false (.t 138) (.t 142))⟩,
  ⟨(some 144), none, (.mv (.t 143))⟩,
  ⟨(some 145), (some (144, true)), (.mv (.t 16))⟩,
  ⟨(some 146), (some (144, true)), (.len (.t 145))⟩,
  ⟨(some 147), (some (144, true)), (.bin .eql (.t 146) (.c (.sc (.int .i64 (0)))))⟩,
  ⟨(some 148), (some (144, true)), (.mv (.t 147))⟩,
  ⟨(some 149), (some (148, false)), (.mv (.t 14))⟩,
  ⟨(some 150), (some (148, false)), (.len (.t 149))⟩,
  ⟨(some 151), (some (148, false)), (.bin .gtr (.t 150) (.c (.sc (.int .i64 (0)))))⟩,
  ⟨(some 152), (some (144, true)), (.pick (.t 148) (.c (.sc (.bool true))) (.t 151))⟩,
  ⟨(some 153), none, (.pick (.t 144) (.t 152) (.c (.sc (.bool false))))⟩,
  ⟨(some 154), none, (.mv (.t 153))⟩,
  ⟨(some 155), (some (154, true)), (.call 11 [])⟩,
  ⟨(some 156), none, (.pick (.t 154) (.t 155) (.c (.sc (.bool false))))⟩,
  ⟨(some 8), none, (.mv (.t 156))⟩] (some [[], [], [1], [0, 2, 1], [], [], [5], [4, 6, 3, 5, 0, 2, 1], [3, 7, 0, 2, 1, 4, 6, 5], [8, 7, 3, 0, 2, 1, 4, 6, 5], [9, 8, 7, 3, 0, 2, 1, 4, 6, 5], [10, 9, 8, 7, 3, 0, 2, 1, 4, 6, 5], [11, 9, 10, 8, 7, 3, 0, 2, 1, 4, 6, 5], [12, 9, 11, 10, 8, 7, 3, 0, 2, 1, 4, 6, 5], [13, 12, 9, 11, 10, 8, 7, 3, 0, 2, 1, 4, 6, 5], [14, 13, 12, 9, 11, 10, 8, 7, 3, 0, 2, 1, 4, 6, 5], [15, 13, 14, 12, 9, 11, 10, 8, 7, 3, 0, 2, 1, 4, 6, 5], [13, 16, 9, 12, 11, 10, 8, 7, 3, 0, 2, 1, 4, 6, 5, 15, 14], [9, 17, 8, 7, 3, 0, 2, 1, 4, 6, 5, 13, 16, 12, 11, 10, 15, 14], [18, 13, 9, 17, 8, 7, 3, 0, 2, 1, 4, 6, 5, 16, 12, 11, 10, 15, 14], [19, 18, 13, 9, 17, 8, 7, 3, 0, 2, 1, 4, 6, 5, 16, 12, 11, 10, 15, 14], [19, 20, 18, 13, 9, 17, 8, 7, 3, 0, 2, 1, 4, 6, 5, 16, 12, 11, 10, 15, 14], [21, 20, 0, 1, 2, 3, 4, 5, 6, 7, 8, 9, 10, 11, 12, 13, 14, 15, 16, 17, 18, 19]])) .ret))))))))))))))
theorem good9 {args : List PV} {r : PV} (hl : args.length ≤ 157) (h : Run Try.prog [.code ac9] (endQ [(.t 8)] r) ⟨initT 0 args, [], 0, 157⟩) : Good Try.prog 9 args r :=
  good_run (by kernel_rfl) Iamix Try.func9 rfl (hs := [⟨[2, 3, 4, 9, 11, 12, 13], [(200012, 30, 4)]⟩]) (hs' := []) (by kernel_rfl) hl h
def ac10 : ACode :=
 (.seq (.reg [⟨(some 1), none, (.boxv (.t 0))⟩,
  ⟨(some 2), none, (.mv (.c (.sc (.bool false))))⟩] none)
 (.seq (.seq (.reg [⟨(some 5), none, (.load 7 true (.t 1))⟩,
  ⟨(some 6), none, (.call 20 [(.t 5)])⟩,
  ⟨(some 7), none, (.un .not (.t 6))⟩,
  ⟨(some 8), none, (.mv (.t 7))⟩,
  ⟨(some 9), (some (8, false)), (.faddr 0 (.t 1))⟩,
  ⟨(some 10), (some (8, false)), (.load 1 false (.t 9))⟩,
  ⟨(some 11), (some (8, false)), (.len (.t 10))⟩,
  ⟨(some 12), (some (8, false)), (.bin .neq (.t 11) (.c (.sc (.int .i64 (8)))))⟩,
  ⟨(some 13), none, (.pick (.t 8) (.c (.sc (.bool true))) (.t 12))⟩] none)
 (.cond (.t 13)
 (.seq (.reg [⟨(some 14), none, (.call 11 [])⟩,
  ⟨(some 2), none, (.mv (.t 14))⟩] none) .ret) .skip))
 (.seq (.reg [⟨(some 16), none, (.load 7 true (.t 1))⟩,
  ⟨(some 17), none, (.call 21 [(.t 16)])⟩,
  ⟨(some 15), none, (.mv (.t 17))⟩,
  ⟨(some 18), none, (.ext 0 (.t 15))⟩,
  ⟨(some 19), none, (.ext 1 (.t 15))⟩,
  ⟨(some 3), none, (.mv (.t 18))⟩,
  ⟨(some 4), none, (.mv (.t 19))⟩] none)
 (.seq (.seq (.reg [⟨(some 20), none, (.mv (.t 4))⟩,
  ⟨(some 21), none, (.bin .neq (.t 20) (.c (.sc (.int .i64 (0)))))⟩] none)
 (.cond (.t 21)
 (.seq (.reg [⟨(some 22), none, (.call 11 [])⟩,
  ⟨(some 2), none, (.mv (.t 22))⟩] none) .ret) .skip))
 (.seq (.reg [⟨(some 23), none, (.faddr 1 (.t 1))⟩,
  ⟨(some 24), none, (.load 1 false (.t 23))⟩,
  ⟨(some 25), none, (.faddr 5 (.t 1))⟩,
  ⟨(some 26), none, (.load 1 false (.t 25))⟩,
  ⟨(some 27), none, (.faddr 6 (.t 1))⟩,
  ⟨(some 28), none, (.load 1 false (.t 27))⟩,
  ⟨(some 29), none, (.call 18 [(.t 24), (.t 26), (.t 28)])⟩,
  ⟨(some 30), none, (.un .not (.t 29))⟩,
  ⟨(some 31), none, (.mv (.t 30))⟩,
  ⟨(some 32), (some (31, false)), (.mv (.t 3))⟩,
  ⟨(some 33), (some (31, false)), (.len (.t 32))⟩,
  ⟨(some 34), (some (31, false)), (.bin .gtr (.t 33) (.c (.sc (.int .i64 (0)))))⟩,
  ⟨(some 35), none, (.pick (.t 31) (.c (.sc (.bool true))) (.t 34))⟩,
  ⟨(some 36), none, (.mv (.t 35))⟩,
  ⟨(some 37), (some (36, true)), (.call 11 [])⟩,
  ⟨(some 38), none, (.pick (.t 36) (.t 37) (.c (.sc (.bool false))))⟩,
  ⟨(some 2), none, (.mv (.t 38))⟩] none) .ret)))))
theorem good10 {args : List PV} {r : PV} (hl : args.length ≤ 39) (h : Run Try.prog [.code ac10] (endQ [(.t 2)] r) ⟨initT 0 args, [], 0, 39⟩) : Good Try.prog 10 args r :=
  good_run (by kernel_rfl) Iamix Try.func10 rfl (hs := []) (hs' := []) (by kernel_rfl) hl h
def ac11 : ACode :=
 (.seq (.reg [⟨(some 0), none, (.mv (.c (.sc (.bool false))))⟩] none)
 (.seq (.reg [⟨(some 13), none, (.call 26 [(.c (.sc (.int .i64 (1000)))), (.c (.sc (.slice none 0 0)))])⟩,
  ⟨(some 14), none, (.call 21 [(.t 13)])⟩,
  ⟨(some 12), none, (.mv (.t 14))⟩,
  ⟨(some 15), none, (.ext 0 (.t 12))⟩,
  ⟨(some 16), none, (.ext 1 (.t 12))⟩,
  ⟨(some 1), none, (.mv (.t 15))⟩,
  ⟨(some 2), none, (.mv (.t 16))⟩] none)
 (.seq (.reg [⟨(some 18), none, (.call 26 [(.c (.sc (.int .i64 (999)))), (.c (.sc (.slice none 0 0)))])⟩,
  ⟨(some 19), none, (.call 21 [(.t 18)])⟩,
  ⟨(some 17), none, (.mv (.t 19))⟩,
  ⟨(some 20), none, (.ext 0 (.t 17))⟩,
  ⟨(some 21), none, (.ext 1 (.t 17))⟩,
  ⟨(some 3), none, (.mv (.t 20))⟩,
  ⟨(some 4), none, (.mv (.t 21))⟩] none)
 (.seq (.reg [⟨(some 23), none, (.build [(.sc (.int .i64 (0))), (.sc (.int .i64 (0))), (.sc (.int .i64 (0))), (.sc (.bool false))] [(0, (1, (.c (.sc (.int .i64 (5)))))), (2, (1, (.c (.sc (.int .i64 (1001)))))), (3, (1, (.c (.sc (.bool true)))))])⟩,
  ⟨(some 24), none, (.bslice 30 4 [(.t 23)])⟩,
  ⟨(some 25), none, (.call 26 [(.c (.sc (.int .i64 (2000)))), (.t 24)])⟩,
  ⟨(some 26), none, (.call 21 [(.t 25)])⟩,
  ⟨(some 22), none, (.mv (.t 26))⟩,
  ⟨(some 27), none, (.ext 0 (.t 22))⟩,
  ⟨(some 28), none, (.ext 1 (.t 22))⟩,
  ⟨(some 5), none, (.mv (.t 27))⟩,
  ⟨(some 6), none, (.mv (.t 28))⟩] none)
 (.seq (.reg [⟨(some 29), none, (.build [(.sc (.int .i64 (0))), (.sc (.int .i64 (0))), (.sc (.int .i64 (0))), (.sc (.bool false))] [(0, (1, (.c (.sc (.int .i64 (5)))))), (2, (1, (.c (.sc (.int .i64 (5000))))))])⟩,
  ⟨(some 7), none, (.new [(.sc (.int .i64 (0))), (.sc (.int .i64 (0))), (.sc (.int .i64 (0))), (.sc (.bool false))])⟩,
  ⟨none, none, (.store 4 (.t 7) (.t 29))⟩] none)
 (.seq (.reg [⟨(some 31), none, (.load 4 true (.t 7))⟩,
  ⟨(some 32), none, (.bslice 30 4 [(.t 31)])⟩,
  ⟨(some 33), none, (.call 26 [(.c (.sc (.int .i64 (5000)))), (.t 32)])⟩,
  ⟨(some 34), none, (.call 21 [(.t 33)])⟩,
  ⟨(some 30), none, (.mv (.t 34))⟩,
  ⟨(some 35), none, (.ext 0 (.t 30))⟩,
  ⟨(some 36), none, (.ext 1 (.t 30))⟩,
  ⟨(some 8), none, (.mv (.t 35))⟩,
  ⟨(some 9), none, (.mv (.t 36))⟩] none)
 (.seq (.reg [⟨(some 38), none, (.build [(.sc (.int .i64 (0))), (.sc (.int .i64 (0))), (.sc (.int .i64 (0))), (.sc (.bool false))] [(0, (1, (.c (.sc (.int .i64 (5)))))), (2, (1, (.c (.sc (.int .i64 (5000)))))), (3, (1, (.c (.sc (.bool true)))))])⟩,
  ⟨(some 39), none, (.bslice 30 4 [(.t 38)])⟩,
  ⟨(some 40), none, (.call 26 [(.c (.sc (.int .i64 (2592000)))), (.t 39)])⟩,
  ⟨(some 41), none, (.call 21 [(.t 40)])⟩,
  ⟨(some 37), none, (.mv (.t 41))⟩,
  ⟨(some 42), none, (.ext 0 (.t 37))⟩,
  ⟨(some 43), none, (.ext 1 (.t 37))⟩,
  ⟨(some 10), none, (.mv (.t 42))⟩,
  ⟨(some 11), none, (.mv (.t 43))⟩] none)
 (.seq (.seq (.reg [⟨(some 44), none, (.mv (.t 2))⟩,
  ⟨(some 45), none, (.bin .neq (.t 44) (.c (.sc (.int .i64 (0)))))⟩,
  ⟨(some 46), none, (.mv (.t 45))⟩,
  ⟨(some 47), (some (46, false)), (.mv (.t 4))⟩,
  ⟨(some 48), (some (46, false)), (.bin .neq (.t 47) (.c (.sc (.int .i64 (0)))))⟩,
  ⟨(some 49), none, (.pick (.t 46) (.c (.sc (.bool true))) (.t 48))⟩,
  ⟨(some 50), none, (.mv (.t 49))⟩,
  ⟨(some 51), (some (50, false)), (.mv (.t 6))⟩,
  ⟨(some 52), (some (50, false)), (.bin .neq (.t 51) (.c (.sc (.int .i64 (0)))))⟩,
  ⟨(some 53), none, (.pick (.t 50) (.c (.sc (.bool true))) (.t 52))⟩,
  ⟨(some 54), none, (.mv (.t 53))⟩,
  ⟨(some 55), (some (54, false)), (.mv (.t 9))⟩,
  ⟨(some 56), (some (54, false)), (.bin .neq (.t 55) (.c (.sc (.int .i64 (0)))))⟩,
  ⟨(some 57), none, (.pick (.t 54) (.c (.sc (.bool true))) (.t 56))⟩,
  ⟨(some 58), none, (.mv (.t 57))⟩,
  ⟨(some 59), (some (58, false)), (.mv (.t 11))⟩,
  ⟨(some 60), (some (58, false)), (.bin .neq (.t 59) (.c (.sc (.int .i64 (0)))))⟩,
  ⟨(some 61), none, (.pick (.t 58) (.c (.sc (.bool true))) (.t 60))⟩] none)
 (.cond (.t 61)
 (.seq (.reg [⟨(some 0), none, (.mv (.c (.sc (.bool false))))⟩] none) .ret) .skip))
 (.seq (.reg [⟨(some 62), none, (.mv (.t 1))⟩,
  ⟨(some 63), none, (.bslice 3 1 [(.c (.sc (.int .i64 (0))))])⟩,
  ⟨(some 64), none, (.call 23 [(.t 62), (.t 63)])⟩,
  ⟨(some 65), none, (.mv (.t 64))⟩,
  ⟨(some 66), (some (65, true)), (.mv (.t 3))⟩,
  ⟨(some 67), (some (65, true)), (.len (.t 66))⟩,
  ⟨(some 68), (some (65, true)), (.bin .eql (.t 67) (.c (.sc (.int .i64 (0)))))⟩,
  ⟨(some 69), none, (.pick (.t 65) (.t 68) (.c (.sc (.bool false))))⟩,
  ⟨(some 70), none, (.mv (.t 69))⟩,
  ⟨(some 71), (some (70, true)), (.mv (.t 5))⟩,
  ⟨(some 72), (some (70, true)), (.len (.t 71))⟩,
  ⟨(some 73), (some (70, true)), (.bin .eql (.t 72) (.c (.sc (.int .i64 (0)))))⟩,
  ⟨(some 74), none, (.pick (.t 70) (.t 73) (.c (.sc (.bool false))))⟩,
  ⟨(some 75), none, (.mv (.t 74))⟩,
  ⟨(some 76), (some (75, true)), (.mv (.t 8))⟩,
  ⟨(some 77), (some (75, true)), (.bslice 3 1 [(.c (.sc (.int .i64 (0))))])⟩,
  ⟨(some 78), (some (75, true)), (.call 23 [(.t 76), (.t 77)])⟩,
  ⟨(some 79), none, (.pick (.t 75) (.t 78) (.c (.sc (.bool false))))⟩,
  ⟨(some 80), none, (.mv (.t 79))⟩,
  ⟨(some 81), (some (80, true)), (.mv (.t 10))⟩,
  ⟨(some 82), (some (80, true)), (.bslice 3 1 [(.c (.sc (.int .i64 (0))))])⟩,
  ⟨(some 83), (some (80, true)), (.call 23 [(.t 81), (.t 82)])⟩,
  ⟨(some 84), none, (.pick (.t 80) (.t 83) (.c (.sc (.bool false))))⟩,
  ⟨(some 85), none, (.mv (.t 84))⟩,
  ⟨(some 86), (some (85, true)), (.load 4 true (.t 7))⟩,
  ⟨(some 87), (some (85, true)), (.bslice 30 4 [(.t 86)])⟩,
  ⟨(some 88), (some (85, true)), (.call 18 [(.t 87), (.c (.sc (.int .i64 (5)))), (.c (.sc (.int .i64 (5000))))])⟩,
  ⟨(some 89), none, (.pick (.t 85) (.t 88) (.c (.sc (.bool false))))⟩,
  ⟨(some 90), none, (.mv (.t 89))⟩,
  ⟨(some 91), (some (90, true)), (.load 4 true (.t 7))⟩,
  ⟨(some 92), (some (90, true)), (.bslice 30 4 [(.t 91)])⟩,
  ⟨(some 93), (some (90, true)), (.call 18 [(.t 92), (.c (.sc (.int .i64 (5)))), (.c (.sc (.int .i64 (4999))))])⟩,
  ⟨(some 94), (some (90, true)), (.un .not (.t 93))⟩,
  ⟨(some 95), none, (.pick (.t 90) (.t 94) (.c (.sc (.bool false))))⟩,
  ⟨(some 96), none, (.mv (.t 95))⟩,
  ⟨(some 97), (some (96, true)), (.build [(.sc (.int .i64 (0))), (.sc (.int .i64 (0))), (.sc (.int .i64 (0)))] [])⟩,
  ⟨(some 98), (some (96, true)), (.bslice 47 3 [(.t 97)])⟩,
  ⟨(some 99), (some (96, true)), (.call 12 [(.t 98)])⟩,
  ⟨(some 100), (some (96, true)), (.bin .eql (.t 99) (.c (.sc (.int .i64 (1)))))⟩,
  ⟨(some 101), none, (.pick (.t 96) (.t 100) (.c (.sc (.bool false))))⟩,
  ⟨(some 0), none, (.mv (.t 101))⟩] none) .ret)))))))))
theorem good11 {args : List PV} {r : PV} (hl : args.length ≤ 102) (h : Run Try.prog [.code ac11] (endQ [(.t 0)] r) ⟨initT 0 args, [], 0, 102⟩) : Good Try.prog 11 args r :=
  good_run (by kernel_rfl) Iamix Try.func11 rfl (hs := []) (hs' := []) (by kernel_rfl) hl h
def ac12 : ACode :=
 (.seq (.reg [⟨(some 2), none, (.mv (.c (.sc (.int .i64 (0)))))⟩] none)
 (.seq (.seq (.reg [⟨(some 8), none, (.mv (.t 0))⟩,
  ⟨(some 9), none, (.len (.t 8))⟩,
  ⟨(some 10), none, (.bin .gtr (.t 9) (.c (.sc (.int .i64 (8)))))⟩] none)
 (.cond (.t 10)
 (.seq (.reg [⟨(some 2), none, (.mv (.c (.sc (.int .i64 (8)))))⟩] none) .ret) .skip))
 (.seq (.seq (.reg [⟨(some 11), none, (.mv (.t 0))⟩,
  ⟨(some 12), none, (.len (.t 11))⟩,
  ⟨(some 13), none, (.mv (.c (.sc (.int .i64 (0)))))⟩] none) (.block 0 
 (.loop ⟨[0, 11, 12, 13], []⟩
 (.seq (.reg [⟨(some 14), none, (.bin .lss (.t 13) (.t 12))⟩] none)
 (.seq
 (.cond (.t 14) .skip (.exit 0))
 (.seq (.block 1
 (.seq (.reg [⟨(some 15), none, (.iaddr 3 (.t 11) (.t 13))⟩,
  ⟨(some 16), none, (.load 3 true (.t 15))⟩,
  ⟨(some 4), none, (.new [(.sc (.int .i64 (0))), (.sc (.int .i64 (0))), (.sc (.int .i64 (0)))])⟩,
  ⟨none, none, (.store 3 (.t 4) (.t 16))⟩] none) (.block 2
 (.seq (.reg [⟨(some 18), none, (.faddr 0 (.t 4))⟩,
  ⟨(some 19), none, (.load 1 false (.t 18))⟩,
  ⟨(some 20), none, (.call 27 [(.t 19)])⟩,
  ⟨(some 21), none, (.un .not (.t 20))⟩,
  ⟨(some 17), none, (.mv (.t 21))⟩] none)
 (.cond (.t 17)
 (.seq (.reg [⟨(some 2), none, (.mv (.c (.sc (.int .i64 (14)))))⟩] none) .ret)
 (.seq (.reg [⟨(some 23), none, (.faddr 1 (.t 4))⟩,
  ⟨(some 24), none, (.load 1 false (.t 23))⟩,
  ⟨(some 25), none, (.bin .lss (.t 24) (.c (.sc (.int .i64 (1)))))⟩,
  ⟨(some 26), none, (.mv (.t 25))⟩,
  ⟨(some 27), (some (26, false)), (.faddr 1 (.t 4))⟩,
  ⟨(some 28), (some (26, false)), (.load 1 false (.t 27))⟩,
  ⟨(some 29), (some (26, false)), (.bin .gtr (.t 28) (.c (.sc (.int .i64 (1125899906842624)))))⟩,
  ⟨(some 30), none, (.pick (.t 26) (.c (.sc (.bool true))) (.t 29))⟩,
  ⟨(some 31), none, (.mv (.t 30))⟩,
  ⟨(some 32), (some (31, false)), (.faddr 2 (.t 4))⟩,
  ⟨(some 33), (some (31, false)), (.load 1 false (.t 32))⟩,
  ⟨(some 34), (some (31, false)), (.bin .lss (.t 33) (.c (.sc (.int .i64 (1)))))⟩,
  ⟨(some 35), none, (.pick (.t 31) (.c (.sc (.bool true))) (.t 34))⟩,
  ⟨(some 36), none, (.mv (.t 35))⟩,
  ⟨(some 37), (some (36, false)), (.faddr 2 (.t 4))⟩,
  ⟨(some 38), (some (36, false)), (.load 1 false (.t 37))⟩,
  ⟨(some 39), (some (36, false)), (.bin .gtr (.t 38) (.c (.sc (.int .i64 (49709)))))⟩,
  ⟨(some 40), none, (.pick (.t 36) (.c (.sc (.bool true))) (.t 39))⟩,
  ⟨(some 22), none, (.mv (.t 40))⟩] none)
 (.cond (.t 22)
 (.seq (.reg [⟨(some 2), none, (.mv (.c (.sc (.int .i64 (1)))))⟩] none) .ret) .skip))))))) (.reg [⟨(some 41), none, (.bin .add (.t 13) (.c (.sc (.int .i64 (1)))))⟩,
  ⟨(some 13), none, (.mv (.t 41))⟩] none)))))))
 (.seq (.reg [⟨(some 5), none, (.new [(.sc (.bool false)), (.sc (.bool false)), (.sc (.bool false)), (.sc (.bool false)), (.sc (.bool false)), (.sc (.bool false)), (.sc (.bool false)), (.sc (.bool false))])⟩] none)
 (.seq (.seq (.reg [⟨(some 42), none, (.mv (.t 0))⟩,
  ⟨(some 43), none, (.len (.t 42))⟩,
  ⟨(some 44), none, (.mv (.c (.sc (.int .i64 (0)))))⟩] none) (.block 3 
 (.loop ⟨[5, 42, 43, 44], []⟩
 (.seq (.reg [⟨(some 45), none, (.bin .lss (.t 44) (.t 43))⟩] none)
 (.seq
 (.cond (.t 45) .skip (.exit 3))
 (.seq (.block 4
 (.seq (.reg [⟨(some 46), none, (.iaddr 3 (.t 42) (.t 44))⟩,
  ⟨(some 47), none, (.load 3 true (.t 46))⟩,
  ⟨(some 7), none, (.new [(.sc (.int .i64 (0))), (.sc (.int .i64 (0))), (.sc (.int .i64 (0)))])⟩,
  ⟨none, none, (.store 3 (.t 7) (.t 47))⟩] none)
 (.seq (.seq (.reg [⟨(some 48), none, (.faddr 0 (.t 7))⟩,
  ⟨(some 49), none, (.load 1 false (.t 48))⟩,
  ⟨(some 50), none, (.iaddrA 1 8 (.t 5) (.t 49))⟩,
  ⟨(some 51), none, (.load 1 false (.t 50))⟩] none)
 (.cond (.t 51)
 (.seq (.reg [⟨(some 2), none, (.mv (.c (.sc (.int .i64 (6)))))⟩] none) .ret) .skip)) (.reg [⟨(some 52), none, (.faddr 0 (.t 7))⟩,
  ⟨(some 53), none, (.load 1 false (.t 52))⟩,
  ⟨(some 54), none, (.iaddrA 1 8 (.t 5) (.t 53))⟩,
  ⟨none, none, (.store 1 (.t 54) (.c (.sc (.bool true))))⟩] none)))) (.reg [⟨(some 55), none, (.bin .add (.t 44) (.c (.sc (.int .i64 (1)))))⟩,
  ⟨(some 44), none, (.mv (.t 55))⟩] none)))))))
 (.seq (.reg [⟨(some 2), none, (.mv (.c (.sc (.int .i64 (0)))))⟩] none) .ret))))))
theorem good12 {args : List PV} {r : PV} (hl : args.length ≤ 56) (h : Run Try.prog [.code ac12] (endQ [(.t 2)] r) ⟨initT 0 args, [], 0, 56⟩) : Good Try.prog 12 args r :=
  good_run (by kernel_rfl) Iamix Try.func12 rfl (hs := [⟨[0, 11, 12, 13], []⟩, ⟨[5, 42, 43, 44], []⟩]) (hs' := []) (by kernel_rfl) hl h
def ac13 : ACode :=
 (.seq (.reg [⟨(some 2), none, (.mv (.c (.sc (.int .i64 (0)))))⟩] none)
 (.seq (.seq (.reg [⟨(some 6), none, (.mv (.t 0))⟩,
  ⟨(some 7), none, (.len (.t 6))⟩,
  ⟨(some 8), none, (.bin .gtr (.t 7) (.c (.sc (.int .i64 (8)))))⟩] none)
 (.cond (.t 8)
 (.seq (.reg [⟨(some 2), none, (.mv (.c (.sc (.int .i64 (8)))))⟩] none) .ret) .skip))
 (.seq (.seq (.reg [⟨(some 3), none, (.mv (.c (.sc (.int .i64 (0)))))⟩] none) (.block 0 
 (.loop ⟨[0, 3], []⟩
 (.seq (.seq (.reg [⟨(some 9), none, (.mv (.t 3))⟩,
  ⟨(some 10), none, (.mv (.t 0))⟩,
  ⟨(some 11), none, (.len (.t 10))⟩,
  ⟨(some 12), none, (.bin .lss (.t 9) (.t 11))⟩] none)
 (.cond (.t 12) .skip (.exit 0)))
 (.seq (.block 1
 (.seq (.seq (.reg [⟨(some 15), none, (.mv (.t 0))⟩,
  ⟨(some 16), none, (.mv (.t 3))⟩,
  ⟨(some 17), none, (.iaddr 3 (.t 15) (.t 16))⟩,
  ⟨(some 18), none, (.faddr 0 (.t 17))⟩,
  ⟨(some 19), none, (.load 1 false (.t 18))⟩,
  ⟨(some 20), none, (.call 28 [(.t 19)])⟩,
  ⟨(some 21), none, (.un .not (.t 20))⟩] none)
 (.cond (.t 21)
 (.seq (.reg [⟨(some 2), none, (.mv (.c (.sc (.int .i64 (14)))))⟩] none) .ret) .skip))
 (.seq (.reg [⟨(some 22), none, (.mv (.t 0))⟩,
  ⟨(some 23), none, (.mv (.t 3))⟩,
  ⟨(some 24), none, (.iaddr 3 (.t 22) (.t 23))⟩,
  ⟨(some 25), none, (.faddr 1 (.t 24))⟩,
  ⟨(some 26), none, (.load 1 false (.t 25))⟩,
  ⟨(some 27), none, (.bin .lss (.t 26) (.c (.sc (.int .i64 (1)))))⟩,
  ⟨(some 28), none, (.mv (.t 27))⟩,
  ⟨(some 29), (some (28, false)), (.mv (.t 0))⟩,
  ⟨(some 30), (some (28, false)), (.mv (.t 3))⟩,
  ⟨(some 31), (some (28, false)), (.iaddr 3 (.t 29) (.t 30))⟩,
  ⟨(some 32), (some (28, false)), (.faddr 1 (.t 31))⟩,
  ⟨(some 33), (some (28, false)), (.load 1 false (.t 32))⟩,
  ⟨(some 34), (some (28, false)), (.bin .gtr (.t 33) (.c (.sc (.int .i64 (1125899906842624)))))⟩,
  ⟨(some 35), none, (.pick (.t 28) (.c (.sc (.bool true))) (.t 34))⟩,
  ⟨(some 36), none, (.mv (.t 35))⟩,
  ⟨(some 37), (some (36, false)), (.mv (.t 0))⟩,
  ⟨(some 38), (some (36, false)), (.mv (.t 3))⟩,
  ⟨(some 39), (some (36, false)), (.iaddr 3 (.t 37) (.t 38))⟩,
  ⟨(some 40), (some (36, false)), (.faddr 2 (.t 39))⟩,
  ⟨(some 41), (some (36, false)), (.load 1 false (.t 40))⟩,
  ⟨(some 42), (some (36, false)), (.bin .lss (.t 41) (.c (.sc (.int .i64 (1)))))⟩,
  ⟨(some 43), none, (.pick (.t 36) (.c (.sc (.bool true))) (.t 42))⟩,
  ⟨(some 44), none, (.mv (.t 43))⟩,
  ⟨(some 45), (some (44, false)), (.mv (.t 0))⟩,
  ⟨(some 46), (some (44, false)), (.mv (.t 3))⟩,
  ⟨(some 47), (some (44, false)), (.iaddr 3 (.t 45) (.t 46))⟩,
  ⟨(some 48), (some (44, false)), (.faddr 2 (.t 47))⟩,
  ⟨(some 49), (some (44, false)), (.load 1 false (.t 48))⟩,
  ⟨(some 50), (some (44, false)), (.bin .gtr (.t 49) (.c (.sc (.int .i64 (49709)))))⟩,
  ⟨(some 51), none, (.pick (.t 44) (.c (.sc (.bool true))) (.t 50))⟩] none)
 (.cond (.t 51)
 (.seq (.reg [⟨(some 2), none, (.mv (.c (.sc (.int .i64 (1)))))⟩] none) .ret) .skip)))) (.reg [⟨(some 13), none, (.mv (.t 3))⟩,
  ⟨(some 14), none, (.bin .add (.t 13) (.c (.sc (.int .i64 (1)))))⟩,
  ⟨(some 3), none, (.mv (.t 14))⟩] none))))))
 (.seq (.seq (.reg [⟨(some 4), none, (.mv (.c (.sc (.int .i64 (0)))))⟩] none) (.block 2 
 (.loop ⟨[0, 4], []⟩
 (.seq (.seq (.reg [⟨(some 52), none, (.mv (.t 4))⟩,
  ⟨(some 53), none, (.mv (.t 0))⟩,
  ⟨(some 54), none, (.len (.t 53))⟩,
  ⟨(some 55), none, (.bin .lss (.t 52) (.t 54))⟩] none)
 (.cond (.t 55) .skip (.exit 2)))
 (.seq (.block 3
 (.seq (.reg [⟨(some 5), none, (.mv (.c (.sc (.int .i64 (0)))))⟩] none) (.block 4 
 (.loop ⟨[0, 4, 5], []⟩
 (.seq (.seq (.reg [⟨(some 58), none, (.mv (.t 5))⟩,
  ⟨(some 59), none, (.mv (.t 4))⟩,
  ⟨(some 60), none, (.bin .lss (.t 58) (.t 59))⟩] none)
 (.cond (.t 60) .skip (.exit 4)))
 (.seq (.block 5
 (.seq (.reg [⟨(some 63), none, (.mv (.t 0))⟩,
  ⟨(some 64), none, (.mv (.t 4))⟩,
  ⟨(some 65), none, (.iaddr 3 (.t 63) (.t 64))⟩,
  ⟨(some 66), none, (.faddr 0 (.t 65))⟩,
  ⟨(some 67), none, (.load 1 false (.t 66))⟩,
  ⟨(some 68), none, (.mv (.t 0))⟩,
  ⟨(some 69), none, (.mv (.t 5))⟩,
  ⟨(some 70), none, (.iaddr 3 (.t 68) (.t 69))⟩,
  ⟨(some 71), none, (.faddr 0 (.t 70))⟩,
  ⟨(some 72), none, (.load 1 false (.t 71))⟩,
  ⟨(some 73), none, (.bin .eql (.t 67) (.t 72))⟩] (some [[], [], [0, 1], [2, 0, 1], [3, 2, 0, 1], [], [], [5, 6], [7, 5, 6], [8, 7, 5, 6], [4, 9, 3, 2, 0, 1, 8, 7, 5, 6]]))
 (.cond (.t 73)
 (.seq (.reg [⟨(some 2), none, (.mv (.c (.sc (.int .i64 (6)))))⟩] none) .ret) .skip))) (.reg [⟨(some 61), none, (.mv (.t 5))⟩,
  ⟨(some 62), none, (.bin .add (.t 61) (.c (.sc (.int .i64 (1)))))⟩,
  ⟨(some 5), none, (.mv (.t 62))⟩] none))))))) (.reg [⟨(some 56), none, (.mv (.t 4))⟩,
  ⟨(some 57), none, (.bin .add (.t 56) (.c (.sc (.int .i64 (1)))))⟩,
  ⟨(some 4), none, (.mv (.t 57))⟩] none))))))
 (.seq (.reg [⟨(some 2), none, (.mv (.c (.sc (.int .i64 (0)))))⟩] none) .ret)))))
theorem good13 {args : List PV} {r : PV} (hl : args.length ≤ 74) (h : Run Try.prog [.code ac13] (endQ [(.t 2)] r) ⟨initT 0 args, [], 0, 74⟩) : Good Try.prog 13 args r :=
  good_run (by kernel_rfl) Iamix Try.func13 rfl (hs := [⟨[0, 3], []⟩, ⟨[0, 4], []⟩, ⟨[0, 4, 5], []⟩]) (hs' := []) (by kernel_rfl) hl h
def ac15 : ACode :=
 (.seq (.reg [⟨(some 2), none, (.mv (.c (.sc (.int .i64 (0)))))⟩] none)
 (.seq (.seq (.reg [⟨(some 6), none, (.mv (.t 0))⟩,
  ⟨(some 7), none, (.len (.t 6))⟩,
  ⟨(some 8), none, (.bin .gtr (.t 7) (.c (.sc (.int .i64 (512)))))⟩] none)
 (.cond (.t 8)
 (.seq (.reg [⟨(some 2), none, (.mv (.c (.sc (.int .i64 (8)))))⟩] none) .ret) .skip))
 (.seq (.seq (.reg [⟨(some 3), none, (.mv (.c (.sc (.int .i64 (0)))))⟩] none) (.block 0 
 (.loop ⟨[0, 3], []⟩
 (.seq (.seq (.reg [⟨(some 9), none, (.mv (.t 3))⟩,
  ⟨(some 10), none, (.mv (.t 0))⟩,
  ⟨(some 11), none, (.len (.t 10))⟩,
  ⟨(some 12), none, (.bin .lss (.t 9) (.t 11))⟩] none)
 (.cond (.t 12) .skip (.exit 0)))
 (.seq (.block 1
 (.seq (.seq (.reg [⟨(some 15), none, (.mv (.t 0))⟩,
  ⟨(some 16), none, (.mv (.t 3))⟩,
  ⟨(some 17), none, (.iaddr 4 (.t 15) (.t 16))⟩,
  ⟨(some 18), none, (.faddr 0 (.t 17))⟩,
  ⟨(some 19), none, (.load 1 false (.t 18))⟩,
  ⟨(some 20), none, (.bin .lss (.t 19) (.c (.sc (.int .i64 (0)))))⟩,
  ⟨(some 21), none, (.mv (.t 20))⟩,
  ⟨(some 22), (some (21, false)), (.mv (.t 0))⟩,
  ⟨(some 23), (some (21, false)), (.mv (.t 3))⟩,
  ⟨(some 24), (some (21, false)), (.iaddr 4 (.t 22) (.t 23))⟩,
  ⟨(some 25), (some (21, false)), (.faddr 0 (.t 24))⟩,
  ⟨(some 26), (some (21, false)), (.load 1 false (.t 25))⟩,
  ⟨(some 27), (some (21, false)), (.bin .geq (.t 26) (.c (.sc (.int .i64 (128)))))⟩,
  ⟨(some 28), none, (.pick (.t 21) (.c (.sc (.bool true))) (.t 27))⟩] none)
 (.cond (.t 28)
 (.seq (.reg [⟨(some 2), none, (.mv (.c (.sc (.int .i64 (1)))))⟩] none) .ret) .skip))
 (.seq (.seq (.reg [⟨(some 29), none, (.mv (.t 0))⟩,
  ⟨(some 30), none, (.mv (.t 3))⟩,
  ⟨(some 31), none, (.iaddr 4 (.t 29) (.t 30))⟩,
  ⟨(some 32), none, (.faddr 1 (.t 31))⟩,
  ⟨(some 33), none, (.load 1 false (.t 32))⟩,
  ⟨(some 34), none, (.call 28 [(.t 33)])⟩,
  ⟨(some 35), none, (.un .not (.t 34))⟩] none)
 (.cond (.t 35)
 (.seq (.reg [⟨(some 2), none, (.mv (.c (.sc (.int .i64 (14)))))⟩] none) .ret) .skip))
 (.seq (.reg [⟨(some 36), none, (.mv (.t 0))⟩,
  ⟨(some 37), none, (.mv (.t 3))⟩,
  ⟨(some 38), none, (.iaddr 4 (.t 36) (.t 37))⟩,
  ⟨(some 39), none, (.faddr 2 (.t 38))⟩,
  ⟨(some 40), none, (.load 1 false (.t 39))⟩,
  ⟨(some 41), none, (.bin .lss (.t 40) (.c (.sc (.int .i64 (0)))))⟩,
  ⟨(some 42), none, (.mv (.t 41))⟩,
  ⟨(some 43), (some (42, false)), (.mv (.t 0))⟩,
  ⟨(some 44), (some (42, false)), (.mv (.t 3))⟩,
  ⟨(some 45), (some (42, false)), (.iaddr 4 (.t 43) (.t 44))⟩,
  ⟨(some 46), (some (42, false)), (.faddr 2 (.t 45))⟩,
  ⟨(some 47), (some (42, false)), (.load 1 false (.t 46))⟩,
  ⟨(some 48), (some (42, false)), (.bin .gtr (.t 47) (.c (.sc (.int .i64 (4294943999)))))⟩,
  ⟨(some 49), none, (.pick (.t 42) (.c (.sc (.bool true))) (.t 48))⟩] none)
 (.cond (.t 49)
 (.seq (.reg [⟨(some 2), none, (.mv (.c (.sc (.int .i64 (1)))))⟩] none) .ret) .skip))))) (.reg [⟨(some 13), none, (.mv (.t 3))⟩,
  ⟨(some 14), none, (.bin .add (.t 13) (.c (.sc (.int .i64 (1)))))⟩,
  ⟨(some 3), none, (.mv (.t 14))⟩] none))))))
 (.seq (.seq (.reg [⟨(some 4), none, (.mv (.c (.sc (.int .i64 (0)))))⟩] none) (.block 2 
 (.loop ⟨[0, 4], []⟩
 (.seq (.seq (.reg [⟨(some 50), none, (.mv (.t 4))⟩,
  ⟨(some 51), none, (.mv (.t 0))⟩,
  ⟨(some 52), none, (.len (.t 51))⟩,
  ⟨(some 53), none, (.bin .lss (.t 50) (.t 52))⟩] none)
 (.cond (.t 53) .skip (.exit 2)))
 (.seq (.block 3
 (.seq (.reg [⟨(some 5), none, (.mv (.c (.sc (.int .i64 (0)))))⟩] none) (.block 4 
 (.loop ⟨[0, 4, 5], []⟩
 (.seq (.seq (.reg [⟨(some 56), none, (.mv (.t 5))⟩,
  ⟨(some 57), none, (.mv (.t 4))⟩,
  ⟨(some 58), none, (.bin .lss (.t 56) (.t 57))⟩] none)
 (.cond (.t 58) .skip (.exit 4)))
 (.seq (.block 5
 (.seq (.reg [⟨(some 61), none, (.mv (.t 0))⟩,
  ⟨(some 62), none, (.mv (.t 4))⟩,
  ⟨(some 63), none, (.iaddr 4 (.t 61) (.t 62))⟩,
  ⟨(some 64), none, (.faddr 0 (.t 63))⟩,
  ⟨(some 65), none, (.load 1 false (.t 64))⟩,
  ⟨(some 66), none, (.mv (.t 0))⟩,
  ⟨(some 67), none, (.mv (.t 5))⟩,
  ⟨(some 68), none, (.iaddr 4 (.t 66) (.t 67))⟩,
  ⟨(some 69), none, (.faddr 0 (.t 68))⟩,
  ⟨(some 70), none, (.load 1 false (.t 69))⟩,
  ⟨(some 71), none, (.bin .eql (.t 65) (.t 70))⟩,
  ⟨(some 72), none, (.mv (.t 71))⟩,
  ⟨(some 73), (some (72, true)), (.mv (.t 0))⟩,
  ⟨(some 74), (some (72, true)), (.mv (.t 4))⟩,
  ⟨(some 75), (some (72, true)), (.iaddr 4 (.t 73) (.t 74))⟩,
  ⟨(some 76), (some (72, true)), (.faddr 1 (.t 75))⟩,
  ⟨(some 77), (some (72, true)), (.load 1 false (.t 76))⟩,
  ⟨(some 78), (some (72, true)), (.mv (.t 0))⟩,
  ⟨(some 79), (some (72, true)), (.mv (.t 5))⟩,
  ⟨(some 80), (some (72, true)), (.iaddr 4 (.t 78) (.t 79))⟩,
  ⟨(some 81), (some (72, true)), (.faddr 1 (.t 80))⟩,
  ⟨(some 82), (some (72, true)), (.load 1 false (.t 81))⟩,
  ⟨(some 83), (some (72, true)), (.bin .eql (.t 77) (.t 82))⟩,
  ⟨(some 84), none, (.pick (.t 72) (.t 83) (.c (.sc (.bool false))))⟩,
  ⟨(some 85), none, (.mv (.t 84))⟩,
  ⟨(some 86), (some (85, true)), (.mv (.t 0))⟩,
  ⟨(some 87), (some (85, true)), (.mv (.t 4))⟩,
  ⟨(some 88), (some (85, true)), (.iaddr 4 (.t 86) (.t 87))⟩,
  ⟨(some 89), (some (85, true)), (.faddr 2 (.t 88))⟩,
  ⟨(some 90), (some (85, true)), (.load 1 false (.t 89))⟩,
  ⟨(some 91), (some (85, true)), (.mv (.t 0))⟩,
  ⟨(some 92), (some (85, true)), (.mv (.t 5))⟩,
  ⟨(some 93), (some (85, true)), (.iaddr 4 (.t 91) (.t 92))⟩,
  ⟨(some 94), (some (85, true)), (.faddr 2 (.t 93))⟩,
  ⟨(some 95), (some (85, true)), (.load 1 false (.t 94))⟩,
  ⟨(some 96), (some (85, true)), (.bin .eql (.t 90) (.t 95))⟩,
  ⟨(some 97), none, (.pick (.t 85) (.t 96) (.c (.sc (.bool false))))⟩] (some [[], [], [0, 1], [2, 0, 1], [3, 2, 0, 1], [], [], [5, 6], [7, 5, 6], [8, 7, 5, 6], [4, 9, 3, 2, 0, 1, 8, 7, 5, 6], [10, 4, 9, 3, 2, 0, 1, 8, 7, 5, 6], [11, 10, 4, 9, 3, 2, 0, 1, 8, 7, 5, 6], [11, 10, 4, 9, 3, 2, 0, 1, 8, 7, 5, 6], [12, 13, 11, 10, 4, 9, 3, 2, 0, 1, 8, 7, 5, 6], [14, 11, 12, 13, 10, 4, 9, 3, 2, 0, 1, 8, 7, 5, 6], [15, 11, 14, 12, 13, 10, 4, 9, 3, 2, 0, 1, 8, 7, 5, 6], [11, 10, 4, 9, 3, 2, 0, 1, 8, 7, 5, 6], [11, 10, 4, 9, 3, 2, 0, 1, 8, 7, 5, 6], [17, 18, 11, 10, 4, 9, 3, 2, 0, 1, 8, 7, 5, 6], [19, 11, 17, 18, 10, 4, 9, 3, 2, 0, 1, 8, 7, 5, 6], [20, 11, 19, 17, 18, 10, 4, 9, 3, 2, 0, 1, 8, 7, 5, 6], [16, 21, 11, 15, 14, 12, 13, 10, 4, 9, 3, 2, 0, 1, 8, 7, 5, 6, 20, 19, 17, 18], [11, 22, 10, 4, 9, 3, 2, 0, 1, 8, 7, 5, 6, 16, 21, 15, 14, 12, 13, 20, 19, 17, 18], [23, 11, 22, 10, 4, 9, 3, 2, 0, 1, 8, 7, 5, 6, 16, 21, 15, 14, 12, 13, 20, 19, 17, 18], [24, 23, 11, 22, 10, 4, 9, 3, 2, 0, 1, 8, 7, 5, 6, 16, 21, 15, 14, 12, 13, 20, 19, 17, 18], [24, 23, 11, 22, 10, 4, 9, 3, 2, 0, 1, 8, 7, 5, 6, 16, 21, 15, 14, 12, 13, 20, 19, 17, 18], [25, 26, 24, 23, 11, 22, 10, 4, 9, 3, 2, 0, 1, 8, 7, 5, 6, 16, 21, 15, 14, 12, 13, 20, 19, 17, 18], [27, 24, 25, 26, 23, 11, 22, 10, 4, 9, 3, 2, 0, 1, 8, 7, 5, 6, 16, 21, 15, 14, 12, 13, 20, 19, 17, 18], [28, 24, 27, 25, 26, 23, 11, 22, 10, 4, 9, 3, 2, 0, 1, 8, 7, 5, 6, 16, 21, 15, 14, 12, 13, 20, 19, 17, 18], [24, 23, 11, 22, 10, 4, 9, 3, 2, 0, 1, 8, 7, 5, 6, 16, 21, 15, 14, 12, 13, 20, 19, 17, 18], [24, 23, 11, 22, 10, 4, 9, 3, 2, 0, 1, 8, 7, 5, 6, 16, 21, 15, 14, 12, 13, 20, 19, 17, 18], [30, 31, 24, 23, 11, 22, 10, 4, 9, 3, 2, 0, 1, 8, 7, 5, 6, 16, 21, 15, 14, 12, 13, 20, 19, 17, 18], [32, 24, 30, 31, 23, 11, 22, 10, 4, 9, 3, 2, 0, 1, 8, 7, 5, 6, 16, 21, 15, 14, 12, 13, 20, 19, 17, 18], [33, 24, 32, 30, 31, 23, 11, 22, 10, 4, 9, 3, 2, 0, 1, 8, 7, 5, 6, 16, 21, 15, 14, 12, 13, 20, 19, 17, 18], [29, 34, 24, 28, 27, 25, 26, 23, 11, 22, 10, 4, 9, 3, 2, 0, 1, 8, 7, 5, 6, 16, 21, 15, 14, 12, 13, 20, 19, 17, 18, 33, 32, 30, 31], [24, 35, 23, 11, 22, 10, 4, 9, 3, 2, 0, 1, 8, 7, 5, 6, 16, 21, 15, 14, 12, 13, 20, 19, 17, 18, 29, 34, 28, 27, 25, 26, 33, 32, 30, 31]]))
 (.cond (.t 97)
 (.seq (.reg [⟨(some 2), none, (.mv (.c (.sc (.int .i64 (6)))))⟩] none) .ret) .skip))) (.reg [⟨(some 59), none, (.mv (.t 5))⟩,
  ⟨(some 60), none, (.bin .add (.t 59) (.c (.sc (.int .i64 (1)))))⟩,
  ⟨(some 5), none, (.mv (.t 60))⟩] none))))))) (.reg [⟨(some 54), none, (.mv (.t 4))⟩,
  ⟨(some 55), none, (.bin .add (.t 54) (.c (.sc (.int .i64 (1)))))⟩,
  ⟨(some 4), none, (.mv (.t 55))⟩] none))))))
 (.seq (.reg [⟨(some 2), none, (.mv (.c (.sc (.int .i64 (0)))))⟩] none) .ret)))))
theorem good15 {args : List PV} {r : PV} (hl : args.length ≤ 98) (h : Run Try.prog [.code ac15] (endQ [(.t 2)] r) ⟨initT 0 args, [], 0, 98⟩) : Good Try.prog 15 args r :=
  good_run (by kernel_rfl) Iamix Try.func15 rfl (hs := [⟨[0, 3], []⟩, ⟨[0, 4], []⟩, ⟨[0, 4, 5], []⟩]) (hs' := []) (by kernel_rfl) hl h
def ac17 : ACode :=
 (.seq (.reg [⟨(some 8), none, (.new [(.sc (.int .i64 (0))), (.sc (.int .i64 (0))), (.sc (.int .i64 (0))), (.sc (.bool false))])⟩,
  ⟨(some 9), none, (.mv (.c (.sc (.bool false))))⟩] none)
 (.seq (.reg [⟨(some 10), none, (.mv (.c (.sc (.int .i64 (-1)))))⟩] none)
 (.seq (.seq (.reg [⟨(some 11), none, (.mv (.c (.sc (.int .i64 (0)))))⟩] none) (.block 0 
 (.loop ⟨[0, 1, 2, 3, 8, 10, 11], []⟩
 (.seq (.seq (.reg [⟨(some 12), none, (.mv (.t 11))⟩,
  ⟨(some 13), none, (.mv (.t 0))⟩,
  ⟨(some 14), none, (.len (.t 13))⟩,
  ⟨(some 15), none, (.bin .lss (.t 12) (.t 14))⟩] none)
 (.cond (.t 15) .skip (.exit 0)))
 (.seq (.block 1
 (.seq (.reg [⟨(some 18), none, (.mv (.t 0))⟩,
  ⟨(some 19), none, (.mv (.t 11))⟩,
  ⟨(some 20), none, (.iaddr 4 (.t 18) (.t 19))⟩,
  ⟨(some 21), none, (.faddr 0 (.t 20))⟩,
  ⟨(some 22), none, (.load 1 false (.t 21))⟩,
  ⟨(some 23), none, (.mv (.t 1))⟩,
  ⟨(some 24), none, (.bin .eql (.t 22) (.t 23))⟩,
  ⟨(some 25), none, (.mv (.t 24))⟩,
  ⟨(some 26), (some (25, true)), (.mv (.t 0))⟩,
  ⟨(some 27), (some (25, true)), (.mv (.t 11))⟩,
  ⟨(some 28), (some (25, true)), (.iaddr 4 (.t 26) (.t 27))⟩,
  ⟨(some 29), (some (25, true)), (.faddr 1 (.t 28))⟩,
  ⟨(some 30), (some (25, true)), (.load 1 false (.t 29))⟩,
  ⟨(some 31), (some (25, true)), (.mv (.t 2))⟩,
  ⟨(some 32), (some (25, true)), (.bin .eql (.t 30) (.t 31))⟩,
  ⟨(some 33), none, (.pick (.t 25) (.t 32) (.c (.sc (.bool false))))⟩,
  ⟨(some 34), none, (.mv (.t 33))⟩,
  ⟨(some 35), (some (34, true)), (.mv (.t 0))⟩,
  ⟨(some 36), (some (34, true)), (.mv (.t 11))⟩,
  ⟨(some 37), (some (34, true)), (.iaddr 4 (.t 35) (.t 36))⟩,
  ⟨(some 38), (some (34, true)), (.faddr 2 (.t 37))⟩,
  ⟨(some 39), (some (34, true)), (.load 1 false (.t 38))⟩,
  ⟨(some 40), (some (34, true)), (.mv (.t 3))⟩,
  ⟨(some 41), (some (34, true)), (.bin .leq (.t 39) (.t 40))⟩,
  ⟨(some 42), none, (.pick (.t 34) (.t 41) (.c (.sc (.bool false))))⟩,
  ⟨(some 43), none, (.mv (.t 42))⟩,
  ⟨(some 44), (some (43, true)), (.mv (.t 10))⟩,
  ⟨(some 45), (some (43, true)), (.bin .lss (.t 44) (.c (.sc (.int .i64 (0)))))⟩,
  ⟨(some 46), (some (43, true)), (.mv (.t 45))⟩,
  ⟨(some 47), (some (46, false)), (.mv (.t 0))⟩,
  ⟨(some 48), (some (46, false)), (.mv (.t 11))⟩,
  ⟨(some 49), (some (46, false)), (.iaddr 4 (.t 47) (.t 48))⟩,
  ⟨(some 50), (some (46, false)), (.faddr 2 (.t 49))⟩,
  ⟨(some 51), (some (46, false)), (.load 1 false (.t 50))⟩,
  ⟨(some 52), (some (46, false)), (.mv (.t 0))⟩,
  ⟨(some 53), (some (46, false)), (.mv (.t 10))⟩,
  ⟨(some 54), (some (46, false)), (.iaddr 4 (.t 52) (.t 53))⟩,
  ⟨(some 55), (some (46, false)), (.faddr 2 (.t 54))⟩,
  ⟨(some 56), (some (46, false)), (.load 1 false (.t 55))⟩,
  ⟨(some 57), (some (46, false)), (.bin .gtr (.t 51) (.t 56))⟩,
  ⟨(some 58), (some (43, true)), (.pick (.t 46) (.c (.sc (.bool true))) (.t 57))⟩,
  ⟨(some 59), none, (.pick (.t 43) (.t 58) (.c (.sc (.bool false))))⟩] (some [[], [], [0, 1], [2, 0, 1], [3, 2, 0, 1], [], [4, 5, 3, 2, 0, 1], [6, 4, 5, 3, 2, 0, 1], [7, 6, 4, 5, 3, 2, 0, 1], [7, 6, 4, 5, 3, 2, 0, 1], [8, 9, 7, 6, 4, 5, 3, 2, 0, 1], [10, 7, 8, 9, 6, 4, 5, 3, 2, 0, 1], [11, 7, 10, 8, 9, 6, 4, 5, 3, 2, 0, 1], [7, 6, 4, 5, 3, 2, 0, 1], [12, 13, 7, 11, 10, 8, 9, 6, 4, 5, 3, 2, 0, 1], [7, 14, 6, 4, 5, 3, 2, 0, 1, 12, 13, 11, 10, 8, 9], [15, 7, 14, 6, 4, 5, 3, 2, 0, 1, 12, 13, 11, 10, 8, 9], [16, 15, 7, 14, 6, 4, 5, 3, 2, 0, 1, 12, 13, 11, 10, 8, 9], [16, 15, 7, 14, 6, 4, 5, 3, 2, 0, 1, 12, 13, 11, 10, 8, 9], [17, 18, 16, 15, 7, 14, 6, 4, 5, 3, 2, 0, 1, 12, 13, 11, 10, 8, 9], [19, 16, 17, 18, 15, 7, 14, 6, 4, 5, 3, 2, 0, 1, 12, 13, 11, 10, 8, 9], [20, 16, 19, 17, 18, 15, 7, 14, 6, 4, 5, 3, 2, 0, 1, 12, 13, 11, 10, 8, 9], [16, 15, 7, 14, 6, 4, 5, 3, 2, 0, 1, 12, 13, 11, 10, 8, 9], [21, 22, 16, 20, 19, 17, 18, 15, 7, 14, 6, 4, 5, 3, 2, 0, 1, 12, 13, 11, 10, 8, 9], [16, 23, 15, 7, 14, 6, 4, 5, 3, 2, 0, 1, 12, 13, 11, 10, 8, 9, 21, 22, 20, 19, 17, 18], [24, 16, 23, 15, 7, 14, 6, 4, 5, 3, 2, 0, 1, 12, 13, 11, 10, 8, 9, 21, 22, 20, 19, 17, 18], [25, 24, 16, 23, 15, 7, 14, 6, 4, 5, 3, 2, 0, 1, 12, 13, 11, 10, 8, 9, 21, 22, 20, 19, 17, 18], [26, 25, 24, 16, 23, 15, 7, 14, 6, 4, 5, 3, 2, 0, 1, 12, 13, 11, 10, 8, 9, 21, 22, 20, 19, 17, 18], [27, 25, 26, 24, 16, 23, 15, 7, 14, 6, 4, 5, 3, 2, 0, 1, 12, 13, 11, 10, 8, 9, 21, 22, 20, 19, 17, 18], [28, 27, 25, 26, 24, 16, 23, 15, 7, 14, 6, 4, 5, 3, 2, 0, 1, 12, 13, 11, 10, 8, 9, 21, 22, 20, 19, 17, 18], [28, 27, 25, 26, 24, 16, 23, 15, 7, 14, 6, 4, 5, 3, 2, 0, 1, 12, 13, 11, 10, 8, 9, 21, 22, 20, 19, 17, 18], [29, 30, 28, 27, 25, 26, 24, 16, 23, 15, 7, 14, 6, 4, 5, 3, 2, 0, 1, 12, 13, 11, 10, 8, 9, 21, 22, 20, 19, 17, 18], [31, 28, 29, 30, 27, 25, 26, 24, 16, 23, 15, 7, 14, 6, 4, 5, 3, 2, 0, 1, 12, 13, 11, 10, 8, 9, 21, 22, 20, 19, 17, 18], [32, 28, 31, 29, 30, 27, 25, 26, 24, 16, 23, 15, 7, 14, 6, 4, 5, 3, 2, 0, 1, 12, 13, 11, 10, 8, 9, 21, 22, 20, 19, 17, 18], [28, 27, 25, 26, 24, 16, 23, 15, 7, 14, 6, 4, 5, 3, 2, 0, 1, 12, 13, 11, 10, 8, 9, 21, 22, 20, 19, 17, 18], [28, 27, 25, 26, 24, 16, 23, 15, 7, 14, 6, 4, 5, 3, 2, 0, 1, 12, 13, 11, 10, 8, 9, 21, 22, 20, 19, 17, 18], [34, 35, 28, 27, 25, 26, 24, 16, 23, 15, 7, 14, 6, 4, 5, 3, 2, 0, 1, 12, 13, 11, 10, 8, 9, 21, 22, 20, 19, 17, 18], [36, 28, 34, 35, 27, 25, 26, 24, 16, 23, 15, 7, 14, 6, 4, 5, 3, 2, 0, 1, 12, 13, 11, 10, 8, 9, 21, 22, 20, 19, 17, 18], [37, 28, 36, 34, 35, 27, 25, 26, 24, 16, 23, 15, 7, 14, 6, 4, 5, 3, 2, 0, 1, 12, 13, 11, 10, 8, 9, 21, 22, 20, 19, 17, 18], [33, 38, 28, 32, 31, 29, 30, 27, 25, 26, 24, 16, 23, 15, 7, 14, 6, 4, 5, 3, 2, 0, 1, 12, 13, 11, 10, 8, 9, 21, 22, 20, 19, 17, 18, 37, 36, 34, 35], [28, 39, 25, 27, 26, 24, 16, 23, 15, 7, 14, 6, 4, 5, 3, 2, 0, 1, 12, 13, 11, 10, 8, 9, 21, 22, 20, 19, 17, 18, 33, 38, 32, 31, 29, 30, 37, 36, 34, 35], [25, 40, 24, 16, 23, 15, 7, 14, 6, 4, 5, 3, 2, 0, 1, 12, 13, 11, 10, 8, 9, 21, 22, 20, 19, 17, 18, 28, 39, 27, 26, 33, 38, 32, 31, 29, 30, 37, 36, 34, 35]]))
 (.cond (.t 59) (.reg [⟨(some 60), none, (.mv (.t 11))⟩,
  ⟨(some 10), none, (.mv (.t 60))⟩] none) .skip))) (.reg [⟨(some 16), none, (.mv (.t 11))⟩,
  ⟨(some 17), none, (.bin .add (.t 16) (.c (.sc (.int .i64 (1)))))⟩,
  ⟨(some 11), none, (.mv (.t 17))⟩] none))))))
 (.seq (.seq (.reg [⟨(some 61), none, (.mv (.t 10))⟩,
  ⟨(some 62), none, (.bin .lss (.t 61) (.c (.sc (.int .i64 (0)))))⟩] none)
 (.cond (.t 62)
 (.seq (.reg [⟨(some 63), none, (.build [(.sc (.int .i64 (0))), (.sc (.int .i64 (0))), (.sc (.int .i64 (0))), (.sc (.bool false))] [])⟩,
  ⟨none, none, (.store 4 (.t 8) (.t 63))⟩,
  ⟨(some 9), none, (.mv (.c (.sc (.bool false))))⟩] none) .ret) .skip))
 (.seq (.reg [⟨(some 64), none, (.mv (.t 0))⟩,
  ⟨(some 65), none, (.mv (.t 10))⟩,
  ⟨(some 66), none, (.iaddr 4 (.t 64) (.t 65))⟩,
  ⟨(some 67), none, (.load 4 true (.t 66))⟩,
  ⟨none, none, (.store 4 (.t 8) (.t 67))⟩,
  ⟨(some 9), none, (.mv (.c (.sc (.bool true))))⟩] none) .ret)))))
theorem good17 {args : List PV} {r : PV} (hl : args.length ≤ 68) (h : Run Try.prog [.code ac17] (endQ [(.c 8 4 true), (.t 9)] r) ⟨initT 0 args, [], 0, 68⟩) : Good Try.prog 17 args r :=
  good_run (by kernel_rfl) Iamix Try.func17 rfl (hs := [⟨[0, 1, 2, 3, 8, 10, 11], []⟩]) (hs' := []) (by kernel_rfl) hl h
def ac18 : ACode :=
 (.seq (.reg [⟨(some 6), none, (.mv (.c (.sc (.bool false))))⟩] none)
 (.seq (.seq (.reg [⟨(some 10), none, (.mv (.c (.sc (.int .i64 (0)))))⟩] none) (.block 0 
 (.loop ⟨[0, 1, 2, 10], []⟩
 (.seq (.reg [⟨(some 11), none, (.bin .lss (.t 10) (.c (.sc (.int .i64 (8)))))⟩] none)
 (.seq
 (.cond (.t 11) .skip (.exit 0))
 (.seq (.block 1
 (.seq (.reg [⟨(some 12), none, (.mv (.t 10))⟩,
  ⟨(some 7), none, (.mv (.t 12))⟩] none)
 (.seq (.reg [⟨(some 14), none, (.mv (.t 0))⟩,
  ⟨(some 15), none, (.mv (.t 1))⟩,
  ⟨(some 16), none, (.mv (.t 7))⟩,
  ⟨(some 17), none, (.mv (.t 2))⟩,
  ⟨(some 18), none, (.call 16 [(.t 14), (.t 15), (.t 16), (.t 17)])⟩,
  ⟨(some 13), none, (.mv (.t 18))⟩,
  ⟨(some 19), none, (.ext 0 (.t 13))⟩,
  ⟨(some 20), none, (.ext 1 (.t 13))⟩,
  ⟨(some 8), none, (.new [(.sc (.int .i64 (0))), (.sc (.int .i64 (0))), (.sc (.int .i64 (0))), (.sc (.bool false))])⟩,
  ⟨none, none, (.store 4 (.t 8) (.t 19))⟩,
  ⟨(some 9), none, (.mv (.t 20))⟩] none)
 (.seq (.reg [⟨(some 21), none, (.mv (.t 9))⟩,
  ⟨(some 22), none, (.mv (.t 21))⟩,
  ⟨(some 23), (some (22, true)), (.faddr 3 (.t 8))⟩,
  ⟨(some 24), (some (22, true)), (.load 1 false (.t 23))⟩,
  ⟨(some 25), (some (22, true)), (.un .not (.t 24))⟩,
  ⟨(some 26), none, (.pick (.t 22) (.t 25) (.c (.sc (.bool false))))⟩] none)
 (.cond (.t 26)
 (.seq (.reg [⟨(some 6), none, (.mv (.c (.sc (.bool true))))⟩] none) .ret) .skip))))) (.reg [⟨(some 27), none, (.bin .add (.t 10) (.c (.sc (.int .i64 (1)))))⟩,
  ⟨(some 10), none, (.mv (.t 27))⟩] none)))))))
 (.seq (.reg [⟨(some 6), none, (.mv (.c (.sc (.bool false))))⟩] none) .ret)))
theorem good18 {args : List PV} {r : PV} (hl : args.length ≤ 28) (h : Run Try.prog [.code ac18] (endQ [(.t 6)] r) ⟨initT 0 args, [], 0, 28⟩) : Good Try.prog 18 args r :=
  good_run (by kernel_rfl) Iamix Try.func18 rfl (hs := [⟨[0, 1, 2, 10], []⟩]) (hs' := []) (by kernel_rfl) hl h
def ac19 : ACode :=
 (.seq (.reg [⟨(some 6), none, (.mv (.c (.sc (.bool false))))⟩] none)
 (.seq (.seq (.reg [⟨(some 7), none, (.mv (.c (.sc (.int .i64 (0)))))⟩] none) (.block 0 
 (.loop ⟨[0, 1, 2, 7], []⟩
 (.seq (.seq (.reg [⟨(some 10), none, (.mv (.t 7))⟩,
  ⟨(some 11), none, (.bin .lss (.t 10) (.c (.sc (.int .i64 (8)))))⟩] none)
 (.cond (.t 11) .skip (.exit 0)))
 (.seq (.block 1
 (.seq (.reg [⟨(some 15), none, (.mv (.t 0))⟩,
  ⟨(some 16), none, (.mv (.t 1))⟩,
  ⟨(some 17), none, (.mv (.t 7))⟩,
  ⟨(some 18), none, (.mv (.t 2))⟩,
  ⟨(some 19), none, (.call 17 [(.t 15), (.t 16), (.t 17), (.t 18)])⟩,
  ⟨(some 14), none, (.mv (.t 19))⟩,
  ⟨(some 20), none, (.ext 0 (.t 14))⟩,
  ⟨(some 21), none, (.ext 1 (.t 14))⟩,
  ⟨(some 8), none, (.new [(.sc (.int .i64 (0))), (.sc (.int .i64 (0))), (.sc (.int .i64 (0))), (.sc (.bool false))])⟩,
  ⟨none, none, (.store 4 (.t 8) (.t 20))⟩,
  ⟨(some 9), none, (.mv (.t 21))⟩] none)
 (.seq (.reg [⟨(some 22), none, (.mv (.t 9))⟩,
  ⟨(some 23), none, (.mv (.t 22))⟩,
  ⟨(some 24), (some (23, true)), (.faddr 3 (.t 8))⟩,
  ⟨(some 25), (some (23, true)), (.load 1 false (.t 24))⟩,
  ⟨(some 26), (some (23, true)), (.un .not (.t 25))⟩,
  ⟨(some 27), none, (.pick (.t 23) (.t 26) (.c (.sc (.bool false))))⟩] none)
 (.cond (.t 27)
 (.seq (.reg [⟨(some 6), none, (.mv (.c (.sc (.bool true))))⟩] none) .ret) .skip)))) (.reg [⟨(some 12), none, (.mv (.t 7))⟩,
  ⟨(some 13), none, (.bin .add (.t 12) (.c (.sc (.int .i64 (1)))))⟩,
  ⟨(some 7), none, (.mv (.t 13))⟩] none))))))
 (.seq (.reg [⟨(some 6), none, (.mv (.c (.sc (.bool false))))⟩] none) .ret)))
theorem good19 {args : List PV} {r : PV} (hl : args.length ≤ 28) (h : Run Try.prog [.code ac19] (endQ [(.t 6)] r) ⟨initT 0 args, [], 0, 28⟩) : Good Try.prog 19 args r :=
  good_run (by kernel_rfl) Iamix Try.func19 rfl (hs := [⟨[0, 1, 2, 7], []⟩]) (hs' := []) (by kernel_rfl) hl h
def ac20 : ACode :=
 (.seq (.reg [⟨(some 1), none, (.boxv (.t 0))⟩,
  ⟨(some 2), none, (.mv (.c (.sc (.bool false))))⟩] none)
 (.seq (.reg [⟨(some 3), none, (.faddr 0 (.t 1))⟩,
  ⟨(some 4), none, (.load 1 false (.t 3))⟩,
  ⟨(some 5), none, (.len (.t 4))⟩,
  ⟨(some 6), none, (.bin .leq (.t 5) (.c (.sc (.int .i64 (20)))))⟩,
  ⟨(some 7), none, (.mv (.t 6))⟩,
  ⟨(some 8), (some (7, true)), (.faddr 1 (.t 1))⟩,
  ⟨(some 9), (some (7, true)), (.load 1 false (.t 8))⟩,
  ⟨(some 10), (some (7, true)), (.len (.t 9))⟩,
  ⟨(some 11), (some (7, true)), (.bin .leq (.t 10) (.c (.sc (.int .i64 (40)))))⟩,
  ⟨(some 12), none, (.pick (.t 7) (.t 11) (.c (.sc (.bool false))))⟩,
  ⟨(some 13), none, (.mv (.t 12))⟩,
  ⟨(some 14), (some (13, true)), (.faddr 4 (.t 1))⟩,
  ⟨(some 15), (some (13, true)), (.load 1 false (.t 14))⟩,
  ⟨(some 16), (some (13, true)), (.call 30 [(.t 15), (.c (.sc (.int .i64 (12))))])⟩,
  ⟨(some 17), none, (.pick (.t 13) (.t 16) (.c (.sc (.bool false))))⟩,
  ⟨(some 18), none, (.mv (.t 17))⟩,
  ⟨(some 19), (some (18, true)), (.faddr 2 (.t 1))⟩,
  ⟨(some 20), (some (18, true)), (.faddr 0 (.t 19))⟩,
  ⟨(some 21), (some (18, true)), (.load 1 false (.t 20))⟩,
  ⟨(some 22), (some (18, true)), (.len (.t 21))⟩,
  ⟨(some 23), (some (18, true)), (.bin .leq (.t 22) (.c (.sc (.int .i64 (20)))))⟩,
  ⟨(some 24), none, (.pick (.t 18) (.t 23) (.c (.sc (.bool false))))⟩,
  ⟨(some 25), none, (.mv (.t 24))⟩,
  ⟨(some 26), (some (25, true)), (.faddr 2 (.t 1))⟩,
  ⟨(some 27), (some (25, true)), (.faddr 1 (.t 26))⟩,
  ⟨(some 28), (some (25, true)), (.load 1 false (.t 27))⟩,
  ⟨(some 29), (some (25, true)), (.len (.t 28))⟩,
  ⟨(some 30), (some (25, true)), (.bin .leq (.t 29) (.c (.sc (.int .i64 (20)))))⟩,
  ⟨(some 31), none, (.pick (.t 25) (.t 30) (.c (.sc (.bool false))))⟩,
  ⟨(some 2), none, (.mv (.t 31))⟩] none) .ret))
theorem good20 {args : List PV} {r : PV} (hl : args.length ≤ 32) (h : Run Try.prog [.code ac20] (endQ [(.t 2)] r) ⟨initT 0 args, [], 0, 32⟩) : Good Try.prog 20 args r :=
  good_run (by kernel_rfl) Iamix Try.func20 rfl (hs := []) (hs' := []) (by kernel_rfl) hl h
def ac21 : ACode :=
 (.seq (.reg [⟨(some 1), none, (.boxv (.t 0))⟩,
  ⟨(some 2), none, (.mv (.c (.sc (.slice none 0 0))))⟩,
  ⟨(some 3), none, (.mv (.c (.sc (.int .i64 (0)))))⟩] none)
 (.seq (.reg [⟨(some 4), none, (.faddr 0 (.t 1))⟩,
  ⟨(some 5), none, (.load 1 false (.t 4))⟩,
  ⟨(some 6), none, (.faddr 1 (.t 1))⟩,
  ⟨(some 7), none, (.load 1 false (.t 6))⟩,
  ⟨(some 8), none, (.faddr 2 (.t 1))⟩,
  ⟨(some 9), none, (.load 2 true (.t 8))⟩,
  ⟨(some 10), none, (.faddr 4 (.t 1))⟩,
  ⟨(some 11), none, (.load 1 false (.t 10))⟩,
  ⟨(some 12), none, (.faddr 5 (.t 1))⟩,
  ⟨(some 13), none, (.load 1 false (.t 12))⟩,
  ⟨(some 14), none, (.faddr 6 (.t 1))⟩,
  ⟨(some 15), none, (.load 1 false (.t 14))⟩,
  ⟨(some 16), none, (.call 31 [(.t 5), (.t 7), (.t 9), (.t 11), (.t 13), (.t 15)])⟩,
  ⟨(some 17), none, (.ext 0 (.t 16))⟩,
  ⟨(some 18), none, (.ext 1 (.t 16))⟩,
  ⟨(some 2), none, (.mv (.t 17))⟩,
  ⟨(some 3), none, (.mv (.t 18))⟩] none) .ret))
theorem good21 {args : List PV} {r : PV} (hl : args.length ≤ 19) (h : Run Try.prog [.code ac21] (endQ [(.t 2), (.t 3)] r) ⟨initT 0 args, [], 0, 19⟩) : Good Try.prog 21 args r :=
  good_run (by kernel_rfl) Iamix Try.func21 rfl (hs := []) (hs' := []) (by kernel_rfl) hl h
def ac22 : ACode :=
 (.seq (.reg [⟨(some 8), none, (.boxv (.t 2))⟩,
  ⟨(some 12), none, (.mv (.c (.sc (.slice none 0 0))))⟩,
  ⟨(some 13), none, (.mv (.c (.sc (.int .i64 (0)))))⟩] none)
 (.seq (.reg [⟨(some 21), none, (.mv (.t 0))⟩,
  ⟨(some 22), none, (.call 13 [(.t 21)])⟩,
  ⟨(some 14), none, (.mv (.t 22))⟩] none)
 (.seq (.seq (.reg [⟨(some 23), none, (.mv (.t 14))⟩,
  ⟨(some 24), none, (.bin .eql (.t 23) (.c (.sc (.int .i64 (0)))))⟩] none)
 (.cond (.t 24) (.reg [⟨(some 25), none, (.mv (.t 1))⟩,
  ⟨(some 26), none, (.call 15 [(.t 25)])⟩,
  ⟨(some 14), none, (.mv (.t 26))⟩] none) .skip))
 (.seq (.seq (.reg [⟨(some 27), none, (.mv (.t 14))⟩,
  ⟨(some 28), none, (.bin .neq (.t 27) (.c (.sc (.int .i64 (0)))))⟩] none)
 (.cond (.t 28)
 (.seq (.reg [⟨(some 29), none, (.mv (.t 14))⟩,
  ⟨(some 12), none, (.mv (.c (.sc (.slice none 0 0))))⟩,
  ⟨(some 13), none, (.mv (.t 29))⟩] none) .ret) .skip))
 (.seq (.seq (.reg [⟨(some 30), none, (.mv (.t 4))⟩,
  ⟨(some 31), none, (.bin .lss (.t 30) (.c (.sc (.int .i64 (0)))))⟩,
  ⟨(some 32), none, (.mv (.t 31))⟩,
  ⟨(some 33), (some (32, false)), (.mv (.t 4))⟩,
  ⟨(some 34), (some (32, false)), (.bin .geq (.t 33) (.c (.sc (.int .i64 (128)))))⟩,
  ⟨(some 35), none, (.pick (.t 32) (.c (.sc (.bool true))) (.t 34))⟩,
  ⟨(some 36), none, (.mv (.t 35))⟩,
  ⟨(some 37), (some (36, false)), (.mv (.t 5))⟩,
  ⟨(some 38), (some (36, false)), (.bin .lss (.t 37) (.c (.sc (.int .i64 (0)))))⟩,
  ⟨(some 39), none, (.pick (.t 36) (.c (.sc (.bool true))) (.t 38))⟩,
  ⟨(some 40), none, (.mv (.t 39))⟩,
  ⟨(some 41), (some (40, false)), (.mv (.t 5))⟩,
  ⟨(some 42), (some (40, false)), (.bin .gtr (.t 41) (.c (.sc (.int .i64 (4294943999)))))⟩,
  ⟨(some 43), none, (.pick (.t 40) (.c (.sc (.bool true))) (.t 42))⟩] none)
 (.cond (.t 43)
 (.seq (.reg [⟨(some 12), none, (.mv (.c (.sc (.slice none 0 0))))⟩,
  ⟨(some 13), none, (.mv (.c (.sc (.int .i64 (1)))))⟩] none) .ret) .skip))
 (.seq (.reg [⟨(some 15), none, (.mv (.c (.sc (.slice none 0 0))))⟩] none)
 (.seq (.seq (.reg [⟨(some 16), none, (.mv (.c (.sc (.int .i64 (0)))))⟩] none) (.block 0 
 (.loop ⟨[0, 1, 3, 4, 5, 8, 15, 16], [(15, (3, 1))]⟩
 (.seq (.seq (.reg [⟨(some 44), none, (.mv (.t 16))⟩,
  ⟨(some 45), none, (.mv (.t 0))⟩,
  ⟨(some 46), none, (.len (.t 45))⟩,
  ⟨(some 47), none, (.bin .lss (.t 44) (.t 46))⟩] none)
 (.cond (.t 47) .skip (.exit 0)))
 (.seq (.block 1
 (.seq (.reg [⟨(some 51), none, (.mv (.t 1))⟩,
  ⟨(some 52), none, (.mv (.t 4))⟩,
  ⟨(some 53), none, (.mv (.t 0))⟩,
  ⟨(some 54), none, (.mv (.t 16))⟩,
  ⟨(some 55), none, (.iaddr 3 (.t 53) (.t 54))⟩,
  ⟨(some 56), none, (.faddr 0 (.t 55))⟩,
  ⟨(some 57), none, (.load 1 false (.t 56))⟩,
  ⟨(some 58), none, (.mv (.t 5))⟩,
  ⟨(some 59), none, (.call 17 [(.t 51), (.t 52), (.t 57), (.t 58)])⟩,
  ⟨(some 50), none, (.mv (.t 59))⟩,
  ⟨(some 60), none, (.ext 0 (.t 50))⟩,
  ⟨(some 61), none, (.ext 1 (.t 50))⟩,
  ⟨(some 17), none, (.new [(.sc (.int .i64 (0))), (.sc (.int .i64 (0))), (.sc (.int .i64 (0))), (.sc (.bool false))])⟩,
  ⟨none, none, (.store 4 (.t 17) (.t 60))⟩,
  ⟨(some 18), none, (.mv (.t 61))⟩] none)
 (.seq (.reg [⟨(some 63), none, (.load 2 true (.t 8))⟩,
  ⟨(some 64), none, (.mv (.t 3))⟩,
  ⟨(some 65), none, (.mv (.t 4))⟩,
  ⟨(some 66), none, (.mv (.t 0))⟩,
  ⟨(some 67), none, (.mv (.t 16))⟩,
  ⟨(some 68), none, (.iaddr 3 (.t 66) (.t 67))⟩,
  ⟨(some 69), none, (.faddr 0 (.t 68))⟩,
  ⟨(some 70), none, (.load 1 false (.t 69))⟩,
  ⟨(some 71), none, (.faddr 2 (.t 17))⟩,
  ⟨(some 72), none, (.load 1 false (.t 71))⟩,
  ⟨(some 73), none, (.mv (.t 5))⟩,
  ⟨(some 74), none, (.bin .add (.t 73) (.c (.sc (.int .i64 (1)))))⟩,
  ⟨(some 75), none, (.build [(.sc (.int .i64 (0))), (.sc (.int .i64 (0)))] [(0, (1, (.t 72))), (1, (1, (.t 74)))])⟩,
  ⟨(some 76), none, (.call 32 [(.t 63), (.t 64), (.t 65), (.t 70), (.t 75)])⟩,
  ⟨(some 62), none, (.mv (.t 76))⟩,
  ⟨(some 77), none, (.ext 0 (.t 62))⟩,
  ⟨(some 78), none, (.ext 1 (.t 62))⟩,
  ⟨(some 19), none, (.mv (.t 77))⟩,
  ⟨(some 20), none, (.mv (.t 78))⟩] (some [[], [], [], [], [], [3, 4], [5, 3, 4], [6, 5, 3, 4], [], [8], [], [10], [9, 11, 8, 10], [0, 1, 2, 7, 12, 6, 5, 3, 4, 9, 11, 8, 10], [13, 0, 1, 2, 7, 12, 6, 5, 3, 4, 9, 11, 8, 10], [14, 13, 0, 1, 2, 7, 12, 6, 5, 3, 4, 9, 11, 8, 10], [14, 13, 0, 1, 2, 7, 12, 6, 5, 3, 4, 9, 11, 8, 10], [15, 13, 0, 1, 2, 3, 4, 5, 6, 7, 8, 9, 10, 11, 12, 14], [16, 17, 0, 1, 2, 3, 4, 5, 6, 7, 8, 9, 10, 11, 12, 13, 14, 15]]))
 (.seq (.seq (.reg [⟨(some 79), none, (.mv (.t 20))⟩,
  ⟨(some 80), none, (.bin .neq (.t 79) (.c (.sc (.int .i64 (0)))))⟩] none)
 (.cond (.t 80)
 (.seq (.reg [⟨(some 81), none, (.mv (.t 20))⟩,
  ⟨(some 12), none, (.mv (.c (.sc (.slice none 0 0))))⟩,
  ⟨(some 13), none, (.mv (.t 81))⟩] none) .ret) .skip))
 (.seq (.reg [⟨(some 82), none, (.mv (.t 18))⟩,
  ⟨(some 83), none, (.mv (.t 82))⟩,
  ⟨(some 84), (some (83, true)), (.faddr 3 (.t 17))⟩,
  ⟨(some 85), (some (83, true)), (.load 1 false (.t 84))⟩,
  ⟨(some 86), (some (83, true)), (.un .not (.t 85))⟩,
  ⟨(some 87), none, (.pick (.t 83) (.t 86) (.c (.sc (.bool false))))⟩,
  ⟨(some 88), none, (.mv (.t 87))⟩,
  ⟨(some 89), (some (88, false)), (.mv (.t 5))⟩,
  ⟨(some 90), (some (88, false)), (.bin .quo (.t 89) (.c (.sc (.int .i64 (86400)))))⟩,
  ⟨(some 91), (some (88, false)), (.faddr 2 (.t 17))⟩,
  ⟨(some 92), (some (88, false)), (.load 1 false (.t 91))⟩,
  ⟨(some 93), (some (88, false)), (.bin .quo (.t 92) (.c (.sc (.int .i64 (86400)))))⟩,
  ⟨(some 94), (some (88, false)), (.bin .sub (.t 90) (.t 93))⟩,
  ⟨(some 95), (some (88, false)), (.mv (.t 0))⟩,
  ⟨(some 96), (some (88, false)), (.mv (.t 16))⟩,
  ⟨(some 97), (some (88, false)), (.iaddr 3 (.t 95) (.t 96))⟩,
  ⟨(some 98), (some (88, false)), (.faddr 2 (.t 97))⟩,
  ⟨(some 99), (some (88, false)), (.load 1 false (.t 98))⟩,
  ⟨(some 100), (some (88, false)), (.bin .geq (.t 94) (.t 99))⟩,
  ⟨(some 101), none, (.pick (.t 88) (.c (.sc (.bool true))) (.t 100))⟩,
  ⟨(some 102), none, (.mv (.t 101))⟩,
  ⟨(some 103), (some (102, false)), (.mv (.t 19))⟩,
  ⟨(some 104), (some (102, false)), (.mv (.t 0))⟩,
  ⟨(some 105), (some (102, false)), (.mv (.t 16))⟩,
  ⟨(some 106), (some (102, false)), (.iaddr 3 (.t 104) (.t 105))⟩,
  ⟨(some 107), (some (102, false)), (.faddr 1 (.t 106))⟩,
  ⟨(some 108), (some (102, false)), (.load 1 false (.t 107))⟩,
  ⟨(some 109), (some (102, false)), (.bin .geq (.t 103) (.t 108))⟩,
  ⟨(some 110), none, (.pick (.t 102) (.c (.sc (.bool true))) (.t 109))⟩] (some [[], [0], [1, 0], [2, 1, 0], [3, 1, 2, 0], [1, 4, 0, 3, 2], [5, 1, 4, 0, 3, 2], [6, 5, 1, 4, 0, 3, 2], [7, 6, 5, 1, 4, 0, 3, 2], [6, 5, 1, 4, 0, 3, 2], [9, 6, 5, 1, 4, 0, 3, 2], [10, 6, 9, 5, 1, 4, 0, 3, 2], [8, 11, 6, 7, 5, 1, 4, 0, 3, 2, 10, 9], [6, 5, 1, 4, 0, 3, 2], [6, 5, 1, 4, 0, 3, 2], [13, 14, 6, 5, 1, 4, 0, 3, 2], [15, 6, 13, 14, 5, 1, 4, 0, 3, 2], [16, 6, 15, 13, 14, 5, 1, 4, 0, 3, 2], [12, 17, 6, 8, 11, 7, 5, 1, 4, 0, 3, 2, 10, 9, 16, 15, 13, 14], [6, 18, 5, 1, 4, 0, 3, 2, 12, 17, 8, 11, 7, 10, 9, 16, 15, 13, 14], [19, 6, 18, 5, 1, 4, 0, 3, 2, 12, 17, 8, 11, 7, 10, 9, 16, 15, 13, 14], [20, 19, 6, 18, 5, 1, 4, 0, 3, 2, 12, 17, 8, 11, 7, 10, 9, 16, 15, 13, 14], [20, 19, 6, 18, 5, 1, 4, 0, 3, 2, 12, 17, 8, 11, 7, 10, 9, 16, 15, 13, 14], [20, 19, 6, 18, 5, 1, 4, 0, 3, 2, 12, 17, 8, 11, 7, 10, 9, 16, 15, 13, 14], [22, 23, 20, 19, 6, 18, 5, 1, 4, 0, 3, 2, 12, 17, 8, 11, 7, 10, 9, 16, 15, 13, 14], [24, 20, 22, 23, 19, 6, 18, 5, 1, 4, 0, 3, 2, 12, 17, 8, 11, 7, 10, 9, 16, 15, 13, 14], [25, 20, 24, 22, 23, 19, 6, 18, 5, 1, 4, 0, 3, 2, 12, 17, 8, 11, 7, 10, 9, 16, 15, 13, 14], [21, 26, 20, 19, 6, 18, 5, 1, 4, 0, 3, 2, 12, 17, 8, 11, 7, 10, 9, 16, 15, 13, 14, 25, 24, 22, 23], [20, 27, 19, 6, 18, 5, 1, 4, 0, 3, 2, 12, 17, 8, 11, 7, 10, 9, 16, 15, 13, 14, 21, 26, 25, 24, 22, 23]]))
 (.cond (.t 110) (.reg [⟨(some 111), none, (.mv (.t 15))⟩,
  ⟨(some 112), none, (.mv (.t 0))⟩,
  ⟨(some 113), none, (.mv (.t 16))⟩,
  ⟨(some 114), none, (.iaddr 3 (.t 112) (.t 113))⟩,
  ⟨(some 115), none, (.faddr 0 (.t 114))⟩,
  ⟨(some 116), none, (.load 1 false (.t 115))⟩,
  ⟨(some 117), none, (.bslice 3 1 [(.t 116)])⟩,
  ⟨(some 118), none, (.append 3 1 8 (.t 111) (.t 117))⟩,
  ⟨(some 15), none, (.mv (.t 118))⟩] none) .skip)))))) (.reg [⟨(some 48), none, (.mv (.t 16))⟩,
  ⟨(some 49), none, (.bin .add (.t 48) (.c (.sc (.int .i64 (1)))))⟩,
  ⟨(some 16), none, (.mv (.t 49))⟩] none))))))
 (.seq (.reg [⟨(some 119), none, (.mv (.t 15))⟩,
  ⟨(some 12), none, (.mv (.t 119))⟩,
  ⟨(some 13), none, (.mv (.c (.sc (.int .i64 (0)))))⟩] none) .ret))))))))
theorem good22 {args : List PV} {r : PV} (hl : args.length ≤ 120) (h : Run Try.prog [.code ac22] (endQ [(.t 12), (.t 13)] r) ⟨initT 0 args, [], 0, 120⟩) : Good Try.prog 22 args r :=
  good_run (by kernel_rfl) Iamix Try.func22 rfl (hs := [⟨[0, 1, 3, 4, 5, 8, 15, 16], [(15, 3, 1)]⟩]) (hs' := []) (by kernel_rfl) hl h
def ac23 : ACode :=
 (.seq (.reg [⟨(some 4), none, (.mv (.c (.sc (.bool false))))⟩] none)
 (.seq (.seq (.reg [⟨(some 6), none, (.mv (.t 0))⟩,
  ⟨(some 7), none, (.len (.t 6))⟩,
  ⟨(some 8), none, (.mv (.t 1))⟩,
  ⟨(some 9), none, (.len (.t 8))⟩,
  ⟨(some 10), none, (.bin .neq (.t 7) (.t 9))⟩] none)
 (.cond (.t 10)
 (.seq (.reg [⟨(some 4), none, (.mv (.c (.sc (.bool false))))⟩] none) .ret) .skip))
 (.seq (.seq (.reg [⟨(some 5), none, (.mv (.c (.sc (.int .i64 (0)))))⟩] none) (.block 0 
 (.loop ⟨[0, 1, 5], []⟩
 (.seq (.seq (.reg [⟨(some 11), none, (.mv (.t 5))⟩,
  ⟨(some 12), none, (.mv (.t 0))⟩,
  ⟨(some 13), none, (.len (.t 12))⟩,
  ⟨(some 14), none, (.bin .lss (.t 11) (.t 13))⟩] none)
 (.cond (.t 14) .skip (.exit 0)))
 (.seq (.block 1
 (.seq (.reg [⟨(some 17), none, (.mv (.t 0))⟩,
  ⟨(some 18), none, (.mv (.t 5))⟩,
  ⟨(some 19), none, (.iaddr 1 (.t 17) (.t 18))⟩,
  ⟨(some 20), none, (.load 1 false (.t 19))⟩,
  ⟨(some 21), none, (.mv (.t 1))⟩,
  ⟨(some 22), none, (.mv (.t 5))⟩,
  ⟨(some 23), none, (.iaddr 1 (.t 21) (.t 22))⟩,
  ⟨(some 24), none, (.load 1 false (.t 23))⟩,
  ⟨(some 25), none, (.bin .neq (.t 20) (.t 24))⟩] (some [[], [], [0, 1], [2, 0, 1], [], [], [4, 5], [6, 4, 5], [3, 7, 2, 0, 1, 6, 4, 5]]))
 (.cond (.t 25)
 (.seq (.reg [⟨(some 4), none, (.mv (.c (.sc (.bool false))))⟩] none) .ret) .skip))) (.reg [⟨(some 15), none, (.mv (.t 5))⟩,
  ⟨(some 16), none, (.bin .add (.t 15) (.c (.sc (.int .i64 (1)))))⟩,
  ⟨(some 5), none, (.mv (.t 16))⟩] none))))))
 (.seq (.reg [⟨(some 4), none, (.mv (.c (.sc (.bool true))))⟩] none) .ret))))
theorem good23 {args : List PV} {r : PV} (hl : args.length ≤ 26) (h : Run Try.prog [.code ac23] (endQ [(.t 4)] r) ⟨initT 0 args, [], 0, 26⟩) : Good Try.prog 23 args r :=
  good_run (by kernel_rfl) Iamix Try.func23 rfl (hs := [⟨[0, 1, 5], []⟩]) (hs' := []) (by kernel_rfl) hl h
def ac24 : ACode :=
 (.seq (.reg [⟨(some 5), none, (.boxv (.t 0))⟩,
  ⟨(some 9), none, (.boxv (.t 4))⟩,
  ⟨(some 10), none, (.mv (.c (.sc (.int .i64 (0)))))⟩,
  ⟨(some 11), none, (.mv (.c (.sc (.int .i64 (0)))))⟩] none)
 (.seq (.seq (.reg [⟨(some 14), none, (.load 2 true (.t 5))⟩,
  ⟨(some 15), none, (.call 33 [(.t 14)])⟩,
  ⟨(some 12), none, (.mv (.t 15))⟩] none)
 (.seq (.reg [⟨(some 16), none, (.mv (.t 12))⟩,
  ⟨(some 17), none, (.bin .neq (.t 16) (.c (.sc (.int .i64 (0)))))⟩] none)
 (.cond (.t 17)
 (.seq (.reg [⟨(some 18), none, (.mv (.t 12))⟩,
  ⟨(some 10), none, (.mv (.c (.sc (.int .i64 (0)))))⟩,
  ⟨(some 11), none, (.mv (.t 18))⟩] none) .ret) .skip)))
 (.seq (.seq (.reg [⟨(some 19), none, (.mv (.t 3))⟩,
  ⟨(some 20), none, (.bin .lss (.t 19) (.c (.sc (.int .i64 (0)))))⟩,
  ⟨(some 21), none, (.mv (.t 20))⟩,
  ⟨(some 22), (some (21, false)), (.mv (.t 3))⟩,
  ⟨(some 23), (some (21, false)), (.faddr 0 (.t 5))⟩,
  ⟨(some 24), (some (21, false)), (.load 1 false (.t 23))⟩,
  ⟨(some 25), (some (21, false)), (.len (.t 24))⟩,
  ⟨(some 26), (some (21, false)), (.bin .geq (.t 22) (.t 25))⟩,
  ⟨(some 27), none, (.pick (.t 21) (.c (.sc (.bool true))) (.t 26))⟩] none)
 (.cond (.t 27)
 (.seq (.reg [⟨(some 10), none, (.mv (.c (.sc (.int .i64 (0)))))⟩,
  ⟨(some 11), none, (.mv (.c (.sc (.int .i64 (7)))))⟩] none) .ret) .skip))
 (.seq (.seq (.reg [⟨(some 28), none, (.mv (.t 1))⟩,
  ⟨(some 29), none, (.mv (.t 2))⟩,
  ⟨(some 30), none, (.load 2 true (.t 9))⟩,
  ⟨(some 31), none, (.call 34 [(.t 28), (.t 29), (.t 30)])⟩,
  ⟨(some 13), none, (.mv (.t 31))⟩] none)
 (.seq (.reg [⟨(some 32), none, (.mv (.t 13))⟩,
  ⟨(some 33), none, (.bin .neq (.t 32) (.c (.sc (.int .i64 (0)))))⟩] none)
 (.cond (.t 33)
 (.seq (.reg [⟨(some 34), none, (.mv (.t 13))⟩,
  ⟨(some 10), none, (.mv (.c (.sc (.int .i64 (0)))))⟩,
  ⟨(some 11), none, (.mv (.t 34))⟩] none) .ret) .skip)))
 (.seq (.reg [⟨(some 35), none, (.load 2 true (.t 5))⟩,
  ⟨(some 36), none, (.mv (.t 3))⟩,
  ⟨(some 37), none, (.mv (.t 1))⟩,
  ⟨(some 38), none, (.mv (.t 2))⟩,
  ⟨(some 39), none, (.load 2 true (.t 9))⟩,
  ⟨(some 40), none, (.call 36 [(.t 37), (.t 38), (.t 39)])⟩,
  ⟨(some 41), none, (.call 35 [(.t 35), (.t 36), (.t 40)])⟩,
  ⟨(some 10), none, (.mv (.t 41))⟩,
  ⟨(some 11), none, (.mv (.c (.sc (.int .i64 (0)))))⟩] (some [[], [], [], [], [], [2, 3, 4], [0, 1, 5, 2, 3, 4], [6, 0, 1, 2, 3, 4, 5], [7, 0, 1, 2, 3, 4, 5, 6]])) .ret)))))
theorem good24 {args : List PV} {r : PV} (hl : args.length ≤ 42) (h : Run Try.prog [.code ac24] (endQ [(.t 10), (.t 11)] r) ⟨initT 0 args, [], 0, 42⟩) : Good Try.prog 24 args r :=
  good_run (by kernel_rfl) Iamix Try.func24 rfl (hs := []) (hs' := []) (by kernel_rfl) hl h
def ac25 : ACode :=
 (.seq (.reg [⟨(some 4), none, (.mv (.c (.sc (.bool false))))⟩] none)
 (.seq (.seq (.reg [⟨(some 5), none, (.mv (.c (.sc (.int .i64 (0)))))⟩] none) (.block 0 
 (.loop ⟨[0, 1, 5], []⟩
 (.seq (.seq (.reg [⟨(some 6), none, (.mv (.t 5))⟩,
  ⟨(some 7), none, (.mv (.t 0))⟩,
  ⟨(some 8), none, (.len (.t 7))⟩,
  ⟨(some 9), none, (.bin .lss (.t 6) (.t 8))⟩] none)
 (.cond (.t 9) .skip (.exit 0)))
 (.seq (.block 1
 (.seq (.reg [⟨(some 12), none, (.mv (.t 0))⟩,
  ⟨(some 13), none, (.mv (.t 5))⟩,
  ⟨(some 14), none, (.iaddr 1 (.t 12) (.t 13))⟩,
  ⟨(some 15), none, (.load 1 false (.t 14))⟩,
  ⟨(some 16), none, (.mv (.t 1))⟩,
  ⟨(some 17), none, (.bin .eql (.t 15) (.t 16))⟩] none)
 (.cond (.t 17)
 (.seq (.reg [⟨(some 4), none, (.mv (.c (.sc (.bool true))))⟩] none) .ret) .skip))) (.reg [⟨(some 10), none, (.mv (.t 5))⟩,
  ⟨(some 11), none, (.bin .add (.t 10) (.c (.sc (.int .i64 (1)))))⟩,
  ⟨(some 5), none, (.mv (.t 11))⟩] none))))))
 (.seq (.reg [⟨(some 4), none, (.mv (.c (.sc (.bool false))))⟩] none) .ret)))
theorem good25 {args : List PV} {r : PV} (hl : args.length ≤ 18) (h : Run Try.prog [.code ac25] (endQ [(.t 4)] r) ⟨initT 0 args, [], 0, 18⟩) : Good Try.prog 25 args r :=
  good_run (by kernel_rfl) Iamix Try.func25 rfl (hs := [⟨[0, 1, 5], []⟩]) (hs' := []) (by kernel_rfl) hl h
def ac26 : ACode :=
 (.seq (.reg [⟨(some 4), none, (.new [(.sc (.slice none 0 0)), (.sc (.slice none 0 0)), (.sc (.slice none 0 0)), (.sc (.slice none 0 0)), (.sc (.slice none 0 0)), (.sc (.int .i64 (0))), (.sc (.int .i64 (0)))])⟩] none)
 (.seq (.reg [⟨(some 8), none, (.build [(.sc (.int .i64 (0))), (.sc (.int .i64 (0)))] [(0, (1, (.c (.sc (.int .i64 (1000)))))), (1, (1, (.c (.sc (.int .i64 (1000))))))])⟩,
  ⟨(some 9), none, (.build [(.sc (.int .i64 (0))), (.sc (.int .i64 (0)))] [(0, (1, (.c (.sc (.int .i64 (1990)))))), (1, (1, (.c (.sc (.int .i64 (1990))))))])⟩,
  ⟨(some 5), none, (.new [(.sc (.int .i64 (0))), (.sc (.int .i64 (0)))])⟩,
  ⟨(some 6), none, (.new [(.sc (.int .i64 (0))), (.sc (.int .i64 (0)))])⟩,
  ⟨none, none, (.store 2 (.t 5) (.t 8))⟩,
  ⟨none, none, (.store 2 (.t 6) (.t 9))⟩] none)
 (.seq (.reg [⟨(some 10), none, (.load 2 true (.t 5))⟩,
  ⟨(some 11), none, (.load 2 true (.t 6))⟩,
  ⟨(some 12), none, (.load 2 true (.t 5))⟩,
  ⟨(some 13), none, (.load 2 true (.t 6))⟩,
  ⟨(some 14), none, (.build [(.sc (.int .i64 (0))), (.sc (.int .i64 (0))), (.sc (.int .i64 (0))), (.sc (.int .i64 (0))), (.sc (.int .i64 (0)))] [(0, (1, (.c (.sc (.int .i64 (5)))))), (1, (2, (.t 12))), (3, (2, (.t 13)))])⟩,
  ⟨(some 15), none, (.bslice 72 5 [(.t 14)])⟩,
  ⟨(some 16), none, (.build [(.sc (.int .i64 (0))), (.sc (.int .i64 (0))), (.sc (.int .i64 (0))), (.sc (.int .i64 (0))), (.sc (.int .i64 (0))), (.sc (.int .i64 (0))), (.sc (.bool false)), (.sc (.slice none 0 0)), (.sc (.slice none 0 0)), (.sc (.int .i64 (0))), (.sc (.int .i64 (0))), (.sc (.int .i64 (0))), (.sc (.int .i64 (0)))] [(0, (1, (.c (.sc (.int .i64 (1)))))), (2, (2, (.t 10))), (4, (2, (.t 11))), (7, (1, (.t 15))), (11, (1, (.c (.sc (.int .i64 (2))))))])⟩,
  ⟨(some 7), none, (.new [(.sc (.int .i64 (0))), (.sc (.int .i64 (0))), (.sc (.int .i64 (0))), (.sc (.int .i64 (0))), (.sc (.int .i64 (0))), (.sc (.int .i64 (0))), (.sc (.bool false)), (.sc (.slice none 0 0)), (.sc (.slice none 0 0)), (.sc (.int .i64 (0))), (.sc (.int .i64 (0))), (.sc (.int .i64 (0))), (.sc (.int .i64 (0)))])⟩,
  ⟨none, none, (.store 13 (.t 7) (.t 16))⟩] none)
 (.seq (.reg [⟨(some 17), none, (.build [(.sc (.int .i64 (0))), (.sc (.int .i64 (0))), (.sc (.int .i64 (0)))] [(1, (1, (.c (.sc (.int .i64 (1000)))))), (2, (1, (.c (.sc (.int .i64 (30))))))])⟩,
  ⟨(some 18), none, (.bslice 47 3 [(.t 17)])⟩,
  ⟨(some 19), none, (.mv (.t 1))⟩,
  ⟨(some 20), none, (.bslice 3 1 [(.c (.sc (.int .i64 (3600))))])⟩,
  ⟨(some 21), none, (.bslice 3 1 [(.c (.sc (.int .i64 (10))))])⟩,
  ⟨(some 22), none, (.build [(.sc (.slice none 0 0)), (.sc (.slice none 0 0))] [(0, (1, (.t 20))), (1, (1, (.t 21)))])⟩,
  ⟨(some 23), none, (.load 13 true (.t 7))⟩,
  ⟨(some 24), none, (.bslice 76 13 [(.t 23)])⟩,
  ⟨(some 25), none, (.mv (.t 0))⟩,
  ⟨(some 26), none, (.build [(.sc (.slice none 0 0)), (.sc (.slice none 0 0)), (.sc (.slice none 0 0)), (.sc (.slice none 0 0)), (.sc (.slice none 0 0)), (.sc (.int .i64 (0))), (.sc (.int .i64 (0)))] [(0, (1, (.t 18))), (1, (1, (.t 19))), (2, (2, (.t 22))), (4, (1, (.t 24))), (5, (1, (.c (.sc (.int .i64 (5)))))), (6, (1, (.t 25)))])⟩,
  ⟨none, none, (.store 7 (.t 4) (.t 26))⟩] none) .ret))))
theorem good26 {args : List PV} {r : PV} (hl : args.length ≤ 27) (h : Run Try.prog [.code ac26] (endQ [(.c 4 7 true)] r) ⟨initT 0 args, [], 0, 27⟩) : Good Try.prog 26 args r :=
  good_run (by kernel_rfl) Iamix Try.func26 rfl (hs := []) (hs' := []) (by kernel_rfl) hl h
def ac27 : ACode :=
 (.seq (.reg [⟨(some 2), none, (.mv (.c (.sc (.bool false))))⟩] none)
 (.seq (.reg [⟨(some 3), none, (.mv (.t 0))⟩,
  ⟨(some 4), none, (.bin .leq (.c (.sc (.int .i64 (0)))) (.t 3))⟩,
  ⟨(some 5), none, (.mv (.t 4))⟩,
  ⟨(some 6), (some (5, true)), (.mv (.t 0))⟩,
  ⟨(some 7), (some (5, true)), (.bin .lss (.t 6) (.c (.sc (.int .i64 (8)))))⟩,
  ⟨(some 8), none, (.pick (.t 5) (.t 7) (.c (.sc (.bool false))))⟩,
  ⟨(some 2), none, (.mv (.t 8))⟩] none) .ret))
theorem good27 {args : List PV} {r : PV} (hl : args.length ≤ 9) (h : Run Try.prog [.code ac27] (endQ [(.t 2)] r) ⟨initT 0 args, [], 0, 9⟩) : Good Try.prog 27 args r :=
  good_run (by kernel_rfl) Iamix Try.func27 rfl (hs := []) (hs' := []) (by kernel_rfl) hl h
def ac28 : ACode :=
 (.seq (.reg [⟨(some 2), none, (.mv (.c (.sc (.bool false))))⟩] none)
 (.seq (.reg [⟨(some 3), none, (.mv (.t 0))⟩,
  ⟨(some 4), none, (.bin .geq (.t 3) (.c (.sc (.int .i64 (0)))))⟩,
  ⟨(some 5), none, (.mv (.t 4))⟩,
  ⟨(some 6), (some (5, true)), (.mv (.t 0))⟩,
  ⟨(some 7), (some (5, true)), (.bin .lss (.t 6) (.c (.sc (.int .i64 (8)))))⟩,
  ⟨(some 8), none, (.pick (.t 5) (.t 7) (.c (.sc (.bool false))))⟩,
  ⟨(some 2), none, (.mv (.t 8))⟩] none) .ret))
theorem good28 {args : List PV} {r : PV} (hl : args.length ≤ 9) (h : Run Try.prog [.code ac28] (endQ [(.t 2)] r) ⟨initT 0 args, [], 0, 9⟩) : Good Try.prog 28 args r :=
  good_run (by kernel_rfl) Iamix Try.func28 rfl (hs := []) (hs' := []) (by kernel_rfl) hl h
def ac30 : ACode :=
 (.seq (.reg [⟨(some 4), none, (.mv (.c (.sc (.bool false))))⟩] none)
 (.seq (.seq (.reg [⟨(some 5), none, (.mv (.c (.sc (.int .i64 (0)))))⟩] none) (.block 0 
 (.loop ⟨[0, 1, 5], []⟩
 (.seq (.seq (.reg [⟨(some 6), none, (.mv (.t 5))⟩,
  ⟨(some 7), none, (.mv (.t 0))⟩,
  ⟨(some 8), none, (.len (.t 7))⟩,
  ⟨(some 9), none, (.bin .lss (.t 6) (.t 8))⟩] none)
 (.cond (.t 9) .skip (.exit 0)))
 (.seq (.block 1
 (.seq (.reg [⟨(some 12), none, (.mv (.t 0))⟩,
  ⟨(some 13), none, (.mv (.t 5))⟩,
  ⟨(some 14), none, (.iaddr 13 (.t 12) (.t 13))⟩,
  ⟨(some 15), none, (.faddr 7 (.t 14))⟩,
  ⟨(some 16), none, (.load 1 false (.t 15))⟩,
  ⟨(some 17), none, (.len (.t 16))⟩,
  ⟨(some 18), none, (.bin .gtr (.t 17) (.c (.sc (.int .i64 (40)))))⟩,
  ⟨(some 19), none, (.mv (.t 18))⟩,
  ⟨(some 20), (some (19, false)), (.mv (.t 0))⟩,
  ⟨(some 21), (some (19, false)), (.mv (.t 5))⟩,
  ⟨(some 22), (some (19, false)), (.iaddr 13 (.t 20) (.t 21))⟩,
  ⟨(some 23), (some (19, false)), (.faddr 8 (.t 22))⟩,
  ⟨(some 24), (some (19, false)), (.load 1 false (.t 23))⟩,
  ⟨(some 25), (some (19, false)), (.len (.t 24))⟩,
  ⟨(some 26), (some (19, false)), (.bin .gtr (.t 25) (.c (.sc (.int .i64 (40)))))⟩,
  ⟨(some 27), none, (.pick (.t 19) (.c (.sc (.bool true))) (.t 26))⟩] none)
 (.cond (.t 27)
 (.seq (.reg [⟨(some 4), none, (.mv (.c (.sc (.bool false))))⟩] none) .ret) .skip))) (.reg [⟨(some 10), none, (.mv (.t 5))⟩,
  ⟨(some 11), none, (.bin .add (.t 10) (.c (.sc (.int .i64 (1)))))⟩,
  ⟨(some 5), none, (.mv (.t 11))⟩] none))))))
 (.seq (.reg [⟨(some 28), none, (.mv (.t 0))⟩,
  ⟨(some 29), none, (.len (.t 28))⟩,
  ⟨(some 30), none, (.mv (.t 1))⟩,
  ⟨(some 31), none, (.bin .leq (.t 29) (.t 30))⟩,
  ⟨(some 4), none, (.mv (.t 31))⟩] none) .ret)))
theorem good30 {args : List PV} {r : PV} (hl : args.length ≤ 32) (h : Run Try.prog [.code ac30] (endQ [(.t 4)] r) ⟨initT 0 args, [], 0, 32⟩) : Good Try.prog 30 args r :=
  good_run (by kernel_rfl) Iamix Try.func30 rfl (hs := [⟨[0, 1, 5], []⟩]) (hs' := []) (by kernel_rfl) hl h
def ac31 : ACode :=
 (.seq (.reg [⟨(some 8), none, (.boxv (.t 2))⟩,
  ⟨(some 12), none, (.mv (.c (.sc (.slice none 0 0))))⟩,
  ⟨(some 13), none, (.mv (.c (.sc (.int .i64 (0)))))⟩] none)
 (.seq (.seq (.reg [⟨(some 23), none, (.mv (.t 0))⟩,
  ⟨(some 24), none, (.call 12 [(.t 23)])⟩,
  ⟨(some 14), none, (.mv (.t 24))⟩] none)
 (.seq (.reg [⟨(some 25), none, (.mv (.t 14))⟩,
  ⟨(some 26), none, (.bin .neq (.t 25) (.c (.sc (.int .i64 (0)))))⟩] none)
 (.cond (.t 26)
 (.seq (.reg [⟨(some 27), none, (.mv (.t 14))⟩,
  ⟨(some 12), none, (.mv (.c (.sc (.slice none 0 0))))⟩,
  ⟨(some 13), none, (.mv (.t 27))⟩] none) .ret) .skip)))
 (.seq (.seq (.reg [⟨(some 28), none, (.mv (.t 1))⟩,
  ⟨(some 29), none, (.call 14 [(.t 28)])⟩,
  ⟨(some 15), none, (.mv (.t 29))⟩] none)
 (.seq (.reg [⟨(some 30), none, (.mv (.t 15))⟩,
  ⟨(some 31), none, (.bin .neq (.t 30) (.c (.sc (.int .i64 (0)))))⟩] none)
 (.cond (.t 31)
 (.seq (.reg [⟨(some 32), none, (.mv (.t 15))⟩,
  ⟨(some 12), none, (.mv (.c (.sc (.slice none 0 0))))⟩,
  ⟨(some 13), none, (.mv (.t 32))⟩] none) .ret) .skip)))
 (.seq (.seq (.reg [⟨(some 33), none, (.mv (.t 4))⟩,
  ⟨(some 34), none, (.bin .lss (.t 33) (.c (.sc (.int .i64 (0)))))⟩,
  ⟨(some 35), none, (.mv (.t 34))⟩,
  ⟨(some 36), (some (35, false)), (.mv (.t 4))⟩,
  ⟨(some 37), (some (35, false)), (.bin .geq (.t 36) (.c (.sc (.int .i64 (128)))))⟩,
  ⟨(some 38), none, (.pick (.t 35) (.c (.sc (.bool true))) (.t 37))⟩,
  ⟨(some 39), none, (.mv (.t 38))⟩,
  ⟨(some 40), (some (39, false)), (.mv (.t 5))⟩,
  ⟨(some 41), (some (39, false)), (.bin .lss (.t 40) (.c (.sc (.int .i64 (0)))))⟩,
  ⟨(some 42), none, (.pick (.t 39) (.c (.sc (.bool true))) (.t 41))⟩,
  ⟨(some 43), none, (.mv (.t 42))⟩,
  ⟨(some 44), (some (43, false)), (.mv (.t 5))⟩,
  ⟨(some 45), (some (43, false)), (.bin .gtr (.t 44) (.c (.sc (.int .i64 (4294943999)))))⟩,
  ⟨(some 46), none, (.pick (.t 43) (.c (.sc (.bool true))) (.t 45))⟩] none)
 (.cond (.t 46)
 (.seq (.reg [⟨(some 12), none, (.mv (.c (.sc (.slice none 0 0))))⟩,
  ⟨(some 13), none, (.mv (.c (.sc (.int .i64 (1)))))⟩] none) .ret) .skip))
 (.seq (.reg [⟨(some 16), none, (.mv (.c (.sc (.slice none 0 0))))⟩] none)
 (.seq (.seq (.reg [⟨(some 47), none, (.mv (.t 0))⟩,
  ⟨(some 48), none, (.len (.t 47))⟩,
  ⟨(some 49), none, (.mv (.c (.sc (.int .i64 (0)))))⟩] none) (.block 0 
 (.loop ⟨[1, 3, 4, 5, 8, 16, 47, 48, 49], [(16, (3, 1))]⟩
 (.seq (.reg [⟨(some 50), none, (.bin .lss (.t 49) (.t 48))⟩] none)
 (.seq
 (.cond (.t 50) .skip (.exit 0))
 (.seq (.block 1
 (.seq (.reg [⟨(some 51), none, (.iaddr 3 (.t 47) (.t 49))⟩,
  ⟨(some 52), none, (.load 3 true (.t 51))⟩,
  ⟨(some 18), none, (.new [(.sc (.int .i64 (0))), (.sc (.int .i64 (0))), (.sc (.int .i64 (0)))])⟩,
  ⟨none, none, (.store 3 (.t 18) (.t 52))⟩] none)
 (.seq (.reg [⟨(some 54), none, (.mv (.t 1))⟩,
  ⟨(some 55), none, (.mv (.t 4))⟩,
  ⟨(some 56), none, (.faddr 0 (.t 18))⟩,
  ⟨(some 57), none, (.load 1 false (.t 56))⟩,
  ⟨(some 58), none, (.mv (.t 5))⟩,
  ⟨(some 59), none, (.call 16 [(.t 54), (.t 55), (.t 57), (.t 58)])⟩,
  ⟨(some 53), none, (.mv (.t 59))⟩,
  ⟨(some 60), none, (.ext 0 (.t 53))⟩,
  ⟨(some 61), none, (.ext 1 (.t 53))⟩,
  ⟨(some 19), none, (.new [(.sc (.int .i64 (0))), (.sc (.int .i64 (0))), (.sc (.int .i64 (0))), (.sc (.bool false))])⟩,
  ⟨none, none, (.store 4 (.t 19) (.t 60))⟩,
  ⟨(some 20), none, (.mv (.t 61))⟩] none)
 (.seq (.reg [⟨(some 63), none, (.load 2 true (.t 8))⟩,
  ⟨(some 64), none, (.mv (.t 3))⟩,
  ⟨(some 65), none, (.mv (.t 4))⟩,
  ⟨(some 66), none, (.faddr 0 (.t 18))⟩,
  ⟨(some 67), none, (.load 1 false (.t 66))⟩,
  ⟨(some 68), none, (.faddr 2 (.t 19))⟩,
  ⟨(some 69), none, (.load 1 false (.t 68))⟩,
  ⟨(some 70), none, (.mv (.t 5))⟩,
  ⟨(some 71), none, (.bin .add (.t 70) (.c (.sc (.int .i64 (1)))))⟩,
  ⟨(some 72), none, (.build [(.sc (.int .i64 (0))), (.sc (.int .i64 (0)))] [(0, (1, (.t 69))), (1, (1, (.t 71)))])⟩,
  ⟨(some 73), none, (.call 24 [(.t 63), (.t 64), (.t 65), (.t 67), (.t 72)])⟩,
  ⟨(some 62), none, (.mv (.t 73))⟩,
  ⟨(some 74), none, (.ext 0 (.t 62))⟩,
  ⟨(some 75), none, (.ext 1 (.t 62))⟩,
  ⟨(some 21), none, (.mv (.t 74))⟩,
  ⟨(some 22), none, (.mv (.t 75))⟩] none)
 (.seq (.seq (.reg [⟨(some 76), none, (.mv (.t 22))⟩,
  ⟨(some 77), none, (.bin .neq (.t 76) (.c (.sc (.int .i64 (0)))))⟩] none)
 (.cond (.t 77)
 (.seq (.reg [⟨(some 78), none, (.mv (.t 22))⟩,
  ⟨(some 12), none, (.mv (.c (.sc (.slice none 0 0))))⟩,
  ⟨(some 13), none, (.mv (.t 78))⟩] none) .ret) .skip))
 (.seq (.reg [⟨(some 79), none, (.mv (.t 20))⟩,
  ⟨(some 80), none, (.mv (.t 79))⟩,
  ⟨(some 81), (some (80, true)), (.faddr 3 (.t 19))⟩,
  ⟨(some 82), (some (80, true)), (.load 1 false (.t 81))⟩,
  ⟨(some 83), (some (80, true)), (.un .not (.t 82))⟩,
  ⟨(some 84), none, (.pick (.t 80) (.t 83) (.c (.sc (.bool false))))⟩,
  ⟨(some 85), none, (.mv (.t 84))⟩,
  ⟨(some 86), (some (85, false)), (.mv (.t 5))⟩,
  ⟨(some 87), (some (85, false)), (.bin .quo (.t 86) (.c (.sc (.int .i64 (86400)))))⟩,
  ⟨(some 88), (some (85, false)), (.faddr 2 (.t 19))⟩,
  ⟨(some 89), (some (85, false)), (.load 1 false (.t 88))⟩,
  ⟨(some 90), (some (85, false)), (.bin .quo (.t 89) (.c (.sc (.int .i64 (86400)))))⟩,
  ⟨(some 91), (some (85, false)), (.bin .sub (.t 87) (.t 90))⟩,
  ⟨(some 92), (some (85, false)), (.faddr 2 (.t 18))⟩,
  ⟨(some 93), (some (85, false)), (.load 1 false (.t 92))⟩,
  ⟨(some 94), (some (85, false)), (.bin .geq (.t 91) (.t 93))⟩,
  ⟨(some 95), none, (.pick (.t 85) (.c (.sc (.bool true))) (.t 94))⟩,
  ⟨(some 96), none, (.mv (.t 95))⟩,
  ⟨(some 97), (some (96, false)), (.mv (.t 21))⟩,
  ⟨(some 98), (some (96, false)), (.faddr 1 (.t 18))⟩,
  ⟨(some 99), (some (96, false)), (.load 1 false (.t 98))⟩,
  ⟨(some 100), (some (96, false)), (.bin .geq (.t 97) (.t 99))⟩,
  ⟨(some 101), none, (.pick (.t 96) (.c (.sc (.bool true))) (.t 100))⟩] none)
 (.cond (.t 101) (.reg [⟨(some 102), none, (.mv (.t 16))⟩,
  ⟨(some 103), none, (.faddr 0 (.t 18))⟩,
  ⟨(some 104), none, (.load 1 false (.t 103))⟩,
  ⟨(some 105), none, (.bslice 3 1 [(.t 104)])⟩,
  ⟨(some 106), none, (.append 3 1 8 (.t 102) (.t 105))⟩,
  ⟨(some 16), none, (.mv (.t 106))⟩] none) .skip))))))) (.reg [⟨(some 107), none, (.bin .add (.t 49) (.c (.sc (.int .i64 (1)))))⟩,
  ⟨(some 49), none, (.mv (.t 107))⟩] none)))))))
 (.seq (.reg [⟨(some 108), none, (.mv (.t 16))⟩,
  ⟨(some 12), none, (.mv (.t 108))⟩,
  ⟨(some 13), none, (.mv (.c (.sc (.int .i64 (0)))))⟩] none) .ret)))))))
theorem good31 {args : List PV} {r : PV} (hl : args.length ≤ 109) (h : Run Try.prog [.code ac31] (endQ [(.t 12), (.t 13)] r) ⟨initT 0 args, [], 0, 109⟩) : Good Try.prog 31 args r :=
  good_run (by kernel_rfl) Iamix Try.func31 rfl (hs := [⟨[1, 3, 4, 5, 8, 16, 47, 48, 49], [(16, 3, 1)]⟩]) (hs' := []) (by kernel_rfl) hl h
def ac32 : ACode :=
 (.seq (.reg [⟨(some 5), none, (.boxv (.t 0))⟩,
  ⟨(some 9), none, (.boxv (.t 4))⟩,
  ⟨(some 10), none, (.mv (.c (.sc (.int .i64 (0)))))⟩,
  ⟨(some 11), none, (.mv (.c (.sc (.int .i64 (0)))))⟩] none)
 (.seq (.seq (.reg [⟨(some 16), none, (.load 2 true (.t 5))⟩,
  ⟨(some 17), none, (.call 38 [(.t 16)])⟩,
  ⟨(some 12), none, (.mv (.t 17))⟩] none)
 (.seq (.reg [⟨(some 18), none, (.mv (.t 12))⟩,
  ⟨(some 19), none, (.bin .neq (.t 18) (.c (.sc (.int .i64 (0)))))⟩] none)
 (.cond (.t 19)
 (.seq (.reg [⟨(some 20), none, (.mv (.t 12))⟩,
  ⟨(some 10), none, (.mv (.c (.sc (.int .i64 (0)))))⟩,
  ⟨(some 11), none, (.mv (.t 20))⟩] none) .ret) .skip)))
 (.seq (.seq (.reg [⟨(some 21), none, (.mv (.t 3))⟩,
  ⟨(some 22), none, (.bin .lss (.t 21) (.c (.sc (.int .i64 (0)))))⟩,
  ⟨(some 23), none, (.mv (.t 22))⟩,
  ⟨(some 24), (some (23, false)), (.mv (.t 3))⟩,
  ⟨(some 25), (some (23, false)), (.faddr 0 (.t 5))⟩,
  ⟨(some 26), (some (23, false)), (.load 1 false (.t 25))⟩,
  ⟨(some 27), (some (23, false)), (.len (.t 26))⟩,
  ⟨(some 28), (some (23, false)), (.bin .geq (.t 24) (.t 27))⟩,
  ⟨(some 29), none, (.pick (.t 23) (.c (.sc (.bool true))) (.t 28))⟩] none)
 (.cond (.t 29)
 (.seq (.reg [⟨(some 10), none, (.mv (.c (.sc (.int .i64 (0)))))⟩,
  ⟨(some 11), none, (.mv (.c (.sc (.int .i64 (7)))))⟩] none) .ret) .skip))
 (.seq (.seq (.reg [⟨(some 30), none, (.mv (.t 1))⟩,
  ⟨(some 31), none, (.mv (.t 2))⟩,
  ⟨(some 32), none, (.load 2 true (.t 9))⟩,
  ⟨(some 33), none, (.call 39 [(.t 30), (.t 31), (.t 32)])⟩,
  ⟨(some 13), none, (.mv (.t 33))⟩] none)
 (.seq (.reg [⟨(some 34), none, (.mv (.t 13))⟩,
  ⟨(some 35), none, (.bin .neq (.t 34) (.c (.sc (.int .i64 (0)))))⟩] none)
 (.cond (.t 35)
 (.seq (.reg [⟨(some 36), none, (.mv (.t 13))⟩,
  ⟨(some 10), none, (.mv (.c (.sc (.int .i64 (0)))))⟩,
  ⟨(some 11), none, (.mv (.t 36))⟩] none) .ret) .skip)))
 (.seq (.reg [⟨(some 38), none, (.mv (.t 1))⟩,
  ⟨(some 39), none, (.mv (.t 2))⟩,
  ⟨(some 40), none, (.load 2 true (.t 9))⟩,
  ⟨(some 41), none, (.call 40 [(.t 38), (.t 39), (.t 40)])⟩,
  ⟨(some 37), none, (.mv (.t 41))⟩,
  ⟨(some 42), none, (.ext 0 (.t 37))⟩,
  ⟨(some 43), none, (.ext 1 (.t 37))⟩,
  ⟨(some 14), none, (.mv (.t 42))⟩,
  ⟨(some 15), none, (.mv (.t 43))⟩] none)
 (.seq (.reg [⟨(some 44), none, (.load 2 true (.t 5))⟩,
  ⟨(some 45), none, (.mv (.t 3))⟩,
  ⟨(some 46), none, (.mv (.t 14))⟩,
  ⟨(some 47), none, (.mv (.t 15))⟩,
  ⟨(some 48), none, (.call 41 [(.t 44), (.t 45), (.t 46), (.t 47)])⟩,
  ⟨(some 10), none, (.mv (.t 48))⟩,
  ⟨(some 11), none, (.mv (.c (.sc (.int .i64 (0)))))⟩] none) .ret))))))
theorem good32 {args : List PV} {r : PV} (hl : args.length ≤ 49) (h : Run Try.prog [.code ac32] (endQ [(.t 10), (.t 11)] r) ⟨initT 0 args, [], 0, 49⟩) : Good Try.prog 32 args r :=
  good_run (by kernel_rfl) Iamix Try.func32 rfl (hs := []) (hs' := []) (by kernel_rfl) hl h
def ac33 : ACode :=
 (.seq (.reg [⟨(some 1), none, (.boxv (.t 0))⟩,
  ⟨(some 2), none, (.mv (.c (.sc (.int .i64 (0)))))⟩] none)
 (.seq (.seq (.reg [⟨(some 5), none, (.faddr 0 (.t 1))⟩,
  ⟨(some 6), none, (.load 1 false (.t 5))⟩,
  ⟨(some 7), none, (.len (.t 6))⟩,
  ⟨(some 8), none, (.faddr 1 (.t 1))⟩,
  ⟨(some 9), none, (.load 1 false (.t 8))⟩,
  ⟨(some 10), none, (.len (.t 9))⟩,
  ⟨(some 11), none, (.bin .neq (.t 7) (.t 10))⟩,
  ⟨(some 12), none, (.mv (.t 11))⟩,
  ⟨(some 13), (some (12, false)), (.faddr 0 (.t 1))⟩,
  ⟨(some 14), (some (12, false)), (.load 1 false (.t 13))⟩,
  ⟨(some 15), (some (12, false)), (.len (.t 14))⟩,
  ⟨(some 16), (some (12, false)), (.bin .lss (.t 15) (.c (.sc (.int .i64 (1)))))⟩,
  ⟨(some 17), none, (.pick (.t 12) (.c (.sc (.bool true))) (.t 16))⟩,
  ⟨(some 18), none, (.mv (.t 17))⟩,
  ⟨(some 19), (some (18, false)), (.faddr 0 (.t 1))⟩,
  ⟨(some 20), (some (18, false)), (.load 1 false (.t 19))⟩,
  ⟨(some 21), (some (18, false)), (.len (.t 20))⟩,
  ⟨(some 22), (some (18, false)), (.bin .gtr (.t 21) (.c (.sc (.int .i64 (8)))))⟩,
  ⟨(some 23), none, (.pick (.t 18) (.c (.sc (.bool true))) (.t 22))⟩] none)
 (.cond (.t 23)
 (.seq (.reg [⟨(some 2), none, (.mv (.c (.sc (.int .i64 (3)))))⟩] none) .ret) .skip))
 (.seq (.seq (.reg [⟨(some 24), none, (.faddr 0 (.t 1))⟩,
  ⟨(some 25), none, (.load 1 false (.t 24))⟩,
  ⟨(some 26), none, (.faddr 1 (.t 1))⟩,
  ⟨(some 27), none, (.load 1 false (.t 26))⟩,
  ⟨(some 28), none, (.bslice 35 1 [(.t 25), (.t 27)])⟩,
  ⟨(some 29), none, (.call 42 [(.t 28)])⟩,
  ⟨(some 30), none, (.len (.t 29))⟩,
  ⟨(some 31), none, (.mv (.c (.sc (.int .i64 (0)))))⟩] none) (.block 0 
 (.loop ⟨[29, 30, 31], []⟩
 (.seq (.reg [⟨(some 32), none, (.bin .lss (.t 31) (.t 30))⟩] none)
 (.seq
 (.cond (.t 32) .skip (.exit 0))
 (.seq (.block 1
 (.seq (.reg [⟨(some 33), none, (.iaddr 1 (.t 29) (.t 31))⟩,
  ⟨(some 34), none, (.load 1 false (.t 33))⟩,
  ⟨(some 4), none, (.mv (.t 34))⟩] none)
 (.seq (.reg [⟨(some 35), none, (.mv (.t 4))⟩,
  ⟨(some 36), none, (.bin .lss (.t 35) (.c (.sc (.int .i64 (0)))))⟩,
  ⟨(some 37), none, (.mv (.t 36))⟩,
  ⟨(some 38), (some (37, false)), (.mv (.t 4))⟩,
  ⟨(some 39), (some (37, false)), (.bin .gtr (.t 38) (.c (.sc (.int .i64 (1000000)))))⟩,
  ⟨(some 40), none, (.pick (.t 37) (.c (.sc (.bool true))) (.t 39))⟩] none)
 (.cond (.t 40)
 (.seq (.reg [⟨(some 2), none, (.mv (.c (.sc (.int .i64 (1)))))⟩] none) .ret) .skip)))) (.reg [⟨(some 41), none, (.bin .add (.t 31) (.c (.sc (.int .i64 (1)))))⟩,
  ⟨(some 31), none, (.mv (.t 41))⟩] none)))))))
 (.seq (.reg [⟨(some 2), none, (.mv (.c (.sc (.int .i64 (0)))))⟩] none) .ret))))
theorem good33 {args : List PV} {r : PV} (hl : args.length ≤ 42) (h : Run Try.prog [.code ac33] (endQ [(.t 2)] r) ⟨initT 0 args, [], 0, 42⟩) : Good Try.prog 33 args r :=
  good_run (by kernel_rfl) Iamix Try.func33 rfl (hs := [⟨[29, 30, 31], []⟩]) (hs' := []) (by kernel_rfl) hl h
def ac34 : ACode :=
 (.seq (.reg [⟨(some 5), none, (.boxv (.t 2))⟩,
  ⟨(some 6), none, (.mv (.c (.sc (.int .i64 (0)))))⟩] none)
 (.seq (.seq (.reg [⟨(some 10), none, (.mv (.t 1))⟩,
  ⟨(some 11), none, (.bin .lss (.t 10) (.c (.sc (.int .i64 (0)))))⟩,
  ⟨(some 12), none, (.mv (.t 11))⟩,
  ⟨(some 13), (some (12, false)), (.mv (.t 1))⟩,
  ⟨(some 14), (some (12, false)), (.bin .geq (.t 13) (.c (.sc (.int .i64 (128)))))⟩,
  ⟨(some 15), none, (.pick (.t 12) (.c (.sc (.bool true))) (.t 14))⟩,
  ⟨(some 16), none, (.mv (.t 15))⟩,
  ⟨(some 17), (some (16, false)), (.faddr 0 (.t 5))⟩,
  ⟨(some 18), (some (16, false)), (.load 1 false (.t 17))⟩,
  ⟨(some 19), (some (16, false)), (.bin .lss (.t 18) (.c (.sc (.int .i64 (0)))))⟩,
  ⟨(some 20), none, (.pick (.t 16) (.c (.sc (.bool true))) (.t 19))⟩,
  ⟨(some 21), none, (.mv (.t 20))⟩,
  ⟨(some 22), (some (21, false)), (.faddr 0 (.t 5))⟩,
  ⟨(some 23), (some (21, false)), (.load 1 false (.t 22))⟩,
  ⟨(some 24), (some (21, false)), (.faddr 1 (.t 5))⟩,
  ⟨(some 25), (some (21, false)), (.load 1 false (.t 24))⟩,
  ⟨(some 26), (some (21, false)), (.bin .gtr (.t 23) (.t 25))⟩,
  ⟨(some 27), none, (.pick (.t 21) (.c (.sc (.bool true))) (.t 26))⟩,
  ⟨(some 28), none, (.mv (.t 27))⟩,
  ⟨(some 29), (some (28, false)), (.faddr 1 (.t 5))⟩,
  ⟨(some 30), (some (28, false)), (.load 1 false (.t 29))⟩,
  ⟨(some 31), (some (28, false)), (.bin .gtr (.t 30) (.c (.sc (.int .i64 (4294944000)))))⟩,
  ⟨(some 32), none, (.pick (.t 28) (.c (.sc (.bool true))) (.t 31))⟩] none)
 (.cond (.t 32)
 (.seq (.reg [⟨(some 6), none, (.mv (.c (.sc (.int .i64 (1)))))⟩] none) .ret) .skip))
 (.seq (.seq (.reg [⟨(some 33), none, (.mv (.t 0))⟩,
  ⟨(some 34), none, (.len (.t 33))⟩,
  ⟨(some 35), none, (.bin .gtr (.t 34) (.c (.sc (.int .i64 (256)))))⟩] none)
 (.cond (.t 35)
 (.seq (.reg [⟨(some 6), none, (.mv (.c (.sc (.int .i64 (8)))))⟩] none) .ret) .skip))
 (.seq (.seq (.reg [⟨(some 36), none, (.mv (.t 0))⟩,
  ⟨(some 37), none, (.len (.t 36))⟩,
  ⟨(some 38), none, (.mv (.c (.sc (.int .i64 (0)))))⟩] none) (.block 0 
 (.loop ⟨[36, 37, 38], []⟩
 (.seq (.reg [⟨(some 39), none, (.bin .lss (.t 38) (.t 37))⟩] none)
 (.seq
 (.cond (.t 39) .skip (.exit 0))
 (.seq (.block 1
 (.seq (.reg [⟨(some 40), none, (.iaddr 13 (.t 36) (.t 38))⟩,
  ⟨(some 41), none, (.load 13 true (.t 40))⟩,
  ⟨(some 8), none, (.new [(.sc (.int .i64 (0))), (.sc (.int .i64 (0))), (.sc (.int .i64 (0))), (.sc (.int .i64 (0))), (.sc (.int .i64 (0))), (.sc (.int .i64 (0))), (.sc (.bool false)), (.sc (.slice none 0 0)), (.sc (.slice none 0 0)), (.sc (.int .i64 (0))), (.sc (.int .i64 (0))), (.sc (.int .i64 (0))), (.sc (.int .i64 (0)))])⟩,
  ⟨none, none, (.store 13 (.t 8) (.t 41))⟩] none)
 (.seq (.reg [⟨(some 42), none, (.load 13 true (.t 8))⟩,
  ⟨(some 43), none, (.call 43 [(.t 42)])⟩,
  ⟨(some 9), none, (.mv (.t 43))⟩] none)
 (.seq (.reg [⟨(some 44), none, (.mv (.t 9))⟩,
  ⟨(some 45), none, (.bin .neq (.t 44) (.c (.sc (.int .i64 (0)))))⟩] none)
 (.cond (.t 45)
 (.seq (.reg [⟨(some 46), none, (.mv (.t 9))⟩,
  ⟨(some 6), none, (.mv (.t 46))⟩] none) .ret) .skip))))) (.reg [⟨(some 47), none, (.bin .add (.t 38) (.c (.sc (.int .i64 (1)))))⟩,
  ⟨(some 38), none, (.mv (.t 47))⟩] none)))))))
 (.seq (.reg [⟨(some 6), none, (.mv (.c (.sc (.int .i64 (0)))))⟩] none) .ret)))))
theorem good34 {args : List PV} {r : PV} (hl : args.length ≤ 48) (h : Run Try.prog [.code ac34] (endQ [(.t 6)] r) ⟨initT 0 args, [], 0, 48⟩) : Good Try.prog 34 args r :=
  good_run (by kernel_rfl) Iamix Try.func34 rfl (hs := [⟨[36, 37, 38], []⟩]) (hs' := []) (by kernel_rfl) hl h
def ac35 : ACode :=
 (.seq (.reg [⟨(some 3), none, (.boxv (.t 0))⟩,
  ⟨(some 5), none, (.boxv (.t 2))⟩,
  ⟨(some 6), none, (.mv (.c (.sc (.int .i64 (0)))))⟩] none)
 (.seq (.reg [⟨(some 8), none, (.faddr 0 (.t 3))⟩,
  ⟨(some 9), none, (.load 1 false (.t 8))⟩,
  ⟨(some 10), none, (.mv (.t 1))⟩,
  ⟨(some 11), none, (.iaddr 1 (.t 9) (.t 10))⟩,
  ⟨(some 12), none, (.load 1 false (.t 11))⟩,
  ⟨(some 7), none, (.mv (.t 12))⟩] none)
 (.seq (.reg [⟨(some 13), none, (.faddr 1 (.t 3))⟩,
  ⟨(some 14), none, (.load 1 false (.t 13))⟩,
  ⟨(some 15), none, (.mv (.t 1))⟩,
  ⟨(some 16), none, (.iaddr 1 (.t 14) (.t 15))⟩,
  ⟨(some 17), none, (.load 1 false (.t 16))⟩,
  ⟨(some 18), none, (.iaddrA 1 2 (.t 5) (.c (.sc (.int .i64 (0)))))⟩,
  ⟨(some 19), none, (.load 1 false (.t 18))⟩,
  ⟨(some 20), none, (.bin .mul (.t 17) (.t 19))⟩,
  ⟨(some 21), none, (.mv (.t 7))⟩,
  ⟨(some 22), none, (.iaddrA 1 2 (.t 5) (.c (.sc (.int .i64 (1)))))⟩,
  ⟨(some 23), none, (.load 1 false (.t 22))⟩,
  ⟨(some 24), none, (.bin .quo (.t 23) (.c (.sc (.int .i64 (3600)))))⟩,
  ⟨(some 25), none, (.bin .mul (.t 21) (.t 24))⟩,
  ⟨(some 26), none, (.bin .add (.t 20) (.t 25))⟩,
  ⟨(some 27), none, (.mv (.t 7))⟩,
  ⟨(some 28), none, (.iaddrA 1 2 (.t 5) (.c (.sc (.int .i64 (1)))))⟩,
  ⟨(some 29), none, (.load 1 false (.t 28))⟩,
  ⟨(some 30), none, (.bin .rem (.t 29) (.c (.sc (.int .i64 (3600)))))⟩,
  ⟨(some 31), none, (.bin .mul (.t 27) (.t 30))⟩,
  ⟨(some 32), none, (.bin .quo (.t 31) (.c (.sc (.int .i64 (3600)))))⟩,
  ⟨(some 33), none, (.bin .add (.t 26) (.t 32))⟩,
  ⟨(some 6), none, (.mv (.t 33))⟩] (some [[], [0], [], [1, 2, 0], [3, 1, 2, 0], [], [5], [4, 6, 3, 1, 2, 0, 5], [], [], [9], [10, 9], [8, 11, 10, 9], [7, 12, 4, 6, 3, 1, 2, 0, 5, 8, 11, 10, 9], [], [], [15], [16, 15], [14, 17, 16, 15], [18, 14, 17, 16, 15], [13, 19, 7, 12, 4, 6, 3, 1, 2, 0, 5, 8, 11, 10, 9, 18, 14, 17, 16, 15], [20, 0, 1, 2, 3, 4, 5, 6, 7, 8, 9, 10, 11, 12, 13, 14, 15, 16, 17, 18, 19]])) .ret)))
theorem good35 {args : List PV} {r : PV} (hl : args.length ≤ 34) (h : Run Try.prog [.code ac35] (endQ [(.t 6)] r) ⟨initT 0 args, [], 0, 34⟩) : Good Try.prog 35 args r :=
  good_run (by kernel_rfl) Iamix Try.func35 rfl (hs := []) (hs' := []) (by kernel_rfl) hl h
def ac36 : ACode :=
 (.seq (.reg [⟨(some 5), none, (.boxv (.t 2))⟩,
  ⟨(some 6), none, (.new [(.sc (.int .i64 (0))), (.sc (.int .i64 (0)))])⟩] none)
 (.seq (.seq (.reg [⟨(some 11), none, (.mv (.t 0))⟩,
  ⟨(some 12), none, (.len (.t 11))⟩,
  ⟨(some 13), none, (.mv (.c (.sc (.int .i64 (0)))))⟩] none) (.block 0 
 (.loop ⟨[1, 5, 6, 11, 12, 13], []⟩
 (.seq (.reg [⟨(some 14), none, (.bin .lss (.t 13) (.t 12))⟩] none)
 (.seq
 (.cond (.t 14) .skip (.exit 0))
 (.seq (.block 1
 (.seq (.reg [⟨(some 15), none, (.iaddr 13 (.t 11) (.t 13))⟩,
  ⟨(some 16), none, (.load 13 true (.t 15))⟩,
  ⟨(some 8), none, (.new [(.sc (.int .i64 (0))), (.sc (.int .i64 (0))), (.sc (.int .i64 (0))), (.sc (.int .i64 (0))), (.sc (.int .i64 (0))), (.sc (.int .i64 (0))), (.sc (.bool false)), (.sc (.slice none 0 0)), (.sc (.slice none 0 0)), (.sc (.int .i64 (0))), (.sc (.int .i64 (0))), (.sc (.int .i64 (0))), (.sc (.int .i64 (0)))])⟩,
  ⟨none, none, (.store 13 (.t 8) (.t 16))⟩] none)
 (.seq (.reg [⟨(some 17), none, (.faddr 7 (.t 8))⟩,
  ⟨(some 18), none, (.load 1 false (.t 17))⟩,
  ⟨(some 19), none, (.len (.t 18))⟩,
  ⟨(some 20), none, (.mv (.c (.sc (.int .i64 (0)))))⟩] none) (.block 2 
 (.loop ⟨[1, 5, 6, 8, 11, 12, 13, 18, 19, 20], []⟩
 (.seq (.reg [⟨(some 21), none, (.bin .lss (.t 20) (.t 19))⟩] none)
 (.seq
 (.cond (.t 21) .skip (.exit 2))
 (.seq (.block 3
 (.seq (.reg [⟨(some 22), none, (.mv (.t 20))⟩,
  ⟨(some 23), none, (.iaddr 5 (.t 18) (.t 20))⟩,
  ⟨(some 24), none, (.load 5 true (.t 23))⟩,
  ⟨(some 10), none, (.new [(.sc (.int .i64 (0))), (.sc (.int .i64 (0))), (.sc (.int .i64 (0))), (.sc (.int .i64 (0))), (.sc (.int .i64 (0)))])⟩,
  ⟨(some 9), none, (.mv (.t 22))⟩,
  ⟨none, none, (.store 5 (.t 10) (.t 24))⟩] none)
 (.seq (.seq (.reg [⟨(some 25), none, (.faddr 0 (.t 10))⟩,
  ⟨(some 26), none, (.load 1 false (.t 25))⟩,
  ⟨(some 27), none, (.mv (.t 1))⟩,
  ⟨(some 28), none, (.bin .neq (.t 26) (.t 27))⟩,
  ⟨(some 29), none, (.mv (.t 28))⟩,
  ⟨(some 30), (some (29, false)), (.faddr 1 (.t 10))⟩,
  ⟨(some 31), (some (29, false)), (.faddr 0 (.t 30))⟩,
  ⟨(some 32), (some (29, false)), (.load 1 false (.t 31))⟩,
  ⟨(some 33), (some (29, false)), (.faddr 0 (.t 5))⟩,
  ⟨(some 34), (some (29, false)), (.load 1 false (.t 33))⟩,
  ⟨(some 35), (some (29, false)), (.bin .lss (.t 32) (.t 34))⟩,
  ⟨(some 36), none, (.pick (.t 29) (.c (.sc (.bool true))) (.t 35))⟩,
  ⟨(some 37), none, (.mv (.t 36))⟩,
  ⟨(some 38), (some (37, false)), (.faddr 1 (.t 10))⟩,
  ⟨(some 39), (some (37, false)), (.faddr 0 (.t 38))⟩,
  ⟨(some 40), (some (37, false)), (.load 1 false (.t 39))⟩,
  ⟨(some 41), (some (37, false)), (.faddr 1 (.t 5))⟩,
  ⟨(some 42), (some (37, false)), (.load 1 false (.t 41))⟩,
  ⟨(some 43), (some (37, false)), (.bin .geq (.t 40) (.t 42))⟩,
  ⟨(some 44), none, (.pick (.t 37) (.c (.sc (.bool true))) (.t 43))⟩] none)
 (.cond (.t 44) (.exit 3) .skip))
 (.seq (.reg [⟨(some 45), none, (.iaddrA 1 2 (.t 6) (.c (.sc (.int .i64 (0)))))⟩,
  ⟨(some 46), none, (.load 1 false (.t 45))⟩,
  ⟨(some 47), none, (.bin .add (.t 46) (.c (.sc (.int .i64 (1)))))⟩,
  ⟨(some 48), none, (.iaddrA 1 2 (.t 6) (.c (.sc (.int .i64 (0)))))⟩,
  ⟨none, none, (.store 1 (.t 48) (.t 47))⟩] none)
 (.seq (.reg [⟨(some 49), none, (.faddr 6 (.t 8))⟩,
  ⟨(some 50), none, (.load 1 false (.t 49))⟩,
  ⟨(some 51), none, (.un .not (.t 50))⟩,
  ⟨(some 52), none, (.mv (.t 51))⟩,
  ⟨(some 53), (some (52, false)), (.mv (.t 9))⟩,
  ⟨(some 54), (some (52, false)), (.faddr 7 (.t 8))⟩,
  ⟨(some 55), (some (52, false)), (.load 1 false (.t 54))⟩,
  ⟨(some 56), (some (52, false)), (.len (.t 55))⟩,
  ⟨(some 57), (some (52, false)), (.bin .sub (.t 56) (.c (.sc (.int .i64 (1)))))⟩,
  ⟨(some 58), (some (52, false)), (.bin .lss (.t 53) (.t 57))⟩,
  ⟨(some 59), none, (.pick (.t 52) (.c (.sc (.bool true))) (.t 58))⟩] none)
 (.cond (.t 59) (.reg [⟨(some 60), none, (.iaddrA 1 2 (.t 6) (.c (.sc (.int .i64 (1)))))⟩,
  ⟨(some 61), none, (.load 1 false (.t 60))⟩,
  ⟨(some 62), none, (.faddr 3 (.t 10))⟩,
  ⟨(some 63), none, (.faddr 0 (.t 62))⟩,
  ⟨(some 64), none, (.load 1 false (.t 63))⟩,
  ⟨(some 65), none, (.faddr 1 (.t 10))⟩,
  ⟨(some 66), none, (.faddr 0 (.t 65))⟩,
  ⟨(some 67), none, (.load 1 false (.t 66))⟩,
  ⟨(some 68), none, (.bin .sub (.t 64) (.t 67))⟩,
  ⟨(some 69), none, (.bin .add (.t 61) (.t 68))⟩,
  ⟨(some 70), none, (.iaddrA 1 2 (.t 6) (.c (.sc (.int .i64 (1)))))⟩,
  ⟨none, none, (.store 1 (.t 70) (.t 69))⟩] none) .skip)))))) (.reg [⟨(some 71), none, (.bin .add (.t 20) (.c (.sc (.int .i64 (1)))))⟩,
  ⟨(some 20), none, (.mv (.t 71))⟩] none))))))))) (.reg [⟨(some 72), none, (.bin .add (.t 13) (.c (.sc (.int .i64 (1)))))⟩,
  ⟨(some 13), none, (.mv (.t 72))⟩] none)))))))
 (.seq (.reg [⟨(some 73), none, (.load 2 true (.t 6))⟩,
  ⟨none, none, (.store 2 (.t 6) (.t 73))⟩] none) .ret)))
theorem good36 {args : List PV} {r : PV} (hl : args.length ≤ 74) (h : Run Try.prog [.code ac36] (endQ [(.c 6 2 true)] r) ⟨initT 0 args, [], 0, 74⟩) : Good Try.prog 36 args r :=
  good_run (by kernel_rfl) Iamix Try.func36 rfl (hs := [⟨[1, 5, 6, 11, 12, 13], []⟩, ⟨[1, 5, 6, 8, 11, 12, 13, 18, 19, 20], []⟩]) (hs' := []) (by kernel_rfl) hl h
def ac38 : ACode :=
 (.seq (.reg [⟨(some 1), none, (.boxv (.t 0))⟩,
  ⟨(some 2), none, (.mv (.c (.sc (.int .i64 (0)))))⟩] none)
 (.seq (.seq (.reg [⟨(some 4), none, (.faddr 0 (.t 1))⟩,
  ⟨(some 5), none, (.load 1 false (.t 4))⟩,
  ⟨(some 6), none, (.len (.t 5))⟩,
  ⟨(some 7), none, (.faddr 1 (.t 1))⟩,
  ⟨(some 8), none, (.load 1 false (.t 7))⟩,
  ⟨(some 9), none, (.len (.t 8))⟩,
  ⟨(some 10), none, (.bin .neq (.t 6) (.t 9))⟩,
  ⟨(some 11), none, (.mv (.t 10))⟩,
  ⟨(some 12), (some (11, false)), (.faddr 0 (.t 1))⟩,
  ⟨(some 13), (some (11, false)), (.load 1 false (.t 12))⟩,
  ⟨(some 14), (some (11, false)), (.len (.t 13))⟩,
  ⟨(some 15), (some (11, false)), (.bin .lss (.t 14) (.c (.sc (.int .i64 (1)))))⟩,
  ⟨(some 16), none, (.pick (.t 11) (.c (.sc (.bool true))) (.t 15))⟩,
  ⟨(some 17), none, (.mv (.t 16))⟩,
  ⟨(some 18), (some (17, false)), (.faddr 0 (.t 1))⟩,
  ⟨(some 19), (some (17, false)), (.load 1 false (.t 18))⟩,
  ⟨(some 20), (some (17, false)), (.len (.t 19))⟩,
  ⟨(some 21), (some (17, false)), (.bin .gtr (.t 20) (.c (.sc (.int .i64 (8)))))⟩,
  ⟨(some 22), none, (.pick (.t 17) (.c (.sc (.bool true))) (.t 21))⟩] none)
 (.cond (.t 22)
 (.seq (.reg [⟨(some 2), none, (.mv (.c (.sc (.int .i64 (3)))))⟩] none) .ret) .skip))
 (.seq (.seq (.reg [⟨(some 3), none, (.mv (.c (.sc (.int .i64 (0)))))⟩] none) (.block 0 
 (.loop ⟨[1, 3], []⟩
 (.seq (.seq (.reg [⟨(some 23), none, (.mv (.t 3))⟩,
  ⟨(some 24), none, (.faddr 0 (.t 1))⟩,
  ⟨(some 25), none, (.load 1 false (.t 24))⟩,
  ⟨(some 26), none, (.len (.t 25))⟩,
  ⟨(some 27), none, (.bin .lss (.t 23) (.t 26))⟩] none)
 (.cond (.t 27) .skip (.exit 0)))
 (.seq (.block 1
 (.seq (.reg [⟨(some 30), none, (.faddr 0 (.t 1))⟩,
  ⟨(some 31), none, (.load 1 false (.t 30))⟩,
  ⟨(some 32), none, (.mv (.t 3))⟩,
  ⟨(some 33), none, (.iaddr 1 (.t 31) (.t 32))⟩,
  ⟨(some 34), none, (.load 1 false (.t 33))⟩,
  ⟨(some 35), none, (.bin .lss (.t 34) (.c (.sc (.int .i64 (0)))))⟩,
  ⟨(some 36), none, (.mv (.t 35))⟩,
  ⟨(some 37), (some (36, false)), (.faddr 0 (.t 1))⟩,
  ⟨(some 38), (some (36, false)), (.load 1 false (.t 37))⟩,
  ⟨(some 39), (some (36, false)), (.mv (.t 3))⟩,
  ⟨(some 40), (some (36, false)), (.iaddr 1 (.t 38) (.t 39))⟩,
  ⟨(some 41), (some (36, false)), (.load 1 false (.t 40))⟩,
  ⟨(some 42), (some (36, false)), (.bin .gtr (.t 41) (.c (.sc (.int .i64 (1000000)))))⟩,
  ⟨(some 43), none, (.pick (.t 36) (.c (.sc (.bool true))) (.t 42))⟩,
  ⟨(some 44), none, (.mv (.t 43))⟩,
  ⟨(some 45), (some (44, false)), (.faddr 1 (.t 1))⟩,
  ⟨(some 46), (some (44, false)), (.load 1 false (.t 45))⟩,
  ⟨(some 47), (some (44, false)), (.mv (.t 3))⟩,
  ⟨(some 48), (some (44, false)), (.iaddr 1 (.t 46) (.t 47))⟩,
  ⟨(some 49), (some (44, false)), (.load 1 false (.t 48))⟩,
  ⟨(some 50), (some (44, false)), (.bin .lss (.t 49) (.c (.sc (.int .i64 (0)))))⟩,
  ⟨(some 51), none, (.pick (.t 44) (.c (.sc (.bool true))) (.t 50))⟩,
  ⟨(some 52), none, (.mv (.t 51))⟩,
  ⟨(some 53), (some (52, false)), (.faddr 1 (.t 1))⟩,
  ⟨(some 54), (some (52, false)), (.load 1 false (.t 53))⟩,
  ⟨(some 55), (some (52, false)), (.mv (.t 3))⟩,
  ⟨(some 56), (some (52, false)), (.iaddr 1 (.t 54) (.t 55))⟩,
  ⟨(some 57), (some (52, false)), (.load 1 false (.t 56))⟩,
  ⟨(some 58), (some (52, false)), (.bin .gtr (.t 57) (.c (.sc (.int .i64 (1000000)))))⟩,
  ⟨(some 59), none, (.pick (.t 52) (.c (.sc (.bool true))) (.t 58))⟩] none)
 (.cond (.t 59)
 (.seq (.reg [⟨(some 2), none, (.mv (.c (.sc (.int .i64 (1)))))⟩] none) .ret) .skip))) (.reg [⟨(some 28), none, (.mv (.t 3))⟩,
  ⟨(some 29), none, (.bin .add (.t 28) (.c (.sc (.int .i64 (1)))))⟩,
  ⟨(some 3), none, (.mv (.t 29))⟩] none))))))
 (.seq (.reg [⟨(some 2), none, (.mv (.c (.sc (.int .i64 (0)))))⟩] none) .ret))))
theorem good38 {args : List PV} {r : PV} (hl : args.length ≤ 60) (h : Run Try.prog [.code ac38] (endQ [(.t 2)] r) ⟨initT 0 args, [], 0, 60⟩) : Good Try.prog 38 args r :=
  good_run (by kernel_rfl) Iamix Try.func38 rfl (hs := [⟨[1, 3], []⟩]) (hs' := []) (by kernel_rfl) hl h
def ac39 : ACode :=
 (.seq (.reg [⟨(some 5), none, (.boxv (.t 2))⟩,
  ⟨(some 6), none, (.mv (.c (.sc (.int .i64 (0)))))⟩] none)
 (.seq (.seq (.reg [⟨(some 9), none, (.mv (.t 1))⟩,
  ⟨(some 10), none, (.bin .lss (.t 9) (.c (.sc (.int .i64 (0)))))⟩,
  ⟨(some 11), none, (.mv (.t 10))⟩,
  ⟨(some 12), (some (11, false)), (.mv (.t 1))⟩,
  ⟨(some 13), (some (11, false)), (.bin .geq (.t 12) (.c (.sc (.int .i64 (128)))))⟩,
  ⟨(some 14), none, (.pick (.t 11) (.c (.sc (.bool true))) (.t 13))⟩,
  ⟨(some 15), none, (.mv (.t 14))⟩,
  ⟨(some 16), (some (15, false)), (.faddr 0 (.t 5))⟩,
  ⟨(some 17), (some (15, false)), (.load 1 false (.t 16))⟩,
  ⟨(some 18), (some (15, false)), (.bin .lss (.t 17) (.c (.sc (.int .i64 (0)))))⟩,
  ⟨(some 19), none, (.pick (.t 15) (.c (.sc (.bool true))) (.t 18))⟩,
  ⟨(some 20), none, (.mv (.t 19))⟩,
  ⟨(some 21), (some (20, false)), (.faddr 0 (.t 5))⟩,
  ⟨(some 22), (some (20, false)), (.load 1 false (.t 21))⟩,
  ⟨(some 23), (some (20, false)), (.faddr 1 (.t 5))⟩,
  ⟨(some 24), (some (20, false)), (.load 1 false (.t 23))⟩,
  ⟨(some 25), (some (20, false)), (.bin .gtr (.t 22) (.t 24))⟩,
  ⟨(some 26), none, (.pick (.t 20) (.c (.sc (.bool true))) (.t 25))⟩,
  ⟨(some 27), none, (.mv (.t 26))⟩,
  ⟨(some 28), (some (27, false)), (.faddr 1 (.t 5))⟩,
  ⟨(some 29), (some (27, false)), (.load 1 false (.t 28))⟩,
  ⟨(some 30), (some (27, false)), (.bin .gtr (.t 29) (.c (.sc (.int .i64 (4294944000)))))⟩,
  ⟨(some 31), none, (.pick (.t 27) (.c (.sc (.bool true))) (.t 30))⟩] none)
 (.cond (.t 31)
 (.seq (.reg [⟨(some 6), none, (.mv (.c (.sc (.int .i64 (1)))))⟩] none) .ret) .skip))
 (.seq (.seq (.reg [⟨(some 32), none, (.mv (.t 0))⟩,
  ⟨(some 33), none, (.len (.t 32))⟩,
  ⟨(some 34), none, (.bin .gtr (.t 33) (.c (.sc (.int .i64 (256)))))⟩] none)
 (.cond (.t 34)
 (.seq (.reg [⟨(some 6), none, (.mv (.c (.sc (.int .i64 (8)))))⟩] none) .ret) .skip))
 (.seq (.seq (.reg [⟨(some 7), none, (.mv (.c (.sc (.int .i64 (0)))))⟩] none) (.block 0 
 (.loop ⟨[0, 7], []⟩
 (.seq (.seq (.reg [⟨(some 35), none, (.mv (.t 7))⟩,
  ⟨(some 36), none, (.mv (.t 0))⟩,
  ⟨(some 37), none, (.len (.t 36))⟩,
  ⟨(some 38), none, (.bin .lss (.t 35) (.t 37))⟩] none)
 (.cond (.t 38) .skip (.exit 0)))
 (.seq (.block 1
 (.seq (.reg [⟨(some 41), none, (.mv (.t 0))⟩,
  ⟨(some 42), none, (.mv (.t 7))⟩,
  ⟨(some 43), none, (.iaddr 13 (.t 41) (.t 42))⟩,
  ⟨(some 44), none, (.load 13 true (.t 43))⟩,
  ⟨(some 45), none, (.call 44 [(.t 44)])⟩,
  ⟨(some 8), none, (.mv (.t 45))⟩] none)
 (.seq (.reg [⟨(some 46), none, (.mv (.t 8))⟩,
  ⟨(some 47), none, (.bin .neq (.t 46) (.c (.sc (.int .i64 (0)))))⟩] none)
 (.cond (.t 47)
 (.seq (.reg [⟨(some 48), none, (.mv (.t 8))⟩,
  ⟨(some 6), none, (.mv (.t 48))⟩] none) .ret) .skip)))) (.reg [⟨(some 39), none, (.mv (.t 7))⟩,
  ⟨(some 40), none, (.bin .add (.t 39) (.c (.sc (.int .i64 (1)))))⟩,
  ⟨(some 7), none, (.mv (.t 40))⟩] none))))))
 (.seq (.reg [⟨(some 6), none, (.mv (.c (.sc (.int .i64 (0)))))⟩] none) .ret)))))
theorem good39 {args : List PV} {r : PV} (hl : args.length ≤ 49) (h : Run Try.prog [.code ac39] (endQ [(.t 6)] r) ⟨initT 0 args, [], 0, 49⟩) : Good Try.prog 39 args r :=
  good_run (by kernel_rfl) Iamix Try.func39 rfl (hs := [⟨[0, 7], []⟩]) (hs' := []) (by kernel_rfl) hl h
def ac40 : ACode :=
 (.seq (.reg [⟨(some 5), none, (.boxv (.t 2))⟩,
  ⟨(some 6), none, (.mv (.c (.sc (.int .i64 (0)))))⟩,
  ⟨(some 7), none, (.mv (.c (.sc (.int .i64 (0)))))⟩] none)
 (.seq (.reg [⟨(some 8), none, (.mv (.c (.sc (.int .i64 (0)))))⟩,
  ⟨(some 9), none, (.mv (.c (.sc (.int .i64 (0)))))⟩] none)
 (.seq (.seq (.reg [⟨(some 10), none, (.mv (.c (.sc (.int .i64 (0)))))⟩] none) (.block 0 
 (.loop ⟨[0, 1, 5, 8, 9, 10], []⟩
 (.seq (.seq (.reg [⟨(some 13), none, (.mv (.t 10))⟩,
  ⟨(some 14), none, (.mv (.t 0))⟩,
  ⟨(some 15), none, (.len (.t 14))⟩,
  ⟨(some 16), none, (.bin .lss (.t 13) (.t 15))⟩] none)
 (.cond (.t 16) .skip (.exit 0)))
 (.seq (.block 1
 (.seq (.reg [⟨(some 11), none, (.mv (.c (.sc (.int .i64 (0)))))⟩] none) (.block 2 
 (.loop ⟨[0, 1, 5, 8, 9, 10, 11], []⟩
 (.seq (.seq (.reg [⟨(some 19), none, (.mv (.t 11))⟩,
  ⟨(some 20), none, (.mv (.t 0))⟩,
  ⟨(some 21), none, (.mv (.t 10))⟩,
  ⟨(some 22), none, (.iaddr 13 (.t 20) (.t 21))⟩,
  ⟨(some 23), none, (.faddr 7 (.t 22))⟩,
  ⟨(some 24), none, (.load 1 false (.t 23))⟩,
  ⟨(some 25), none, (.len (.t 24))⟩,
  ⟨(some 26), none, (.bin .lss (.t 19) (.t 25))⟩] none)
 (.cond (.t 26) .skip (.exit 2)))
 (.seq (.block 3
 (.seq (.reg [⟨(some 29), none, (.mv (.t 0))⟩,
  ⟨(some 30), none, (.mv (.t 10))⟩,
  ⟨(some 31), none, (.iaddr 13 (.t 29) (.t 30))⟩,
  ⟨(some 32), none, (.faddr 7 (.t 31))⟩,
  ⟨(some 33), none, (.load 1 false (.t 32))⟩,
  ⟨(some 34), none, (.mv (.t 11))⟩,
  ⟨(some 35), none, (.iaddr 5 (.t 33) (.t 34))⟩,
  ⟨(some 36), none, (.load 5 true (.t 35))⟩,
  ⟨(some 12), none, (.new [(.sc (.int .i64 (0))), (.sc (.int .i64 (0))), (.sc (.int .i64 (0))), (.sc (.int .i64 (0))), (.sc (.int .i64 (0)))])⟩,
  ⟨none, none, (.store 5 (.t 12) (.t 36))⟩] none)
 (.seq (.seq (.reg [⟨(some 37), none, (.faddr 0 (.t 12))⟩,
  ⟨(some 38), none, (.load 1 false (.t 37))⟩,
  ⟨(some 39), none, (.mv (.t 1))⟩,
  ⟨(some 40), none, (.bin .neq (.t 38) (.t 39))⟩,
  ⟨(some 41), none, (.mv (.t 40))⟩,
  ⟨(some 42), (some (41, false)), (.faddr 1 (.t 12))⟩,
  ⟨(some 43), (some (41, false)), (.faddr 0 (.t 42))⟩,
  ⟨(some 44), (some (41, false)), (.load 1 false (.t 43))⟩,
  ⟨(some 45), (some (41, false)), (.faddr 0 (.t 5))⟩,
  ⟨(some 46), (some (41, false)), (.load 1 false (.t 45))⟩,
  ⟨(some 47), (some (41, false)), (.bin .lss (.t 44) (.t 46))⟩,
  ⟨(some 48), none, (.pick (.t 41) (.c (.sc (.bool true))) (.t 47))⟩,
  ⟨(some 49), none, (.mv (.t 48))⟩,
  ⟨(some 50), (some (49, false)), (.faddr 1 (.t 12))⟩,
  ⟨(some 51), (some (49, false)), (.faddr 0 (.t 50))⟩,
  ⟨(some 52), (some (49, false)), (.load 1 false (.t 51))⟩,
  ⟨(some 53), (some (49, false)), (.faddr 1 (.t 5))⟩,
  ⟨(some 54), (some (49, false)), (.load 1 false (.t 53))⟩,
  ⟨(some 55), (some (49, false)), (.bin .geq (.t 52) (.t 54))⟩,
  ⟨(some 56), none, (.pick (.t 49) (.c (.sc (.bool true))) (.t 55))⟩] none)
 (.cond (.t 56) (.exit 3) .skip))
 (.seq (.reg [⟨(some 57), none, (.mv (.t 8))⟩,
  ⟨(some 58), none, (.bin .add (.t 57) (.c (.sc (.int .i64 (1)))))⟩,
  ⟨(some 8), none, (.mv (.t 58))⟩] none)
 (.seq (.reg [⟨(some 59), none, (.mv (.t 0))⟩,
  ⟨(some 60), none, (.mv (.t 10))⟩,
  ⟨(some 61), none, (.iaddr 13 (.t 59) (.t 60))⟩,
  ⟨(some 62), none, (.faddr 6 (.t 61))⟩,
  ⟨(some 63), none, (.load 1 false (.t 62))⟩,
  ⟨(some 64), none, (.un .not (.t 63))⟩,
  ⟨(some 65), none, (.mv (.t 64))⟩,
  ⟨(some 66), (some (65, false)), (.mv (.t 11))⟩,
  ⟨(some 67), (some (65, false)), (.mv (.t 0))⟩,
  ⟨(some 68), (some (65, false)), (.mv (.t 10))⟩,
  ⟨(some 69), (some (65, false)), (.iaddr 13 (.t 67) (.t 68))⟩,
  ⟨(some 70), (some (65, false)), (.faddr 7 (.t 69))⟩,
  ⟨(some 71), (some (65, false)), (.load 1 false (.t 70))⟩,
  ⟨(some 72), (some (65, false)), (.len (.t 71))⟩,
  ⟨(some 73), (some (65, false)), (.bin .sub (.t 72) (.c (.sc (.int .i64 (1)))))⟩,
  ⟨(some 74), (some (65, false)), (.bin .lss (.t 66) (.t 73))⟩,
  ⟨(some 75), none, (.pick (.t 65) (.c (.sc (.bool true))) (.t 74))⟩] none)
 (.cond (.t 75) (.reg [⟨(some 76), none, (.mv (.t 9))⟩,
  ⟨(some 77), none, (.faddr 3 (.t 12))⟩,
  ⟨(some 78), none, (.faddr 0 (.t 77))⟩,
  ⟨(some 79), none, (.load 1 false (.t 78))⟩,
  ⟨(some 80), none, (.bin .add (.t 76) (.t 79))⟩,
  ⟨(some 81), none, (.faddr 1 (.t 12))⟩,
  ⟨(some 82), none, (.faddr 0 (.t 81))⟩,
  ⟨(some 83), none, (.load 1 false (.t 82))⟩,
  ⟨(some 84), none, (.bin .sub (.t 80) (.t 83))⟩,
  ⟨(some 9), none, (.mv (.t 84))⟩] none) .skip)))))) (.reg [⟨(some 27), none, (.mv (.t 11))⟩,
  ⟨(some 28), none, (.bin .add (.t 27) (.c (.sc (.int .i64 (1)))))⟩,
  ⟨(some 11), none, (.mv (.t 28))⟩] none))))))) (.reg [⟨(some 17), none, (.mv (.t 10))⟩,
  ⟨(some 18), none, (.bin .add (.t 17) (.c (.sc (.int .i64 (1)))))⟩,
  ⟨(some 10), none, (.mv (.t 18))⟩] none))))))
 (.seq (.reg [⟨(some 85), none, (.mv (.t 8))⟩,
  ⟨(some 86), none, (.mv (.t 9))⟩,
  ⟨(some 6), none, (.mv (.t 85))⟩,
  ⟨(some 7), none, (.mv (.t 86))⟩] none) .ret))))
theorem good40 {args : List PV} {r : PV} (hl : args.length ≤ 87) (h : Run Try.prog [.code ac40] (endQ [(.t 6), (.t 7)] r) ⟨initT 0 args, [], 0, 87⟩) : Good Try.prog 40 args r :=
  good_run (by kernel_rfl) Iamix Try.func40 rfl (hs := [⟨[0, 1, 5, 8, 9, 10], []⟩, ⟨[0, 1, 5, 8, 9, 10, 11], []⟩]) (hs' := []) (by kernel_rfl) hl h
def ac41 : ACode :=
 (.seq (.reg [⟨(some 4), none, (.boxv (.t 0))⟩,
  ⟨(some 8), none, (.mv (.c (.sc (.int .i64 (0)))))⟩] none)
 (.seq (.reg [⟨(some 9), none, (.faddr 1 (.t 4))⟩,
  ⟨(some 10), none, (.load 1 false (.t 9))⟩,
  ⟨(some 11), none, (.mv (.t 1))⟩,
  ⟨(some 12), none, (.iaddr 1 (.t 10) (.t 11))⟩,
  ⟨(some 13), none, (.load 1 false (.t 12))⟩,
  ⟨(some 14), none, (.mv (.t 2))⟩,
  ⟨(some 15), none, (.bin .mul (.t 13) (.t 14))⟩,
  ⟨(some 16), none, (.faddr 0 (.t 4))⟩,
  ⟨(some 17), none, (.load 1 false (.t 16))⟩,
  ⟨(some 18), none, (.mv (.t 1))⟩,
  ⟨(some 19), none, (.iaddr 1 (.t 17) (.t 18))⟩,
  ⟨(some 20), none, (.load 1 false (.t 19))⟩,
  ⟨(some 21), none, (.mv (.t 3))⟩,
  ⟨(some 22), none, (.bin .mul (.t 20) (.t 21))⟩,
  ⟨(some 23), none, (.bin .quo (.t 22) (.c (.sc (.int .i64 (3600)))))⟩,
  ⟨(some 24), none, (.bin .add (.t 15) (.t 23))⟩,
  ⟨(some 8), none, (.mv (.t 24))⟩] (some [[], [0], [], [1, 2, 0], [3, 1, 2, 0], [], [4, 5, 3, 1, 2, 0], [], [7], [], [8, 9, 7], [10, 8, 9, 7], [], [11, 12, 10, 8, 9, 7], [13, 11, 12, 10, 8, 9, 7], [6, 14, 4, 5, 3, 1, 2, 0, 13, 11, 12, 10, 8, 9, 7], [15, 0, 1, 2, 3, 4, 5, 6, 7, 8, 9, 10, 11, 12, 13, 14]])) .ret))
theorem good41 {args : List PV} {r : PV} (hl : args.length ≤ 25) (h : Run Try.prog [.code ac41] (endQ [(.t 8)] r) ⟨initT 0 args, [], 0, 25⟩) : Good Try.prog 41 args r :=
  good_run (by kernel_rfl) Iamix Try.func41 rfl (hs := []) (hs' := []) (by kernel_rfl) hl h
end Go.Proofs.Ytnjgckkbhlcjoaa
