/-
  The translated codes of functions, checked by the kernel.
-/
import Derived.Test.YtjnfldkcbcfboaaDoorKc
import Derived.KernelRfl
namespace Go.Proofs.YtjnfldkcbcfboaaDoor
set_option linter.unusedVariables false
set_option linter.unusedSimpArgs false
set_option linter.unnecessarySimpa false
theorem Fcmix : Tryd.prog.follows .mixedOrders = true := by kernel_rfl
def ac3 : ACode :=
 (.seq (.reg [⟨(some 1), none, (.boxv (.t 0))⟩,
  ⟨(some 2), none, (.mv (.c (.sc (.bool false))))⟩] none)
 (.seq (.seq (.reg [⟨(some 7), none, (.load 10 true (.t 1))⟩,
  ⟨(some 8), none, (.call 8 [(.t 7)])⟩,
  ⟨(some 9), none, (.un .not (.t 8))⟩] none)
 (.cond (.t 9)
 (.seq (.reg [⟨(some 10), none, (.call 9 [])⟩,
  ⟨(some 2), none, (.mv (.t 10))⟩] none) .ret) .skip))
 (.seq (.reg [⟨(some 12), none, (.load 10 true (.t 1))⟩,
  ⟨(some 13), none, (.call 10 [(.t 12)])⟩,
  ⟨(some 11), none, (.mv (.t 13))⟩,
  ⟨(some 14), none, (.ext 0 (.t 11))⟩,
  ⟨(some 15), none, (.ext 1 (.t 11))⟩,
  ⟨(some 3), none, (.mv (.t 14))⟩,
  ⟨(some 4), none, (.mv (.t 15))⟩] none)
 (.seq (.reg [⟨(some 17), none, (.load 10 true (.t 1))⟩,
  ⟨(some 18), none, (.call 11 [(.t 17)])⟩,
  ⟨(some 16), none, (.mv (.t 18))⟩,
  ⟨(some 19), none, (.ext 0 (.t 16))⟩,
  ⟨(some 20), none, (.ext 1 (.t 16))⟩,
  ⟨(some 5), none, (.mv (.t 19))⟩,
  ⟨(some 6), none, (.mv (.t 20))⟩] none)
 (.seq (.reg [⟨(some 21), none, (.mv (.t 3))⟩,
  ⟨(some 22), none, (.mv (.t 5))⟩,
  ⟨(some 23), none, (.call 12 [(.t 21), (.t 22)])⟩,
  ⟨(some 24), none, (.mv (.t 23))⟩,
  ⟨(some 25), (some (24, true)), (.mv (.t 4))⟩,
  ⟨(some 26), (some (24, true)), (.mv (.t 6))⟩,
  ⟨(some 27), (some (24, true)), (.bin .eql (.t 25) (.t 26))⟩,
  ⟨(some 28), none, (.pick (.t 24) (.t 27) (.c (.sc (.bool false))))⟩,
  ⟨(some 29), none, (.mv (.t 28))⟩,
  ⟨(some 30), (some (29, true)), (.call 9 [])⟩,
  ⟨(some 31), none, (.pick (.t 29) (.t 30) (.c (.sc (.bool false))))⟩,
  ⟨(some 2), none, (.mv (.t 31))⟩] none) .ret)))))
theorem good3 {args : List PV} {r : PV} (hl : args.length ≤ 32) (h : Run Tryd.prog [.code ac3] (endQ [(.t 2)] r) ⟨initT 0 args, [], 0, 32⟩) : Good Tryd.prog 3 args r :=
  good_run (by kernel_rfl) Fcmix Tryd.func3 rfl (hs := []) (hs' := []) (by kernel_rfl) hl h
def ac4 : ACode :=
 (.seq (.reg [⟨(some 2), none, (.boxv (.t 0))⟩,
  ⟨(some 4), none, (.mv (.c (.sc (.bool false))))⟩] none)
 (.seq (.seq (.reg [⟨(some 13), none, (.load 10 true (.t 2))⟩,
  ⟨(some 14), none, (.call 8 [(.t 13)])⟩,
  ⟨(some 15), none, (.un .not (.t 14))⟩,
  ⟨(some 16), none, (.mv (.t 15))⟩,
  ⟨(some 17), (some (16, false)), (.mv (.t 1))⟩,
  ⟨(some 18), (some (16, false)), (.call 13 [(.t 17)])⟩,
  ⟨(some 19), (some (16, false)), (.un .not (.t 18))⟩,
  ⟨(some 20), none, (.pick (.t 16) (.c (.sc (.bool true))) (.t 19))⟩] none)
 (.cond (.t 20)
 (.seq (.reg [⟨(some 21), none, (.call 9 [])⟩,
  ⟨(some 4), none, (.mv (.t 21))⟩] none) .ret) .skip))
 (.seq (.reg [⟨(some 23), none, (.load 10 true (.t 2))⟩,
  ⟨(some 24), none, (.call 10 [(.t 23)])⟩,
  ⟨(some 22), none, (.mv (.t 24))⟩,
  ⟨(some 25), none, (.ext 0 (.t 22))⟩,
  ⟨(some 26), none, (.ext 1 (.t 22))⟩,
  ⟨(some 5), none, (.mv (.t 25))⟩,
  ⟨(some 6), none, (.mv (.t 26))⟩] none)
 (.seq (.seq (.reg [⟨(some 27), none, (.mv (.t 6))⟩,
  ⟨(some 28), none, (.bin .eql (.t 27) (.c (.sc (.int .i64 (0)))))⟩] none)
 (.cond (.t 28)
 (.seq (.reg [⟨(some 30), none, (.mv (.t 5))⟩,
  ⟨(some 31), none, (.call 14 [(.t 30)])⟩,
  ⟨(some 29), none, (.mv (.t 31))⟩,
  ⟨(some 32), none, (.ext 0 (.t 29))⟩,
  ⟨(some 33), none, (.ext 1 (.t 29))⟩,
  ⟨(some 7), none, (.new [(.sc (.int .i64 (0))), (.sc (.int .i64 (0))), (.sc (.int .i64 (0))), (.sc (.int .i64 (0))), (.sc (.int .i64 (0))), (.sc (.slice none 0 0)), (.sc (.slice none 0 0)), (.sc (.slice none 0 0)), (.sc (.slice none 0 0)), (.sc (.slice none 0 0))])⟩,
  ⟨none, none, (.store 10 (.t 7) (.t 32))⟩,
  ⟨(some 8), none, (.mv (.t 33))⟩] none)
 (.seq (.reg [⟨(some 34), none, (.mv (.t 8))⟩,
  ⟨(some 35), none, (.bin .neq (.t 34) (.c (.sc (.int .i64 (0)))))⟩,
  ⟨(some 36), none, (.mv (.t 35))⟩,
  ⟨(some 37), (some (36, false)), (.load 10 true (.t 7))⟩,
  ⟨(some 38), (some (36, false)), (.load 10 true (.t 2))⟩,
  ⟨(some 39), (some (36, false)), (.call 15 [(.t 37), (.t 38)])⟩,
  ⟨(some 40), (some (36, false)), (.un .not (.t 39))⟩,
  ⟨(some 41), none, (.pick (.t 36) (.c (.sc (.bool true))) (.t 40))⟩] none)
 (.cond (.t 41)
 (.seq (.reg [⟨(some 4), none, (.mv (.c (.sc (.bool false))))⟩] none) .ret) .skip)))
 (.seq (.reg [⟨(some 42), none, (.mv (.t 5))⟩,
  ⟨(some 43), none, (.len (.t 42))⟩,
  ⟨(some 44), none, (.bin .gtr (.t 43) (.c (.sc (.int .i64 (0)))))⟩] none)
 (.cond (.t 44)
 (.seq (.reg [⟨(some 4), none, (.mv (.c (.sc (.bool false))))⟩] none) .ret) .skip))))
 (.seq (.reg [⟨(some 46), none, (.mv (.t 1))⟩,
  ⟨(some 47), none, (.call 14 [(.t 46)])⟩,
  ⟨(some 45), none, (.mv (.t 47))⟩,
  ⟨(some 48), none, (.ext 0 (.t 45))⟩,
  ⟨(some 49), none, (.ext 1 (.t 45))⟩,
  ⟨(some 9), none, (.new [(.sc (.int .i64 (0))), (.sc (.int .i64 (0))), (.sc (.int .i64 (0))), (.sc (.int .i64 (0))), (.sc (.int .i64 (0))), (.sc (.slice none 0 0)), (.sc (.slice none 0 0)), (.sc (.slice none 0 0)), (.sc (.slice none 0 0)), (.sc (.slice none 0 0))])⟩,
  ⟨none, none, (.store 10 (.t 9) (.t 48))⟩,
  ⟨(some 10), none, (.mv (.t 49))⟩] none)
 (.seq (.seq (.reg [⟨(some 50), none, (.mv (.t 10))⟩,
  ⟨(some 51), none, (.bin .neq (.t 50) (.c (.sc (.int .i64 (0)))))⟩] none)
 (.cond (.t 51)
 (.seq (.reg [⟨(some 52), none, (.mv (.t 10))⟩,
  ⟨(some 53), none, (.bin .eql (.t 52) (.c (.sc (.int .i64 (3)))))⟩,
  ⟨(some 54), none, (.mv (.t 53))⟩,
  ⟨(some 55), (some (54, true)), (.load 10 true (.t 9))⟩,
  ⟨(some 56), (some (54, true)), (.build [(.sc (.int .i64 (0))), (.sc (.int .i64 (0))), (.sc (.int .i64 (0))), (.sc (.int .i64 (0))), (.sc (.int .i64 (0))), (.sc (.slice none 0 0)), (.sc (.slice none 0 0)), (.sc (.slice none 0 0)), (.sc (.slice none 0 0)), (.sc (.slice none 0 0))] [])⟩,
  ⟨(some 57), (some (54, true)), (.call 15 [(.t 55), (.t 56)])⟩,
  ⟨(some 58), none, (.pick (.t 54) (.t 57) (.c (.sc (.bool false))))⟩,
  ⟨(some 59), none, (.mv (.t 58))⟩,
  ⟨(some 60), (some (59, true)), (.call 9 [])⟩,
  ⟨(some 61), none, (.pick (.t 59) (.t 60) (.c (.sc (.bool false))))⟩,
  ⟨(some 4), none, (.mv (.t 61))⟩] none) .ret) .skip))
 (.seq (.reg [⟨(some 63), none, (.load 10 true (.t 9))⟩,
  ⟨(some 64), none, (.call 10 [(.t 63)])⟩,
  ⟨(some 62), none, (.mv (.t 64))⟩,
  ⟨(some 65), none, (.ext 0 (.t 62))⟩,
  ⟨(some 66), none, (.ext 1 (.t 62))⟩,
  ⟨(some 11), none, (.mv (.t 65))⟩,
  ⟨(some 12), none, (.mv (.t 66))⟩] none)
 (.seq (.reg [⟨(some 67), none, (.mv (.t 12))⟩,
  ⟨(some 68), none, (.bin .eql (.t 67) (.c (.sc (.int .i64 (0)))))⟩,
  ⟨(some 69), none, (.mv (.t 68))⟩,
  ⟨(some 70), (some (69, true)), (.mv (.t 11))⟩,
  ⟨(some 71), (some (69, true)), (.mv (.t 1))⟩,
  ⟨(some 72), (some (69, true)), (.call 12 [(.t 70), (.t 71)])⟩,
  ⟨(some 73), none, (.pick (.t 69) (.t 72) (.c (.sc (.bool false))))⟩,
  ⟨(some 74), none, (.mv (.t 73))⟩,
  ⟨(some 75), (some (74, true)), (.call 9 [])⟩,
  ⟨(some 76), none, (.pick (.t 74) (.t 75) (.c (.sc (.bool false))))⟩,
  ⟨(some 4), none, (.mv (.t 76))⟩] none) .ret))))))))
theorem good4 {args : List PV} {r : PV} (hl : args.length ≤ 77) (h : Run Tryd.prog [.code ac4] (endQ [(.t 4)] r) ⟨initT 0 args, [], 0, 77⟩) : Good Tryd.prog 4 args r :=
  good_run (by kernel_rfl) Fcmix Tryd.func4 rfl (hs := []) (hs' := []) (by kernel_rfl) hl h
def ac5 : ACode :=
 (.seq (.reg [⟨(some 1), none, (.boxv (.t 0))⟩,
  ⟨(some 2), none, (.mv (.c (.sc (.bool false))))⟩] none)
 (.seq (.seq (.reg [⟨(some 8), none, (.load 10 true (.t 1))⟩,
  ⟨(some 9), none, (.call 8 [(.t 8)])⟩,
  ⟨(some 10), none, (.un .not (.t 9))⟩] none)
 (.cond (.t 10)
 (.seq (.reg [⟨(some 11), none, (.call 9 [])⟩,
  ⟨(some 2), none, (.mv (.t 11))⟩] none) .ret) .skip))
 (.seq (.reg [⟨(some 13), none, (.load 10 true (.t 1))⟩,
  ⟨(some 14), none, (.call 10 [(.t 13)])⟩,
  ⟨(some 12), none, (.mv (.t 14))⟩,
  ⟨(some 15), none, (.ext 0 (.t 12))⟩,
  ⟨(some 16), none, (.ext 1 (.t 12))⟩,
  ⟨(some 3), none, (.mv (.t 15))⟩,
  ⟨(some 4), none, (.mv (.t 16))⟩] none)
 (.seq (.seq (.reg [⟨(some 17), none, (.mv (.t 4))⟩,
  ⟨(some 18), none, (.bin .neq (.t 17) (.c (.sc (.int .i64 (0)))))⟩] none)
 (.cond (.t 18)
 (.seq (.reg [⟨(some 19), none, (.mv (.t 3))⟩,
  ⟨(some 20), none, (.len (.t 19))⟩,
  ⟨(some 21), none, (.bin .eql (.t 20) (.c (.sc (.int .i64 (0)))))⟩,
  ⟨(some 22), none, (.mv (.t 21))⟩,
  ⟨(some 23), (some (22, true)), (.call 9 [])⟩,
  ⟨(some 24), none, (.pick (.t 22) (.t 23) (.c (.sc (.bool false))))⟩,
  ⟨(some 2), none, (.mv (.t 24))⟩] none) .ret) .skip))
 (.seq (.seq (.reg [⟨(some 25), none, (.mv (.t 3))⟩,
  ⟨(some 26), none, (.len (.t 25))⟩,
  ⟨(some 27), none, (.faddr 3 (.t 1))⟩,
  ⟨(some 28), none, (.faddr 0 (.t 27))⟩,
  ⟨(some 29), none, (.load 1 false (.t 28))⟩,
  ⟨(some 30), none, (.bin .add (.t 29) (.c (.sc (.int .i64 (2)))))⟩,
  ⟨(some 31), none, (.bin .neq (.t 26) (.t 30))⟩] none)
 (.cond (.t 31)
 (.seq (.reg [⟨(some 2), none, (.mv (.c (.sc (.bool false))))⟩] none) .ret) .skip))
 (.seq (.seq (.reg [⟨(some 5), none, (.mv (.c (.sc (.int .i64 (0)))))⟩] none) (.block 0 
 (.loop ⟨[3, 5], []⟩
 (.seq (.seq (.reg [⟨(some 32), none, (.mv (.t 5))⟩,
  ⟨(some 33), none, (.mv (.t 3))⟩,
  ⟨(some 34), none, (.len (.t 33))⟩,
  ⟨(some 35), none, (.bin .lss (.t 32) (.t 34))⟩] none)
 (.cond (.t 35) .skip (.exit 0)))
 (.seq (.block 1
 (.seq (.seq (.reg [⟨(some 38), none, (.mv (.t 3))⟩,
  ⟨(some 39), none, (.mv (.t 5))⟩,
  ⟨(some 40), none, (.iaddr 1 (.t 38) (.t 39))⟩,
  ⟨(some 41), none, (.load 1 false (.t 40))⟩,
  ⟨(some 42), none, (.slen (.t 41))⟩,
  ⟨(some 43), none, (.bin .gtr (.t 42) (.c (.sc (.int .i64 (1024)))))⟩,
  ⟨(some 44), none, (.mv (.t 43))⟩,
  ⟨(some 45), (some (44, false)), (.mv (.t 3))⟩,
  ⟨(some 46), (some (44, false)), (.mv (.t 5))⟩,
  ⟨(some 47), (some (44, false)), (.iaddr 1 (.t 45) (.t 46))⟩,
  ⟨(some 48), (some (44, false)), (.load 1 false (.t 47))⟩,
  ⟨(some 49), (some (44, false)), (.slen (.t 48))⟩,
  ⟨(some 50), (some (44, false)), (.bin .eql (.t 49) (.c (.sc (.int .i64 (0)))))⟩,
  ⟨(some 51), none, (.pick (.t 44) (.c (.sc (.bool true))) (.t 50))⟩] none)
 (.cond (.t 51)
 (.seq (.reg [⟨(some 2), none, (.mv (.c (.sc (.bool false))))⟩] none) .ret) .skip))
 (.seq (.reg [⟨(some 6), none, (.mv (.c (.sc (.int .i64 (0)))))⟩] none) (.block 2 
 (.loop ⟨[3, 5, 6], []⟩
 (.seq (.seq (.reg [⟨(some 52), none, (.mv (.t 6))⟩,
  ⟨(some 53), none, (.mv (.t 3))⟩,
  ⟨(some 54), none, (.mv (.t 5))⟩,
  ⟨(some 55), none, (.iaddr 1 (.t 53) (.t 54))⟩,
  ⟨(some 56), none, (.load 1 false (.t 55))⟩,
  ⟨(some 57), none, (.slen (.t 56))⟩,
  ⟨(some 58), none, (.bin .lss (.t 52) (.t 57))⟩] none)
 (.cond (.t 58) .skip (.exit 2)))
 (.seq (.block 3
 (.seq (.reg [⟨(some 61), none, (.mv (.t 3))⟩,
  ⟨(some 62), none, (.mv (.t 5))⟩,
  ⟨(some 63), none, (.iaddr 1 (.t 61) (.t 62))⟩,
  ⟨(some 64), none, (.load 1 false (.t 63))⟩,
  ⟨(some 65), none, (.mv (.t 6))⟩,
  ⟨(some 66), none, (.sidx (.t 64) (.t 65))⟩,
  ⟨(some 7), none, (.mv (.t 66))⟩] none)
 (.seq (.reg [⟨(some 67), none, (.mv (.t 7))⟩,
  ⟨(some 68), none, (.bin .lss (.t 67) (.c (.sc (.int .u8 (97)))))⟩,
  ⟨(some 69), none, (.mv (.t 68))⟩,
  ⟨(some 70), (some (69, false)), (.mv (.t 7))⟩,
  ⟨(some 71), (some (69, false)), (.bin .gtr (.t 70) (.c (.sc (.int .u8 (122)))))⟩,
  ⟨(some 72), none, (.pick (.t 69) (.c (.sc (.bool true))) (.t 71))⟩,
  ⟨(some 73), none, (.mv (.t 72))⟩,
  ⟨(some 74), (some (73, true)), (.mv (.t 7))⟩,
  ⟨(some 75), (some (73, true)), (.bin .lss (.t 74) (.c (.sc (.int .u8 (48)))))⟩,
  ⟨(some 76), (some (73, true)), (.mv (.t 75))⟩,
  ⟨(some 77), (some (76, false)), (.mv (.t 7))⟩,
  ⟨(some 78), (some (76, false)), (.bin .gtr (.t 77) (.c (.sc (.int .u8 (57)))))⟩,
  ⟨(some 79), (some (73, true)), (.pick (.t 76) (.c (.sc (.bool true))) (.t 78))⟩,
  ⟨(some 80), none, (.pick (.t 73) (.t 79) (.c (.sc (.bool false))))⟩,
  ⟨(some 81), none, (.mv (.t 80))⟩,
  ⟨(some 82), (some (81, true)), (.mv (.t 7))⟩,
  ⟨(some 83), (some (81, true)), (.bin .neq (.t 82) (.c (.sc (.int .u8 (32)))))⟩,
  ⟨(some 84), none, (.pick (.t 81) (.t 83) (.c (.sc (.bool false))))⟩,
  ⟨(some 85), none, (.mv (.t 84))⟩,
  ⟨(some 86), (some (85, true)), (.mv (.t 7))⟩,
  ⟨(some 87), (some (85, true)), (.bin .neq (.t 86) (.c (.sc (.int .u8 (45)))))⟩,
  ⟨(some 88), none, (.pick (.t 85) (.t 87) (.c (.sc (.bool false))))⟩] none)
 (.cond (.t 88)
 (.seq (.reg [⟨(some 2), none, (.mv (.c (.sc (.bool false))))⟩] none) .ret) .skip)))) (.reg [⟨(some 59), none, (.mv (.t 6))⟩,
  ⟨(some 60), none, (.bin .add (.t 59) (.c (.sc (.int .i64 (1)))))⟩,
  ⟨(some 6), none, (.mv (.t 60))⟩] none)))))))) (.reg [⟨(some 36), none, (.mv (.t 5))⟩,
  ⟨(some 37), none, (.bin .add (.t 36) (.c (.sc (.int .i64 (1)))))⟩,
  ⟨(some 5), none, (.mv (.t 37))⟩] none))))))
 (.seq (.reg [⟨(some 89), none, (.call 9 [])⟩,
  ⟨(some 2), none, (.mv (.t 89))⟩] none) .ret)))))))
theorem good5 {args : List PV} {r : PV} (hl : args.length ≤ 90) (h : Run Tryd.prog [.code ac5] (endQ [(.t 2)] r) ⟨initT 0 args, [], 0, 90⟩) : Good Tryd.prog 5 args r :=
  good_run (by kernel_rfl) Fcmix Tryd.func5 rfl (hs := [⟨[3, 5], []⟩, ⟨[3, 5, 6], []⟩]) (hs' := []) (by kernel_rfl) hl h
def ac6 : ACode :=
 (.seq (.reg [⟨(some 2), none, (.boxv (.t 0))⟩,
  ⟨(some 4), none, (.mv (.c (.sc (.bool false))))⟩] none)
 (.seq (.seq (.reg [⟨(some 9), none, (.load 5 true (.t 2))⟩,
  ⟨(some 10), none, (.call 16 [(.t 9)])⟩,
  ⟨(some 11), none, (.un .not (.t 10))⟩,
  ⟨(some 12), none, (.mv (.t 11))⟩,
  ⟨(some 13), (some (12, false)), (.mv (.t 1))⟩,
  ⟨(some 14), (some (12, false)), (.len (.t 13))⟩,
  ⟨(some 15), (some (12, false)), (.bin .gtr (.t 14) (.c (.sc (.int .i64 (200)))))⟩,
  ⟨(some 16), none, (.pick (.t 12) (.c (.sc (.bool true))) (.t 15))⟩] none)
 (.cond (.t 16)
 (.seq (.reg [⟨(some 17), none, (.call 9 [])⟩,
  ⟨(some 4), none, (.mv (.t 17))⟩] none) .ret) .skip))
 (.seq (.reg [⟨(some 19), none, (.load 5 true (.t 2))⟩,
  ⟨(some 20), none, (.mv (.t 1))⟩,
  ⟨(some 21), none, (.call 17 [(.t 19), (.t 20)])⟩,
  ⟨(some 18), none, (.mv (.t 21))⟩,
  ⟨(some 22), none, (.ext 0 (.t 18))⟩,
  ⟨(some 23), none, (.ext 1 (.t 18))⟩,
  ⟨(some 5), none, (.mv (.t 22))⟩,
  ⟨(some 6), none, (.mv (.t 23))⟩] none)
 (.seq (.reg [⟨(some 25), none, (.load 5 true (.t 2))⟩,
  ⟨(some 26), none, (.mv (.t 1))⟩,
  ⟨(some 27), none, (.call 18 [(.t 25), (.t 26)])⟩,
  ⟨(some 24), none, (.mv (.t 27))⟩,
  ⟨(some 28), none, (.ext 0 (.t 24))⟩,
  ⟨(some 29), none, (.ext 1 (.t 24))⟩,
  ⟨(some 7), none, (.mv (.t 28))⟩,
  ⟨(some 8), none, (.mv (.t 29))⟩] none)
 (.seq (.reg [⟨(some 30), none, (.mv (.t 5))⟩,
  ⟨(some 31), none, (.mv (.t 7))⟩,
  ⟨(some 32), none, (.call 12 [(.t 30), (.t 31)])⟩,
  ⟨(some 33), none, (.mv (.t 32))⟩,
  ⟨(some 34), (some (33, true)), (.mv (.t 6))⟩,
  ⟨(some 35), (some (33, true)), (.mv (.t 8))⟩,
  ⟨(some 36), (some (33, true)), (.bin .eql (.t 34) (.t 35))⟩,
  ⟨(some 37), none, (.pick (.t 33) (.t 36) (.c (.sc (.bool false))))⟩,
  ⟨(some 38), none, (.mv (.t 37))⟩,
  ⟨(some 39), (some (38, true)), (.call 9 [])⟩,
  ⟨(some 40), none, (.pick (.t 38) (.t 39) (.c (.sc (.bool false))))⟩,
  ⟨(some 4), none, (.mv (.t 40))⟩] none) .ret)))))
theorem good6 {args : List PV} {r : PV} (hl : args.length ≤ 41) (h : Run Tryd.prog [.code ac6] (endQ [(.t 4)] r) ⟨initT 0 args, [], 0, 41⟩) : Good Tryd.prog 6 args r :=
  good_run (by kernel_rfl) Fcmix Tryd.func6 rfl (hs := []) (hs' := []) (by kernel_rfl) hl h
def ac7 : ACode :=
 (.seq (.reg [⟨(some 2), none, (.boxv (.t 0))⟩,
  ⟨(some 4), none, (.mv (.c (.sc (.bool false))))⟩] none)
 (.seq (.seq (.reg [⟨(some 16), none, (.load 5 true (.t 2))⟩,
  ⟨(some 17), none, (.call 16 [(.t 16)])⟩,
  ⟨(some 18), none, (.un .not (.t 17))⟩,
  ⟨(some 19), none, (.mv (.t 18))⟩,
  ⟨(some 20), (some (19, false)), (.mv (.t 1))⟩,
  ⟨(some 21), (some (19, false)), (.len (.t 20))⟩,
  ⟨(some 22), (some (19, false)), (.bin .gtr (.t 21) (.c (.sc (.int .i64 (200)))))⟩,
  ⟨(some 23), none, (.pick (.t 19) (.c (.sc (.bool true))) (.t 22))⟩] none)
 (.cond (.t 23)
 (.seq (.reg [⟨(some 24), none, (.call 9 [])⟩,
  ⟨(some 4), none, (.mv (.t 24))⟩] none) .ret) .skip))
 (.seq (.reg [⟨(some 26), none, (.load 5 true (.t 2))⟩,
  ⟨(some 27), none, (.mv (.t 1))⟩,
  ⟨(some 28), none, (.call 17 [(.t 26), (.t 27)])⟩,
  ⟨(some 25), none, (.mv (.t 28))⟩,
  ⟨(some 29), none, (.ext 0 (.t 25))⟩,
  ⟨(some 30), none, (.ext 1 (.t 25))⟩,
  ⟨(some 5), none, (.mv (.t 29))⟩,
  ⟨(some 6), none, (.mv (.t 30))⟩] none)
 (.seq (.reg [⟨(some 7), none, (.mv (.c (.sc (.slice none 0 0))))⟩] none)
 (.seq (.reg [⟨(some 8), none, (.mv (.c (.sc (.int .i64 (0)))))⟩] none)
 (.seq (.seq (.reg [⟨(some 31), none, (.mv (.t 1))⟩,
  ⟨(some 32), none, (.len (.t 31))⟩,
  ⟨(some 33), none, (.bin .sub (.t 32) (.c (.sc (.int .i64 (1)))))⟩,
  ⟨(some 9), none, (.mv (.t 33))⟩] none) (.block 0 
 (.loop ⟨[1, 2, 5, 6, 7, 8, 9], [(7, (51, 4))]⟩
 (.seq (.seq (.reg [⟨(some 34), none, (.mv (.t 9))⟩,
  ⟨(some 35), none, (.bin .geq (.t 34) (.c (.sc (.int .i64 (0)))))⟩] none)
 (.cond (.t 35) .skip (.exit 0)))
 (.seq (.block 1
 (.seq (.reg [⟨(some 38), none, (.mv (.t 7))⟩,
  ⟨(some 39), none, (.mv (.t 1))⟩,
  ⟨(some 40), none, (.mv (.t 9))⟩,
  ⟨(some 41), none, (.iaddr 4 (.t 39) (.t 40))⟩,
  ⟨(some 42), none, (.load 4 true (.t 41))⟩,
  ⟨(some 43), none, (.bslice 51 4 [(.t 42)])⟩,
  ⟨(some 44), none, (.append 51 4 32 (.t 38) (.t 43))⟩,
  ⟨(some 7), none, (.mv (.t 44))⟩] none)
 (.seq (.reg [⟨(some 45), none, (.mv (.t 1))⟩,
  ⟨(some 46), none, (.mv (.t 9))⟩,
  ⟨(some 47), none, (.iaddr 4 (.t 45) (.t 46))⟩,
  ⟨(some 48), none, (.faddr 0 (.t 47))⟩,
  ⟨(some 49), none, (.load 1 false (.t 48))⟩,
  ⟨(some 50), none, (.bin .eql (.t 49) (.c (.sc (.int .i64 (1)))))⟩] none)
 (.cond (.t 50) (.reg [⟨(some 51), none, (.mv (.t 8))⟩,
  ⟨(some 52), none, (.bin .add (.t 51) (.c (.sc (.int .i64 (1)))))⟩,
  ⟨(some 8), none, (.mv (.t 52))⟩] none) .skip)))) (.reg [⟨(some 36), none, (.mv (.t 9))⟩,
  ⟨(some 37), none, (.bin .sub (.t 36) (.c (.sc (.int .i64 (1)))))⟩,
  ⟨(some 9), none, (.mv (.t 37))⟩] none))))))
 (.seq (.reg [⟨(some 54), none, (.load 5 true (.t 2))⟩,
  ⟨(some 55), none, (.mv (.t 7))⟩,
  ⟨(some 56), none, (.call 17 [(.t 54), (.t 55)])⟩,
  ⟨(some 53), none, (.mv (.t 56))⟩,
  ⟨(some 57), none, (.ext 0 (.t 53))⟩,
  ⟨(some 58), none, (.ext 1 (.t 53))⟩,
  ⟨(some 10), none, (.mv (.t 57))⟩,
  ⟨(some 11), none, (.mv (.t 58))⟩] none)
 (.seq (.seq (.reg [⟨(some 59), none, (.mv (.t 6))⟩,
  ⟨(some 60), none, (.mv (.t 11))⟩,
  ⟨(some 61), none, (.bin .neq (.t 59) (.t 60))⟩,
  ⟨(some 62), none, (.mv (.t 61))⟩,
  ⟨(some 63), (some (62, false)), (.mv (.t 5))⟩,
  ⟨(some 64), (some (62, false)), (.mv (.t 10))⟩,
  ⟨(some 65), (some (62, false)), (.call 12 [(.t 63), (.t 64)])⟩,
  ⟨(some 66), (some (62, false)), (.un .not (.t 65))⟩,
  ⟨(some 67), none, (.pick (.t 62) (.c (.sc (.bool true))) (.t 66))⟩] none)
 (.cond (.t 67)
 (.seq (.reg [⟨(some 4), none, (.mv (.c (.sc (.bool false))))⟩] none) .ret) .skip))
 (.seq (.seq (.reg [⟨(some 68), none, (.mv (.t 6))⟩,
  ⟨(some 69), none, (.bin .neq (.t 68) (.c (.sc (.int .i64 (0)))))⟩] none)
 (.cond (.t 69)
 (.seq (.reg [⟨(some 70), none, (.mv (.t 5))⟩,
  ⟨(some 71), none, (.len (.t 70))⟩,
  ⟨(some 72), none, (.bin .eql (.t 71) (.c (.sc (.int .i64 (0)))))⟩,
  ⟨(some 73), none, (.mv (.t 72))⟩,
  ⟨(some 74), (some (73, true)), (.call 9 [])⟩,
  ⟨(some 75), none, (.pick (.t 73) (.t 74) (.c (.sc (.bool false))))⟩,
  ⟨(some 4), none, (.mv (.t 75))⟩] none) .ret) .skip))
 (.seq (.seq (.reg [⟨(some 76), none, (.mv (.t 5))⟩,
  ⟨(some 77), none, (.len (.t 76))⟩,
  ⟨(some 78), none, (.faddr 3 (.t 2))⟩,
  ⟨(some 79), none, (.load 1 false (.t 78))⟩,
  ⟨(some 80), none, (.len (.t 79))⟩,
  ⟨(some 81), none, (.bin .neq (.t 77) (.t 80))⟩] none)
 (.cond (.t 81)
 (.seq (.reg [⟨(some 4), none, (.mv (.c (.sc (.bool false))))⟩] none) .ret) .skip))
 (.seq (.reg [⟨(some 12), none, (.mv (.c (.sc (.int .i64 (0)))))⟩] none)
 (.seq (.seq (.reg [⟨(some 13), none, (.mv (.c (.sc (.int .i64 (0)))))⟩] none) (.block 2 
 (.loop ⟨[2, 5, 8, 12, 13], []⟩
 (.seq (.seq (.reg [⟨(some 82), none, (.mv (.t 13))⟩,
  ⟨(some 83), none, (.mv (.t 5))⟩,
  ⟨(some 84), none, (.len (.t 83))⟩,
  ⟨(some 85), none, (.bin .lss (.t 82) (.t 84))⟩] none)
 (.cond (.t 85) .skip (.exit 2)))
 (.seq (.block 3
 (.seq (.reg [⟨(some 89), none, (.mv (.t 5))⟩,
  ⟨(some 90), none, (.mv (.t 13))⟩,
  ⟨(some 91), none, (.iaddr 1 (.t 89) (.t 90))⟩,
  ⟨(some 92), none, (.load 1 false (.t 91))⟩,
  ⟨(some 93), none, (.call 19 [(.t 92)])⟩,
  ⟨(some 88), none, (.mv (.t 93))⟩,
  ⟨(some 94), none, (.ext 0 (.t 88))⟩,
  ⟨(some 95), none, (.ext 1 (.t 88))⟩,
  ⟨(some 14), none, (.new [(.sc (.int .i64 (0))), (.sc (.int .i64 (0))), (.sc (.int .i64 (0)))])⟩,
  ⟨none, none, (.store 3 (.t 14) (.t 94))⟩,
  ⟨(some 15), none, (.mv (.t 95))⟩] none)
 (.seq (.seq (.reg [⟨(some 96), none, (.mv (.t 15))⟩,
  ⟨(some 97), none, (.un .not (.t 96))⟩,
  ⟨(some 98), none, (.mv (.t 97))⟩,
  ⟨(some 99), (some (98, false)), (.iaddrA 1 3 (.t 14) (.c (.sc (.int .i64 (0)))))⟩,
  ⟨(some 100), (some (98, false)), (.load 1 false (.t 99))⟩,
  ⟨(some 101), (some (98, false)), (.mv (.t 13))⟩,
  ⟨(some 102), (some (98, false)), (.bin .neq (.t 100) (.t 101))⟩,
  ⟨(some 103), none, (.pick (.t 98) (.c (.sc (.bool true))) (.t 102))⟩,
  ⟨(some 104), none, (.mv (.t 103))⟩,
  ⟨(some 105), (some (104, false)), (.iaddrA 1 3 (.t 14) (.c (.sc (.int .i64 (1)))))⟩,
  ⟨(some 106), (some (104, false)), (.load 1 false (.t 105))⟩,
  ⟨(some 107), (some (104, false)), (.bin .lss (.t 106) (.c (.sc (.int .i64 (0)))))⟩,
  ⟨(some 108), none, (.pick (.t 104) (.c (.sc (.bool true))) (.t 107))⟩,
  ⟨(some 109), none, (.mv (.t 108))⟩,
  ⟨(some 110), (some (109, false)), (.iaddrA 1 3 (.t 14) (.c (.sc (.int .i64 (2)))))⟩,
  ⟨(some 111), (some (109, false)), (.load 1 false (.t 110))⟩,
  ⟨(some 112), (some (109, false)), (.bin .lss (.t 111) (.c (.sc (.int .i64 (0)))))⟩,
  ⟨(some 113), none, (.pick (.t 109) (.c (.sc (.bool true))) (.t 112))⟩,
  ⟨(some 114), none, (.mv (.t 113))⟩,
  ⟨(some 115), (some (114, false)), (.iaddrA 1 3 (.t 14) (.c (.sc (.int .i64 (1)))))⟩,
  ⟨(some 116), (some (114, false)), (.load 1 false (.t 115))⟩,
  ⟨(some 117), (some (114, false)), (.iaddrA 1 3 (.t 14) (.c (.sc (.int .i64 (2)))))⟩,
  ⟨(some 118), (some (114, false)), (.load 1 false (.t 117))⟩,
  ⟨(some 119), (some (114, false)), (.bin .add (.t 116) (.t 118))⟩,
  ⟨(some 120), (some (114, false)), (.faddr 3 (.t 2))⟩,
  ⟨(some 121), (some (114, false)), (.load 1 false (.t 120))⟩,
  ⟨(some 122), (some (114, false)), (.mv (.t 13))⟩,
  ⟨(some 123), (some (114, false)), (.iaddr 1 (.t 121) (.t 122))⟩,
  ⟨(some 124), (some (114, false)), (.load 1 false (.t 123))⟩,
  ⟨(some 125), (some (114, false)), (.bin .neq (.t 119) (.t 124))⟩,
  ⟨(some 126), none, (.pick (.t 114) (.c (.sc (.bool true))) (.t 125))⟩] (some [[], [0], [1, 0], [2, 1, 0], [3, 2, 1, 0], [2, 1, 0], [4, 5, 2, 3, 1, 0], [2, 6, 1, 0, 4, 5, 3], [7, 2, 6, 1, 0, 4, 5, 3], [8, 7, 2, 6, 1, 0, 4, 5, 3], [9, 8, 7, 2, 6, 1, 0, 4, 5, 3], [10, 8, 9, 7, 2, 6, 1, 0, 4, 5, 3], [8, 11, 7, 2, 6, 1, 0, 4, 5, 3, 10, 9], [12, 8, 11, 7, 2, 6, 1, 0, 4, 5, 3, 10, 9], [13, 12, 8, 11, 7, 2, 6, 1, 0, 4, 5, 3, 10, 9], [14, 13, 12, 8, 11, 7, 2, 6, 1, 0, 4, 5, 3, 10, 9], [15, 13, 14, 12, 8, 11, 7, 2, 6, 1, 0, 4, 5, 3, 10, 9], [13, 16, 12, 8, 11, 7, 2, 6, 1, 0, 4, 5, 3, 10, 9, 15, 14], [17, 13, 16, 12, 8, 11, 7, 2, 6, 1, 0, 4, 5, 3, 10, 9, 15, 14], [18, 17, 13, 16, 12, 8, 11, 7, 2, 6, 1, 0, 4, 5, 3, 10, 9, 15, 14], [19, 18, 17, 13, 16, 12, 8, 11, 7, 2, 6, 1, 0, 4, 5, 3, 10, 9, 15, 14], [18, 17, 13, 16, 12, 8, 11, 7, 2, 6, 1, 0, 4, 5, 3, 10, 9, 15, 14], [21, 18, 17, 13, 16, 12, 8, 11, 7, 2, 6, 1, 0, 4, 5, 3, 10, 9, 15, 14], [20, 22, 18, 19, 17, 13, 16, 12, 8, 11, 7, 2, 6, 1, 0, 4, 5, 3, 10, 9, 15, 14, 21], [18, 17, 13, 16, 12, 8, 11, 7, 2, 6, 1, 0, 4, 5, 3, 10, 9, 15, 14], [24, 18, 17, 13, 16, 12, 8, 11, 7, 2, 6, 1, 0, 4, 5, 3, 10, 9, 15, 14], [18, 17, 13, 16, 12, 8, 11, 7, 2, 6, 1, 0, 4, 5, 3, 10, 9, 15, 14], [25, 26, 18, 24, 17, 13, 16, 12, 8, 11, 7, 2, 6, 1, 0, 4, 5, 3, 10, 9, 15, 14], [27, 18, 25, 26, 24, 17, 13, 16, 12, 8, 11, 7, 2, 6, 1, 0, 4, 5, 3, 10, 9, 15, 14], [23, 28, 18, 20, 22, 19, 17, 13, 16, 12, 8, 11, 7, 2, 6, 1, 0, 4, 5, 3, 10, 9, 15, 14, 21, 27, 25, 26, 24], [18, 29, 17, 13, 16, 12, 8, 11, 7, 2, 6, 1, 0, 4, 5, 3, 10, 9, 15, 14, 23, 28, 20, 22, 19, 21, 27, 25, 26, 24]]))
 (.cond (.t 126)
 (.seq (.reg [⟨(some 4), none, (.mv (.c (.sc (.bool false))))⟩] none) .ret) .skip)) (.reg [⟨(some 127), none, (.mv (.t 12))⟩,
  ⟨(some 128), none, (.iaddrA 1 3 (.t 14) (.c (.sc (.int .i64 (1)))))⟩,
  ⟨(some 129), none, (.load 1 false (.t 128))⟩,
  ⟨(some 130), none, (.bin .add (.t 127) (.t 129))⟩,
  ⟨(some 12), none, (.mv (.t 130))⟩] none)))) (.reg [⟨(some 86), none, (.mv (.t 13))⟩,
  ⟨(some 87), none, (.bin .add (.t 86) (.c (.sc (.int .i64 (1)))))⟩,
  ⟨(some 13), none, (.mv (.t 87))⟩] none))))))
 (.seq (.reg [⟨(some 131), none, (.mv (.t 12))⟩,
  ⟨(some 132), none, (.mv (.t 8))⟩,
  ⟨(some 133), none, (.bin .eql (.t 131) (.t 132))⟩,
  ⟨(some 134), none, (.mv (.t 133))⟩,
  ⟨(some 135), (some (134, true)), (.call 9 [])⟩,
  ⟨(some 136), none, (.pick (.t 134) (.t 135) (.c (.sc (.bool false))))⟩,
  ⟨(some 4), none, (.mv (.t 136))⟩] none) .ret)))))))))))))
theorem good7 {args : List PV} {r : PV} (hl : args.length ≤ 137) (h : Run Tryd.prog [.code ac7] (endQ [(.t 4)] r) ⟨initT 0 args, [], 0, 137⟩) : Good Tryd.prog 7 args r :=
  good_run (by kernel_rfl) Fcmix Tryd.func7 rfl (hs := [⟨[1, 2, 5, 6, 7, 8, 9], [(7, 51, 4)]⟩, ⟨[2, 5, 8, 12, 13], []⟩]) (hs' := []) (by kernel_rfl) hl h
def ac8 : ACode :=
 (.seq (.reg [⟨(some 1), none, (.boxv (.t 0))⟩,
  ⟨(some 2), none, (.mv (.c (.sc (.bool false))))⟩] none)
 (.seq (.reg [⟨(some 3), none, (.faddr 3 (.t 1))⟩,
  ⟨(some 4), none, (.faddr 2 (.t 3))⟩,
  ⟨(some 5), none, (.load 1 false (.t 4))⟩,
  ⟨(some 6), none, (.len (.t 5))⟩,
  ⟨(some 7), none, (.bin .leq (.t 6) (.c (.sc (.int .i64 (70)))))⟩,
  ⟨(some 8), none, (.mv (.t 7))⟩,
  ⟨(some 9), (some (8, true)), (.faddr 6 (.t 1))⟩,
  ⟨(some 10), (some (8, true)), (.load 1 false (.t 9))⟩,
  ⟨(some 11), (some (8, true)), (.len (.t 10))⟩,
  ⟨(some 12), (some (8, true)), (.bin .leq (.t 11) (.c (.sc (.int .i64 (80)))))⟩,
  ⟨(some 13), none, (.pick (.t 8) (.t 12) (.c (.sc (.bool false))))⟩,
  ⟨(some 14), none, (.mv (.t 13))⟩,
  ⟨(some 15), (some (14, true)), (.faddr 7 (.t 1))⟩,
  ⟨(some 16), (some (14, true)), (.load 1 false (.t 15))⟩,
  ⟨(some 17), (some (14, true)), (.len (.t 16))⟩,
  ⟨(some 18), (some (14, true)), (.bin .leq (.t 17) (.c (.sc (.int .i64 (20)))))⟩,
  ⟨(some 19), none, (.pick (.t 14) (.t 18) (.c (.sc (.bool false))))⟩,
  ⟨(some 20), none, (.mv (.t 19))⟩,
  ⟨(some 21), (some (20, true)), (.faddr 8 (.t 1))⟩,
  ⟨(some 22), (some (20, true)), (.load 1 false (.t 21))⟩,
  ⟨(some 23), (some (20, true)), (.len (.t 22))⟩,
  ⟨(some 24), (some (20, true)), (.bin .leq (.t 23) (.c (.sc (.int .i64 (20)))))⟩,
  ⟨(some 25), none, (.pick (.t 20) (.t 24) (.c (.sc (.bool false))))⟩,
  ⟨(some 26), none, (.mv (.t 25))⟩,
  ⟨(some 27), (some (26, true)), (.faddr 9 (.t 1))⟩,
  ⟨(some 28), (some (26, true)), (.faddr 0 (.t 27))⟩,
  ⟨(some 29), (some (26, true)), (.load 1 false (.t 28))⟩,
  ⟨(some 30), (some (26, true)), (.len (.t 29))⟩,
  ⟨(some 31), (some (26, true)), (.bin .leq (.t 30) (.c (.sc (.int .i64 (40)))))⟩,
  ⟨(some 32), none, (.pick (.t 26) (.t 31) (.c (.sc (.bool false))))⟩,
  ⟨(some 2), none, (.mv (.t 32))⟩] none) .ret))
theorem good8 {args : List PV} {r : PV} (hl : args.length ≤ 33) (h : Run Tryd.prog [.code ac8] (endQ [(.t 2)] r) ⟨initT 0 args, [], 0, 33⟩) : Good Tryd.prog 8 args r :=
  good_run (by kernel_rfl) Fcmix Tryd.func8 rfl (hs := []) (hs' := []) (by kernel_rfl) hl h
def ac9 : ACode :=
 (.seq (.reg [⟨(some 0), none, (.mv (.c (.sc (.bool false))))⟩] none)
 (.seq (.reg [⟨(some 14), none, (.build [(.sc (.int .i64 (0))), (.sc (.int .i64 (0)))] [(0, (1, (.c (.sc (.int .i64 (0)))))), (1, (1, (.c (.sc (.int .i64 (86400))))))])⟩,
  ⟨(some 1), none, (.new [(.sc (.int .i64 (0))), (.sc (.int .i64 (0)))])⟩,
  ⟨none, none, (.store 2 (.t 1) (.t 14))⟩] none)
 (.seq (.reg [⟨(some 15), none, (.load 2 true (.t 1))⟩,
  ⟨(some 16), none, (.bslice 3 1 [(.c (.sc (.int .i64 (0)))), (.c (.sc (.int .i64 (30)))), (.c (.sc (.int .i64 (40)))), (.c (.sc (.int .i64 (0))))])⟩,
  ⟨(some 17), none, (.build [(.sc (.int .i64 (0))), (.sc (.int .i64 (0))), (.sc (.slice none 0 0))] [(0, (1, (.c (.sc (.int .i64 (2)))))), (1, (1, (.c (.sc (.int .i64 (2)))))), (2, (1, (.t 16)))])⟩,
  ⟨(some 18), none, (.bslice 4 1 [(.c (.sc (.bool true))), (.c (.sc (.bool false))), (.c (.sc (.bool false))), (.c (.sc (.bool true)))])⟩,
  ⟨(some 19), none, (.bslice 3 1 [(.c (.sc (.int .i64 (32)))), (.c (.sc (.int .i64 (90))))])⟩,
  ⟨(some 20), none, (.bslice 3 1 [(.c (.sc (.int .i64 (42)))), (.c (.sc (.int .i64 (80))))])⟩,
  ⟨(some 21), none, (.build [(.sc (.int .i64 (0))), (.sc (.int .i64 (0))), (.sc (.int .i64 (0))), (.sc (.int .i64 (0))), (.sc (.int .i64 (0))), (.sc (.slice none 0 0)), (.sc (.slice none 0 0)), (.sc (.slice none 0 0)), (.sc (.slice none 0 0)), (.sc (.slice none 0 0))] [(0, (2, (.t 15))), (2, (1, (.c (.sc (.int .i64 (2)))))), (3, (3, (.t 17))), (6, (1, (.t 18))), (7, (1, (.t 19))), (8, (1, (.t 20)))])⟩,
  ⟨(some 2), none, (.new [(.sc (.int .i64 (0))), (.sc (.int .i64 (0))), (.sc (.int .i64 (0))), (.sc (.int .i64 (0))), (.sc (.int .i64 (0))), (.sc (.slice none 0 0)), (.sc (.slice none 0 0)), (.sc (.slice none 0 0)), (.sc (.slice none 0 0)), (.sc (.slice none 0 0))])⟩,
  ⟨none, none, (.store 10 (.t 2) (.t 21))⟩] none)
 (.seq (.reg [⟨(some 22), none, (.load 2 true (.t 1))⟩,
  ⟨(some 23), none, (.bslice 3 1 [(.c (.sc (.int .i64 (3)))), (.c (.sc (.int .i64 (-1)))), (.c (.sc (.int .i64 (40)))), (.c (.sc (.int .i64 (51))))])⟩,
  ⟨(some 24), none, (.build [(.sc (.int .i64 (0))), (.sc (.int .i64 (0))), (.sc (.slice none 0 0))] [(0, (1, (.c (.sc (.int .i64 (2)))))), (1, (1, (.c (.sc (.int .i64 (2)))))), (2, (1, (.t 23)))])⟩,
  ⟨(some 25), none, (.bslice 3 1 [(.c (.sc (.int .i64 (4)))), (.c (.sc (.int .i64 (2)))), (.c (.sc (.int .i64 (1))))])⟩,
  ⟨(some 26), none, (.build [(.sc (.slice none 0 0))] [(0, (1, (.t 25)))])⟩,
  ⟨(some 27), none, (.build [(.sc (.int .i64 (0))), (.sc (.int .i64 (0))), (.sc (.int .i64 (0))), (.sc (.int .i64 (0))), (.sc (.int .i64 (0))), (.sc (.slice none 0 0)), (.sc (.slice none 0 0)), (.sc (.slice none 0 0)), (.sc (.slice none 0 0)), (.sc (.slice none 0 0))] [(0, (2, (.t 22))), (2, (1, (.c (.sc (.int .i64 (2)))))), (3, (3, (.t 24))), (9, (1, (.t 26)))])⟩,
  ⟨(some 3), none, (.new [(.sc (.int .i64 (0))), (.sc (.int .i64 (0))), (.sc (.int .i64 (0))), (.sc (.int .i64 (0))), (.sc (.int .i64 (0))), (.sc (.slice none 0 0)), (.sc (.slice none 0 0)), (.sc (.slice none 0 0)), (.sc (.slice none 0 0)), (.sc (.slice none 0 0))])⟩,
  ⟨none, none, (.store 10 (.t 3) (.t 27))⟩] none)
 (.seq (.reg [⟨(some 29), none, (.load 10 true (.t 2))⟩,
  ⟨(some 30), none, (.call 10 [(.t 29)])⟩,
  ⟨(some 28), none, (.mv (.t 30))⟩,
  ⟨(some 31), none, (.ext 0 (.t 28))⟩,
  ⟨(some 32), none, (.ext 1 (.t 28))⟩,
  ⟨(some 4), none, (.mv (.t 31))⟩,
  ⟨(some 5), none, (.mv (.t 32))⟩] none)
 (.seq (.reg [⟨(some 34), none, (.load 10 true (.t 3))⟩,
  ⟨(some 35), none, (.call 10 [(.t 34)])⟩,
  ⟨(some 33), none, (.mv (.t 35))⟩,
  ⟨(some 36), none, (.ext 0 (.t 33))⟩,
  ⟨(some 37), none, (.ext 1 (.t 33))⟩,
  ⟨(some 6), none, (.mv (.t 36))⟩,
  ⟨(some 7), none, (.mv (.t 37))⟩] none)
 (.seq (.reg [⟨(some 39), none, (.mv (.t 4))⟩,
  ⟨(some 40), none, (.call 14 [(.t 39)])⟩,
  ⟨(some 38), none, (.mv (.t 40))⟩,
  ⟨(some 41), none, (.ext 0 (.t 38))⟩,
  ⟨(some 42), none, (.ext 1 (.t 38))⟩,
  ⟨(some 8), none, (.new [(.sc (.int .i64 (0))), (.sc (.int .i64 (0))), (.sc (.int .i64 (0))), (.sc (.int .i64 (0))), (.sc (.int .i64 (0))), (.sc (.slice none 0 0)), (.sc (.slice none 0 0)), (.sc (.slice none 0 0)), (.sc (.slice none 0 0)), (.sc (.slice none 0 0))])⟩,
  ⟨none, none, (.store 10 (.t 8) (.t 41))⟩,
  ⟨(some 9), none, (.mv (.t 42))⟩] none)
 (.seq (.reg [⟨(some 44), none, (.bslice 9 1 [(.c (.sc (.string ⟨#[116, 114, 105, 112, 115, 32, 48, 32, 56, 54, 52, 48, 48, 32, 50, 32, 50, 32, 50]⟩))), (.c (.sc (.string ⟨#[114, 111, 119, 32, 120, 32, 51, 48, 32, 51, 50]⟩))), (.c (.sc (.string ⟨#[114, 111, 119, 32, 52, 48, 32, 120, 32, 57, 48]⟩))), (.c (.sc (.string ⟨#[115, 117, 109, 115, 32, 48, 52, 50, 32, 56, 48]⟩)))])⟩,
  ⟨(some 45), none, (.call 14 [(.t 44)])⟩,
  ⟨(some 43), none, (.mv (.t 45))⟩,
  ⟨(some 46), none, (.ext 0 (.t 43))⟩,
  ⟨(some 47), none, (.ext 1 (.t 43))⟩,
  ⟨(some 10), none, (.new [(.sc (.int .i64 (0))), (.sc (.int .i64 (0))), (.sc (.int .i64 (0))), (.sc (.int .i64 (0))), (.sc (.int .i64 (0))), (.sc (.slice none 0 0)), (.sc (.slice none 0 0)), (.sc (.slice none 0 0)), (.sc (.slice none 0 0)), (.sc (.slice none 0 0))])⟩,
  ⟨none, none, (.store 10 (.t 10) (.t 46))⟩,
  ⟨(some 11), none, (.mv (.t 47))⟩] none)
 (.seq (.reg [⟨(some 49), none, (.bslice 3 1 [(.c (.sc (.int .i64 (3)))), (.c (.sc (.int .i64 (2))))])⟩,
  ⟨(some 50), none, (.build [(.sc (.int .i64 (0))), (.sc (.int .i64 (0))), (.sc (.int .i64 (0))), (.sc (.slice none 0 0)), (.sc (.slice none 0 0))] [(0, (1, (.c (.sc (.int .i64 (3)))))), (1, (1, (.c (.sc (.int .i64 (1)))))), (2, (1, (.c (.sc (.int .i64 (1)))))), (3, (1, (.t 49)))])⟩,
  ⟨(some 51), none, (.build [(.sc (.int .i64 (0))), (.sc (.int .i64 (0))), (.sc (.int .i64 (0))), (.sc (.bool false))] [(0, (1, (.c (.sc (.int .i64 (1)))))), (1, (1, (.c (.sc (.int .i64 (1))))))])⟩,
  ⟨(some 52), none, (.build [(.sc (.int .i64 (0))), (.sc (.int .i64 (0))), (.sc (.int .i64 (0))), (.sc (.bool false))] [(0, (1, (.c (.sc (.int .i64 (5))))))])⟩,
  ⟨(some 53), none, (.build [(.sc (.int .i64 (0))), (.sc (.int .i64 (0))), (.sc (.int .i64 (0))), (.sc (.bool false))] [(0, (1, (.c (.sc (.int .i64 (1)))))), (1, (1, (.c (.sc (.int .i64 (33))))))])⟩,
  ⟨(some 54), none, (.bslice 51 4 [(.t 51), (.t 52), (.t 53)])⟩,
  ⟨(some 55), none, (.call 17 [(.t 50), (.t 54)])⟩,
  ⟨(some 48), none, (.mv (.t 55))⟩,
  ⟨(some 56), none, (.ext 0 (.t 48))⟩,
  ⟨(some 57), none, (.ext 1 (.t 48))⟩,
  ⟨(some 12), none, (.mv (.t 56))⟩,
  ⟨(some 13), none, (.mv (.t 57))⟩] none)
 (.seq (.seq (.reg [⟨(some 58), none, (.mv (.t 5))⟩,
  ⟨(some 59), none, (.bin .neq (.t 58) (.c (.sc (.int .i64 (0)))))⟩,
  ⟨(some 60), none, (.mv (.t 59))⟩,
  ⟨(some 61), (some (60, false)), (.mv (.t 7))⟩,
  ⟨(some 62), (some (60, false)), (.bin .neq (.t 61) (.c (.sc (.int .i64 (0)))))⟩,
  ⟨(some 63), none, (.pick (.t 60) (.c (.sc (.bool true))) (.t 62))⟩,
  ⟨(some 64), none, (.mv (.t 63))⟩,
  ⟨(some 65), (some (64, false)), (.mv (.t 9))⟩,
  ⟨(some 66), (some (64, false)), (.bin .neq (.t 65) (.c (.sc (.int .i64 (0)))))⟩,
  ⟨(some 67), none, (.pick (.t 64) (.c (.sc (.bool true))) (.t 66))⟩,
  ⟨(some 68), none, (.mv (.t 67))⟩,
  ⟨(some 69), (some (68, false)), (.mv (.t 11))⟩,
  ⟨(some 70), (some (68, false)), (.bin .neq (.t 69) (.c (.sc (.int .i64 (3)))))⟩,
  ⟨(some 71), none, (.pick (.t 68) (.c (.sc (.bool true))) (.t 70))⟩,
  ⟨(some 72), none, (.mv (.t 71))⟩,
  ⟨(some 73), (some (72, false)), (.mv (.t 13))⟩,
  ⟨(some 74), (some (72, false)), (.bin .neq (.t 73) (.c (.sc (.int .i64 (0)))))⟩,
  ⟨(some 75), none, (.pick (.t 72) (.c (.sc (.bool true))) (.t 74))⟩,
  ⟨(some 76), none, (.mv (.t 75))⟩,
  ⟨(some 77), (some (76, false)), (.load 10 true (.t 8))⟩,
  ⟨(some 78), (some (76, false)), (.load 10 true (.t 2))⟩,
  ⟨(some 79), (some (76, false)), (.call 15 [(.t 77), (.t 78)])⟩,
  ⟨(some 80), (some (76, false)), (.un .not (.t 79))⟩,
  ⟨(some 81), none, (.pick (.t 76) (.c (.sc (.bool true))) (.t 80))⟩] none)
 (.cond (.t 81)
 (.seq (.reg [⟨(some 0), none, (.mv (.c (.sc (.bool false))))⟩] none) .ret) .skip))
 (.seq (.reg [⟨(some 82), none, (.mv (.t 4))⟩,
  ⟨(some 83), none, (.bslice 9 1 [(.c (.sc (.string ⟨#[116, 114, 105, 112, 115, 32, 48, 32, 56, 54, 52, 48, 48, 32, 50, 32, 50, 32, 50]⟩))), (.c (.sc (.string ⟨#[114, 111, 119, 32, 120, 32, 51, 48, 32, 51, 50]⟩))), (.c (.sc (.string ⟨#[114, 111, 119, 32, 52, 48, 32, 120, 32, 57, 48]⟩))), (.c (.sc (.string ⟨#[115, 117, 109, 115, 32, 52, 50, 32, 56, 48]⟩)))])⟩,
  ⟨(some 84), none, (.call 12 [(.t 82), (.t 83)])⟩,
  ⟨(some 85), none, (.mv (.t 84))⟩,
  ⟨(some 86), (some (85, true)), (.mv (.t 6))⟩,
  ⟨(some 87), (some (85, true)), (.bslice 9 1 [(.c (.sc (.string ⟨#[116, 114, 105, 112, 115, 32, 48, 32, 56, 54, 52, 48, 48, 32, 50, 32, 50, 32, 50]⟩))), (.c (.sc (.string ⟨#[114, 111, 119, 32, 51, 32, 45, 49]⟩))), (.c (.sc (.string ⟨#[114, 111, 119, 32, 52, 48, 32, 53, 49]⟩))), (.c (.sc (.string ⟨#[110, 111, 105, 115, 101, 32, 52, 32, 50, 32, 49]⟩)))])⟩,
  ⟨(some 88), (some (85, true)), (.call 12 [(.t 86), (.t 87)])⟩,
  ⟨(some 89), none, (.pick (.t 85) (.t 88) (.c (.sc (.bool false))))⟩,
  ⟨(some 90), none, (.mv (.t 89))⟩,
  ⟨(some 91), (some (90, true)), (.mv (.t 12))⟩,
  ⟨(some 92), (some (90, true)), (.bslice 9 1 [(.c (.sc (.string ⟨#[48, 32, 49, 32, 50]⟩))), (.c (.sc (.string ⟨#[49, 32, 49, 32, 49]⟩)))])⟩,
  ⟨(some 93), (some (90, true)), (.call 12 [(.t 91), (.t 92)])⟩,
  ⟨(some 94), none, (.pick (.t 90) (.t 93) (.c (.sc (.bool false))))⟩,
  ⟨(some 0), none, (.mv (.t 94))⟩] none) .ret)))))))))))
theorem good9 {args : List PV} {r : PV} (hl : args.length ≤ 95) (h : Run Tryd.prog [.code ac9] (endQ [(.t 0)] r) ⟨initT 0 args, [], 0, 95⟩) : Good Tryd.prog 9 args r :=
  good_run (by kernel_rfl) Fcmix Tryd.func9 rfl (hs := []) (hs' := []) (by kernel_rfl) hl h
def ac13 : ACode :=
 (.seq (.reg [⟨(some 2), none, (.mv (.c (.sc (.bool false))))⟩] none)
 (.seq (.seq (.reg [⟨(some 4), none, (.mv (.t 0))⟩,
  ⟨(some 5), none, (.len (.t 4))⟩,
  ⟨(some 6), none, (.bin .gtr (.t 5) (.c (.sc (.int .i64 (20)))))⟩] none)
 (.cond (.t 6)
 (.seq (.reg [⟨(some 2), none, (.mv (.c (.sc (.bool false))))⟩] none) .ret) .skip))
 (.seq (.seq (.reg [⟨(some 3), none, (.mv (.c (.sc (.int .i64 (0)))))⟩] none) (.block 0 
 (.loop ⟨[0, 3], []⟩
 (.seq (.seq (.reg [⟨(some 7), none, (.mv (.t 3))⟩,
  ⟨(some 8), none, (.mv (.t 0))⟩,
  ⟨(some 9), none, (.len (.t 8))⟩,
  ⟨(some 10), none, (.bin .lss (.t 7) (.t 9))⟩] none)
 (.cond (.t 10) .skip (.exit 0)))
 (.seq (.block 1
 (.seq (.reg [⟨(some 13), none, (.mv (.t 0))⟩,
  ⟨(some 14), none, (.mv (.t 3))⟩,
  ⟨(some 15), none, (.iaddr 1 (.t 13) (.t 14))⟩,
  ⟨(some 16), none, (.load 1 false (.t 15))⟩,
  ⟨(some 17), none, (.slen (.t 16))⟩,
  ⟨(some 18), none, (.bin .gtr (.t 17) (.c (.sc (.int .i64 (1200)))))⟩] none)
 (.cond (.t 18)
 (.seq (.reg [⟨(some 2), none, (.mv (.c (.sc (.bool false))))⟩] none) .ret) .skip))) (.reg [⟨(some 11), none, (.mv (.t 3))⟩,
  ⟨(some 12), none, (.bin .add (.t 11) (.c (.sc (.int .i64 (1)))))⟩,
  ⟨(some 3), none, (.mv (.t 12))⟩] none))))))
 (.seq (.reg [⟨(some 2), none, (.mv (.c (.sc (.bool true))))⟩] none) .ret))))
theorem good13 {args : List PV} {r : PV} (hl : args.length ≤ 19) (h : Run Tryd.prog [.code ac13] (endQ [(.t 2)] r) ⟨initT 0 args, [], 0, 19⟩) : Good Tryd.prog 13 args r :=
  good_run (by kernel_rfl) Fcmix Tryd.func13 rfl (hs := [⟨[0, 3], []⟩]) (hs' := []) (by kernel_rfl) hl h
def ac19 : ACode :=
 (.seq (.reg [⟨(some 2), none, (.new [(.sc (.int .i64 (0))), (.sc (.int .i64 (0))), (.sc (.int .i64 (0)))])⟩,
  ⟨(some 3), none, (.mv (.c (.sc (.bool false))))⟩] none)
 (.seq (.reg [⟨(some 4), none, (.new [(.sc (.int .i64 (0))), (.sc (.int .i64 (0))), (.sc (.int .i64 (0)))])⟩] none)
 (.seq (.reg [⟨(some 5), none, (.mv (.c (.sc (.int .i64 (0)))))⟩,
  ⟨(some 6), none, (.mv (.c (.sc (.int .i64 (0)))))⟩] none)
 (.seq (.seq (.reg [⟨(some 7), none, (.mv (.c (.sc (.int .i64 (0)))))⟩] none) (.block 0 
 (.loop ⟨[0, 2, 4, 5, 6, 7], []⟩
 (.seq (.seq (.reg [⟨(some 10), none, (.mv (.t 7))⟩,
  ⟨(some 11), none, (.mv (.t 0))⟩,
  ⟨(some 12), none, (.slen (.t 11))⟩,
  ⟨(some 13), none, (.bin .leq (.t 10) (.t 12))⟩] none)
 (.cond (.t 13) .skip (.exit 0)))
 (.seq (.block 1
 (.seq (.seq (.reg [⟨(some 16), none, (.mv (.t 7))⟩,
  ⟨(some 17), none, (.mv (.t 0))⟩,
  ⟨(some 18), none, (.slen (.t 17))⟩,
  ⟨(some 19), none, (.bin .lss (.t 16) (.t 18))⟩,
  ⟨(some 20), none, (.mv (.t 19))⟩,
  ⟨(some 21), (some (20, true)), (.mv (.t 0))⟩,
  ⟨(some 22), (some (20, true)), (.mv (.t 7))⟩,
  ⟨(some 23), (some (20, true)), (.sidx (.t 21) (.t 22))⟩,
  ⟨(some 24), (some (20, true)), (.bin .neq (.t 23) (.c (.sc (.int .u8 (32)))))⟩,
  ⟨(some 25), none, (.pick (.t 20) (.t 24) (.c (.sc (.bool false))))⟩] none)
 (.cond (.t 25) (.exit 1) .skip))
 (.seq (.reg [⟨(some 27), none, (.mv (.t 0))⟩,
  ⟨(some 28), none, (.mv (.t 6))⟩,
  ⟨(some 29), none, (.mv (.t 7))⟩,
  ⟨(some 30), none, (.sslice (.t 27) (some (.t 28)) (some (.t 29)))⟩,
  ⟨(some 31), none, (.call 36 [(.t 30), (.c (.sc (.int .i64 (0))))])⟩,
  ⟨(some 26), none, (.mv (.t 31))⟩,
  ⟨(some 32), none, (.ext 0 (.t 26))⟩,
  ⟨(some 33), none, (.ext 1 (.t 26))⟩,
  ⟨(some 8), none, (.mv (.t 32))⟩,
  ⟨(some 9), none, (.mv (.t 33))⟩] none)
 (.seq (.seq (.reg [⟨(some 34), none, (.mv (.t 9))⟩,
  ⟨(some 35), none, (.bin .neq (.t 34) (.c (.sc (.int .i64 (0)))))⟩,
  ⟨(some 36), none, (.mv (.t 35))⟩,
  ⟨(some 37), (some (36, false)), (.mv (.t 5))⟩,
  ⟨(some 38), (some (36, false)), (.bin .gtr (.t 37) (.c (.sc (.int .i64 (2)))))⟩,
  ⟨(some 39), none, (.pick (.t 36) (.c (.sc (.bool true))) (.t 38))⟩] none)
 (.cond (.t 39)
 (.seq (.reg [⟨(some 40), none, (.load 3 true (.t 4))⟩,
  ⟨none, none, (.store 3 (.t 2) (.t 40))⟩,
  ⟨(some 3), none, (.mv (.c (.sc (.bool false))))⟩] none) .ret) .skip))
 (.seq (.reg [⟨(some 41), none, (.mv (.t 5))⟩,
  ⟨(some 42), none, (.mv (.t 8))⟩,
  ⟨(some 43), none, (.iaddrA 1 3 (.t 4) (.t 41))⟩,
  ⟨none, none, (.store 1 (.t 43) (.t 42))⟩] none) (.reg [⟨(some 44), none, (.mv (.t 5))⟩,
  ⟨(some 45), none, (.bin .add (.t 44) (.c (.sc (.int .i64 (1)))))⟩,
  ⟨(some 46), none, (.mv (.t 7))⟩,
  ⟨(some 47), none, (.bin .add (.t 46) (.c (.sc (.int .i64 (1)))))⟩,
  ⟨(some 5), none, (.mv (.t 45))⟩,
  ⟨(some 6), none, (.mv (.t 47))⟩] none)))))) (.reg [⟨(some 14), none, (.mv (.t 7))⟩,
  ⟨(some 15), none, (.bin .add (.t 14) (.c (.sc (.int .i64 (1)))))⟩,
  ⟨(some 7), none, (.mv (.t 15))⟩] none))))))
 (.seq (.reg [⟨(some 48), none, (.load 3 true (.t 4))⟩,
  ⟨(some 49), none, (.mv (.t 5))⟩,
  ⟨(some 50), none, (.bin .eql (.t 49) (.c (.sc (.int .i64 (3)))))⟩,
  ⟨none, none, (.store 3 (.t 2) (.t 48))⟩,
  ⟨(some 3), none, (.mv (.t 50))⟩] none) .ret)))))
theorem good19 {args : List PV} {r : PV} (hl : args.length ≤ 51) (h : Run Tryd.prog [.code ac19] (endQ [(.c 2 3 true), (.t 3)] r) ⟨initT 0 args, [], 0, 51⟩) : Good Tryd.prog 19 args r :=
  good_run (by kernel_rfl) Fcmix Tryd.func19 rfl (hs := [⟨[0, 2, 4, 5, 6, 7], []⟩]) (hs' := []) (by kernel_rfl) hl h
end Go.Proofs.YtjnfldkcbcfboaaDoor
