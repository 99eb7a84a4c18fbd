/-
  The translated codes of functions, checked by the kernel.
-/
import Derived.Test.YtjnfldkcbcfboaaGreatDoorKc
import Derived.KernelRfl
namespace Go.Proofs.YtjnfldkcbcfboaaGreatDoor
set_option linter.unusedVariables false
set_option linter.unusedSimpArgs false
set_option linter.unnecessarySimpa false
theorem Fcmix : Tryz.prog.follows .mixedOrders = true := by kernel_rfl
def ac3 : ACode :=
 (.seq (.reg [⟨(some 2), none, (.mv (.c (.sc (.bool false))))⟩] none)
 (.seq (.seq (.reg [⟨(some 7), none, (.mv (.t 0))⟩,
  ⟨(some 8), none, (.call 4 [(.t 7)])⟩,
  ⟨(some 9), none, (.un .not (.t 8))⟩] none)
 (.cond (.t 9)
 (.seq (.reg [⟨(some 10), none, (.call 5 [])⟩,
  ⟨(some 2), none, (.mv (.t 10))⟩] none) .ret) .skip))
 (.seq (.reg [⟨(some 12), none, (.mv (.t 0))⟩,
  ⟨(some 13), none, (.call 6 [(.t 12)])⟩,
  ⟨(some 11), none, (.mv (.t 13))⟩,
  ⟨(some 14), none, (.ext 0 (.t 11))⟩,
  ⟨(some 15), none, (.ext 1 (.t 11))⟩,
  ⟨(some 3), none, (.new [(.sc (.int .i64 (0))), (.sc (.int .i64 (0))), (.sc (.int .i64 (0))), (.sc (.int .i64 (0))), (.sc (.int .i64 (0))), (.sc (.slice none 0 0)), (.sc (.slice none 0 0)), (.sc (.slice none 0 0)), (.sc (.slice none 0 0)), (.sc (.slice none 0 0))])⟩,
  ⟨none, none, (.store 10 (.t 3) (.t 14))⟩,
  ⟨(some 4), none, (.mv (.t 15))⟩] none)
 (.seq (.reg [⟨(some 17), none, (.mv (.t 0))⟩,
  ⟨(some 18), none, (.call 7 [(.t 17)])⟩,
  ⟨(some 16), none, (.mv (.t 18))⟩,
  ⟨(some 19), none, (.ext 0 (.t 16))⟩,
  ⟨(some 20), none, (.ext 1 (.t 16))⟩,
  ⟨(some 5), none, (.new [(.sc (.int .i64 (0))), (.sc (.int .i64 (0))), (.sc (.int .i64 (0))), (.sc (.int .i64 (0))), (.sc (.int .i64 (0))), (.sc (.slice none 0 0)), (.sc (.slice none 0 0)), (.sc (.slice none 0 0)), (.sc (.slice none 0 0)), (.sc (.slice none 0 0))])⟩,
  ⟨none, none, (.store 10 (.t 5) (.t 19))⟩,
  ⟨(some 6), none, (.mv (.t 20))⟩] none)
 (.seq (.reg [⟨(some 21), none, (.load 10 true (.t 3))⟩,
  ⟨(some 22), none, (.load 10 true (.t 5))⟩,
  ⟨(some 23), none, (.call 8 [(.t 21), (.t 22)])⟩,
  ⟨(some 24), none, (.mv (.t 23))⟩,
  ⟨(some 25), (some (24, true)), (.mv (.t 4))⟩,
  ⟨(some 26), (some (24, true)), (.mv (.t 6))⟩,
  ⟨(some 27), (some (24, true)), (.bin .eql (.t 25) (.t 26))⟩,
  ⟨(some 28), none, (.pick (.t 24) (.t 27) (.c (.sc (.bool false))))⟩,
  ⟨(some 29), none, (.mv (.t 28))⟩,
  ⟨(some 30), (some (29, true)), (.call 5 [])⟩,
  ⟨(some 31), none, (.pick (.t 29) (.t 30) (.c (.sc (.bool false))))⟩,
  ⟨(some 2), none, (.mv (.t 31))⟩] none) .ret)))))
theorem good3 {args : List PV} {r : PV} (hl : args.length ≤ 32) (h : Run Tryz.prog [.code ac3] (endQ [(.t 2)] r) ⟨initT 0 args, [], 0, 32⟩) : Good Tryz.prog 3 args r :=
  good_run (by kernel_rfl) Fcmix Tryz.func3 rfl (hs := []) (hs' := []) (by kernel_rfl) hl h
def ac5 : ACode :=
 (.seq (.reg [⟨(some 0), none, (.mv (.c (.sc (.bool false))))⟩] none)
 (.seq (.reg [⟨(some 14), none, (.build [(.sc (.int .i64 (0))), (.sc (.int .i64 (0)))] [(0, (1, (.c (.sc (.int .i64 (0)))))), (1, (1, (.c (.sc (.int .i64 (86400))))))])⟩,
  ⟨(some 1), none, (.new [(.sc (.int .i64 (0))), (.sc (.int .i64 (0)))])⟩,
  ⟨none, none, (.store 2 (.t 1) (.t 14))⟩] none)
 (.seq (.reg [⟨(some 15), none, (.load 2 true (.t 1))⟩,
  ⟨(some 16), none, (.bslice 3 1 [(.c (.sc (.int .i64 (0)))), (.c (.sc (.int .i64 (30)))), (.c (.sc (.int .i64 (40)))), (.c (.sc (.int .i64 (0))))])⟩,
  ⟨(some 17), none, (.build [(.sc (.int .i64 (0))), (.sc (.int .i64 (0))), (.sc (.slice none 0 0))] [(0, (1, (.c (.sc (.int .i64 (2)))))), (1, (1, (.c (.sc (.int .i64 (2)))))), (2, (1, (.t 16)))])⟩,
  ⟨(some 18), none, (.bslice 4 1 [(.c (.sc (.bool true))), (.c (.sc (.bool false))), (.c (.sc (.bool false))), (.c (.sc (.bool true)))])⟩,
  ⟨(some 19), none, (.bslice 3 1 [(.c (.sc (.int .i64 (32)))), (.c (.sc (.int .i64 (90))))])⟩,
  ⟨(some 20), none, (.bslice 3 1 [(.c (.sc (.int .i64 (42)))), (.c (.sc (.int .i64 (80))))])⟩,
  ⟨(some 21), none, (.build [(.sc (.int .i64 (0))), (.sc (.int .i64 (0))), (.sc (.int .i64 (0))), (.sc (.int .i64 (0))), (.sc (.int .i64 (0))), (.sc (.slice none 0 0)), (.sc (.slice none 0 0)), (.sc (.slice none 0 0)), (.sc (.slice none 0 0)), (.sc (.slice none 0 0))] [(0, (2, (.t 15))), (2, (1, (.c (.sc (.int .i64 (2)))))), (3, (3, (.t 17))), (6, (1, (.t 18))), (7, (1, (.t 19))), (8, (1, (.t 20)))])⟩,
  ⟨(some 2), none, (.new [(.sc (.int .i64 (0))), (.sc (.int .i64 (0))), (.sc (.int .i64 (0))), (.sc (.int .i64 (0))), (.sc (.int .i64 (0))), (.sc (.slice none 0 0)), (.sc (.slice none 0 0)), (.sc (.slice none 0 0)), (.sc (.slice none 0 0)), (.sc (.slice none 0 0))])⟩,
  ⟨none, none, (.store 10 (.t 2) (.t 21))⟩] none)
 (.seq (.reg [⟨(some 22), none, (.load 2 true (.t 1))⟩,
  ⟨(some 23), none, (.bslice 3 1 [(.c (.sc (.int .i64 (3)))), (.c (.sc (.int .i64 (-1)))), (.c (.sc (.int .i64 (40)))), (.c (.sc (.int .i64 (51))))])⟩,
  ⟨(some 24), none, (.build [(.sc (.int .i64 (0))), (.sc (.int .i64 (0))), (.sc (.slice none 0 0))] [(0, (1, (.c (.sc (.int .i64 (2)))))), (1, (1, (.c (.sc (.int .i64 (2)))))), (2, (1, (.t 23)))])⟩,
  ⟨(some 25), none, (.bslice 3 1 [(.c (.sc (.int .i64 (4)))), (.c (.sc (.int .i64 (2)))), (.c (.sc (.int .i64 (1))))])⟩,
  ⟨(some 26), none, (.build [(.sc (.slice none 0 0))] [(0, (1, (.t 25)))])⟩,
  ⟨(some 27), none, (.build [(.sc (.int .i64 (0))), (.sc (.int .i64 (0))), (.sc (.int .i64 (0))), (.sc (.int .i64 (0))), (.sc (.int .i64 (0))), (.sc (.slice none 0 0)), (.sc (.slice none 0 0)), (.sc (.slice none 0 0)), (.sc (.slice none 0 0)), (.sc (.slice none 0 0))] [(0, (2, (.t 22))), (2, (1, (.c (.sc (.int .i64 (2)))))), (3, (3, (.t 24))), (9, (1, (.t 26)))])⟩,
  ⟨(some 3), none, (.new [(.sc (.int .i64 (0))), (.sc (.int .i64 (0))), (.sc (.int .i64 (0))), (.sc (.int .i64 (0))), (.sc (.int .i64 (0))), (.sc (.slice none 0 0)), (.sc (.slice none 0 0)), (.sc (.slice none 0 0)), (.sc (.slice none 0 0)), (.sc (.slice none 0 0))])⟩,
  ⟨none, none, (.store 10 (.t 3) (.t 27))⟩] none)
 (.seq (.reg [⟨(some 29), none, (.load 10 true (.t 2))⟩,
  ⟨(some 30), none, (.call 9 [(.t 29)])⟩,
  ⟨(some 28), none, (.mv (.t 30))⟩,
  ⟨(some 31), none, (.ext 0 (.t 28))⟩,
  ⟨(some 32), none, (.ext 1 (.t 28))⟩,
  ⟨(some 4), none, (.mv (.t 31))⟩,
  ⟨(some 5), none, (.mv (.t 32))⟩] none)
 (.seq (.reg [⟨(some 34), none, (.load 10 true (.t 3))⟩,
  ⟨(some 35), none, (.call 9 [(.t 34)])⟩,
  ⟨(some 33), none, (.mv (.t 35))⟩,
  ⟨(some 36), none, (.ext 0 (.t 33))⟩,
  ⟨(some 37), none, (.ext 1 (.t 33))⟩,
  ⟨(some 6), none, (.mv (.t 36))⟩,
  ⟨(some 7), none, (.mv (.t 37))⟩] none)
 (.seq (.reg [⟨(some 39), none, (.mv (.t 4))⟩,
  ⟨(some 40), none, (.call 6 [(.t 39)])⟩,
  ⟨(some 38), none, (.mv (.t 40))⟩,
  ⟨(some 41), none, (.ext 0 (.t 38))⟩,
  ⟨(some 42), none, (.ext 1 (.t 38))⟩,
  ⟨(some 8), none, (.new [(.sc (.int .i64 (0))), (.sc (.int .i64 (0))), (.sc (.int .i64 (0))), (.sc (.int .i64 (0))), (.sc (.int .i64 (0))), (.sc (.slice none 0 0)), (.sc (.slice none 0 0)), (.sc (.slice none 0 0)), (.sc (.slice none 0 0)), (.sc (.slice none 0 0))])⟩,
  ⟨none, none, (.store 10 (.t 8) (.t 41))⟩,
  ⟨(some 9), none, (.mv (.t 42))⟩] none)
 (.seq (.reg [⟨(some 44), none, (.bslice 9 1 [(.c (.sc (.string ⟨#[116, 114, 105, 112, 115, 32, 48, 32, 56, 54, 52, 48, 48, 32, 50, 32, 50, 32, 50]⟩))), (.c (.sc (.string ⟨#[114, 111, 119, 32, 120, 32, 51, 48, 32, 51, 50]⟩))), (.c (.sc (.string ⟨#[114, 111, 119, 32, 52, 48, 32, 120, 32, 57, 48]⟩))), (.c (.sc (.string ⟨#[115, 117, 109, 115, 32, 48, 52, 50, 32, 56, 48]⟩)))])⟩,
  ⟨(some 45), none, (.call 6 [(.t 44)])⟩,
  ⟨(some 43), none, (.mv (.t 45))⟩,
  ⟨(some 46), none, (.ext 0 (.t 43))⟩,
  ⟨(some 47), none, (.ext 1 (.t 43))⟩,
  ⟨(some 10), none, (.new [(.sc (.int .i64 (0))), (.sc (.int .i64 (0))), (.sc (.int .i64 (0))), (.sc (.int .i64 (0))), (.sc (.int .i64 (0))), (.sc (.slice none 0 0)), (.sc (.slice none 0 0)), (.sc (.slice none 0 0)), (.sc (.slice none 0 0)), (.sc (.slice none 0 0))])⟩,
  ⟨none, none, (.store 10 (.t 10) (.t 46))⟩,
  ⟨(some 11), none, (.mv (.t 47))⟩] none)
 (.seq (.reg [⟨(some 49), none, (.bslice 3 1 [(.c (.sc (.int .i64 (3)))), (.c (.sc (.int .i64 (2))))])⟩,
  ⟨(some 50), none, (.build [(.sc (.int .i64 (0))), (.sc (.int .i64 (0))), (.sc (.int .i64 (0))), (.sc (.slice none 0 0)), (.sc (.slice none 0 0))] [(0, (1, (.c (.sc (.int .i64 (3)))))), (1, (1, (.c (.sc (.int .i64 (1)))))), (2, (1, (.c (.sc (.int .i64 (1)))))), (3, (1, (.t 49)))])⟩,
  ⟨(some 51), none, (.build [(.sc (.int .i64 (0))), (.sc (.int .i64 (0))), (.sc (.int .i64 (0))), (.sc (.bool false))] [(0, (1, (.c (.sc (.int .i64 (1)))))), (1, (1, (.c (.sc (.int .i64 (1))))))])⟩,
  ⟨(some 52), none, (.build [(.sc (.int .i64 (0))), (.sc (.int .i64 (0))), (.sc (.int .i64 (0))), (.sc (.bool false))] [(0, (1, (.c (.sc (.int .i64 (5))))))])⟩,
  ⟨(some 53), none, (.build [(.sc (.int .i64 (0))), (.sc (.int .i64 (0))), (.sc (.int .i64 (0))), (.sc (.bool false))] [(0, (1, (.c (.sc (.int .i64 (1)))))), (1, (1, (.c (.sc (.int .i64 (33))))))])⟩,
  ⟨(some 54), none, (.bslice 45 4 [(.t 51), (.t 52), (.t 53)])⟩,
  ⟨(some 55), none, (.call 10 [(.t 50), (.t 54)])⟩,
  ⟨(some 48), none, (.mv (.t 55))⟩,
  ⟨(some 56), none, (.ext 0 (.t 48))⟩,
  ⟨(some 57), none, (.ext 1 (.t 48))⟩,
  ⟨(some 12), none, (.mv (.t 56))⟩,
  ⟨(some 13), none, (.mv (.t 57))⟩] none)
 (.seq (.seq (.reg [⟨(some 58), none, (.mv (.t 5))⟩,
  ⟨(some 59), none, (.bin .neq (.t 58) (.c (.sc (.int .i64 (0)))))⟩,
  ⟨(some 60), none, (.mv (.t 59))⟩,
  ⟨(some 61), (some (60, false)), (.mv (.t 7))⟩,
  ⟨(some 62), (some (60, false)), (.bin .neq (.t 61) (.c (.sc (.int .i64 (0)))))⟩,
  ⟨(some 63), none, (.pick (.t 60) (.c (.sc (.bool true))) (.t 62))⟩,
  ⟨(some 64), none, (.mv (.t 63))⟩,
  ⟨(some 65), (some (64, false)), (.mv (.t 9))⟩,
  ⟨(some 66), (some (64, false)), (.bin .neq (.t 65) (.c (.sc (.int .i64 (0)))))⟩,
  ⟨(some 67), none, (.pick (.t 64) (.c (.sc (.bool true))) (.t 66))⟩,
  ⟨(some 68), none, (.mv (.t 67))⟩,
  ⟨(some 69), (some (68, false)), (.mv (.t 11))⟩,
  ⟨(some 70), (some (68, false)), (.bin .neq (.t 69) (.c (.sc (.int .i64 (3)))))⟩,
  ⟨(some 71), none, (.pick (.t 68) (.c (.sc (.bool true))) (.t 70))⟩,
  ⟨(some 72), none, (.mv (.t 71))⟩,
  ⟨(some 73), (some (72, false)), (.mv (.t 13))⟩,
  ⟨(some 74), (some (72, false)), (.bin .neq (.t 73) (.c (.sc (.int .i64 (0)))))⟩,
  ⟨(some 75), none, (.pick (.t 72) (.c (.sc (.bool true))) (.t 74))⟩,
  ⟨(some 76), none, (.mv (.t 75))⟩,
  ⟨(some 77), (some (76, false)), (.load 10 true (.t 8))⟩,
  ⟨(some 78), (some (76, false)), (.load 10 true (.t 2))⟩,
  ⟨(some 79), (some (76, false)), (.call 8 [(.t 77), (.t 78)])⟩,
  ⟨(some 80), (some (76, false)), (.un .not (.t 79))⟩,
  ⟨(some 81), none, (.pick (.t 76) (.c (.sc (.bool true))) (.t 80))⟩] none)
 (.cond (.t 81)
 (.seq (.reg [⟨(some 0), none, (.mv (.c (.sc (.bool false))))⟩] none) .ret) .skip))
 (.seq (.reg [⟨(some 82), none, (.mv (.t 4))⟩,
  ⟨(some 83), none, (.bslice 9 1 [(.c (.sc (.string ⟨#[116, 114, 105, 112, 115, 32, 48, 32, 56, 54, 52, 48, 48, 32, 50, 32, 50, 32, 50]⟩))), (.c (.sc (.string ⟨#[114, 111, 119, 32, 120, 32, 51, 48, 32, 51, 50]⟩))), (.c (.sc (.string ⟨#[114, 111, 119, 32, 52, 48, 32, 120, 32, 57, 48]⟩))), (.c (.sc (.string ⟨#[115, 117, 109, 115, 32, 52, 50, 32, 56, 48]⟩)))])⟩,
  ⟨(some 84), none, (.call 11 [(.t 82), (.t 83)])⟩,
  ⟨(some 85), none, (.mv (.t 84))⟩,
  ⟨(some 86), (some (85, true)), (.mv (.t 6))⟩,
  ⟨(some 87), (some (85, true)), (.bslice 9 1 [(.c (.sc (.string ⟨#[116, 114, 105, 112, 115, 32, 48, 32, 56, 54, 52, 48, 48, 32, 50, 32, 50, 32, 50]⟩))), (.c (.sc (.string ⟨#[114, 111, 119, 32, 51, 32, 45, 49]⟩))), (.c (.sc (.string ⟨#[114, 111, 119, 32, 52, 48, 32, 53, 49]⟩))), (.c (.sc (.string ⟨#[110, 111, 105, 115, 101, 32, 52, 32, 50, 32, 49]⟩)))])⟩,
  ⟨(some 88), (some (85, true)), (.call 11 [(.t 86), (.t 87)])⟩,
  ⟨(some 89), none, (.pick (.t 85) (.t 88) (.c (.sc (.bool false))))⟩,
  ⟨(some 90), none, (.mv (.t 89))⟩,
  ⟨(some 91), (some (90, true)), (.mv (.t 12))⟩,
  ⟨(some 92), (some (90, true)), (.bslice 9 1 [(.c (.sc (.string ⟨#[48, 32, 49, 32, 50]⟩))), (.c (.sc (.string ⟨#[49, 32, 49, 32, 49]⟩)))])⟩,
  ⟨(some 93), (some (90, true)), (.call 11 [(.t 91), (.t 92)])⟩,
  ⟨(some 94), none, (.pick (.t 90) (.t 93) (.c (.sc (.bool false))))⟩,
  ⟨(some 0), none, (.mv (.t 94))⟩] none) .ret)))))))))))
theorem good5 {args : List PV} {r : PV} (hl : args.length ≤ 95) (h : Run Tryz.prog [.code ac5] (endQ [(.t 0)] r) ⟨initT 0 args, [], 0, 95⟩) : Good Tryz.prog 5 args r :=
  good_run (by kernel_rfl) Fcmix Tryz.func5 rfl (hs := []) (hs' := []) (by kernel_rfl) hl h
def ac4 : ACode :=
 (.seq (.reg [⟨(some 2), none, (.mv (.c (.sc (.bool false))))⟩] none)
 (.seq (.seq (.reg [⟨(some 4), none, (.mv (.t 0))⟩,
  ⟨(some 5), none, (.len (.t 4))⟩,
  ⟨(some 6), none, (.bin .gtr (.t 5) (.c (.sc (.int .i64 (20)))))⟩] none)
 (.cond (.t 6)
 (.seq (.reg [⟨(some 2), none, (.mv (.c (.sc (.bool false))))⟩] none) .ret) .skip))
 (.seq (.seq (.reg [⟨(some 3), none, (.mv (.c (.sc (.int .i64 (0)))))⟩] none) (.block 0 
 (.loop ⟨[0, 3], []⟩
 (.seq (.seq (.reg [⟨(some 7), none, (.mv (.t 3))⟩,
  ⟨(some 8), none, (.mv (.t 0))⟩,
  ⟨(some 9), none, (.len (.t 8))⟩,
  ⟨(some 10), none, (.bin .lss (.t 7) (.t 9))⟩] none)
 (.cond (.t 10) .skip (.exit 0)))
 (.seq (.block 1
 (.seq (.reg [⟨(some 13), none, (.mv (.t 0))⟩,
  ⟨(some 14), none, (.mv (.t 3))⟩,
  ⟨(some 15), none, (.iaddr 1 (.t 13) (.t 14))⟩,
  ⟨(some 16), none, (.load 1 false (.t 15))⟩,
  ⟨(some 17), none, (.slen (.t 16))⟩,
  ⟨(some 18), none, (.bin .gtr (.t 17) (.c (.sc (.int .i64 (1200)))))⟩] none)
 (.cond (.t 18)
 (.seq (.reg [⟨(some 2), none, (.mv (.c (.sc (.bool false))))⟩] none) .ret) .skip))) (.reg [⟨(some 11), none, (.mv (.t 3))⟩,
  ⟨(some 12), none, (.bin .add (.t 11) (.c (.sc (.int .i64 (1)))))⟩,
  ⟨(some 3), none, (.mv (.t 12))⟩] none))))))
 (.seq (.reg [⟨(some 2), none, (.mv (.c (.sc (.bool true))))⟩] none) .ret))))
theorem good4 {args : List PV} {r : PV} (hl : args.length ≤ 19) (h : Run Tryz.prog [.code ac4] (endQ [(.t 2)] r) ⟨initT 0 args, [], 0, 19⟩) : Good Tryz.prog 4 args r :=
  good_run (by kernel_rfl) Fcmix Tryz.func4 rfl (hs := [⟨[0, 3], []⟩]) (hs' := []) (by kernel_rfl) hl h
end Go.Proofs.YtjnfldkcbcfboaaGreatDoor
