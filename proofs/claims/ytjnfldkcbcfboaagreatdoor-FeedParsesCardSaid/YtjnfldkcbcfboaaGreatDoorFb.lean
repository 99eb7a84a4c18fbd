/-
  The translated codes of functions, checked by the kernel.
-/
import Derived.Test.YtjnfldkcbcfboaaGreatDoorKc
import Derived.KernelRfl
namespace Go.Proofs.YtjnfldkcbcfboaaGreatDoor
set_option linter.unusedVariables false
set_option linter.unusedSimpArgs false
set_option linter.unnecessarySimpa false
theorem Fbmix : Tryz.prog.follows .mixedOrders = true := by kernel_rfl
def ac17 : ACode :=
 (.seq (.reg [⟨(some 1), none, (.boxv (.t 0))⟩,
  ⟨(some 2), none, (.mv (.c (.sc (.slice none 0 0))))⟩,
  ⟨(some 3), none, (.mv (.c (.sc (.int .i64 (0)))))⟩] none)
 (.seq (.seq (.reg [⟨(some 11), none, (.load 10 true (.t 1))⟩,
  ⟨(some 12), none, (.call 32 [(.t 11)])⟩,
  ⟨(some 4), none, (.mv (.t 12))⟩] none)
 (.seq (.reg [⟨(some 13), none, (.mv (.t 4))⟩,
  ⟨(some 14), none, (.bin .neq (.t 13) (.c (.sc (.int .i64 (0)))))⟩] none)
 (.cond (.t 14)
 (.seq (.reg [⟨(some 15), none, (.mv (.t 4))⟩,
  ⟨(some 2), none, (.mv (.c (.sc (.slice none 0 0))))⟩,
  ⟨(some 3), none, (.mv (.t 15))⟩] none) .ret) .skip)))
 (.seq (.reg [⟨(some 16), none, (.faddr 3 (.t 1))⟩,
  ⟨(some 17), none, (.load 3 true (.t 16))⟩,
  ⟨(some 18), none, (.faddr 9 (.t 1))⟩,
  ⟨(some 19), none, (.faddr 0 (.t 18))⟩,
  ⟨(some 20), none, (.load 1 false (.t 19))⟩,
  ⟨(some 21), none, (.len (.t 20))⟩,
  ⟨(some 22), none, (.bin .gtr (.t 21) (.c (.sc (.int .i64 (0)))))⟩,
  ⟨(some 5), none, (.new [(.sc (.int .i64 (0))), (.sc (.int .i64 (0))), (.sc (.slice none 0 0))])⟩,
  ⟨none, none, (.store 3 (.t 5) (.t 17))⟩,
  ⟨(some 6), none, (.mv (.t 22))⟩] (some [[], [0], [], [2], [3, 2], [4, 3, 2], [5, 4, 3, 2], [], [7, 1, 0], [6, 8, 0, 1, 2, 3, 4, 5, 7]]))
 (.seq (.reg [⟨(some 23), none, (.faddr 0 (.t 1))⟩,
  ⟨(some 24), none, (.faddr 0 (.t 23))⟩,
  ⟨(some 25), none, (.load 1 false (.t 24))⟩,
  ⟨(some 26), none, (.faddr 0 (.t 1))⟩,
  ⟨(some 27), none, (.faddr 1 (.t 26))⟩,
  ⟨(some 28), none, (.load 1 false (.t 27))⟩,
  ⟨(some 29), none, (.faddr 2 (.t 1))⟩,
  ⟨(some 30), none, (.load 1 false (.t 29))⟩,
  ⟨(some 31), none, (.faddr 0 (.t 5))⟩,
  ⟨(some 32), none, (.load 1 false (.t 31))⟩,
  ⟨(some 33), none, (.faddr 1 (.t 5))⟩,
  ⟨(some 34), none, (.load 1 false (.t 33))⟩,
  ⟨(some 35), none, (.bslice 3 1 [(.t 25), (.t 28), (.t 30), (.t 32), (.t 34)])⟩,
  ⟨(some 36), none, (.call 33 [(.c (.sc (.string ⟨#[116, 114, 105, 112, 115]⟩))), (.t 35)])⟩,
  ⟨(some 37), none, (.bslice 9 1 [(.t 36)])⟩,
  ⟨(some 7), none, (.mv (.t 37))⟩] none)
 (.seq (.seq (.reg [⟨(some 8), none, (.mv (.c (.sc (.int .i64 (0)))))⟩] none) (.block 0 
 (.loop ⟨[1, 5, 6, 7, 8], [(7, (9, 1))]⟩
 (.seq (.seq (.reg [⟨(some 38), none, (.mv (.t 8))⟩,
  ⟨(some 39), none, (.faddr 0 (.t 5))⟩,
  ⟨(some 40), none, (.load 1 false (.t 39))⟩,
  ⟨(some 41), none, (.bin .lss (.t 38) (.t 40))⟩] none)
 (.cond (.t 41) .skip (.exit 0)))
 (.seq (.block 1
 (.seq (.reg [⟨(some 9), none, (.mv (.c (.sc (.string ⟨#[114, 111, 119]⟩))))⟩] none)
 (.seq (.seq (.reg [⟨(some 44), none, (.mv (.t 8))⟩,
  ⟨(some 45), none, (.faddr 1 (.t 5))⟩,
  ⟨(some 46), none, (.load 1 false (.t 45))⟩,
  ⟨(some 47), none, (.bin .mul (.t 44) (.t 46))⟩,
  ⟨(some 10), none, (.mv (.t 47))⟩] none) (.block 2 
 (.loop ⟨[1, 5, 6, 7, 8, 9, 10], []⟩
 (.seq (.seq (.reg [⟨(some 48), none, (.mv (.t 10))⟩,
  ⟨(some 49), none, (.mv (.t 8))⟩,
  ⟨(some 50), none, (.bin .add (.t 49) (.c (.sc (.int .i64 (1)))))⟩,
  ⟨(some 51), none, (.faddr 1 (.t 5))⟩,
  ⟨(some 52), none, (.load 1 false (.t 51))⟩,
  ⟨(some 53), none, (.bin .mul (.t 50) (.t 52))⟩,
  ⟨(some 54), none, (.bin .lss (.t 48) (.t 53))⟩] none)
 (.cond (.t 54) .skip (.exit 2)))
 (.seq (.block 3
 (.seq (.reg [⟨(some 57), none, (.mv (.t 6))⟩,
  ⟨(some 58), none, (.un .not (.t 57))⟩,
  ⟨(some 59), none, (.mv (.t 58))⟩,
  ⟨(some 60), (some (59, true)), (.faddr 6 (.t 1))⟩,
  ⟨(some 61), (some (59, true)), (.load 1 false (.t 60))⟩,
  ⟨(some 62), (some (59, true)), (.mv (.t 10))⟩,
  ⟨(some 63), (some (59, true)), (.iaddr 1 (.t 61) (.t 62))⟩,
  ⟨(some 64), (some (59, true)), (.load 1 false (.t 63))⟩,
  ⟨(some 65), none, (.pick (.t 59) (.t 64) (.c (.sc (.bool false))))⟩] none)
 (.cond (.t 65) (.reg [⟨(some 66), none, (.mv (.t 9))⟩,
  ⟨(some 67), none, (.bin .add (.t 66) (.c (.sc (.string ⟨#[32, 120]⟩))))⟩,
  ⟨(some 9), none, (.mv (.t 67))⟩] none) (.reg [⟨(some 68), none, (.mv (.t 9))⟩,
  ⟨(some 69), none, (.bin .add (.t 68) (.c (.sc (.string ⟨#[32]⟩))))⟩,
  ⟨(some 70), none, (.faddr 2 (.t 5))⟩,
  ⟨(some 71), none, (.load 1 false (.t 70))⟩,
  ⟨(some 72), none, (.mv (.t 10))⟩,
  ⟨(some 73), none, (.iaddr 1 (.t 71) (.t 72))⟩,
  ⟨(some 74), none, (.load 1 false (.t 73))⟩,
  ⟨(some 75), none, (.call 34 [(.t 74)])⟩,
  ⟨(some 76), none, (.bin .add (.t 69) (.t 75))⟩,
  ⟨(some 9), none, (.mv (.t 76))⟩] none)))) (.reg [⟨(some 55), none, (.mv (.t 10))⟩,
  ⟨(some 56), none, (.bin .add (.t 55) (.c (.sc (.int .i64 (1)))))⟩,
  ⟨(some 10), none, (.mv (.t 56))⟩] none))))))
 (.seq (.seq (.reg [⟨(some 77), none, (.mv (.t 6))⟩,
  ⟨(some 78), none, (.un .not (.t 77))⟩] none)
 (.cond (.t 78) (.reg [⟨(some 79), none, (.mv (.t 9))⟩,
  ⟨(some 80), none, (.bin .add (.t 79) (.c (.sc (.string ⟨#[32]⟩))))⟩,
  ⟨(some 81), none, (.faddr 7 (.t 1))⟩,
  ⟨(some 82), none, (.load 1 false (.t 81))⟩,
  ⟨(some 83), none, (.mv (.t 8))⟩,
  ⟨(some 84), none, (.iaddr 1 (.t 82) (.t 83))⟩,
  ⟨(some 85), none, (.load 1 false (.t 84))⟩,
  ⟨(some 86), none, (.call 34 [(.t 85)])⟩,
  ⟨(some 87), none, (.bin .add (.t 80) (.t 86))⟩,
  ⟨(some 9), none, (.mv (.t 87))⟩] none) .skip)) (.reg [⟨(some 88), none, (.mv (.t 7))⟩,
  ⟨(some 89), none, (.mv (.t 9))⟩,
  ⟨(some 90), none, (.bslice 9 1 [(.t 89)])⟩,
  ⟨(some 91), none, (.append 9 1 16 (.t 88) (.t 90))⟩,
  ⟨(some 7), none, (.mv (.t 91))⟩] none))))) (.reg [⟨(some 42), none, (.mv (.t 8))⟩,
  ⟨(some 43), none, (.bin .add (.t 42) (.c (.sc (.int .i64 (1)))))⟩,
  ⟨(some 8), none, (.mv (.t 43))⟩] none))))))
 (.seq (.seq (.reg [⟨(some 92), none, (.mv (.t 6))⟩] none)
 (.cond (.t 92)
 (.seq (.reg [⟨(some 93), none, (.mv (.t 7))⟩,
  ⟨(some 94), none, (.faddr 9 (.t 1))⟩,
  ⟨(some 95), none, (.faddr 0 (.t 94))⟩,
  ⟨(some 96), none, (.load 1 false (.t 95))⟩,
  ⟨(some 97), none, (.call 33 [(.c (.sc (.string ⟨#[110, 111, 105, 115, 101]⟩))), (.t 96)])⟩,
  ⟨(some 98), none, (.bslice 9 1 [(.t 97)])⟩,
  ⟨(some 99), none, (.append 9 1 16 (.t 93) (.t 98))⟩,
  ⟨(some 2), none, (.mv (.t 99))⟩,
  ⟨(some 3), none, (.mv (.c (.sc (.int .i64 (0)))))⟩] none) .ret) .skip))
 (.seq (.reg [⟨(some 100), none, (.mv (.t 7))⟩,
  ⟨(some 101), none, (.faddr 8 (.t 1))⟩,
  ⟨(some 102), none, (.load 1 false (.t 101))⟩,
  ⟨(some 103), none, (.call 33 [(.c (.sc (.string ⟨#[115, 117, 109, 115]⟩))), (.t 102)])⟩,
  ⟨(some 104), none, (.bslice 9 1 [(.t 103)])⟩,
  ⟨(some 105), none, (.append 9 1 16 (.t 100) (.t 104))⟩,
  ⟨(some 2), none, (.mv (.t 105))⟩,
  ⟨(some 3), none, (.mv (.c (.sc (.int .i64 (0)))))⟩] none) .ret)))))))
theorem good17 {args : List PV} {r : PV} (hl : args.length ≤ 106) (h : Run Tryz.prog [.code ac17] (endQ [(.t 2), (.t 3)] r) ⟨initT 0 args, [], 0, 106⟩) : Good Tryz.prog 17 args r :=
  good_run (by kernel_rfl) Fbmix Tryz.func17 rfl (hs := [⟨[1, 5, 6, 7, 8], [(7, 9, 1)]⟩, ⟨[1, 5, 6, 7, 8, 9, 10], []⟩]) (hs' := []) (by kernel_rfl) hl h
def ac11 : ACode :=
 (.seq (.reg [⟨(some 4), none, (.mv (.c (.sc (.bool false))))⟩] none)
 (.seq (.seq (.reg [⟨(some 6), none, (.mv (.t 0))⟩,
  ⟨(some 7), none, (.len (.t 6))⟩,
  ⟨(some 8), none, (.mv (.t 1))⟩,
  ⟨(some 9), none, (.len (.t 8))⟩,
  ⟨(some 10), none, (.bin .neq (.t 7) (.t 9))⟩] none)
 (.cond (.t 10)
 (.seq (.reg [⟨(some 4), none, (.mv (.c (.sc (.bool false))))⟩] none) .ret) .skip))
 (.seq (.seq (.reg [⟨(some 5), none, (.mv (.c (.sc (.int .i64 (0)))))⟩] none) (.block 0 
 (.loop ⟨[0, 1, 5], []⟩
 (.seq (.seq (.reg [⟨(some 11), none, (.mv (.t 5))⟩,
  ⟨(some 12), none, (.mv (.t 0))⟩,
  ⟨(some 13), none, (.len (.t 12))⟩,
  ⟨(some 14), none, (.bin .lss (.t 11) (.t 13))⟩] none)
 (.cond (.t 14) .skip (.exit 0)))
 (.seq (.block 1
 (.seq (.reg [⟨(some 17), none, (.mv (.t 0))⟩,
  ⟨(some 18), none, (.mv (.t 5))⟩,
  ⟨(some 19), none, (.iaddr 1 (.t 17) (.t 18))⟩,
  ⟨(some 20), none, (.load 1 false (.t 19))⟩,
  ⟨(some 21), none, (.mv (.t 1))⟩,
  ⟨(some 22), none, (.mv (.t 5))⟩,
  ⟨(some 23), none, (.iaddr 1 (.t 21) (.t 22))⟩,
  ⟨(some 24), none, (.load 1 false (.t 23))⟩,
  ⟨(some 25), none, (.bin .neq (.t 20) (.t 24))⟩] (some [[], [], [0, 1], [2, 0, 1], [], [], [4, 5], [6, 4, 5], [3, 7, 2, 0, 1, 6, 4, 5]]))
 (.cond (.t 25)
 (.seq (.reg [⟨(some 4), none, (.mv (.c (.sc (.bool false))))⟩] none) .ret) .skip))) (.reg [⟨(some 15), none, (.mv (.t 5))⟩,
  ⟨(some 16), none, (.bin .add (.t 15) (.c (.sc (.int .i64 (1)))))⟩,
  ⟨(some 5), none, (.mv (.t 16))⟩] none))))))
 (.seq (.reg [⟨(some 4), none, (.mv (.c (.sc (.bool true))))⟩] none) .ret))))
theorem good11 {args : List PV} {r : PV} (hl : args.length ≤ 26) (h : Run Tryz.prog [.code ac11] (endQ [(.t 4)] r) ⟨initT 0 args, [], 0, 26⟩) : Good Tryz.prog 11 args r :=
  good_run (by kernel_rfl) Fbmix Tryz.func11 rfl (hs := [⟨[0, 1, 5], []⟩]) (hs' := []) (by kernel_rfl) hl h
def ac8 : ACode :=
 (.seq (.reg [⟨(some 2), none, (.boxv (.t 0))⟩,
  ⟨(some 3), none, (.boxv (.t 1))⟩,
  ⟨(some 4), none, (.mv (.c (.sc (.bool false))))⟩] none)
 (.seq (.seq (.reg [⟨(some 6), none, (.faddr 0 (.t 2))⟩,
  ⟨(some 7), none, (.load 2 true (.t 6))⟩,
  ⟨(some 8), none, (.faddr 0 (.t 3))⟩,
  ⟨(some 9), none, (.load 2 true (.t 8))⟩,
  ⟨(some 10), none, (.eqs true [(.i .i64), (.i .i64)] (.t 7) (.t 9))⟩,
  ⟨(some 11), none, (.mv (.t 10))⟩,
  ⟨(some 12), (some (11, false)), (.faddr 2 (.t 2))⟩,
  ⟨(some 13), (some (11, false)), (.load 1 false (.t 12))⟩,
  ⟨(some 14), (some (11, false)), (.faddr 2 (.t 3))⟩,
  ⟨(some 15), (some (11, false)), (.load 1 false (.t 14))⟩,
  ⟨(some 16), (some (11, false)), (.bin .neq (.t 13) (.t 15))⟩,
  ⟨(some 17), none, (.pick (.t 11) (.c (.sc (.bool true))) (.t 16))⟩,
  ⟨(some 18), none, (.mv (.t 17))⟩,
  ⟨(some 19), (some (18, false)), (.faddr 3 (.t 2))⟩,
  ⟨(some 20), (some (18, false)), (.load 3 true (.t 19))⟩,
  ⟨(some 21), (some (18, false)), (.faddr 3 (.t 3))⟩,
  ⟨(some 22), (some (18, false)), (.load 3 true (.t 21))⟩,
  ⟨(some 23), (some (18, false)), (.call 18 [(.t 20), (.t 22)])⟩,
  ⟨(some 24), (some (18, false)), (.un .not (.t 23))⟩,
  ⟨(some 25), none, (.pick (.t 18) (.c (.sc (.bool true))) (.t 24))⟩,
  ⟨(some 26), none, (.mv (.t 25))⟩,
  ⟨(some 27), (some (26, false)), (.faddr 6 (.t 2))⟩,
  ⟨(some 28), (some (26, false)), (.load 1 false (.t 27))⟩,
  ⟨(some 29), (some (26, false)), (.len (.t 28))⟩,
  ⟨(some 30), (some (26, false)), (.faddr 6 (.t 3))⟩,
  ⟨(some 31), (some (26, false)), (.load 1 false (.t 30))⟩,
  ⟨(some 32), (some (26, false)), (.len (.t 31))⟩,
  ⟨(some 33), (some (26, false)), (.bin .neq (.t 29) (.t 32))⟩,
  ⟨(some 34), none, (.pick (.t 26) (.c (.sc (.bool true))) (.t 33))⟩] none)
 (.cond (.t 34)
 (.seq (.reg [⟨(some 4), none, (.mv (.c (.sc (.bool false))))⟩] none) .ret) .skip))
 (.seq (.seq (.reg [⟨(some 5), none, (.mv (.c (.sc (.int .i64 (0)))))⟩] none) (.block 0 
 (.loop ⟨[2, 3, 5], []⟩
 (.seq (.seq (.reg [⟨(some 35), none, (.mv (.t 5))⟩,
  ⟨(some 36), none, (.faddr 6 (.t 2))⟩,
  ⟨(some 37), none, (.load 1 false (.t 36))⟩,
  ⟨(some 38), none, (.len (.t 37))⟩,
  ⟨(some 39), none, (.bin .lss (.t 35) (.t 38))⟩] none)
 (.cond (.t 39) .skip (.exit 0)))
 (.seq (.block 1
 (.seq (.reg [⟨(some 42), none, (.faddr 6 (.t 2))⟩,
  ⟨(some 43), none, (.load 1 false (.t 42))⟩,
  ⟨(some 44), none, (.mv (.t 5))⟩,
  ⟨(some 45), none, (.iaddr 1 (.t 43) (.t 44))⟩,
  ⟨(some 46), none, (.load 1 false (.t 45))⟩,
  ⟨(some 47), none, (.faddr 6 (.t 3))⟩,
  ⟨(some 48), none, (.load 1 false (.t 47))⟩,
  ⟨(some 49), none, (.mv (.t 5))⟩,
  ⟨(some 50), none, (.iaddr 1 (.t 48) (.t 49))⟩,
  ⟨(some 51), none, (.load 1 false (.t 50))⟩,
  ⟨(some 52), none, (.beq true (.t 46) (.t 51))⟩] (some [[], [0], [], [1, 2, 0], [3, 1, 2, 0], [], [5], [], [6, 7, 5], [8, 6, 7, 5], [4, 9, 3, 1, 2, 0, 8, 6, 7, 5]]))
 (.cond (.t 52)
 (.seq (.reg [⟨(some 4), none, (.mv (.c (.sc (.bool false))))⟩] none) .ret) .skip))) (.reg [⟨(some 40), none, (.mv (.t 5))⟩,
  ⟨(some 41), none, (.bin .add (.t 40) (.c (.sc (.int .i64 (1)))))⟩,
  ⟨(some 5), none, (.mv (.t 41))⟩] none))))))
 (.seq (.reg [⟨(some 53), none, (.faddr 7 (.t 2))⟩,
  ⟨(some 54), none, (.load 1 false (.t 53))⟩,
  ⟨(some 55), none, (.faddr 7 (.t 3))⟩,
  ⟨(some 56), none, (.load 1 false (.t 55))⟩,
  ⟨(some 57), none, (.call 19 [(.t 54), (.t 56)])⟩,
  ⟨(some 58), none, (.mv (.t 57))⟩,
  ⟨(some 59), (some (58, true)), (.faddr 8 (.t 2))⟩,
  ⟨(some 60), (some (58, true)), (.load 1 false (.t 59))⟩,
  ⟨(some 61), (some (58, true)), (.faddr 8 (.t 3))⟩,
  ⟨(some 62), (some (58, true)), (.load 1 false (.t 61))⟩,
  ⟨(some 63), (some (58, true)), (.call 19 [(.t 60), (.t 62)])⟩,
  ⟨(some 64), none, (.pick (.t 58) (.t 63) (.c (.sc (.bool false))))⟩,
  ⟨(some 65), none, (.mv (.t 64))⟩,
  ⟨(some 66), (some (65, true)), (.faddr 9 (.t 2))⟩,
  ⟨(some 67), (some (65, true)), (.faddr 0 (.t 66))⟩,
  ⟨(some 68), (some (65, true)), (.load 1 false (.t 67))⟩,
  ⟨(some 69), (some (65, true)), (.faddr 9 (.t 3))⟩,
  ⟨(some 70), (some (65, true)), (.faddr 0 (.t 69))⟩,
  ⟨(some 71), (some (65, true)), (.load 1 false (.t 70))⟩,
  ⟨(some 72), (some (65, true)), (.call 19 [(.t 68), (.t 71)])⟩,
  ⟨(some 73), none, (.pick (.t 65) (.t 72) (.c (.sc (.bool false))))⟩,
  ⟨(some 4), none, (.mv (.t 73))⟩] none) .ret))))
theorem good8 {args : List PV} {r : PV} (hl : args.length ≤ 74) (h : Run Tryz.prog [.code ac8] (endQ [(.t 4)] r) ⟨initT 0 args, [], 0, 74⟩) : Good Tryz.prog 8 args r :=
  good_run (by kernel_rfl) Fbmix Tryz.func8 rfl (hs := [⟨[2, 3, 5], []⟩]) (hs' := []) (by kernel_rfl) hl h
def ac32 : ACode :=
 (.seq (.reg [⟨(some 1), none, (.boxv (.t 0))⟩,
  ⟨(some 2), none, (.mv (.c (.sc (.int .i64 (0)))))⟩] none)
 (.seq (.seq (.reg [⟨(some 5), none, (.faddr 0 (.t 1))⟩,
  ⟨(some 6), none, (.faddr 0 (.t 5))⟩,
  ⟨(some 7), none, (.load 1 false (.t 6))⟩,
  ⟨(some 8), none, (.bin .lss (.t 7) (.c (.sc (.int .i64 (0)))))⟩,
  ⟨(some 9), none, (.mv (.t 8))⟩,
  ⟨(some 10), (some (9, false)), (.faddr 0 (.t 1))⟩,
  ⟨(some 11), (some (9, false)), (.faddr 1 (.t 10))⟩,
  ⟨(some 12), (some (9, false)), (.load 1 false (.t 11))⟩,
  ⟨(some 13), (some (9, false)), (.faddr 0 (.t 1))⟩,
  ⟨(some 14), (some (9, false)), (.faddr 0 (.t 13))⟩,
  ⟨(some 15), (some (9, false)), (.load 1 false (.t 14))⟩,
  ⟨(some 16), (some (9, false)), (.bin .lss (.t 12) (.t 15))⟩,
  ⟨(some 17), none, (.pick (.t 9) (.c (.sc (.bool true))) (.t 16))⟩,
  ⟨(some 18), none, (.mv (.t 17))⟩,
  ⟨(some 19), (some (18, false)), (.faddr 0 (.t 1))⟩,
  ⟨(some 20), (some (18, false)), (.faddr 1 (.t 19))⟩,
  ⟨(some 21), (some (18, false)), (.load 1 false (.t 20))⟩,
  ⟨(some 22), (some (18, false)), (.bin .gtr (.t 21) (.c (.sc (.int .i64 (4294944000)))))⟩,
  ⟨(some 23), none, (.pick (.t 18) (.c (.sc (.bool true))) (.t 22))⟩,
  ⟨(some 24), none, (.mv (.t 23))⟩,
  ⟨(some 25), (some (24, false)), (.faddr 2 (.t 1))⟩,
  ⟨(some 26), (some (24, false)), (.load 1 false (.t 25))⟩,
  ⟨(some 27), (some (24, false)), (.bin .lss (.t 26) (.c (.sc (.int .i64 (1)))))⟩,
  ⟨(some 28), none, (.pick (.t 24) (.c (.sc (.bool true))) (.t 27))⟩,
  ⟨(some 29), none, (.mv (.t 28))⟩,
  ⟨(some 30), (some (29, false)), (.faddr 2 (.t 1))⟩,
  ⟨(some 31), (some (29, false)), (.load 1 false (.t 30))⟩,
  ⟨(some 32), (some (29, false)), (.bin .gtr (.t 31) (.c (.sc (.int .i64 (256)))))⟩,
  ⟨(some 33), none, (.pick (.t 29) (.c (.sc (.bool true))) (.t 32))⟩] none)
 (.cond (.t 33)
 (.seq (.reg [⟨(some 2), none, (.mv (.c (.sc (.int .i64 (1)))))⟩] none) .ret) .skip))
 (.seq (.seq (.reg [⟨(some 34), none, (.faddr 3 (.t 1))⟩,
  ⟨(some 35), none, (.load 3 true (.t 34))⟩,
  ⟨(some 36), none, (.call 49 [(.t 35)])⟩,
  ⟨(some 3), none, (.mv (.t 36))⟩] none)
 (.seq (.reg [⟨(some 37), none, (.mv (.t 3))⟩,
  ⟨(some 38), none, (.bin .neq (.t 37) (.c (.sc (.int .i64 (0)))))⟩] none)
 (.cond (.t 38)
 (.seq (.reg [⟨(some 39), none, (.mv (.t 3))⟩,
  ⟨(some 2), none, (.mv (.t 39))⟩] none) .ret) .skip)))
 (.seq (.seq (.reg [⟨(some 40), none, (.faddr 9 (.t 1))⟩,
  ⟨(some 41), none, (.faddr 0 (.t 40))⟩,
  ⟨(some 42), none, (.load 1 false (.t 41))⟩,
  ⟨(some 43), none, (.len (.t 42))⟩,
  ⟨(some 44), none, (.bin .eql (.t 43) (.c (.sc (.int .i64 (0)))))⟩] none)
 (.cond (.t 44)
 (.seq (.seq (.reg [⟨(some 45), none, (.load 10 true (.t 1))⟩,
  ⟨(some 46), none, (.call 50 [(.t 45)])⟩,
  ⟨(some 47), none, (.un .not (.t 46))⟩] none)
 (.cond (.t 47)
 (.seq (.reg [⟨(some 2), none, (.mv (.c (.sc (.int .i64 (3)))))⟩] none) .ret) .skip))
 (.seq (.reg [⟨(some 2), none, (.mv (.c (.sc (.int .i64 (0)))))⟩] none) .ret)) .skip))
 (.seq (.seq (.reg [⟨(some 48), none, (.faddr 9 (.t 1))⟩,
  ⟨(some 49), none, (.load 1 true (.t 48))⟩,
  ⟨(some 50), none, (.call 51 [(.t 49)])⟩,
  ⟨(some 4), none, (.mv (.t 50))⟩] none)
 (.seq (.reg [⟨(some 51), none, (.mv (.t 4))⟩,
  ⟨(some 52), none, (.bin .neq (.t 51) (.c (.sc (.int .i64 (0)))))⟩] none)
 (.cond (.t 52)
 (.seq (.reg [⟨(some 53), none, (.mv (.t 4))⟩,
  ⟨(some 2), none, (.mv (.t 53))⟩] none) .ret) .skip)))
 (.seq (.seq (.reg [⟨(some 54), none, (.faddr 6 (.t 1))⟩,
  ⟨(some 55), none, (.load 1 false (.t 54))⟩,
  ⟨(some 56), none, (.len (.t 55))⟩,
  ⟨(some 57), none, (.bin .gtr (.t 56) (.c (.sc (.int .i64 (0)))))⟩,
  ⟨(some 58), none, (.mv (.t 57))⟩,
  ⟨(some 59), (some (58, false)), (.faddr 7 (.t 1))⟩,
  ⟨(some 60), (some (58, false)), (.load 1 false (.t 59))⟩,
  ⟨(some 61), (some (58, false)), (.len (.t 60))⟩,
  ⟨(some 62), (some (58, false)), (.bin .gtr (.t 61) (.c (.sc (.int .i64 (0)))))⟩,
  ⟨(some 63), none, (.pick (.t 58) (.c (.sc (.bool true))) (.t 62))⟩,
  ⟨(some 64), none, (.mv (.t 63))⟩,
  ⟨(some 65), (some (64, false)), (.faddr 8 (.t 1))⟩,
  ⟨(some 66), (some (64, false)), (.load 1 false (.t 65))⟩,
  ⟨(some 67), (some (64, false)), (.len (.t 66))⟩,
  ⟨(some 68), (some (64, false)), (.bin .gtr (.t 67) (.c (.sc (.int .i64 (0)))))⟩,
  ⟨(some 69), none, (.pick (.t 64) (.c (.sc (.bool true))) (.t 68))⟩] none)
 (.cond (.t 69)
 (.seq (.reg [⟨(some 2), none, (.mv (.c (.sc (.int .i64 (3)))))⟩] none) .ret) .skip))
 (.seq (.reg [⟨(some 2), none, (.mv (.c (.sc (.int .i64 (0)))))⟩] none) .ret)))))))
theorem good32 {args : List PV} {r : PV} (hl : args.length ≤ 70) (h : Run Tryz.prog [.code ac32] (endQ [(.t 2)] r) ⟨initT 0 args, [], 0, 70⟩) : Good Tryz.prog 32 args r :=
  good_run (by kernel_rfl) Fbmix Tryz.func32 rfl (hs := []) (hs' := []) (by kernel_rfl) hl h
def ac33 : ACode :=
 (.seq (.reg [⟨(some 4), none, (.mv (.c (.sc (.string ⟨#[]⟩))))⟩] none)
 (.seq (.seq (.reg [⟨(some 5), none, (.mv (.c (.sc (.int .i64 (0)))))⟩] none) (.block 0 
 (.loop ⟨[0, 1, 5], []⟩
 (.seq (.seq (.reg [⟨(some 6), none, (.mv (.t 5))⟩,
  ⟨(some 7), none, (.mv (.t 1))⟩,
  ⟨(some 8), none, (.len (.t 7))⟩,
  ⟨(some 9), none, (.bin .lss (.t 6) (.t 8))⟩] none)
 (.cond (.t 9) .skip (.exit 0)))
 (.seq (.block 1 (.reg [⟨(some 12), none, (.mv (.t 0))⟩,
  ⟨(some 13), none, (.bin .add (.t 12) (.c (.sc (.string ⟨#[32]⟩))))⟩,
  ⟨(some 14), none, (.mv (.t 1))⟩,
  ⟨(some 15), none, (.mv (.t 5))⟩,
  ⟨(some 16), none, (.iaddr 1 (.t 14) (.t 15))⟩,
  ⟨(some 17), none, (.load 1 false (.t 16))⟩,
  ⟨(some 18), none, (.call 34 [(.t 17)])⟩,
  ⟨(some 19), none, (.bin .add (.t 13) (.t 18))⟩,
  ⟨(some 0), none, (.mv (.t 19))⟩] none)) (.reg [⟨(some 10), none, (.mv (.t 5))⟩,
  ⟨(some 11), none, (.bin .add (.t 10) (.c (.sc (.int .i64 (1)))))⟩,
  ⟨(some 5), none, (.mv (.t 11))⟩] none))))))
 (.seq (.reg [⟨(some 20), none, (.mv (.t 0))⟩,
  ⟨(some 4), none, (.mv (.t 20))⟩] none) .ret)))
theorem good33 {args : List PV} {r : PV} (hl : args.length ≤ 21) (h : Run Tryz.prog [.code ac33] (endQ [(.t 4)] r) ⟨initT 0 args, [], 0, 21⟩) : Good Tryz.prog 33 args r :=
  good_run (by kernel_rfl) Fbmix Tryz.func33 rfl (hs := [⟨[0, 1, 5], []⟩]) (hs' := []) (by kernel_rfl) hl h
def ac34 : ACode :=
 (.seq (.reg [⟨(some 2), none, (.mv (.c (.sc (.string ⟨#[]⟩))))⟩] none)
 (.seq (.reg [⟨(some 6), none, (.mv (.t 0))⟩,
  ⟨(some 7), none, (.call 52 [(.t 6), (.c (.sc (.int .i64 (0))))])⟩,
  ⟨(some 5), none, (.mv (.t 7))⟩,
  ⟨(some 8), none, (.ext 0 (.t 5))⟩,
  ⟨(some 9), none, (.ext 1 (.t 5))⟩,
  ⟨(some 3), none, (.mv (.t 8))⟩,
  ⟨(some 4), none, (.mv (.t 9))⟩] none)
 (.seq (.reg [⟨(some 10), none, (.mv (.t 3))⟩,
  ⟨(some 2), none, (.mv (.t 10))⟩] none) .ret)))
theorem good34 {args : List PV} {r : PV} (hl : args.length ≤ 11) (h : Run Tryz.prog [.code ac34] (endQ [(.t 2)] r) ⟨initT 0 args, [], 0, 11⟩) : Good Tryz.prog 34 args r :=
  good_run (by kernel_rfl) Fbmix Tryz.func34 rfl (hs := []) (hs' := []) (by kernel_rfl) hl h
def ac18 : ACode :=
 (.seq (.reg [⟨(some 2), none, (.boxv (.t 0))⟩,
  ⟨(some 3), none, (.boxv (.t 1))⟩,
  ⟨(some 4), none, (.mv (.c (.sc (.bool false))))⟩] none)
 (.seq (.seq (.reg [⟨(some 6), none, (.faddr 0 (.t 2))⟩,
  ⟨(some 7), none, (.load 1 false (.t 6))⟩,
  ⟨(some 8), none, (.faddr 0 (.t 3))⟩,
  ⟨(some 9), none, (.load 1 false (.t 8))⟩,
  ⟨(some 10), none, (.bin .neq (.t 7) (.t 9))⟩,
  ⟨(some 11), none, (.mv (.t 10))⟩,
  ⟨(some 12), (some (11, false)), (.faddr 1 (.t 2))⟩,
  ⟨(some 13), (some (11, false)), (.load 1 false (.t 12))⟩,
  ⟨(some 14), (some (11, false)), (.faddr 1 (.t 3))⟩,
  ⟨(some 15), (some (11, false)), (.load 1 false (.t 14))⟩,
  ⟨(some 16), (some (11, false)), (.bin .neq (.t 13) (.t 15))⟩,
  ⟨(some 17), none, (.pick (.t 11) (.c (.sc (.bool true))) (.t 16))⟩,
  ⟨(some 18), none, (.mv (.t 17))⟩,
  ⟨(some 19), (some (18, false)), (.faddr 2 (.t 2))⟩,
  ⟨(some 20), (some (18, false)), (.load 1 false (.t 19))⟩,
  ⟨(some 21), (some (18, false)), (.len (.t 20))⟩,
  ⟨(some 22), (some (18, false)), (.faddr 2 (.t 3))⟩,
  ⟨(some 23), (some (18, false)), (.load 1 false (.t 22))⟩,
  ⟨(some 24), (some (18, false)), (.len (.t 23))⟩,
  ⟨(some 25), (some (18, false)), (.bin .neq (.t 21) (.t 24))⟩,
  ⟨(some 26), none, (.pick (.t 18) (.c (.sc (.bool true))) (.t 25))⟩] none)
 (.cond (.t 26)
 (.seq (.reg [⟨(some 4), none, (.mv (.c (.sc (.bool false))))⟩] none) .ret) .skip))
 (.seq (.seq (.reg [⟨(some 5), none, (.mv (.c (.sc (.int .i64 (0)))))⟩] none) (.block 0 
 (.loop ⟨[2, 3, 5], []⟩
 (.seq (.seq (.reg [⟨(some 27), none, (.mv (.t 5))⟩,
  ⟨(some 28), none, (.faddr 2 (.t 2))⟩,
  ⟨(some 29), none, (.load 1 false (.t 28))⟩,
  ⟨(some 30), none, (.len (.t 29))⟩,
  ⟨(some 31), none, (.bin .lss (.t 27) (.t 30))⟩] none)
 (.cond (.t 31) .skip (.exit 0)))
 (.seq (.block 1
 (.seq (.reg [⟨(some 34), none, (.faddr 2 (.t 2))⟩,
  ⟨(some 35), none, (.load 1 false (.t 34))⟩,
  ⟨(some 36), none, (.mv (.t 5))⟩,
  ⟨(some 37), none, (.iaddr 1 (.t 35) (.t 36))⟩,
  ⟨(some 38), none, (.load 1 false (.t 37))⟩,
  ⟨(some 39), none, (.faddr 2 (.t 3))⟩,
  ⟨(some 40), none, (.load 1 false (.t 39))⟩,
  ⟨(some 41), none, (.mv (.t 5))⟩,
  ⟨(some 42), none, (.iaddr 1 (.t 40) (.t 41))⟩,
  ⟨(some 43), none, (.load 1 false (.t 42))⟩,
  ⟨(some 44), none, (.bin .neq (.t 38) (.t 43))⟩] (some [[], [0], [], [1, 2, 0], [3, 1, 2, 0], [], [5], [], [6, 7, 5], [8, 6, 7, 5], [4, 9, 3, 1, 2, 0, 8, 6, 7, 5]]))
 (.cond (.t 44)
 (.seq (.reg [⟨(some 4), none, (.mv (.c (.sc (.bool false))))⟩] none) .ret) .skip))) (.reg [⟨(some 32), none, (.mv (.t 5))⟩,
  ⟨(some 33), none, (.bin .add (.t 32) (.c (.sc (.int .i64 (1)))))⟩,
  ⟨(some 5), none, (.mv (.t 33))⟩] none))))))
 (.seq (.reg [⟨(some 4), none, (.mv (.c (.sc (.bool true))))⟩] none) .ret))))
theorem good18 {args : List PV} {r : PV} (hl : args.length ≤ 45) (h : Run Tryz.prog [.code ac18] (endQ [(.t 4)] r) ⟨initT 0 args, [], 0, 45⟩) : Good Tryz.prog 18 args r :=
  good_run (by kernel_rfl) Fbmix Tryz.func18 rfl (hs := [⟨[2, 3, 5], []⟩]) (hs' := []) (by kernel_rfl) hl h
def ac19 : ACode :=
 (.seq (.reg [⟨(some 4), none, (.mv (.c (.sc (.bool false))))⟩] none)
 (.seq (.seq (.reg [⟨(some 6), none, (.mv (.t 0))⟩,
  ⟨(some 7), none, (.len (.t 6))⟩,
  ⟨(some 8), none, (.mv (.t 1))⟩,
  ⟨(some 9), none, (.len (.t 8))⟩,
  ⟨(some 10), none, (.bin .neq (.t 7) (.t 9))⟩] none)
 (.cond (.t 10)
 (.seq (.reg [⟨(some 4), none, (.mv (.c (.sc (.bool false))))⟩] none) .ret) .skip))
 (.seq (.seq (.reg [⟨(some 5), none, (.mv (.c (.sc (.int .i64 (0)))))⟩] none) (.block 0 
 (.loop ⟨[0, 1, 5], []⟩
 (.seq (.seq (.reg [⟨(some 11), none, (.mv (.t 5))⟩,
  ⟨(some 12), none, (.mv (.t 0))⟩,
  ⟨(some 13), none, (.len (.t 12))⟩,
  ⟨(some 14), none, (.bin .lss (.t 11) (.t 13))⟩] none)
 (.cond (.t 14) .skip (.exit 0)))
 (.seq (.block 1
 (.seq (.reg [⟨(some 17), none, (.mv (.t 0))⟩,
  ⟨(some 18), none, (.mv (.t 5))⟩,
  ⟨(some 19), none, (.iaddr 1 (.t 17) (.t 18))⟩,
  ⟨(some 20), none, (.load 1 false (.t 19))⟩,
  ⟨(some 21), none, (.mv (.t 1))⟩,
  ⟨(some 22), none, (.mv (.t 5))⟩,
  ⟨(some 23), none, (.iaddr 1 (.t 21) (.t 22))⟩,
  ⟨(some 24), none, (.load 1 false (.t 23))⟩,
  ⟨(some 25), none, (.bin .neq (.t 20) (.t 24))⟩] (some [[], [], [0, 1], [2, 0, 1], [], [], [4, 5], [6, 4, 5], [3, 7, 2, 0, 1, 6, 4, 5]]))
 (.cond (.t 25)
 (.seq (.reg [⟨(some 4), none, (.mv (.c (.sc (.bool false))))⟩] none) .ret) .skip))) (.reg [⟨(some 15), none, (.mv (.t 5))⟩,
  ⟨(some 16), none, (.bin .add (.t 15) (.c (.sc (.int .i64 (1)))))⟩,
  ⟨(some 5), none, (.mv (.t 16))⟩] none))))))
 (.seq (.reg [⟨(some 4), none, (.mv (.c (.sc (.bool true))))⟩] none) .ret))))
theorem good19 {args : List PV} {r : PV} (hl : args.length ≤ 26) (h : Run Tryz.prog [.code ac19] (endQ [(.t 4)] r) ⟨initT 0 args, [], 0, 26⟩) : Good Tryz.prog 19 args r :=
  good_run (by kernel_rfl) Fbmix Tryz.func19 rfl (hs := [⟨[0, 1, 5], []⟩]) (hs' := []) (by kernel_rfl) hl h
def ac48 : ACode :=
 (.seq (.reg [⟨(some 4), none, (.mv (.c (.sc (.int .i64 (0)))))⟩,
  ⟨(some 5), none, (.mv (.c (.sc (.int .i64 (0)))))⟩] none)
 (.seq (.seq (.reg [⟨(some 10), none, (.mv (.t 1))⟩,
  ⟨(some 11), none, (.bin .lss (.t 10) (.c (.sc (.int .i64 (0)))))⟩,
  ⟨(some 12), none, (.mv (.t 11))⟩,
  ⟨(some 13), (some (12, false)), (.mv (.t 1))⟩,
  ⟨(some 14), (some (12, false)), (.bin .gtr (.t 13) (.c (.sc (.int .i64 (6)))))⟩,
  ⟨(some 15), none, (.pick (.t 12) (.c (.sc (.bool true))) (.t 14))⟩] none)
 (.cond (.t 15)
 (.seq (.reg [⟨(some 4), none, (.mv (.c (.sc (.int .i64 (0)))))⟩,
  ⟨(some 5), none, (.mv (.c (.sc (.int .i64 (1)))))⟩] none) .ret) .skip))
 (.seq (.seq (.reg [⟨(some 16), none, (.mv (.t 0))⟩,
  ⟨(some 17), none, (.slen (.t 16))⟩,
  ⟨(some 18), none, (.bin .gtr (.t 17) (.c (.sc (.int .i64 (18)))))⟩] none)
 (.cond (.t 18)
 (.seq (.reg [⟨(some 4), none, (.mv (.c (.sc (.int .i64 (0)))))⟩,
  ⟨(some 5), none, (.mv (.c (.sc (.int .i64 (3)))))⟩] none) .ret) .skip))
 (.seq (.reg [⟨(some 6), none, (.mv (.c (.sc (.int .i64 (0)))))⟩] none)
 (.seq (.seq (.reg [⟨(some 7), none, (.mv (.c (.sc (.int .i64 (0)))))⟩] none) (.block 0 
 (.loop ⟨[0, 1, 6, 7], []⟩
 (.seq (.seq (.reg [⟨(some 19), none, (.mv (.t 7))⟩,
  ⟨(some 20), none, (.mv (.t 0))⟩,
  ⟨(some 21), none, (.slen (.t 20))⟩,
  ⟨(some 22), none, (.bin .lss (.t 19) (.t 21))⟩] none)
 (.cond (.t 22) .skip (.exit 0)))
 (.seq (.block 1
 (.seq (.reg [⟨(some 25), none, (.mv (.t 0))⟩,
  ⟨(some 26), none, (.mv (.t 7))⟩,
  ⟨(some 27), none, (.sidx (.t 25) (.t 26))⟩,
  ⟨(some 28), none, (.bin .geq (.t 27) (.c (.sc (.int .u8 (48)))))⟩,
  ⟨(some 29), none, (.mv (.t 28))⟩,
  ⟨(some 30), (some (29, true)), (.mv (.t 0))⟩,
  ⟨(some 31), (some (29, true)), (.mv (.t 7))⟩,
  ⟨(some 32), (some (29, true)), (.sidx (.t 30) (.t 31))⟩,
  ⟨(some 33), (some (29, true)), (.bin .leq (.t 32) (.c (.sc (.int .u8 (57)))))⟩,
  ⟨(some 34), none, (.pick (.t 29) (.t 33) (.c (.sc (.bool false))))⟩] none)
 (.cond (.t 34) (.reg [⟨(some 35), none, (.mv (.t 6))⟩,
  ⟨(some 36), none, (.bin .mul (.c (.sc (.int .i64 (10)))) (.t 35))⟩,
  ⟨(some 37), none, (.mv (.t 0))⟩,
  ⟨(some 38), none, (.mv (.t 7))⟩,
  ⟨(some 39), none, (.sidx (.t 37) (.t 38))⟩,
  ⟨(some 40), none, (.bin .sub (.t 39) (.c (.sc (.int .u8 (48)))))⟩,
  ⟨(some 41), none, (.conv .i64 (.t 40))⟩,
  ⟨(some 42), none, (.bin .add (.t 36) (.t 41))⟩,
  ⟨(some 6), none, (.mv (.t 42))⟩] none) .skip))) (.reg [⟨(some 23), none, (.mv (.t 7))⟩,
  ⟨(some 24), none, (.bin .add (.t 23) (.c (.sc (.int .i64 (1)))))⟩,
  ⟨(some 7), none, (.mv (.t 24))⟩] none))))))
 (.seq (.seq (.reg [⟨(some 43), none, (.mv (.t 0))⟩,
  ⟨(some 44), none, (.slen (.t 43))⟩,
  ⟨(some 45), none, (.bin .gtr (.t 44) (.c (.sc (.int .i64 (0)))))⟩,
  ⟨(some 46), none, (.mv (.t 45))⟩,
  ⟨(some 47), (some (46, true)), (.mv (.t 0))⟩,
  ⟨(some 48), (some (46, true)), (.sidx (.t 47) (.c (.sc (.int .i64 (0)))))⟩,
  ⟨(some 49), (some (46, true)), (.bin .eql (.t 48) (.c (.sc (.int .u8 (45)))))⟩,
  ⟨(some 50), none, (.pick (.t 46) (.t 49) (.c (.sc (.bool false))))⟩] none)
 (.cond (.t 50) (.reg [⟨(some 51), none, (.mv (.t 6))⟩,
  ⟨(some 52), none, (.un .neg (.t 51))⟩,
  ⟨(some 6), none, (.mv (.t 52))⟩] none) .skip))
 (.seq (.seq (.reg [⟨(some 54), none, (.mv (.t 6))⟩,
  ⟨(some 55), none, (.mv (.t 1))⟩,
  ⟨(some 56), none, (.call 52 [(.t 54), (.t 55)])⟩,
  ⟨(some 53), none, (.mv (.t 56))⟩,
  ⟨(some 57), none, (.ext 0 (.t 53))⟩,
  ⟨(some 58), none, (.ext 1 (.t 53))⟩,
  ⟨(some 8), none, (.mv (.t 57))⟩,
  ⟨(some 9), none, (.mv (.t 58))⟩] none)
 (.seq (.reg [⟨(some 59), none, (.mv (.t 9))⟩,
  ⟨(some 60), none, (.bin .neq (.t 59) (.c (.sc (.int .i64 (0)))))⟩,
  ⟨(some 61), none, (.mv (.t 60))⟩,
  ⟨(some 62), (some (61, false)), (.mv (.t 8))⟩,
  ⟨(some 63), (some (61, false)), (.mv (.t 0))⟩,
  ⟨(some 64), (some (61, false)), (.bin .neq (.t 62) (.t 63))⟩,
  ⟨(some 65), none, (.pick (.t 61) (.c (.sc (.bool true))) (.t 64))⟩] none)
 (.cond (.t 65)
 (.seq (.reg [⟨(some 4), none, (.mv (.c (.sc (.int .i64 (0)))))⟩,
  ⟨(some 5), none, (.mv (.c (.sc (.int .i64 (3)))))⟩] none) .ret) .skip)))
 (.seq (.reg [⟨(some 66), none, (.mv (.t 6))⟩,
  ⟨(some 4), none, (.mv (.t 66))⟩,
  ⟨(some 5), none, (.mv (.c (.sc (.int .i64 (0)))))⟩] none) .ret))))))))
theorem good48 {args : List PV} {r : PV} (hl : args.length ≤ 67) (h : Run Tryz.prog [.code ac48] (endQ [(.t 4), (.t 5)] r) ⟨initT 0 args, [], 0, 67⟩) : Good Tryz.prog 48 args r :=
  good_run (by kernel_rfl) Fbmix Tryz.func48 rfl (hs := [⟨[0, 1, 6, 7], []⟩]) (hs' := []) (by kernel_rfl) hl h
def ac49 : ACode :=
 (.seq (.reg [⟨(some 1), none, (.boxv (.t 0))⟩,
  ⟨(some 2), none, (.mv (.c (.sc (.int .i64 (0)))))⟩] none)
 (.seq (.seq (.reg [⟨(some 4), none, (.faddr 0 (.t 1))⟩,
  ⟨(some 5), none, (.load 1 false (.t 4))⟩,
  ⟨(some 6), none, (.bin .lss (.t 5) (.c (.sc (.int .i64 (1)))))⟩,
  ⟨(some 7), none, (.mv (.t 6))⟩,
  ⟨(some 8), (some (7, false)), (.faddr 0 (.t 1))⟩,
  ⟨(some 9), (some (7, false)), (.load 1 false (.t 8))⟩,
  ⟨(some 10), (some (7, false)), (.bin .gtr (.t 9) (.c (.sc (.int .i64 (8)))))⟩,
  ⟨(some 11), none, (.pick (.t 7) (.c (.sc (.bool true))) (.t 10))⟩,
  ⟨(some 12), none, (.mv (.t 11))⟩,
  ⟨(some 13), (some (12, false)), (.faddr 1 (.t 1))⟩,
  ⟨(some 14), (some (12, false)), (.load 1 false (.t 13))⟩,
  ⟨(some 15), (some (12, false)), (.bin .lss (.t 14) (.c (.sc (.int .i64 (1)))))⟩,
  ⟨(some 16), none, (.pick (.t 12) (.c (.sc (.bool true))) (.t 15))⟩,
  ⟨(some 17), none, (.mv (.t 16))⟩,
  ⟨(some 18), (some (17, false)), (.faddr 1 (.t 1))⟩,
  ⟨(some 19), (some (17, false)), (.load 1 false (.t 18))⟩,
  ⟨(some 20), (some (17, false)), (.bin .gtr (.t 19) (.c (.sc (.int .i64 (8)))))⟩,
  ⟨(some 21), none, (.pick (.t 17) (.c (.sc (.bool true))) (.t 20))⟩] none)
 (.cond (.t 21)
 (.seq (.reg [⟨(some 2), none, (.mv (.c (.sc (.int .i64 (1)))))⟩] none) .ret) .skip))
 (.seq (.seq (.reg [⟨(some 22), none, (.faddr 2 (.t 1))⟩,
  ⟨(some 23), none, (.load 1 false (.t 22))⟩,
  ⟨(some 24), none, (.len (.t 23))⟩,
  ⟨(some 25), none, (.faddr 0 (.t 1))⟩,
  ⟨(some 26), none, (.load 1 false (.t 25))⟩,
  ⟨(some 27), none, (.faddr 1 (.t 1))⟩,
  ⟨(some 28), none, (.load 1 false (.t 27))⟩,
  ⟨(some 29), none, (.bin .mul (.t 26) (.t 28))⟩,
  ⟨(some 30), none, (.bin .neq (.t 24) (.t 29))⟩] none)
 (.cond (.t 30)
 (.seq (.reg [⟨(some 2), none, (.mv (.c (.sc (.int .i64 (3)))))⟩] none) .ret) .skip))
 (.seq (.seq (.reg [⟨(some 3), none, (.mv (.c (.sc (.int .i64 (0)))))⟩] none) (.block 0 
 (.loop ⟨[1, 3], []⟩
 (.seq (.seq (.reg [⟨(some 31), none, (.mv (.t 3))⟩,
  ⟨(some 32), none, (.faddr 2 (.t 1))⟩,
  ⟨(some 33), none, (.load 1 false (.t 32))⟩,
  ⟨(some 34), none, (.len (.t 33))⟩,
  ⟨(some 35), none, (.bin .lss (.t 31) (.t 34))⟩] none)
 (.cond (.t 35) .skip (.exit 0)))
 (.seq (.block 1
 (.seq (.reg [⟨(some 38), none, (.faddr 2 (.t 1))⟩,
  ⟨(some 39), none, (.load 1 false (.t 38))⟩,
  ⟨(some 40), none, (.mv (.t 3))⟩,
  ⟨(some 41), none, (.iaddr 1 (.t 39) (.t 40))⟩,
  ⟨(some 42), none, (.load 1 false (.t 41))⟩,
  ⟨(some 43), none, (.bin .lss (.t 42) (.c (.sc (.int .i64 (-1000000)))))⟩,
  ⟨(some 44), none, (.mv (.t 43))⟩,
  ⟨(some 45), (some (44, false)), (.faddr 2 (.t 1))⟩,
  ⟨(some 46), (some (44, false)), (.load 1 false (.t 45))⟩,
  ⟨(some 47), (some (44, false)), (.mv (.t 3))⟩,
  ⟨(some 48), (some (44, false)), (.iaddr 1 (.t 46) (.t 47))⟩,
  ⟨(some 49), (some (44, false)), (.load 1 false (.t 48))⟩,
  ⟨(some 50), (some (44, false)), (.bin .gtr (.t 49) (.c (.sc (.int .i64 (1000000)))))⟩,
  ⟨(some 51), none, (.pick (.t 44) (.c (.sc (.bool true))) (.t 50))⟩] none)
 (.cond (.t 51)
 (.seq (.reg [⟨(some 2), none, (.mv (.c (.sc (.int .i64 (1)))))⟩] none) .ret) .skip))) (.reg [⟨(some 36), none, (.mv (.t 3))⟩,
  ⟨(some 37), none, (.bin .add (.t 36) (.c (.sc (.int .i64 (1)))))⟩,
  ⟨(some 3), none, (.mv (.t 37))⟩] none))))))
 (.seq (.reg [⟨(some 2), none, (.mv (.c (.sc (.int .i64 (0)))))⟩] none) .ret)))))
theorem good49 {args : List PV} {r : PV} (hl : args.length ≤ 52) (h : Run Tryz.prog [.code ac49] (endQ [(.t 2)] r) ⟨initT 0 args, [], 0, 52⟩) : Good Tryz.prog 49 args r :=
  good_run (by kernel_rfl) Fbmix Tryz.func49 rfl (hs := [⟨[1, 3], []⟩]) (hs' := []) (by kernel_rfl) hl h
def ac50 : ACode :=
 (.seq (.reg [⟨(some 1), none, (.boxv (.t 0))⟩,
  ⟨(some 2), none, (.mv (.c (.sc (.bool false))))⟩] none)
 (.seq (.seq (.reg [⟨(some 4), none, (.faddr 6 (.t 1))⟩,
  ⟨(some 5), none, (.load 1 false (.t 4))⟩,
  ⟨(some 6), none, (.len (.t 5))⟩,
  ⟨(some 7), none, (.faddr 3 (.t 1))⟩,
  ⟨(some 8), none, (.faddr 2 (.t 7))⟩,
  ⟨(some 9), none, (.load 1 false (.t 8))⟩,
  ⟨(some 10), none, (.len (.t 9))⟩,
  ⟨(some 11), none, (.bin .neq (.t 6) (.t 10))⟩,
  ⟨(some 12), none, (.mv (.t 11))⟩,
  ⟨(some 13), (some (12, false)), (.faddr 7 (.t 1))⟩,
  ⟨(some 14), (some (12, false)), (.load 1 false (.t 13))⟩,
  ⟨(some 15), (some (12, false)), (.faddr 3 (.t 1))⟩,
  ⟨(some 16), (some (12, false)), (.faddr 0 (.t 15))⟩,
  ⟨(some 17), (some (12, false)), (.load 1 false (.t 16))⟩,
  ⟨(some 18), (some (12, false)), (.call 61 [(.t 14), (.t 17)])⟩,
  ⟨(some 19), (some (12, false)), (.un .not (.t 18))⟩,
  ⟨(some 20), none, (.pick (.t 12) (.c (.sc (.bool true))) (.t 19))⟩,
  ⟨(some 21), none, (.mv (.t 20))⟩,
  ⟨(some 22), (some (21, false)), (.faddr 8 (.t 1))⟩,
  ⟨(some 23), (some (21, false)), (.load 1 false (.t 22))⟩,
  ⟨(some 24), (some (21, false)), (.faddr 3 (.t 1))⟩,
  ⟨(some 25), (some (21, false)), (.faddr 1 (.t 24))⟩,
  ⟨(some 26), (some (21, false)), (.load 1 false (.t 25))⟩,
  ⟨(some 27), (some (21, false)), (.call 61 [(.t 23), (.t 26)])⟩,
  ⟨(some 28), (some (21, false)), (.un .not (.t 27))⟩,
  ⟨(some 29), none, (.pick (.t 21) (.c (.sc (.bool true))) (.t 28))⟩] none)
 (.cond (.t 29)
 (.seq (.reg [⟨(some 2), none, (.mv (.c (.sc (.bool false))))⟩] none) .ret) .skip))
 (.seq (.seq (.reg [⟨(some 3), none, (.mv (.c (.sc (.int .i64 (0)))))⟩] none) (.block 0 
 (.loop ⟨[1, 3], []⟩
 (.seq (.seq (.reg [⟨(some 30), none, (.mv (.t 3))⟩,
  ⟨(some 31), none, (.faddr 6 (.t 1))⟩,
  ⟨(some 32), none, (.load 1 false (.t 31))⟩,
  ⟨(some 33), none, (.len (.t 32))⟩,
  ⟨(some 34), none, (.bin .lss (.t 30) (.t 33))⟩] none)
 (.cond (.t 34) .skip (.exit 0)))
 (.seq (.block 1
 (.seq (.reg [⟨(some 37), none, (.faddr 6 (.t 1))⟩,
  ⟨(some 38), none, (.load 1 false (.t 37))⟩,
  ⟨(some 39), none, (.mv (.t 3))⟩,
  ⟨(some 40), none, (.iaddr 1 (.t 38) (.t 39))⟩,
  ⟨(some 41), none, (.load 1 false (.t 40))⟩,
  ⟨(some 42), none, (.mv (.t 41))⟩,
  ⟨(some 43), (some (42, true)), (.faddr 3 (.t 1))⟩,
  ⟨(some 44), (some (42, true)), (.faddr 2 (.t 43))⟩,
  ⟨(some 45), (some (42, true)), (.load 1 false (.t 44))⟩,
  ⟨(some 46), (some (42, true)), (.mv (.t 3))⟩,
  ⟨(some 47), (some (42, true)), (.iaddr 1 (.t 45) (.t 46))⟩,
  ⟨(some 48), (some (42, true)), (.load 1 false (.t 47))⟩,
  ⟨(some 49), (some (42, true)), (.bin .neq (.t 48) (.c (.sc (.int .i64 (0)))))⟩,
  ⟨(some 50), none, (.pick (.t 42) (.t 49) (.c (.sc (.bool false))))⟩] none)
 (.cond (.t 50)
 (.seq (.reg [⟨(some 2), none, (.mv (.c (.sc (.bool false))))⟩] none) .ret) .skip))) (.reg [⟨(some 35), none, (.mv (.t 3))⟩,
  ⟨(some 36), none, (.bin .add (.t 35) (.c (.sc (.int .i64 (1)))))⟩,
  ⟨(some 3), none, (.mv (.t 36))⟩] none))))))
 (.seq (.reg [⟨(some 2), none, (.mv (.c (.sc (.bool true))))⟩] none) .ret))))
theorem good50 {args : List PV} {r : PV} (hl : args.length ≤ 51) (h : Run Tryz.prog [.code ac50] (endQ [(.t 2)] r) ⟨initT 0 args, [], 0, 51⟩) : Good Tryz.prog 50 args r :=
  good_run (by kernel_rfl) Fbmix Tryz.func50 rfl (hs := [⟨[1, 3], []⟩]) (hs' := []) (by kernel_rfl) hl h
def ac51 : ACode :=
 (.seq (.reg [⟨(some 1), none, (.boxv (.t 0))⟩,
  ⟨(some 2), none, (.mv (.c (.sc (.int .i64 (0)))))⟩] none)
 (.seq (.seq (.reg [⟨(some 4), none, (.faddr 0 (.t 1))⟩,
  ⟨(some 5), none, (.load 1 false (.t 4))⟩,
  ⟨(some 6), none, (.len (.t 5))⟩,
  ⟨(some 7), none, (.bin .lss (.t 6) (.c (.sc (.int .i64 (1)))))⟩,
  ⟨(some 8), none, (.mv (.t 7))⟩,
  ⟨(some 9), (some (8, false)), (.faddr 0 (.t 1))⟩,
  ⟨(some 10), (some (8, false)), (.load 1 false (.t 9))⟩,
  ⟨(some 11), (some (8, false)), (.len (.t 10))⟩,
  ⟨(some 12), (some (8, false)), (.bin .gtr (.t 11) (.c (.sc (.int .i64 (33)))))⟩,
  ⟨(some 13), none, (.pick (.t 8) (.c (.sc (.bool true))) (.t 12))⟩] none)
 (.cond (.t 13)
 (.seq (.reg [⟨(some 2), none, (.mv (.c (.sc (.int .i64 (32)))))⟩] none) .ret) .skip))
 (.seq (.seq (.reg [⟨(some 3), none, (.mv (.c (.sc (.int .i64 (0)))))⟩] none) (.block 0 
 (.loop ⟨[1, 3], []⟩
 (.seq (.seq (.reg [⟨(some 14), none, (.mv (.t 3))⟩,
  ⟨(some 15), none, (.faddr 0 (.t 1))⟩,
  ⟨(some 16), none, (.load 1 false (.t 15))⟩,
  ⟨(some 17), none, (.len (.t 16))⟩,
  ⟨(some 18), none, (.bin .lss (.t 14) (.t 17))⟩] none)
 (.cond (.t 18) .skip (.exit 0)))
 (.seq (.block 1
 (.seq (.reg [⟨(some 21), none, (.faddr 0 (.t 1))⟩,
  ⟨(some 22), none, (.load 1 false (.t 21))⟩,
  ⟨(some 23), none, (.mv (.t 3))⟩,
  ⟨(some 24), none, (.iaddr 1 (.t 22) (.t 23))⟩,
  ⟨(some 25), none, (.load 1 false (.t 24))⟩,
  ⟨(some 26), none, (.bin .lss (.t 25) (.c (.sc (.int .i64 (1)))))⟩,
  ⟨(some 27), none, (.mv (.t 26))⟩,
  ⟨(some 28), (some (27, false)), (.faddr 0 (.t 1))⟩,
  ⟨(some 29), (some (27, false)), (.load 1 false (.t 28))⟩,
  ⟨(some 30), (some (27, false)), (.mv (.t 3))⟩,
  ⟨(some 31), (some (27, false)), (.iaddr 1 (.t 29) (.t 30))⟩,
  ⟨(some 32), (some (27, false)), (.load 1 false (.t 31))⟩,
  ⟨(some 33), (some (27, false)), (.bin .gtr (.t 32) (.c (.sc (.int .i64 (16777216)))))⟩,
  ⟨(some 34), none, (.pick (.t 27) (.c (.sc (.bool true))) (.t 33))⟩,
  ⟨(some 35), none, (.mv (.t 34))⟩,
  ⟨(some 36), (some (35, false)), (.mv (.t 3))⟩,
  ⟨(some 37), (some (35, false)), (.bin .gtr (.t 36) (.c (.sc (.int .i64 (0)))))⟩,
  ⟨(some 38), (some (35, false)), (.mv (.t 37))⟩,
  ⟨(some 39), (some (38, true)), (.faddr 0 (.t 1))⟩,
  ⟨(some 40), (some (38, true)), (.load 1 false (.t 39))⟩,
  ⟨(some 41), (some (38, true)), (.mv (.t 3))⟩,
  ⟨(some 42), (some (38, true)), (.iaddr 1 (.t 40) (.t 41))⟩,
  ⟨(some 43), (some (38, true)), (.load 1 false (.t 42))⟩,
  ⟨(some 44), (some (38, true)), (.faddr 0 (.t 1))⟩,
  ⟨(some 45), (some (38, true)), (.load 1 false (.t 44))⟩,
  ⟨(some 46), (some (38, true)), (.mv (.t 3))⟩,
  ⟨(some 47), (some (38, true)), (.bin .sub (.t 46) (.c (.sc (.int .i64 (1)))))⟩,
  ⟨(some 48), (some (38, true)), (.iaddr 1 (.t 45) (.t 47))⟩,
  ⟨(some 49), (some (38, true)), (.load 1 false (.t 48))⟩,
  ⟨(some 50), (some (38, true)), (.bin .gtr (.t 43) (.t 49))⟩,
  ⟨(some 51), (some (35, false)), (.pick (.t 38) (.t 50) (.c (.sc (.bool false))))⟩,
  ⟨(some 52), none, (.pick (.t 35) (.c (.sc (.bool true))) (.t 51))⟩] (some [[], [0], [], [1, 2, 0], [3, 1, 2, 0], [4, 3, 1, 2, 0], [5, 4, 3, 1, 2, 0], [6, 5, 4, 3, 1, 2, 0], [7, 6, 5, 4, 3, 1, 2, 0], [6, 5, 4, 3, 1, 2, 0], [8, 9, 6, 7, 5, 4, 3, 1, 2, 0], [10, 6, 8, 9, 7, 5, 4, 3, 1, 2, 0], [11, 6, 10, 8, 9, 7, 5, 4, 3, 1, 2, 0], [6, 12, 5, 4, 3, 1, 2, 0, 11, 10, 8, 9, 7], [13, 6, 12, 5, 4, 3, 1, 2, 0, 11, 10, 8, 9, 7], [14, 13, 6, 12, 5, 4, 3, 1, 2, 0, 11, 10, 8, 9, 7], [15, 14, 13, 6, 12, 5, 4, 3, 1, 2, 0, 11, 10, 8, 9, 7], [16, 14, 15, 13, 6, 12, 5, 4, 3, 1, 2, 0, 11, 10, 8, 9, 7], [17, 16, 14, 15, 13, 6, 12, 5, 4, 3, 1, 2, 0, 11, 10, 8, 9, 7], [18, 17, 16, 14, 15, 13, 6, 12, 5, 4, 3, 1, 2, 0, 11, 10, 8, 9, 7], [17, 16, 14, 15, 13, 6, 12, 5, 4, 3, 1, 2, 0, 11, 10, 8, 9, 7], [19, 20, 17, 18, 16, 14, 15, 13, 6, 12, 5, 4, 3, 1, 2, 0, 11, 10, 8, 9, 7], [21, 17, 19, 20, 18, 16, 14, 15, 13, 6, 12, 5, 4, 3, 1, 2, 0, 11, 10, 8, 9, 7], [17, 16, 14, 15, 13, 6, 12, 5, 4, 3, 1, 2, 0, 11, 10, 8, 9, 7], [23, 17, 16, 14, 15, 13, 6, 12, 5, 4, 3, 1, 2, 0, 11, 10, 8, 9, 7], [17, 16, 14, 15, 13, 6, 12, 5, 4, 3, 1, 2, 0, 11, 10, 8, 9, 7], [25, 17, 16, 14, 15, 13, 6, 12, 5, 4, 3, 1, 2, 0, 11, 10, 8, 9, 7], [24, 26, 17, 23, 16, 14, 15, 13, 6, 12, 5, 4, 3, 1, 2, 0, 11, 10, 8, 9, 7, 25], [27, 17, 24, 26, 23, 16, 14, 15, 13, 6, 12, 5, 4, 3, 1, 2, 0, 11, 10, 8, 9, 7, 25], [22, 28, 17, 21, 19, 20, 18, 16, 14, 15, 13, 6, 12, 5, 4, 3, 1, 2, 0, 11, 10, 8, 9, 7, 27, 24, 26, 23, 25], [17, 29, 14, 16, 15, 13, 6, 12, 5, 4, 3, 1, 2, 0, 11, 10, 8, 9, 7, 22, 28, 21, 19, 20, 18, 27, 24, 26, 23, 25], [14, 30, 13, 6, 12, 5, 4, 3, 1, 2, 0, 11, 10, 8, 9, 7, 17, 29, 16, 15, 22, 28, 21, 19, 20, 18, 27, 24, 26, 23, 25]]))
 (.cond (.t 52)
 (.seq (.reg [⟨(some 2), none, (.mv (.c (.sc (.int .i64 (32)))))⟩] none) .ret) .skip))) (.reg [⟨(some 19), none, (.mv (.t 3))⟩,
  ⟨(some 20), none, (.bin .add (.t 19) (.c (.sc (.int .i64 (1)))))⟩,
  ⟨(some 3), none, (.mv (.t 20))⟩] none))))))
 (.seq (.reg [⟨(some 2), none, (.mv (.c (.sc (.int .i64 (0)))))⟩] none) .ret))))
theorem good51 {args : List PV} {r : PV} (hl : args.length ≤ 53) (h : Run Tryz.prog [.code ac51] (endQ [(.t 2)] r) ⟨initT 0 args, [], 0, 53⟩) : Good Tryz.prog 51 args r :=
  good_run (by kernel_rfl) Fbmix Tryz.func51 rfl (hs := [⟨[1, 3], []⟩]) (hs' := []) (by kernel_rfl) hl h
def ac52 : ACode :=
 (.seq (.reg [⟨(some 4), none, (.mv (.c (.sc (.string ⟨#[]⟩))))⟩,
  ⟨(some 5), none, (.mv (.c (.sc (.int .i64 (0)))))⟩] none)
 (.seq (.seq (.reg [⟨(some 8), none, (.mv (.t 0))⟩,
  ⟨(some 9), none, (.call 62 [(.t 8)])⟩,
  ⟨(some 10), none, (.un .not (.t 9))⟩,
  ⟨(some 11), none, (.mv (.t 10))⟩,
  ⟨(some 12), (some (11, false)), (.mv (.t 1))⟩,
  ⟨(some 13), (some (11, false)), (.bin .lss (.t 12) (.c (.sc (.int .i64 (0)))))⟩,
  ⟨(some 14), none, (.pick (.t 11) (.c (.sc (.bool true))) (.t 13))⟩,
  ⟨(some 15), none, (.mv (.t 14))⟩,
  ⟨(some 16), (some (15, false)), (.mv (.t 1))⟩,
  ⟨(some 17), (some (15, false)), (.bin .gtr (.t 16) (.c (.sc (.int .i64 (6)))))⟩,
  ⟨(some 18), none, (.pick (.t 15) (.c (.sc (.bool true))) (.t 17))⟩] none)
 (.cond (.t 18)
 (.seq (.reg [⟨(some 4), none, (.mv (.c (.sc (.string ⟨#[]⟩))))⟩,
  ⟨(some 5), none, (.mv (.c (.sc (.int .i64 (1)))))⟩] none) .ret) .skip))
 (.seq (.reg [⟨(some 6), none, (.mv (.c (.sc (.string ⟨#[]⟩))))⟩] none)
 (.seq (.seq (.reg [⟨(some 19), none, (.mv (.t 0))⟩,
  ⟨(some 20), none, (.bin .lss (.t 19) (.c (.sc (.int .i64 (0)))))⟩] none)
 (.cond (.t 20) (.reg [⟨(some 6), none, (.mv (.c (.sc (.string ⟨#[45]⟩))))⟩] none) .skip))
 (.seq (.reg [⟨(some 21), none, (.mv (.t 0))⟩,
  ⟨(some 22), none, (.mv (.t 0))⟩,
  ⟨(some 23), none, (.un .neg (.t 22))⟩,
  ⟨(some 24), none, (.mx (.t 21) (.t 23))⟩,
  ⟨(some 25), none, (.mv (.t 1))⟩,
  ⟨(some 26), none, (.bin .add (.t 25) (.c (.sc (.int .i64 (1)))))⟩,
  ⟨(some 27), none, (.call 63 [(.t 24), (.t 26)])⟩,
  ⟨(some 7), none, (.mv (.t 27))⟩] none)
 (.seq (.seq (.reg [⟨(some 28), none, (.mv (.t 1))⟩,
  ⟨(some 29), none, (.bin .eql (.t 28) (.c (.sc (.int .i64 (0)))))⟩] none)
 (.cond (.t 29)
 (.seq (.reg [⟨(some 30), none, (.mv (.t 6))⟩,
  ⟨(some 31), none, (.mv (.t 7))⟩,
  ⟨(some 32), none, (.bin .add (.t 30) (.t 31))⟩,
  ⟨(some 4), none, (.mv (.t 32))⟩,
  ⟨(some 5), none, (.mv (.c (.sc (.int .i64 (0)))))⟩] none) .ret) .skip))
 (.seq (.reg [⟨(some 33), none, (.mv (.t 6))⟩,
  ⟨(some 34), none, (.mv (.t 7))⟩,
  ⟨(some 35), none, (.mv (.t 7))⟩,
  ⟨(some 36), none, (.slen (.t 35))⟩,
  ⟨(some 37), none, (.mv (.t 1))⟩,
  ⟨(some 38), none, (.bin .sub (.t 36) (.t 37))⟩,
  ⟨(some 39), none, (.sslice (.t 34) none (some (.t 38)))⟩,
  ⟨(some 40), none, (.bin .add (.t 33) (.t 39))⟩,
  ⟨(some 41), none, (.bin .add (.t 40) (.c (.sc (.string ⟨#[46]⟩))))⟩,
  ⟨(some 42), none, (.mv (.t 7))⟩,
  ⟨(some 43), none, (.mv (.t 7))⟩,
  ⟨(some 44), none, (.slen (.t 43))⟩,
  ⟨(some 45), none, (.mv (.t 1))⟩,
  ⟨(some 46), none, (.bin .sub (.t 44) (.t 45))⟩,
  ⟨(some 47), none, (.sslice (.t 42) (some (.t 46)) none)⟩,
  ⟨(some 48), none, (.bin .add (.t 41) (.t 47))⟩,
  ⟨(some 4), none, (.mv (.t 48))⟩,
  ⟨(some 5), none, (.mv (.c (.sc (.int .i64 (0)))))⟩] (some [[], [], [], [2], [], [3, 4, 2], [1, 5, 3, 4, 2], [0, 6, 1, 5, 3, 4, 2], [7, 0, 6, 1, 5, 3, 4, 2], [], [], [10], [], [11, 12, 10], [9, 13, 11, 12, 10], [8, 14, 7, 0, 6, 1, 5, 3, 4, 2, 9, 13, 11, 12, 10], [15, 0, 1, 2, 3, 4, 5, 6, 7, 8, 9, 10, 11, 12, 13, 14], [16, 0, 1, 2, 3, 4, 5, 6, 7, 8, 9, 10, 11, 12, 13, 14, 15]])) .ret)))))))
theorem good52 {args : List PV} {r : PV} (hl : args.length ≤ 49) (h : Run Tryz.prog [.code ac52] (endQ [(.t 4), (.t 5)] r) ⟨initT 0 args, [], 0, 49⟩) : Good Tryz.prog 52 args r :=
  good_run (by kernel_rfl) Fbmix Tryz.func52 rfl (hs := []) (hs' := []) (by kernel_rfl) hl h
def ac61 : ACode :=
 (.seq (.reg [⟨(some 4), none, (.mv (.c (.sc (.bool false))))⟩] none)
 (.seq (.seq (.reg [⟨(some 5), none, (.mv (.c (.sc (.int .i64 (0)))))⟩] none) (.block 0 
 (.loop ⟨[0, 1, 5], []⟩
 (.seq (.seq (.reg [⟨(some 6), none, (.mv (.t 5))⟩,
  ⟨(some 7), none, (.mv (.t 0))⟩,
  ⟨(some 8), none, (.len (.t 7))⟩,
  ⟨(some 9), none, (.bin .lss (.t 6) (.t 8))⟩] none)
 (.cond (.t 9) .skip (.exit 0)))
 (.seq (.block 1
 (.seq (.reg [⟨(some 12), none, (.mv (.t 0))⟩,
  ⟨(some 13), none, (.mv (.t 5))⟩,
  ⟨(some 14), none, (.iaddr 1 (.t 12) (.t 13))⟩,
  ⟨(some 15), none, (.load 1 false (.t 14))⟩,
  ⟨(some 16), none, (.bin .lss (.t 15) (.c (.sc (.int .i64 (0)))))⟩,
  ⟨(some 17), none, (.mv (.t 16))⟩,
  ⟨(some 18), (some (17, false)), (.mv (.t 0))⟩,
  ⟨(some 19), (some (17, false)), (.mv (.t 5))⟩,
  ⟨(some 20), (some (17, false)), (.iaddr 1 (.t 18) (.t 19))⟩,
  ⟨(some 21), (some (17, false)), (.load 1 false (.t 20))⟩,
  ⟨(some 22), (some (17, false)), (.bin .gtr (.t 21) (.c (.sc (.int .i64 (65536)))))⟩,
  ⟨(some 23), none, (.pick (.t 17) (.c (.sc (.bool true))) (.t 22))⟩] none)
 (.cond (.t 23)
 (.seq (.reg [⟨(some 4), none, (.mv (.c (.sc (.bool false))))⟩] none) .ret) .skip))) (.reg [⟨(some 10), none, (.mv (.t 5))⟩,
  ⟨(some 11), none, (.bin .add (.t 10) (.c (.sc (.int .i64 (1)))))⟩,
  ⟨(some 5), none, (.mv (.t 11))⟩] none))))))
 (.seq (.reg [⟨(some 24), none, (.mv (.t 0))⟩,
  ⟨(some 25), none, (.len (.t 24))⟩,
  ⟨(some 26), none, (.mv (.t 1))⟩,
  ⟨(some 27), none, (.bin .eql (.t 25) (.t 26))⟩,
  ⟨(some 4), none, (.mv (.t 27))⟩] none) .ret)))
theorem good61 {args : List PV} {r : PV} (hl : args.length ≤ 28) (h : Run Tryz.prog [.code ac61] (endQ [(.t 4)] r) ⟨initT 0 args, [], 0, 28⟩) : Good Tryz.prog 61 args r :=
  good_run (by kernel_rfl) Fbmix Tryz.func61 rfl (hs := [⟨[0, 1, 5], []⟩]) (hs' := []) (by kernel_rfl) hl h
def ac62 : ACode :=
 (.seq (.reg [⟨(some 2), none, (.mv (.c (.sc (.bool false))))⟩] none)
 (.seq (.reg [⟨(some 3), none, (.mv (.t 0))⟩,
  ⟨(some 4), none, (.bin .geq (.t 3) (.c (.sc (.int .i64 (-1125899906842624)))))⟩,
  ⟨(some 5), none, (.mv (.t 4))⟩,
  ⟨(some 6), (some (5, true)), (.mv (.t 0))⟩,
  ⟨(some 7), (some (5, true)), (.bin .leq (.t 6) (.c (.sc (.int .i64 (1125899906842624)))))⟩,
  ⟨(some 8), none, (.pick (.t 5) (.t 7) (.c (.sc (.bool false))))⟩,
  ⟨(some 2), none, (.mv (.t 8))⟩] none) .ret))
theorem good62 {args : List PV} {r : PV} (hl : args.length ≤ 9) (h : Run Tryz.prog [.code ac62] (endQ [(.t 2)] r) ⟨initT 0 args, [], 0, 9⟩) : Good Tryz.prog 62 args r :=
  good_run (by kernel_rfl) Fbmix Tryz.func62 rfl (hs := []) (hs' := []) (by kernel_rfl) hl h
def ac63 : ACode :=
 (.seq (.reg [⟨(some 4), none, (.mv (.c (.sc (.string ⟨#[]⟩))))⟩] none)
 (.seq (.reg [⟨(some 5), none, (.mv (.c (.sc (.string ⟨#[]⟩))))⟩] none)
 (.seq (.block 0 
 (.loop ⟨[0, 1, 5], []⟩
 (.seq (.seq (.reg [⟨(some 6), none, (.mv (.t 0))⟩,
  ⟨(some 7), none, (.bin .gtr (.t 6) (.c (.sc (.int .i64 (0)))))⟩,
  ⟨(some 8), none, (.mv (.t 7))⟩,
  ⟨(some 9), (some (8, false)), (.mv (.t 5))⟩,
  ⟨(some 10), (some (8, false)), (.slen (.t 9))⟩,
  ⟨(some 11), (some (8, false)), (.mv (.t 1))⟩,
  ⟨(some 12), (some (8, false)), (.bin .lss (.t 10) (.t 11))⟩,
  ⟨(some 13), none, (.pick (.t 8) (.c (.sc (.bool true))) (.t 12))⟩] none)
 (.cond (.t 13) .skip (.exit 0))) (.block 1
 (.seq (.reg [⟨(some 14), none, (.mv (.t 0))⟩,
  ⟨(some 15), none, (.bin .rem (.t 14) (.c (.sc (.int .i64 (10)))))⟩,
  ⟨(some 16), none, (.bin .add (.c (.sc (.int .i64 (48)))) (.t 15))⟩,
  ⟨(some 17), none, (.conv .u8 (.t 16))⟩,
  ⟨(some 18), none, (.bslice 5 1 [(.t 17)])⟩,
  ⟨(some 19), none, (.bstr (.t 18))⟩,
  ⟨(some 20), none, (.mv (.t 5))⟩,
  ⟨(some 21), none, (.bin .add (.t 19) (.t 20))⟩,
  ⟨(some 5), none, (.mv (.t 21))⟩] none) (.reg [⟨(some 22), none, (.mv (.t 0))⟩,
  ⟨(some 23), none, (.bin .quo (.t 22) (.c (.sc (.int .i64 (10)))))⟩,
  ⟨(some 0), none, (.mv (.t 23))⟩] none))))))
 (.seq (.reg [⟨(some 24), none, (.mv (.t 5))⟩,
  ⟨(some 4), none, (.mv (.t 24))⟩] none) .ret))))
theorem good63 {args : List PV} {r : PV} (hl : args.length ≤ 25) (h : Run Tryz.prog [.code ac63] (endQ [(.t 4)] r) ⟨initT 0 args, [], 0, 25⟩) : Good Tryz.prog 63 args r :=
  good_run (by kernel_rfl) Fbmix Tryz.func63 rfl (hs := [⟨[0, 1, 5], []⟩]) (hs' := []) (by kernel_rfl) hl h
def ac7 : ACode :=
 (.seq (.reg [⟨(some 2), none, (.new [(.sc (.int .i64 (0))), (.sc (.int .i64 (0))), (.sc (.int .i64 (0))), (.sc (.int .i64 (0))), (.sc (.int .i64 (0))), (.sc (.slice none 0 0)), (.sc (.slice none 0 0)), (.sc (.slice none 0 0)), (.sc (.slice none 0 0)), (.sc (.slice none 0 0))])⟩,
  ⟨(some 3), none, (.mv (.c (.sc (.int .i64 (0)))))⟩] none)
 (.seq (.seq (.reg [⟨(some 8), none, (.mv (.t 0))⟩,
  ⟨(some 9), none, (.len (.t 8))⟩,
  ⟨(some 10), none, (.bin .lss (.t 9) (.c (.sc (.int .i64 (2)))))⟩] none)
 (.cond (.t 10)
 (.seq (.reg [⟨(some 11), none, (.build [(.sc (.int .i64 (0))), (.sc (.int .i64 (0))), (.sc (.int .i64 (0))), (.sc (.int .i64 (0))), (.sc (.int .i64 (0))), (.sc (.slice none 0 0)), (.sc (.slice none 0 0)), (.sc (.slice none 0 0)), (.sc (.slice none 0 0)), (.sc (.slice none 0 0))] [])⟩,
  ⟨none, none, (.store 10 (.t 2) (.t 11))⟩,
  ⟨(some 3), none, (.mv (.c (.sc (.int .i64 (3)))))⟩] none) .ret) .skip))
 (.seq (.reg [⟨(some 12), none, (.mv (.t 0))⟩,
  ⟨(some 13), none, (.call 16 [(.t 12)])⟩,
  ⟨(some 4), none, (.new [(.sc (.int .i64 (0))), (.sc (.int .i64 (0))), (.sc (.int .i64 (0))), (.sc (.int .i64 (0))), (.sc (.int .i64 (0))), (.sc (.slice none 0 0)), (.sc (.slice none 0 0)), (.sc (.slice none 0 0)), (.sc (.slice none 0 0)), (.sc (.slice none 0 0))])⟩,
  ⟨none, none, (.store 10 (.t 4) (.t 13))⟩] none)
 (.seq (.reg [⟨(some 15), none, (.load 10 true (.t 4))⟩,
  ⟨(some 16), none, (.call 17 [(.t 15)])⟩,
  ⟨(some 14), none, (.mv (.t 16))⟩,
  ⟨(some 17), none, (.ext 0 (.t 14))⟩,
  ⟨(some 18), none, (.ext 1 (.t 14))⟩,
  ⟨(some 5), none, (.mv (.t 17))⟩,
  ⟨(some 6), none, (.mv (.t 18))⟩] none)
 (.seq (.seq (.reg [⟨(some 19), none, (.mv (.t 6))⟩,
  ⟨(some 20), none, (.bin .neq (.t 19) (.c (.sc (.int .i64 (0)))))⟩,
  ⟨(some 21), none, (.mv (.t 20))⟩,
  ⟨(some 22), (some (21, false)), (.mv (.t 5))⟩,
  ⟨(some 23), (some (21, false)), (.len (.t 22))⟩,
  ⟨(some 24), (some (21, false)), (.mv (.t 0))⟩,
  ⟨(some 25), (some (21, false)), (.len (.t 24))⟩,
  ⟨(some 26), (some (21, false)), (.bin .neq (.t 23) (.t 25))⟩,
  ⟨(some 27), none, (.pick (.t 21) (.c (.sc (.bool true))) (.t 26))⟩] none)
 (.cond (.t 27)
 (.seq (.reg [⟨(some 28), none, (.build [(.sc (.int .i64 (0))), (.sc (.int .i64 (0))), (.sc (.int .i64 (0))), (.sc (.int .i64 (0))), (.sc (.int .i64 (0))), (.sc (.slice none 0 0)), (.sc (.slice none 0 0)), (.sc (.slice none 0 0)), (.sc (.slice none 0 0)), (.sc (.slice none 0 0))] [])⟩,
  ⟨none, none, (.store 10 (.t 2) (.t 28))⟩,
  ⟨(some 3), none, (.mv (.c (.sc (.int .i64 (3)))))⟩] none) .ret) .skip))
 (.seq (.seq (.reg [⟨(some 7), none, (.mv (.c (.sc (.int .i64 (0)))))⟩] none) (.block 0 
 (.loop ⟨[0, 2, 4, 5, 7], []⟩
 (.seq (.seq (.reg [⟨(some 29), none, (.mv (.t 7))⟩,
  ⟨(some 30), none, (.mv (.t 0))⟩,
  ⟨(some 31), none, (.len (.t 30))⟩,
  ⟨(some 32), none, (.bin .lss (.t 29) (.t 31))⟩] none)
 (.cond (.t 32) .skip (.exit 0)))
 (.seq (.block 1
 (.seq (.reg [⟨(some 35), none, (.mv (.t 5))⟩,
  ⟨(some 36), none, (.mv (.t 7))⟩,
  ⟨(some 37), none, (.iaddr 1 (.t 35) (.t 36))⟩,
  ⟨(some 38), none, (.load 1 false (.t 37))⟩,
  ⟨(some 39), none, (.mv (.t 0))⟩,
  ⟨(some 40), none, (.mv (.t 7))⟩,
  ⟨(some 41), none, (.iaddr 1 (.t 39) (.t 40))⟩,
  ⟨(some 42), none, (.load 1 false (.t 41))⟩,
  ⟨(some 43), none, (.bin .neq (.t 38) (.t 42))⟩] (some [[], [], [0, 1], [2, 0, 1], [], [], [4, 5], [6, 4, 5], [3, 7, 2, 0, 1, 6, 4, 5]]))
 (.cond (.t 43)
 (.seq (.reg [⟨(some 44), none, (.build [(.sc (.int .i64 (0))), (.sc (.int .i64 (0))), (.sc (.int .i64 (0))), (.sc (.int .i64 (0))), (.sc (.int .i64 (0))), (.sc (.slice none 0 0)), (.sc (.slice none 0 0)), (.sc (.slice none 0 0)), (.sc (.slice none 0 0)), (.sc (.slice none 0 0))] [])⟩,
  ⟨none, none, (.store 10 (.t 2) (.t 44))⟩,
  ⟨(some 3), none, (.mv (.c (.sc (.int .i64 (3)))))⟩] none) .ret) .skip))) (.reg [⟨(some 33), none, (.mv (.t 7))⟩,
  ⟨(some 34), none, (.bin .add (.t 33) (.c (.sc (.int .i64 (1)))))⟩,
  ⟨(some 7), none, (.mv (.t 34))⟩] none))))))
 (.seq (.reg [⟨(some 45), none, (.load 10 true (.t 4))⟩,
  ⟨none, none, (.store 10 (.t 2) (.t 45))⟩,
  ⟨(some 3), none, (.mv (.c (.sc (.int .i64 (0)))))⟩] none) .ret)))))))
theorem good7 {args : List PV} {r : PV} (hl : args.length ≤ 46) (h : Run Tryz.prog [.code ac7] (endQ [(.c 2 10 true), (.t 3)] r) ⟨initT 0 args, [], 0, 46⟩) : Good Tryz.prog 7 args r :=
  good_run (by kernel_rfl) Fbmix Tryz.func7 rfl (hs := [⟨[0, 2, 4, 5, 7], []⟩]) (hs' := []) (by kernel_rfl) hl h
def ac16 : ACode :=
 (.seq (.reg [⟨(some 2), none, (.new [(.sc (.int .i64 (0))), (.sc (.int .i64 (0))), (.sc (.int .i64 (0))), (.sc (.int .i64 (0))), (.sc (.int .i64 (0))), (.sc (.slice none 0 0)), (.sc (.slice none 0 0)), (.sc (.slice none 0 0)), (.sc (.slice none 0 0)), (.sc (.slice none 0 0))])⟩] none)
 (.seq (.reg [⟨(some 11), none, (.mv (.t 0))⟩,
  ⟨(some 12), none, (.iaddr 1 (.t 11) (.c (.sc (.int .i64 (0)))))⟩,
  ⟨(some 13), none, (.load 1 false (.t 12))⟩,
  ⟨(some 14), none, (.call 31 [(.t 13)])⟩,
  ⟨(some 15), none, (.call 30 [(.t 14)])⟩,
  ⟨(some 3), none, (.mv (.t 15))⟩] none)
 (.seq (.reg [⟨(some 16), none, (.mv (.t 0))⟩,
  ⟨(some 17), none, (.mv (.t 0))⟩,
  ⟨(some 18), none, (.len (.t 17))⟩,
  ⟨(some 19), none, (.bin .sub (.t 18) (.c (.sc (.int .i64 (1)))))⟩,
  ⟨(some 20), none, (.iaddr 1 (.t 16) (.t 19))⟩,
  ⟨(some 21), none, (.load 1 false (.t 20))⟩,
  ⟨(some 22), none, (.call 31 [(.t 21)])⟩,
  ⟨(some 4), none, (.mv (.t 22))⟩] none)
 (.seq (.seq (.reg [⟨(some 23), none, (.mv (.t 3))⟩,
  ⟨(some 24), none, (.len (.t 23))⟩,
  ⟨(some 25), none, (.bin .neq (.t 24) (.c (.sc (.int .i64 (5)))))⟩] none)
 (.cond (.t 25)
 (.seq (.reg [⟨(some 26), none, (.build [(.sc (.int .i64 (0))), (.sc (.int .i64 (0))), (.sc (.int .i64 (0))), (.sc (.int .i64 (0))), (.sc (.int .i64 (0))), (.sc (.slice none 0 0)), (.sc (.slice none 0 0)), (.sc (.slice none 0 0)), (.sc (.slice none 0 0)), (.sc (.slice none 0 0))] [])⟩,
  ⟨none, none, (.store 10 (.t 2) (.t 26))⟩] none) .ret) .skip))
 (.seq (.reg [⟨(some 27), none, (.mv (.t 3))⟩,
  ⟨(some 28), none, (.iaddr 1 (.t 27) (.c (.sc (.int .i64 (0)))))⟩,
  ⟨(some 29), none, (.load 1 false (.t 28))⟩,
  ⟨(some 30), none, (.mv (.t 3))⟩,
  ⟨(some 31), none, (.iaddr 1 (.t 30) (.c (.sc (.int .i64 (1)))))⟩,
  ⟨(some 32), none, (.load 1 false (.t 31))⟩,
  ⟨(some 33), none, (.build [(.sc (.int .i64 (0))), (.sc (.int .i64 (0)))] [(0, (1, (.t 29))), (1, (1, (.t 32)))])⟩,
  ⟨(some 34), none, (.mv (.t 3))⟩,
  ⟨(some 35), none, (.iaddr 1 (.t 34) (.c (.sc (.int .i64 (2)))))⟩,
  ⟨(some 36), none, (.load 1 false (.t 35))⟩,
  ⟨(some 37), none, (.mv (.t 3))⟩,
  ⟨(some 38), none, (.iaddr 1 (.t 37) (.c (.sc (.int .i64 (3)))))⟩,
  ⟨(some 39), none, (.load 1 false (.t 38))⟩,
  ⟨(some 40), none, (.mv (.t 3))⟩,
  ⟨(some 41), none, (.iaddr 1 (.t 40) (.c (.sc (.int .i64 (4)))))⟩,
  ⟨(some 42), none, (.load 1 false (.t 41))⟩,
  ⟨(some 43), none, (.build [(.sc (.int .i64 (0))), (.sc (.int .i64 (0))), (.sc (.slice none 0 0))] [(0, (1, (.t 39))), (1, (1, (.t 42)))])⟩,
  ⟨(some 44), none, (.build [(.sc (.int .i64 (0))), (.sc (.int .i64 (0))), (.sc (.int .i64 (0))), (.sc (.int .i64 (0))), (.sc (.int .i64 (0))), (.sc (.slice none 0 0)), (.sc (.slice none 0 0)), (.sc (.slice none 0 0)), (.sc (.slice none 0 0)), (.sc (.slice none 0 0))] [(0, (2, (.t 33))), (2, (1, (.t 36))), (3, (3, (.t 43)))])⟩,
  ⟨(some 5), none, (.new [(.sc (.int .i64 (0))), (.sc (.int .i64 (0))), (.sc (.int .i64 (0))), (.sc (.int .i64 (0))), (.sc (.int .i64 (0))), (.sc (.slice none 0 0)), (.sc (.slice none 0 0)), (.sc (.slice none 0 0)), (.sc (.slice none 0 0)), (.sc (.slice none 0 0))])⟩,
  ⟨none, none, (.store 10 (.t 5) (.t 44))⟩] (some [[], [0], [1, 0], [], [3], [4, 3], [2, 5, 1, 0, 4, 3], [], [7], [8, 7], [], [10], [11, 10], [], [13], [14, 13], [12, 15, 11, 10, 14, 13], [6, 9, 16, 2, 5, 1, 0, 4, 3, 8, 7, 12, 15, 11, 10, 14, 13], [], [18, 17, 0, 1, 2, 3, 4, 5, 6, 7, 8, 9, 10, 11, 12, 13, 14, 15, 16]]))
 (.seq (.reg [⟨(some 45), none, (.mv (.t 4))⟩,
  ⟨(some 46), none, (.iaddr 1 (.t 45) (.c (.sc (.int .i64 (0)))))⟩,
  ⟨(some 47), none, (.load 1 false (.t 46))⟩,
  ⟨(some 48), none, (.bin .eql (.t 47) (.c (.sc (.string ⟨#[110, 111, 105, 115, 101]⟩))))⟩,
  ⟨(some 6), none, (.mv (.t 48))⟩] none)
 (.seq (.seq (.reg [⟨(some 7), none, (.mv (.c (.sc (.int .i64 (1)))))⟩] none) (.block 0 
 (.loop ⟨[0, 2, 4, 5, 6, 7], [(600005, (3, 1)), (700005, (4, 1)), (800005, (3, 1))]⟩
 (.seq (.seq (.reg [⟨(some 49), none, (.mv (.t 7))⟩,
  ⟨(some 50), none, (.mv (.t 0))⟩,
  ⟨(some 51), none, (.len (.t 50))⟩,
  ⟨(some 52), none, (.bin .sub (.t 51) (.c (.sc (.int .i64 (1)))))⟩,
  ⟨(some 53), none, (.bin .lss (.t 49) (.t 52))⟩] none)
 (.cond (.t 53) .skip (.exit 0)))
 (.seq (.block 1
 (.seq (.reg [⟨(some 56), none, (.mv (.t 0))⟩,
  ⟨(some 57), none, (.mv (.t 7))⟩,
  ⟨(some 58), none, (.iaddr 1 (.t 56) (.t 57))⟩,
  ⟨(some 59), none, (.load 1 false (.t 58))⟩,
  ⟨(some 60), none, (.call 31 [(.t 59)])⟩,
  ⟨(some 8), none, (.mv (.t 60))⟩] none)
 (.seq (.reg [⟨(some 61), none, (.mv (.t 8))⟩,
  ⟨(some 62), none, (.call 30 [(.t 61)])⟩,
  ⟨(some 9), none, (.mv (.t 62))⟩] none)
 (.seq (.seq (.reg [⟨(some 63), none, (.mv (.t 6))⟩,
  ⟨(some 64), none, (.un .not (.t 63))⟩,
  ⟨(some 65), none, (.mv (.t 64))⟩,
  ⟨(some 66), (some (65, true)), (.mv (.t 9))⟩,
  ⟨(some 67), (some (65, true)), (.len (.t 66))⟩,
  ⟨(some 68), (some (65, true)), (.bin .gtr (.t 67) (.c (.sc (.int .i64 (0)))))⟩,
  ⟨(some 69), none, (.pick (.t 65) (.t 68) (.c (.sc (.bool false))))⟩] none)
 (.cond (.t 69)
 (.seq (.reg [⟨(some 70), none, (.faddr 7 (.t 5))⟩,
  ⟨(some 71), none, (.load 1 false (.t 70))⟩,
  ⟨(some 72), none, (.mv (.t 9))⟩,
  ⟨(some 73), none, (.mv (.t 9))⟩,
  ⟨(some 74), none, (.len (.t 73))⟩,
  ⟨(some 75), none, (.bin .sub (.t 74) (.c (.sc (.int .i64 (1)))))⟩,
  ⟨(some 76), none, (.iaddr 1 (.t 72) (.t 75))⟩,
  ⟨(some 77), none, (.load 1 false (.t 76))⟩,
  ⟨(some 78), none, (.bslice 3 1 [(.t 77)])⟩,
  ⟨(some 79), none, (.append 3 1 8 (.t 71) (.t 78))⟩,
  ⟨(some 80), none, (.faddr 7 (.t 5))⟩,
  ⟨none, none, (.store 1 (.t 80) (.t 79))⟩] (some [[], [0], [], [], [3], [4, 3], [2, 5, 4, 3], [6, 2, 5, 4, 3], [7, 6, 2, 5, 4, 3], [1, 8, 0, 7, 6, 2, 5, 4, 3], [0, 1, 2, 3, 4, 5, 6, 7, 8, 9], [10, 9, 0, 1, 2, 3, 4, 5, 6, 7, 8]])) (.reg [⟨(some 81), none, (.mv (.t 9))⟩,
  ⟨(some 82), none, (.mv (.t 9))⟩,
  ⟨(some 83), none, (.len (.t 82))⟩,
  ⟨(some 84), none, (.bin .sub (.t 83) (.c (.sc (.int .i64 (1)))))⟩,
  ⟨(some 85), none, (.slice 1 (.t 81) none (some (.t 84)) none)⟩,
  ⟨(some 9), none, (.mv (.t 85))⟩] none)) .skip))
 (.seq (.reg [⟨(some 86), none, (.faddr 3 (.t 5))⟩,
  ⟨(some 87), none, (.faddr 2 (.t 86))⟩,
  ⟨(some 88), none, (.load 1 false (.t 87))⟩,
  ⟨(some 89), none, (.mv (.t 9))⟩,
  ⟨(some 90), none, (.append 3 1 8 (.t 88) (.t 89))⟩,
  ⟨(some 91), none, (.faddr 3 (.t 5))⟩,
  ⟨(some 92), none, (.faddr 2 (.t 91))⟩,
  ⟨none, none, (.store 1 (.t 92) (.t 90))⟩] none)
 (.seq (.reg [⟨(some 10), none, (.mv (.c (.sc (.int .i64 (0)))))⟩] none) (.block 2 
 (.loop ⟨[0, 2, 4, 5, 6, 7, 8, 9, 10], [(700005, (4, 1))]⟩
 (.seq (.seq (.reg [⟨(some 93), none, (.mv (.t 10))⟩,
  ⟨(some 94), none, (.mv (.t 9))⟩,
  ⟨(some 95), none, (.len (.t 94))⟩,
  ⟨(some 96), none, (.bin .lss (.t 93) (.t 95))⟩,
  ⟨(some 97), none, (.mv (.t 96))⟩,
  ⟨(some 98), (some (97, true)), (.mv (.t 6))⟩,
  ⟨(some 99), (some (97, true)), (.un .not (.t 98))⟩,
  ⟨(some 100), none, (.pick (.t 97) (.t 99) (.c (.sc (.bool false))))⟩] none)
 (.cond (.t 100) .skip (.exit 2)))
 (.seq (.block 3 (.reg [⟨(some 103), none, (.faddr 6 (.t 5))⟩,
  ⟨(some 104), none, (.load 1 false (.t 103))⟩,
  ⟨(some 105), none, (.mv (.t 8))⟩,
  ⟨(some 106), none, (.mv (.t 10))⟩,
  ⟨(some 107), none, (.bin .add (.t 106) (.c (.sc (.int .i64 (1)))))⟩,
  ⟨(some 108), none, (.iaddr 1 (.t 105) (.t 107))⟩,
  ⟨(some 109), none, (.load 1 false (.t 108))⟩,
  ⟨(some 110), none, (.bin .eql (.t 109) (.c (.sc (.string ⟨#[120]⟩))))⟩,
  ⟨(some 111), none, (.bslice 4 1 [(.t 110)])⟩,
  ⟨(some 112), none, (.append 4 1 1 (.t 104) (.t 111))⟩,
  ⟨(some 113), none, (.faddr 6 (.t 5))⟩,
  ⟨none, none, (.store 1 (.t 113) (.t 112))⟩] (some [[], [0], [], [], [3], [2, 4, 3], [5, 2, 4, 3], [6, 5, 2, 4, 3], [7, 6, 5, 2, 4, 3], [1, 8, 0, 7, 6, 5, 2, 4, 3], [0, 1, 2, 3, 4, 5, 6, 7, 8, 9], [10, 9, 0, 1, 2, 3, 4, 5, 6, 7, 8]]))) (.reg [⟨(some 101), none, (.mv (.t 10))⟩,
  ⟨(some 102), none, (.bin .add (.t 101) (.c (.sc (.int .i64 (1)))))⟩,
  ⟨(some 10), none, (.mv (.t 102))⟩] none))))))))))) (.reg [⟨(some 54), none, (.mv (.t 7))⟩,
  ⟨(some 55), none, (.bin .add (.t 54) (.c (.sc (.int .i64 (1)))))⟩,
  ⟨(some 7), none, (.mv (.t 55))⟩] none))))))
 (.seq (.seq (.reg [⟨(some 114), none, (.mv (.t 6))⟩] none)
 (.cond (.t 114) (.reg [⟨(some 115), none, (.mv (.t 4))⟩,
  ⟨(some 116), none, (.call 30 [(.t 115)])⟩,
  ⟨(some 117), none, (.faddr 9 (.t 5))⟩,
  ⟨(some 118), none, (.faddr 0 (.t 117))⟩,
  ⟨none, none, (.store 1 (.t 118) (.t 116))⟩] none) (.reg [⟨(some 119), none, (.mv (.t 4))⟩,
  ⟨(some 120), none, (.call 30 [(.t 119)])⟩,
  ⟨(some 121), none, (.faddr 8 (.t 5))⟩,
  ⟨none, none, (.store 1 (.t 121) (.t 120))⟩] none)))
 (.seq (.reg [⟨(some 122), none, (.load 10 true (.t 5))⟩,
  ⟨none, none, (.store 10 (.t 2) (.t 122))⟩] none) .ret)))))))))
theorem good16 {args : List PV} {r : PV} (hl : args.length ≤ 123) (h : Run Tryz.prog [.code ac16] (endQ [(.c 2 10 true)] r) ⟨initT 0 args, [], 0, 123⟩) : Good Tryz.prog 16 args r :=
  good_run (by kernel_rfl) Fbmix Tryz.func16 rfl (hs := [⟨[0, 2, 4, 5, 6, 7], [(600005, 3, 1), (700005, 4, 1), (800005, 3, 1)]⟩, ⟨[0, 2, 4, 5, 6, 7, 8, 9, 10], [(700005, 4, 1)]⟩]) (hs' := []) (by kernel_rfl) hl h
def ac31 : ACode :=
 (.seq (.reg [⟨(some 2), none, (.mv (.c (.sc (.slice none 0 0))))⟩] none)
 (.seq (.reg [⟨(some 3), none, (.mv (.c (.sc (.slice none 0 0))))⟩] none)
 (.seq (.reg [⟨(some 4), none, (.mv (.c (.sc (.int .i64 (0)))))⟩] none)
 (.seq (.seq (.reg [⟨(some 5), none, (.mv (.c (.sc (.int .i64 (0)))))⟩] none) (.block 0 
 (.loop ⟨[0, 3, 4, 5], [(3, (9, 1))]⟩
 (.seq (.seq (.reg [⟨(some 6), none, (.mv (.t 5))⟩,
  ⟨(some 7), none, (.mv (.t 0))⟩,
  ⟨(some 8), none, (.slen (.t 7))⟩,
  ⟨(some 9), none, (.bin .leq (.t 6) (.t 8))⟩] none)
 (.cond (.t 9) .skip (.exit 0)))
 (.seq (.block 1
 (.seq (.reg [⟨(some 12), none, (.mv (.t 5))⟩,
  ⟨(some 13), none, (.mv (.t 0))⟩,
  ⟨(some 14), none, (.slen (.t 13))⟩,
  ⟨(some 15), none, (.bin .eql (.t 12) (.t 14))⟩,
  ⟨(some 16), none, (.mv (.t 15))⟩,
  ⟨(some 17), (some (16, false)), (.mv (.t 0))⟩,
  ⟨(some 18), (some (16, false)), (.mv (.t 5))⟩,
  ⟨(some 19), (some (16, false)), (.sidx (.t 17) (.t 18))⟩,
  ⟨(some 20), (some (16, false)), (.bin .eql (.t 19) (.c (.sc (.int .u8 (32)))))⟩,
  ⟨(some 21), none, (.pick (.t 16) (.c (.sc (.bool true))) (.t 20))⟩] none)
 (.cond (.t 21)
 (.seq (.reg [⟨(some 22), none, (.mv (.t 3))⟩,
  ⟨(some 23), none, (.mv (.t 0))⟩,
  ⟨(some 24), none, (.mv (.t 4))⟩,
  ⟨(some 25), none, (.mv (.t 5))⟩,
  ⟨(some 26), none, (.sslice (.t 23) (some (.t 24)) (some (.t 25)))⟩,
  ⟨(some 27), none, (.bslice 9 1 [(.t 26)])⟩,
  ⟨(some 28), none, (.append 9 1 16 (.t 22) (.t 27))⟩,
  ⟨(some 3), none, (.mv (.t 28))⟩] none) (.reg [⟨(some 29), none, (.mv (.t 5))⟩,
  ⟨(some 30), none, (.bin .add (.t 29) (.c (.sc (.int .i64 (1)))))⟩,
  ⟨(some 4), none, (.mv (.t 30))⟩] none)) .skip))) (.reg [⟨(some 10), none, (.mv (.t 5))⟩,
  ⟨(some 11), none, (.bin .add (.t 10) (.c (.sc (.int .i64 (1)))))⟩,
  ⟨(some 5), none, (.mv (.t 11))⟩] none))))))
 (.seq (.reg [⟨(some 31), none, (.mv (.t 3))⟩,
  ⟨(some 2), none, (.mv (.t 31))⟩] none) .ret)))))
theorem good31 {args : List PV} {r : PV} (hl : args.length ≤ 32) (h : Run Tryz.prog [.code ac31] (endQ [(.t 2)] r) ⟨initT 0 args, [], 0, 32⟩) : Good Tryz.prog 31 args r :=
  good_run (by kernel_rfl) Fbmix Tryz.func31 rfl (hs := [⟨[0, 3, 4, 5], [(3, 9, 1)]⟩]) (hs' := []) (by kernel_rfl) hl h
def ac30 : ACode :=
 (.seq (.reg [⟨(some 2), none, (.mv (.c (.sc (.slice none 0 0))))⟩] none)
 (.seq (.reg [⟨(some 3), none, (.mv (.c (.sc (.slice none 0 0))))⟩] none)
 (.seq (.seq (.reg [⟨(some 4), none, (.mv (.c (.sc (.int .i64 (1)))))⟩] none) (.block 0 
 (.loop ⟨[0, 3, 4], [(3, (3, 1))]⟩
 (.seq (.seq (.reg [⟨(some 7), none, (.mv (.t 4))⟩,
  ⟨(some 8), none, (.mv (.t 0))⟩,
  ⟨(some 9), none, (.len (.t 8))⟩,
  ⟨(some 10), none, (.bin .lss (.t 7) (.t 9))⟩] none)
 (.cond (.t 10) .skip (.exit 0)))
 (.seq (.block 1
 (.seq (.reg [⟨(some 14), none, (.mv (.t 0))⟩,
  ⟨(some 15), none, (.mv (.t 4))⟩,
  ⟨(some 16), none, (.iaddr 1 (.t 14) (.t 15))⟩,
  ⟨(some 17), none, (.load 1 false (.t 16))⟩,
  ⟨(some 18), none, (.call 48 [(.t 17), (.c (.sc (.int .i64 (0))))])⟩,
  ⟨(some 13), none, (.mv (.t 18))⟩,
  ⟨(some 19), none, (.ext 0 (.t 13))⟩,
  ⟨(some 20), none, (.ext 1 (.t 13))⟩,
  ⟨(some 5), none, (.mv (.t 19))⟩,
  ⟨(some 6), none, (.mv (.t 20))⟩] none) (.reg [⟨(some 21), none, (.mv (.t 3))⟩,
  ⟨(some 22), none, (.mv (.t 5))⟩,
  ⟨(some 23), none, (.bslice 3 1 [(.t 22)])⟩,
  ⟨(some 24), none, (.append 3 1 8 (.t 21) (.t 23))⟩,
  ⟨(some 3), none, (.mv (.t 24))⟩] none))) (.reg [⟨(some 11), none, (.mv (.t 4))⟩,
  ⟨(some 12), none, (.bin .add (.t 11) (.c (.sc (.int .i64 (1)))))⟩,
  ⟨(some 4), none, (.mv (.t 12))⟩] none))))))
 (.seq (.reg [⟨(some 25), none, (.mv (.t 3))⟩,
  ⟨(some 2), none, (.mv (.t 25))⟩] none) .ret))))
theorem good30 {args : List PV} {r : PV} (hl : args.length ≤ 26) (h : Run Tryz.prog [.code ac30] (endQ [(.t 2)] r) ⟨initT 0 args, [], 0, 26⟩) : Good Tryz.prog 30 args r :=
  good_run (by kernel_rfl) Fbmix Tryz.func30 rfl (hs := [⟨[0, 3, 4], [(3, 3, 1)]⟩]) (hs' := []) (by kernel_rfl) hl h
end Go.Proofs.YtjnfldkcbcfboaaGreatDoor
