/-
  The translated codes of functions, checked by the kernel.
-/
import Derived.Test.YtaejaogidkgalaaDoorKc
import Derived.KernelRfl
namespace Go.Proofs.YtaejaogidkgalaaDoor
set_option linter.unusedVariables false
set_option linter.unusedSimpArgs false
set_option linter.unnecessarySimpa false
theorem Xcmix : Tryd.prog.follows .mixedOrders = true := by kernel_rfl
def ac27 : ACode :=
 (.seq (.reg [⟨(some 0), none, (.new [(.sc (.int .i64 (0))), (.sc (.int .i64 (0))), (.sc (.int .i64 (0))), (.sc (.int .i64 (0))), (.sc (.slice none 0 0)), (.sc (.slice none 0 0)), (.sc (.slice none 0 0))])⟩] none)
 (.seq (.reg [⟨(some 3), none, (.build [(.sc (.int .i64 (0))), (.sc (.int .i64 (0)))] [(0, (1, (.c (.sc (.int .i64 (100)))))), (1, (1, (.c (.sc (.int .i64 (100))))))])⟩,
  ⟨(some 1), none, (.new [(.sc (.int .i64 (0))), (.sc (.int .i64 (0)))])⟩,
  ⟨none, none, (.store 2 (.t 1) (.t 3))⟩] none)
 (.seq (.reg [⟨(some 4), none, (.build [(.sc (.int .i64 (0))), (.sc (.int .i64 (0))), (.sc (.int .i64 (0)))] [(0, (1, (.c (.sc (.int .i64 (1)))))), (2, (1, (.c (.sc (.int .i64 (100))))))])⟩,
  ⟨(some 5), none, (.build [(.sc (.int .i64 (0))), (.sc (.int .i64 (0))), (.sc (.int .i64 (0)))] [(0, (1, (.c (.sc (.int .i64 (2)))))), (2, (1, (.c (.sc (.int .i64 (250))))))])⟩,
  ⟨(some 6), none, (.bslice 71 3 [(.t 4), (.t 5)])⟩,
  ⟨(some 7), none, (.build [(.sc (.int .i64 (0))), (.sc (.int .i64 (0))), (.sc (.slice none 0 0)), (.sc (.int .i64 (0)))] [(0, (1, (.c (.sc (.int .i64 (7)))))), (1, (1, (.c (.sc (.int .i64 (1)))))), (2, (1, (.t 6))), (3, (1, (.c (.sc (.int .i64 (350))))))])⟩,
  ⟨(some 2), none, (.new [(.sc (.int .i64 (0))), (.sc (.int .i64 (0))), (.sc (.slice none 0 0)), (.sc (.int .i64 (0)))])⟩,
  ⟨none, none, (.store 4 (.t 2) (.t 7))⟩] none)
 (.seq (.reg [⟨(some 8), none, (.build [(.sc (.int .i64 (0))), (.sc (.int .i64 (0)))] [(1, (1, (.c (.sc (.int .i64 (101))))))])⟩,
  ⟨(some 9), none, (.load 2 true (.t 1))⟩,
  ⟨(some 10), none, (.build [(.sc (.int .i64 (0))), (.sc (.int .i64 (0))), (.sc (.int .i64 (0))), (.sc (.int .i64 (0))), (.sc (.int .i64 (0))), (.sc (.int .i64 (0))), (.sc (.bool false)), (.sc (.slice none 0 0)), (.sc (.slice none 0 0)), (.sc (.int .i64 (0))), (.sc (.int .i64 (0))), (.sc (.int .i64 (0))), (.sc (.int .i64 (0)))] [(0, (1, (.c (.sc (.int .i64 (7)))))), (1, (1, (.c (.sc (.int .i64 (1)))))), (2, (2, (.t 9)))])⟩,
  ⟨(some 11), none, (.bslice 50 13 [(.t 10)])⟩,
  ⟨(some 12), none, (.load 4 true (.t 2))⟩,
  ⟨(some 13), none, (.bslice 55 4 [(.t 12)])⟩,
  ⟨(some 14), none, (.build [(.sc (.int .i64 (0))), (.sc (.int .i64 (0))), (.sc (.int .i64 (0))), (.sc (.int .i64 (0)))] [(0, (1, (.c (.sc (.int .i64 (4)))))), (1, (1, (.c (.sc (.int .i64 (7)))))), (2, (1, (.c (.sc (.int .i64 (1)))))), (3, (1, (.c (.sc (.int .i64 (50))))))])⟩,
  ⟨(some 15), none, (.bslice 60 4 [(.t 14)])⟩,
  ⟨(some 16), none, (.build [(.sc (.int .i64 (0))), (.sc (.int .i64 (0))), (.sc (.int .i64 (0))), (.sc (.int .i64 (0))), (.sc (.slice none 0 0)), (.sc (.slice none 0 0)), (.sc (.slice none 0 0))] [(0, (1, (.c (.sc (.int .i64 (9)))))), (1, (1, (.c (.sc (.int .i64 (1)))))), (2, (2, (.t 8))), (4, (1, (.t 11))), (5, (1, (.t 13))), (6, (1, (.t 15)))])⟩,
  ⟨none, none, (.store 7 (.t 0) (.t 16))⟩] none) .ret))))
theorem good27 {args : List PV} {r : PV} (hl : args.length ≤ 17) (h : Run Tryd.prog [.code ac27] (endQ [(.c 0 7 true)] r) ⟨initT 0 args, [], 0, 17⟩) : Good Tryd.prog 27 args r :=
  good_run (by kernel_rfl) Xcmix Tryd.func27 rfl (hs := []) (hs' := []) (by kernel_rfl) hl h
def ac11 : ACode :=
 (.seq (.reg [⟨(some 2), none, (.boxv (.t 0))⟩,
  ⟨(some 3), none, (.boxv (.t 1))⟩,
  ⟨(some 4), none, (.new [(.sc (.int .i64 (0))), (.sc (.int .i64 (0))), (.sc (.int .i64 (0))), (.sc (.int .i64 (0))), (.sc (.slice none 0 0)), (.sc (.slice none 0 0)), (.sc (.int .i64 (0)))])⟩,
  ⟨(some 5), none, (.mv (.c (.sc (.int .i64 (0)))))⟩] none)
 (.seq (.reg [⟨(some 6), none, (.faddr 0 (.t 2))⟩,
  ⟨(some 7), none, (.load 1 false (.t 6))⟩,
  ⟨(some 8), none, (.faddr 1 (.t 2))⟩,
  ⟨(some 9), none, (.load 1 false (.t 8))⟩,
  ⟨(some 10), none, (.load 2 true (.t 3))⟩,
  ⟨(some 11), none, (.faddr 4 (.t 2))⟩,
  ⟨(some 12), none, (.load 1 false (.t 11))⟩,
  ⟨(some 13), none, (.faddr 5 (.t 2))⟩,
  ⟨(some 14), none, (.load 1 false (.t 13))⟩,
  ⟨(some 15), none, (.faddr 6 (.t 2))⟩,
  ⟨(some 16), none, (.load 1 false (.t 15))⟩,
  ⟨(some 17), none, (.call 24 [(.t 7), (.t 9), (.t 10), (.t 12), (.t 14), (.t 16)])⟩,
  ⟨(some 18), none, (.ext 0 (.t 17))⟩,
  ⟨(some 19), none, (.ext 1 (.t 17))⟩,
  ⟨none, none, (.store 7 (.t 4) (.t 18))⟩,
  ⟨(some 5), none, (.mv (.t 19))⟩] none) .ret))
theorem good11 {args : List PV} {r : PV} (hl : args.length ≤ 20) (h : Run Tryd.prog [.code ac11] (endQ [(.c 4 7 true), (.t 5)] r) ⟨initT 0 args, [], 0, 20⟩) : Good Tryd.prog 11 args r :=
  good_run (by kernel_rfl) Xcmix Tryd.func11 rfl (hs := []) (hs' := []) (by kernel_rfl) hl h
def ac10 : ACode :=
 (.seq (.reg [⟨(some 0), none, (.mv (.c (.sc (.bool false))))⟩] none)
 (.seq (.reg [⟨(some 8), none, (.call 27 [])⟩,
  ⟨(some 9), none, (.build [(.sc (.int .i64 (0))), (.sc (.int .i64 (0)))] [(1, (1, (.c (.sc (.int .i64 (101))))))])⟩,
  ⟨(some 10), none, (.call 11 [(.t 8), (.t 9)])⟩,
  ⟨(some 7), none, (.mv (.t 10))⟩,
  ⟨(some 11), none, (.ext 0 (.t 7))⟩,
  ⟨(some 12), none, (.ext 1 (.t 7))⟩,
  ⟨(some 1), none, (.new [(.sc (.int .i64 (0))), (.sc (.int .i64 (0))), (.sc (.int .i64 (0))), (.sc (.int .i64 (0))), (.sc (.slice none 0 0)), (.sc (.slice none 0 0)), (.sc (.int .i64 (0)))])⟩,
  ⟨none, none, (.store 7 (.t 1) (.t 11))⟩,
  ⟨(some 2), none, (.mv (.t 12))⟩] none)
 (.seq (.reg [⟨(some 14), none, (.call 27 [])⟩,
  ⟨(some 15), none, (.build [(.sc (.int .i64 (0))), (.sc (.int .i64 (0)))] [(1, (1, (.c (.sc (.int .i64 (100))))))])⟩,
  ⟨(some 16), none, (.call 11 [(.t 14), (.t 15)])⟩,
  ⟨(some 13), none, (.mv (.t 16))⟩,
  ⟨(some 17), none, (.ext 0 (.t 13))⟩,
  ⟨(some 18), none, (.ext 1 (.t 13))⟩,
  ⟨(some 3), none, (.new [(.sc (.int .i64 (0))), (.sc (.int .i64 (0))), (.sc (.int .i64 (0))), (.sc (.int .i64 (0))), (.sc (.slice none 0 0)), (.sc (.slice none 0 0)), (.sc (.int .i64 (0)))])⟩,
  ⟨none, none, (.store 7 (.t 3) (.t 17))⟩,
  ⟨(some 4), none, (.mv (.t 18))⟩] none)
 (.seq (.reg [⟨(some 20), none, (.load 7 true (.t 1))⟩,
  ⟨(some 21), none, (.call 15 [(.t 20)])⟩,
  ⟨(some 19), none, (.mv (.t 21))⟩,
  ⟨(some 22), none, (.ext 0 (.t 19))⟩,
  ⟨(some 23), none, (.ext 1 (.t 19))⟩,
  ⟨(some 5), none, (.mv (.t 22))⟩,
  ⟨(some 6), none, (.mv (.t 23))⟩] none)
 (.seq (.seq (.reg [⟨(some 24), none, (.mv (.t 2))⟩,
  ⟨(some 25), none, (.bin .neq (.t 24) (.c (.sc (.int .i64 (0)))))⟩,
  ⟨(some 26), none, (.mv (.t 25))⟩,
  ⟨(some 27), (some (26, false)), (.mv (.t 4))⟩,
  ⟨(some 28), (some (26, false)), (.bin .neq (.t 27) (.c (.sc (.int .i64 (0)))))⟩,
  ⟨(some 29), none, (.pick (.t 26) (.c (.sc (.bool true))) (.t 28))⟩,
  ⟨(some 30), none, (.mv (.t 29))⟩,
  ⟨(some 31), (some (30, false)), (.mv (.t 6))⟩,
  ⟨(some 32), (some (30, false)), (.bin .neq (.t 31) (.c (.sc (.int .i64 (0)))))⟩,
  ⟨(some 33), none, (.pick (.t 30) (.c (.sc (.bool true))) (.t 32))⟩,
  ⟨(some 34), none, (.mv (.t 33))⟩,
  ⟨(some 35), (some (34, false)), (.faddr 6 (.t 1))⟩,
  ⟨(some 36), (some (34, false)), (.load 1 false (.t 35))⟩,
  ⟨(some 37), (some (34, false)), (.bin .neq (.t 36) (.c (.sc (.int .i64 (300)))))⟩,
  ⟨(some 38), none, (.pick (.t 34) (.c (.sc (.bool true))) (.t 37))⟩,
  ⟨(some 39), none, (.mv (.t 38))⟩,
  ⟨(some 40), (some (39, false)), (.faddr 4 (.t 1))⟩,
  ⟨(some 41), (some (39, false)), (.load 1 false (.t 40))⟩,
  ⟨(some 42), (some (39, false)), (.len (.t 41))⟩,
  ⟨(some 43), (some (39, false)), (.bin .neq (.t 42) (.c (.sc (.int .i64 (1)))))⟩,
  ⟨(some 44), none, (.pick (.t 39) (.c (.sc (.bool true))) (.t 43))⟩,
  ⟨(some 45), none, (.mv (.t 44))⟩,
  ⟨(some 46), (some (45, false)), (.faddr 5 (.t 1))⟩,
  ⟨(some 47), (some (45, false)), (.load 1 false (.t 46))⟩,
  ⟨(some 48), (some (45, false)), (.len (.t 47))⟩,
  ⟨(some 49), (some (45, false)), (.bin .neq (.t 48) (.c (.sc (.int .i64 (1)))))⟩,
  ⟨(some 50), none, (.pick (.t 45) (.c (.sc (.bool true))) (.t 49))⟩,
  ⟨(some 51), none, (.mv (.t 50))⟩,
  ⟨(some 52), (some (51, false)), (.faddr 6 (.t 3))⟩,
  ⟨(some 53), (some (51, false)), (.load 1 false (.t 52))⟩,
  ⟨(some 54), (some (51, false)), (.bin .neq (.t 53) (.c (.sc (.int .i64 (0)))))⟩,
  ⟨(some 55), none, (.pick (.t 51) (.c (.sc (.bool true))) (.t 54))⟩,
  ⟨(some 56), none, (.mv (.t 55))⟩,
  ⟨(some 57), (some (56, false)), (.faddr 4 (.t 3))⟩,
  ⟨(some 58), (some (56, false)), (.load 1 false (.t 57))⟩,
  ⟨(some 59), (some (56, false)), (.len (.t 58))⟩,
  ⟨(some 60), (some (56, false)), (.bin .neq (.t 59) (.c (.sc (.int .i64 (0)))))⟩,
  ⟨(some 61), none, (.pick (.t 56) (.c (.sc (.bool true))) (.t 60))⟩] none)
 (.cond (.t 61)
 (.seq (.reg [⟨(some 0), none, (.mv (.c (.sc (.bool false))))⟩] none) .ret) .skip))
 (.seq (.reg [⟨(some 62), none, (.mv (.t 5))⟩,
  ⟨(some 63), none, (.bslice 9 1 [(.c (.sc (.string ⟨#[105, 110, 118, 111, 105, 99, 101, 32, 57, 32, 114, 105, 100, 101, 114, 32, 49, 32, 102, 114, 111, 109, 32, 48, 32, 116, 111, 32, 49, 48, 49]⟩))), (.c (.sc (.string ⟨#[114, 105, 100, 101, 32, 55, 32, 116, 111, 116, 97, 108, 32, 51, 46, 53, 48]⟩))), (.c (.sc (.string ⟨#[105, 116, 101, 109, 32, 48, 32, 107, 105, 110, 100, 32, 49, 32, 114, 101, 102, 32, 48, 32, 97, 109, 111, 117, 110, 116, 32, 49, 46, 48, 48]⟩))), (.c (.sc (.string ⟨#[105, 116, 101, 109, 32, 49, 32, 107, 105, 110, 100, 32, 50, 32, 114, 101, 102, 32, 48, 32, 97, 109, 111, 117, 110, 116, 32, 50, 46, 53, 48]⟩))), (.c (.sc (.string ⟨#[114, 101, 102, 117, 110, 100, 32, 52, 32, 114, 105, 100, 101, 32, 55, 32, 105, 116, 101, 109, 32, 49, 32, 97, 109, 111, 117, 110, 116, 32, 48, 46, 53, 48]⟩))), (.c (.sc (.string ⟨#[116, 111, 116, 97, 108, 32, 51, 46, 48, 48]⟩)))])⟩,
  ⟨(some 64), none, (.call 19 [(.t 62), (.t 63)])⟩,
  ⟨(some 65), none, (.mv (.t 64))⟩,
  ⟨(some 66), (some (65, true)), (.load 7 true (.t 1))⟩,
  ⟨(some 67), (some (65, true)), (.call 17 [(.t 66)])⟩,
  ⟨(some 68), (some (65, true)), (.bin .eql (.t 67) (.c (.sc (.int .i64 (0)))))⟩,
  ⟨(some 69), none, (.pick (.t 65) (.t 68) (.c (.sc (.bool false))))⟩,
  ⟨(some 70), none, (.mv (.t 69))⟩,
  ⟨(some 71), (some (70, true)), (.build [(.sc (.int .i64 (0))), (.sc (.int .i64 (0))), (.sc (.int .i64 (0))), (.sc (.int .i64 (0))), (.sc (.slice none 0 0)), (.sc (.slice none 0 0)), (.sc (.int .i64 (0)))] [])⟩,
  ⟨(some 72), (some (70, true)), (.call 17 [(.t 71)])⟩,
  ⟨(some 73), (some (70, true)), (.bin .eql (.t 72) (.c (.sc (.int .i64 (1)))))⟩,
  ⟨(some 74), none, (.pick (.t 70) (.t 73) (.c (.sc (.bool false))))⟩,
  ⟨(some 0), none, (.mv (.t 74))⟩] none) .ret))))))
theorem good10 {args : List PV} {r : PV} (hl : args.length ≤ 75) (h : Run Tryd.prog [.code ac10] (endQ [(.t 0)] r) ⟨initT 0 args, [], 0, 75⟩) : Good Tryd.prog 10 args r :=
  good_run (by kernel_rfl) Xcmix Tryd.func10 rfl (hs := []) (hs' := []) (by kernel_rfl) hl h
def ac9 : ACode :=
 (.seq (.reg [⟨(some 1), none, (.boxv (.t 0))⟩,
  ⟨(some 2), none, (.mv (.c (.sc (.bool false))))⟩] none)
 (.seq (.reg [⟨(some 3), none, (.faddr 4 (.t 1))⟩,
  ⟨(some 4), none, (.load 1 false (.t 3))⟩,
  ⟨(some 5), none, (.call 26 [(.t 4), (.c (.sc (.int .i64 (40))))])⟩,
  ⟨(some 6), none, (.mv (.t 5))⟩,
  ⟨(some 7), (some (6, true)), (.faddr 5 (.t 1))⟩,
  ⟨(some 8), (some (6, true)), (.load 1 false (.t 7))⟩,
  ⟨(some 9), (some (6, true)), (.call 14 [(.t 8)])⟩,
  ⟨(some 10), none, (.pick (.t 6) (.t 9) (.c (.sc (.bool false))))⟩,
  ⟨(some 11), none, (.mv (.t 10))⟩,
  ⟨(some 12), (some (11, true)), (.faddr 6 (.t 1))⟩,
  ⟨(some 13), (some (11, true)), (.load 1 false (.t 12))⟩,
  ⟨(some 14), (some (11, true)), (.len (.t 13))⟩,
  ⟨(some 15), (some (11, true)), (.bin .leq (.t 14) (.c (.sc (.int .i64 (100)))))⟩,
  ⟨(some 16), none, (.pick (.t 11) (.t 15) (.c (.sc (.bool false))))⟩,
  ⟨(some 2), none, (.mv (.t 16))⟩] none) .ret))
theorem good9 {args : List PV} {r : PV} (hl : args.length ≤ 17) (h : Run Tryd.prog [.code ac9] (endQ [(.t 2)] r) ⟨initT 0 args, [], 0, 17⟩) : Good Tryd.prog 9 args r :=
  good_run (by kernel_rfl) Xcmix Tryd.func9 rfl (hs := []) (hs' := []) (by kernel_rfl) hl h
def ac22 : ACode :=
 (.seq (.reg [⟨(some 2), none, (.mv (.c (.sc (.bool false))))⟩] none)
 (.seq (.seq (.reg [⟨(some 3), none, (.mv (.c (.sc (.int .i64 (0)))))⟩] none) (.block 0 
 (.loop ⟨[0, 3], []⟩
 (.seq (.seq (.reg [⟨(some 7), none, (.mv (.t 3))⟩,
  ⟨(some 8), none, (.mv (.t 0))⟩,
  ⟨(some 9), none, (.len (.t 8))⟩,
  ⟨(some 10), none, (.bin .lss (.t 7) (.t 9))⟩] none)
 (.cond (.t 10) .skip (.exit 0)))
 (.seq (.block 1
 (.seq (.reg [⟨(some 14), none, (.mv (.t 0))⟩,
  ⟨(some 15), none, (.mv (.t 3))⟩,
  ⟨(some 16), none, (.iaddr 4 (.t 14) (.t 15))⟩,
  ⟨(some 17), none, (.faddr 2 (.t 16))⟩,
  ⟨(some 18), none, (.load 1 false (.t 17))⟩,
  ⟨(some 19), none, (.call 39 [(.t 18)])⟩,
  ⟨(some 13), none, (.mv (.t 19))⟩,
  ⟨(some 20), none, (.ext 0 (.t 13))⟩,
  ⟨(some 21), none, (.ext 1 (.t 13))⟩,
  ⟨(some 4), none, (.mv (.t 20))⟩,
  ⟨(some 5), none, (.mv (.t 21))⟩] none)
 (.seq (.seq (.reg [⟨(some 22), none, (.mv (.t 5))⟩,
  ⟨(some 23), none, (.bin .neq (.t 22) (.c (.sc (.int .i64 (0)))))⟩,
  ⟨(some 24), none, (.mv (.t 23))⟩,
  ⟨(some 25), (some (24, false)), (.mv (.t 4))⟩,
  ⟨(some 26), (some (24, false)), (.mv (.t 0))⟩,
  ⟨(some 27), (some (24, false)), (.mv (.t 3))⟩,
  ⟨(some 28), (some (24, false)), (.iaddr 4 (.t 26) (.t 27))⟩,
  ⟨(some 29), (some (24, false)), (.faddr 3 (.t 28))⟩,
  ⟨(some 30), (some (24, false)), (.load 1 false (.t 29))⟩,
  ⟨(some 31), (some (24, false)), (.bin .neq (.t 25) (.t 30))⟩,
  ⟨(some 32), none, (.pick (.t 24) (.c (.sc (.bool true))) (.t 31))⟩] none)
 (.cond (.t 32)
 (.seq (.reg [⟨(some 2), none, (.mv (.c (.sc (.bool false))))⟩] none) .ret) .skip))
 (.seq (.reg [⟨(some 6), none, (.mv (.c (.sc (.int .i64 (0)))))⟩] none) (.block 2 
 (.loop ⟨[0, 3, 6], []⟩
 (.seq (.seq (.reg [⟨(some 33), none, (.mv (.t 6))⟩,
  ⟨(some 34), none, (.mv (.t 3))⟩,
  ⟨(some 35), none, (.bin .lss (.t 33) (.t 34))⟩] none)
 (.cond (.t 35) .skip (.exit 2)))
 (.seq (.block 3
 (.seq (.reg [⟨(some 38), none, (.mv (.t 0))⟩,
  ⟨(some 39), none, (.mv (.t 3))⟩,
  ⟨(some 40), none, (.iaddr 4 (.t 38) (.t 39))⟩,
  ⟨(some 41), none, (.faddr 0 (.t 40))⟩,
  ⟨(some 42), none, (.load 1 false (.t 41))⟩,
  ⟨(some 43), none, (.mv (.t 0))⟩,
  ⟨(some 44), none, (.mv (.t 6))⟩,
  ⟨(some 45), none, (.iaddr 4 (.t 43) (.t 44))⟩,
  ⟨(some 46), none, (.faddr 0 (.t 45))⟩,
  ⟨(some 47), none, (.load 1 false (.t 46))⟩,
  ⟨(some 48), none, (.bin .eql (.t 42) (.t 47))⟩] (some [[], [], [0, 1], [2, 0, 1], [3, 2, 0, 1], [], [], [5, 6], [7, 5, 6], [8, 7, 5, 6], [4, 9, 3, 2, 0, 1, 8, 7, 5, 6]]))
 (.cond (.t 48)
 (.seq (.reg [⟨(some 2), none, (.mv (.c (.sc (.bool false))))⟩] none) .ret) .skip))) (.reg [⟨(some 36), none, (.mv (.t 6))⟩,
  ⟨(some 37), none, (.bin .add (.t 36) (.c (.sc (.int .i64 (1)))))⟩,
  ⟨(some 6), none, (.mv (.t 37))⟩] none))))))))) (.reg [⟨(some 11), none, (.mv (.t 3))⟩,
  ⟨(some 12), none, (.bin .add (.t 11) (.c (.sc (.int .i64 (1)))))⟩,
  ⟨(some 3), none, (.mv (.t 12))⟩] none))))))
 (.seq (.reg [⟨(some 2), none, (.mv (.c (.sc (.bool true))))⟩] none) .ret)))
theorem good22 {args : List PV} {r : PV} (hl : args.length ≤ 49) (h : Run Tryd.prog [.code ac22] (endQ [(.t 2)] r) ⟨initT 0 args, [], 0, 49⟩) : Good Tryd.prog 22 args r :=
  good_run (by kernel_rfl) Xcmix Tryd.func22 rfl (hs := [⟨[0, 3], []⟩, ⟨[0, 3, 6], []⟩]) (hs' := []) (by kernel_rfl) hl h
def ac3 : ACode :=
 (.seq (.reg [⟨(some 1), none, (.boxv (.t 0))⟩,
  ⟨(some 2), none, (.mv (.c (.sc (.bool false))))⟩] none)
 (.seq (.seq (.reg [⟨(some 7), none, (.load 7 true (.t 1))⟩,
  ⟨(some 8), none, (.call 9 [(.t 7)])⟩,
  ⟨(some 9), none, (.un .not (.t 8))⟩] none)
 (.cond (.t 9)
 (.seq (.reg [⟨(some 10), none, (.call 10 [])⟩,
  ⟨(some 2), none, (.mv (.t 10))⟩] none) .ret) .skip))
 (.seq (.reg [⟨(some 12), none, (.load 7 true (.t 1))⟩,
  ⟨(some 13), none, (.faddr 2 (.t 1))⟩,
  ⟨(some 14), none, (.load 2 true (.t 13))⟩,
  ⟨(some 15), none, (.call 11 [(.t 12), (.t 14)])⟩,
  ⟨(some 11), none, (.mv (.t 15))⟩,
  ⟨(some 16), none, (.ext 0 (.t 11))⟩,
  ⟨(some 17), none, (.ext 1 (.t 11))⟩,
  ⟨(some 3), none, (.new [(.sc (.int .i64 (0))), (.sc (.int .i64 (0))), (.sc (.int .i64 (0))), (.sc (.int .i64 (0))), (.sc (.slice none 0 0)), (.sc (.slice none 0 0)), (.sc (.int .i64 (0)))])⟩,
  ⟨none, none, (.store 7 (.t 3) (.t 16))⟩,
  ⟨(some 4), none, (.mv (.t 17))⟩] none)
 (.seq (.reg [⟨(some 19), none, (.faddr 0 (.t 1))⟩,
  ⟨(some 20), none, (.load 1 false (.t 19))⟩,
  ⟨(some 21), none, (.faddr 1 (.t 1))⟩,
  ⟨(some 22), none, (.load 1 false (.t 21))⟩,
  ⟨(some 23), none, (.faddr 2 (.t 1))⟩,
  ⟨(some 24), none, (.load 2 true (.t 23))⟩,
  ⟨(some 25), none, (.faddr 4 (.t 1))⟩,
  ⟨(some 26), none, (.load 1 false (.t 25))⟩,
  ⟨(some 27), none, (.faddr 5 (.t 1))⟩,
  ⟨(some 28), none, (.load 1 false (.t 27))⟩,
  ⟨(some 29), none, (.faddr 6 (.t 1))⟩,
  ⟨(some 30), none, (.load 1 false (.t 29))⟩,
  ⟨(some 31), none, (.call 12 [(.t 20), (.t 22), (.t 24), (.t 26), (.t 28), (.t 30)])⟩,
  ⟨(some 18), none, (.mv (.t 31))⟩,
  ⟨(some 32), none, (.ext 0 (.t 18))⟩,
  ⟨(some 33), none, (.ext 1 (.t 18))⟩,
  ⟨(some 5), none, (.new [(.sc (.int .i64 (0))), (.sc (.int .i64 (0))), (.sc (.int .i64 (0))), (.sc (.int .i64 (0))), (.sc (.slice none 0 0)), (.sc (.slice none 0 0)), (.sc (.int .i64 (0)))])⟩,
  ⟨none, none, (.store 7 (.t 5) (.t 32))⟩,
  ⟨(some 6), none, (.mv (.t 33))⟩] none)
 (.seq (.reg [⟨(some 34), none, (.load 7 true (.t 3))⟩,
  ⟨(some 35), none, (.load 7 true (.t 5))⟩,
  ⟨(some 36), none, (.call 13 [(.t 34), (.t 35)])⟩,
  ⟨(some 37), none, (.mv (.t 36))⟩,
  ⟨(some 38), (some (37, true)), (.mv (.t 4))⟩,
  ⟨(some 39), (some (37, true)), (.mv (.t 6))⟩,
  ⟨(some 40), (some (37, true)), (.bin .eql (.t 38) (.t 39))⟩,
  ⟨(some 41), none, (.pick (.t 37) (.t 40) (.c (.sc (.bool false))))⟩,
  ⟨(some 42), none, (.mv (.t 41))⟩,
  ⟨(some 43), (some (42, true)), (.call 10 [])⟩,
  ⟨(some 44), none, (.pick (.t 42) (.t 43) (.c (.sc (.bool false))))⟩,
  ⟨(some 2), none, (.mv (.t 44))⟩] none) .ret)))))
theorem good3 {args : List PV} {r : PV} (hl : args.length ≤ 45) (h : Run Tryd.prog [.code ac3] (endQ [(.t 2)] r) ⟨initT 0 args, [], 0, 45⟩) : Good Tryd.prog 3 args r :=
  good_run (by kernel_rfl) Xcmix Tryd.func3 rfl (hs := []) (hs' := []) (by kernel_rfl) hl h
def ac4 : ACode :=
 (.seq (.reg [⟨(some 1), none, (.boxv (.t 0))⟩,
  ⟨(some 2), none, (.mv (.c (.sc (.bool false))))⟩] none)
 (.seq (.seq (.reg [⟨(some 7), none, (.faddr 4 (.t 1))⟩,
  ⟨(some 8), none, (.load 1 false (.t 7))⟩,
  ⟨(some 9), none, (.call 14 [(.t 8)])⟩,
  ⟨(some 10), none, (.un .not (.t 9))⟩,
  ⟨(some 11), none, (.mv (.t 10))⟩,
  ⟨(some 12), (some (11, false)), (.faddr 5 (.t 1))⟩,
  ⟨(some 13), (some (11, false)), (.load 1 false (.t 12))⟩,
  ⟨(some 14), (some (11, false)), (.len (.t 13))⟩,
  ⟨(some 15), (some (11, false)), (.bin .gtr (.t 14) (.c (.sc (.int .i64 (100)))))⟩,
  ⟨(some 16), none, (.pick (.t 11) (.c (.sc (.bool true))) (.t 15))⟩] none)
 (.cond (.t 16)
 (.seq (.reg [⟨(some 17), none, (.call 10 [])⟩,
  ⟨(some 2), none, (.mv (.t 17))⟩] none) .ret) .skip))
 (.seq (.reg [⟨(some 19), none, (.load 7 true (.t 1))⟩,
  ⟨(some 20), none, (.call 15 [(.t 19)])⟩,
  ⟨(some 18), none, (.mv (.t 20))⟩,
  ⟨(some 21), none, (.ext 0 (.t 18))⟩,
  ⟨(some 22), none, (.ext 1 (.t 18))⟩,
  ⟨(some 3), none, (.mv (.t 21))⟩,
  ⟨(some 4), none, (.mv (.t 22))⟩] none)
 (.seq (.reg [⟨(some 24), none, (.load 7 true (.t 1))⟩,
  ⟨(some 25), none, (.call 16 [(.t 24)])⟩,
  ⟨(some 23), none, (.mv (.t 25))⟩,
  ⟨(some 26), none, (.ext 0 (.t 23))⟩,
  ⟨(some 27), none, (.ext 1 (.t 23))⟩,
  ⟨(some 5), none, (.mv (.t 26))⟩,
  ⟨(some 6), none, (.mv (.t 27))⟩] none)
 (.seq (.reg [⟨(some 28), none, (.load 7 true (.t 1))⟩,
  ⟨(some 29), none, (.call 17 [(.t 28)])⟩,
  ⟨(some 30), none, (.load 7 true (.t 1))⟩,
  ⟨(some 31), none, (.call 18 [(.t 30)])⟩,
  ⟨(some 32), none, (.bin .eql (.t 29) (.t 31))⟩,
  ⟨(some 33), none, (.mv (.t 32))⟩,
  ⟨(some 34), (some (33, true)), (.mv (.t 3))⟩,
  ⟨(some 35), (some (33, true)), (.mv (.t 5))⟩,
  ⟨(some 36), (some (33, true)), (.call 19 [(.t 34), (.t 35)])⟩,
  ⟨(some 37), none, (.pick (.t 33) (.t 36) (.c (.sc (.bool false))))⟩,
  ⟨(some 38), none, (.mv (.t 37))⟩,
  ⟨(some 39), (some (38, true)), (.mv (.t 4))⟩,
  ⟨(some 40), (some (38, true)), (.mv (.t 6))⟩,
  ⟨(some 41), (some (38, true)), (.bin .eql (.t 39) (.t 40))⟩,
  ⟨(some 42), none, (.pick (.t 38) (.t 41) (.c (.sc (.bool false))))⟩,
  ⟨(some 43), none, (.mv (.t 42))⟩,
  ⟨(some 44), (some (43, true)), (.call 10 [])⟩,
  ⟨(some 45), none, (.pick (.t 43) (.t 44) (.c (.sc (.bool false))))⟩,
  ⟨(some 2), none, (.mv (.t 45))⟩] (some [[], [0], [], [2, 1, 0], [1, 3, 0, 2], [4, 3, 1, 0, 2], [5, 4, 3, 1, 0, 2], [5, 4, 3, 1, 0, 2], [6, 7, 5, 4, 3, 1, 0, 2], [5, 8, 4, 3, 1, 0, 2, 6, 7], [9, 8, 5, 4, 3, 1, 0, 2, 6, 7], [10, 9, 8, 5, 4, 3, 1, 0, 2, 6, 7], [10, 9, 8, 5, 4, 3, 1, 0, 2, 6, 7], [11, 12, 10, 9, 8, 5, 4, 3, 1, 0, 2, 6, 7], [10, 13, 9, 8, 5, 4, 3, 1, 0, 2, 6, 7, 11, 12], [14, 10, 13, 9, 8, 5, 4, 3, 1, 0, 2, 6, 7, 11, 12], [15, 14, 10, 13, 9, 8, 5, 4, 3, 1, 0, 2, 6, 7, 11, 12], [15, 16, 14, 10, 13, 9, 8, 5, 4, 3, 1, 0, 2, 6, 7, 11, 12], [17, 16, 0, 1, 2, 3, 4, 5, 6, 7, 8, 9, 10, 11, 12, 13, 14, 15]])) .ret)))))
theorem good4 {args : List PV} {r : PV} (hl : args.length ≤ 46) (h : Run Tryd.prog [.code ac4] (endQ [(.t 2)] r) ⟨initT 0 args, [], 0, 46⟩) : Good Tryd.prog 4 args r :=
  good_run (by kernel_rfl) Xcmix Tryd.func4 rfl (hs := []) (hs' := []) (by kernel_rfl) hl h
def ac5 : ACode :=
 (.seq (.reg [⟨(some 2), none, (.boxv (.t 0))⟩,
  ⟨(some 4), none, (.mv (.c (.sc (.bool false))))⟩] none)
 (.seq (.seq (.reg [⟨(some 16), none, (.load 7 true (.t 2))⟩,
  ⟨(some 17), none, (.call 9 [(.t 16)])⟩,
  ⟨(some 18), none, (.un .not (.t 17))⟩,
  ⟨(some 19), none, (.mv (.t 18))⟩,
  ⟨(some 20), (some (19, false)), (.mv (.t 1))⟩,
  ⟨(some 21), (some (19, false)), (.faddr 2 (.t 2))⟩,
  ⟨(some 22), (some (19, false)), (.faddr 0 (.t 21))⟩,
  ⟨(some 23), (some (19, false)), (.load 1 false (.t 22))⟩,
  ⟨(some 24), (some (19, false)), (.bin .lss (.t 20) (.t 23))⟩,
  ⟨(some 25), none, (.pick (.t 19) (.c (.sc (.bool true))) (.t 24))⟩,
  ⟨(some 26), none, (.mv (.t 25))⟩,
  ⟨(some 27), (some (26, false)), (.mv (.t 1))⟩,
  ⟨(some 28), (some (26, false)), (.faddr 2 (.t 2))⟩,
  ⟨(some 29), (some (26, false)), (.faddr 1 (.t 28))⟩,
  ⟨(some 30), (some (26, false)), (.load 1 false (.t 29))⟩,
  ⟨(some 31), (some (26, false)), (.bin .gtr (.t 27) (.t 30))⟩,
  ⟨(some 32), none, (.pick (.t 26) (.c (.sc (.bool true))) (.t 31))⟩] none)
 (.cond (.t 32)
 (.seq (.reg [⟨(some 33), none, (.call 10 [])⟩,
  ⟨(some 4), none, (.mv (.t 33))⟩] none) .ret) .skip))
 (.seq (.reg [⟨(some 35), none, (.load 7 true (.t 2))⟩,
  ⟨(some 36), none, (.faddr 2 (.t 2))⟩,
  ⟨(some 37), none, (.load 2 true (.t 36))⟩,
  ⟨(some 38), none, (.call 11 [(.t 35), (.t 37)])⟩,
  ⟨(some 34), none, (.mv (.t 38))⟩,
  ⟨(some 39), none, (.ext 0 (.t 34))⟩,
  ⟨(some 40), none, (.ext 1 (.t 34))⟩,
  ⟨(some 5), none, (.new [(.sc (.int .i64 (0))), (.sc (.int .i64 (0))), (.sc (.int .i64 (0))), (.sc (.int .i64 (0))), (.sc (.slice none 0 0)), (.sc (.slice none 0 0)), (.sc (.int .i64 (0)))])⟩,
  ⟨none, none, (.store 7 (.t 5) (.t 39))⟩,
  ⟨(some 6), none, (.mv (.t 40))⟩] none)
 (.seq (.reg [⟨(some 42), none, (.load 7 true (.t 2))⟩,
  ⟨(some 43), none, (.faddr 2 (.t 2))⟩,
  ⟨(some 44), none, (.faddr 0 (.t 43))⟩,
  ⟨(some 45), none, (.load 1 false (.t 44))⟩,
  ⟨(some 46), none, (.mv (.t 1))⟩,
  ⟨(some 47), none, (.build [(.sc (.int .i64 (0))), (.sc (.int .i64 (0)))] [(0, (1, (.t 45))), (1, (1, (.t 46)))])⟩,
  ⟨(some 48), none, (.call 11 [(.t 42), (.t 47)])⟩,
  ⟨(some 41), none, (.mv (.t 48))⟩,
  ⟨(some 49), none, (.ext 0 (.t 41))⟩,
  ⟨(some 50), none, (.ext 1 (.t 41))⟩,
  ⟨(some 7), none, (.new [(.sc (.int .i64 (0))), (.sc (.int .i64 (0))), (.sc (.int .i64 (0))), (.sc (.int .i64 (0))), (.sc (.slice none 0 0)), (.sc (.slice none 0 0)), (.sc (.int .i64 (0)))])⟩,
  ⟨none, none, (.store 7 (.t 7) (.t 49))⟩,
  ⟨(some 8), none, (.mv (.t 50))⟩] none)
 (.seq (.reg [⟨(some 52), none, (.load 7 true (.t 2))⟩,
  ⟨(some 53), none, (.mv (.t 1))⟩,
  ⟨(some 54), none, (.faddr 2 (.t 2))⟩,
  ⟨(some 55), none, (.faddr 1 (.t 54))⟩,
  ⟨(some 56), none, (.load 1 false (.t 55))⟩,
  ⟨(some 57), none, (.build [(.sc (.int .i64 (0))), (.sc (.int .i64 (0)))] [(0, (1, (.t 53))), (1, (1, (.t 56)))])⟩,
  ⟨(some 58), none, (.call 11 [(.t 52), (.t 57)])⟩,
  ⟨(some 51), none, (.mv (.t 58))⟩,
  ⟨(some 59), none, (.ext 0 (.t 51))⟩,
  ⟨(some 60), none, (.ext 1 (.t 51))⟩,
  ⟨(some 9), none, (.new [(.sc (.int .i64 (0))), (.sc (.int .i64 (0))), (.sc (.int .i64 (0))), (.sc (.int .i64 (0))), (.sc (.slice none 0 0)), (.sc (.slice none 0 0)), (.sc (.int .i64 (0)))])⟩,
  ⟨none, none, (.store 7 (.t 9) (.t 59))⟩,
  ⟨(some 10), none, (.mv (.t 60))⟩] none)
 (.seq (.seq (.reg [⟨(some 61), none, (.mv (.t 6))⟩,
  ⟨(some 62), none, (.bin .neq (.t 61) (.c (.sc (.int .i64 (0)))))⟩] none)
 (.cond (.t 62)
 (.seq (.reg [⟨(some 63), none, (.mv (.t 8))⟩,
  ⟨(some 64), none, (.bin .neq (.t 63) (.c (.sc (.int .i64 (0)))))⟩,
  ⟨(some 65), none, (.mv (.t 64))⟩,
  ⟨(some 66), (some (65, false)), (.mv (.t 10))⟩,
  ⟨(some 67), (some (65, false)), (.bin .neq (.t 66) (.c (.sc (.int .i64 (0)))))⟩,
  ⟨(some 68), none, (.pick (.t 65) (.c (.sc (.bool true))) (.t 67))⟩,
  ⟨(some 69), none, (.mv (.t 68))⟩,
  ⟨(some 70), (some (69, true)), (.faddr 4 (.t 5))⟩,
  ⟨(some 71), (some (69, true)), (.load 1 false (.t 70))⟩,
  ⟨(some 72), (some (69, true)), (.len (.t 71))⟩,
  ⟨(some 73), (some (69, true)), (.bin .eql (.t 72) (.c (.sc (.int .i64 (0)))))⟩,
  ⟨(some 74), none, (.pick (.t 69) (.t 73) (.c (.sc (.bool false))))⟩,
  ⟨(some 75), none, (.mv (.t 74))⟩,
  ⟨(some 76), (some (75, true)), (.call 10 [])⟩,
  ⟨(some 77), none, (.pick (.t 75) (.t 76) (.c (.sc (.bool false))))⟩,
  ⟨(some 4), none, (.mv (.t 77))⟩] none) .ret) .skip))
 (.seq (.seq (.reg [⟨(some 78), none, (.mv (.t 8))⟩,
  ⟨(some 79), none, (.bin .neq (.t 78) (.c (.sc (.int .i64 (0)))))⟩,
  ⟨(some 80), none, (.mv (.t 79))⟩,
  ⟨(some 81), (some (80, false)), (.mv (.t 10))⟩,
  ⟨(some 82), (some (80, false)), (.bin .neq (.t 81) (.c (.sc (.int .i64 (0)))))⟩,
  ⟨(some 83), none, (.pick (.t 80) (.c (.sc (.bool true))) (.t 82))⟩,
  ⟨(some 84), none, (.mv (.t 83))⟩,
  ⟨(some 85), (some (84, false)), (.faddr 6 (.t 7))⟩,
  ⟨(some 86), (some (84, false)), (.load 1 false (.t 85))⟩,
  ⟨(some 87), (some (84, false)), (.faddr 6 (.t 9))⟩,
  ⟨(some 88), (some (84, false)), (.load 1 false (.t 87))⟩,
  ⟨(some 89), (some (84, false)), (.bin .add (.t 86) (.t 88))⟩,
  ⟨(some 90), (some (84, false)), (.faddr 6 (.t 5))⟩,
  ⟨(some 91), (some (84, false)), (.load 1 false (.t 90))⟩,
  ⟨(some 92), (some (84, false)), (.bin .neq (.t 89) (.t 91))⟩,
  ⟨(some 93), none, (.pick (.t 84) (.c (.sc (.bool true))) (.t 92))⟩,
  ⟨(some 94), none, (.mv (.t 93))⟩,
  ⟨(some 95), (some (94, false)), (.faddr 4 (.t 7))⟩,
  ⟨(some 96), (some (94, false)), (.load 1 false (.t 95))⟩,
  ⟨(some 97), (some (94, false)), (.len (.t 96))⟩,
  ⟨(some 98), (some (94, false)), (.faddr 4 (.t 9))⟩,
  ⟨(some 99), (some (94, false)), (.load 1 false (.t 98))⟩,
  ⟨(some 100), (some (94, false)), (.len (.t 99))⟩,
  ⟨(some 101), (some (94, false)), (.bin .add (.t 97) (.t 100))⟩,
  ⟨(some 102), (some (94, false)), (.faddr 4 (.t 5))⟩,
  ⟨(some 103), (some (94, false)), (.load 1 false (.t 102))⟩,
  ⟨(some 104), (some (94, false)), (.len (.t 103))⟩,
  ⟨(some 105), (some (94, false)), (.bin .neq (.t 101) (.t 104))⟩,
  ⟨(some 106), none, (.pick (.t 94) (.c (.sc (.bool true))) (.t 105))⟩,
  ⟨(some 107), none, (.mv (.t 106))⟩,
  ⟨(some 108), (some (107, false)), (.faddr 5 (.t 7))⟩,
  ⟨(some 109), (some (107, false)), (.load 1 false (.t 108))⟩,
  ⟨(some 110), (some (107, false)), (.len (.t 109))⟩,
  ⟨(some 111), (some (107, false)), (.faddr 5 (.t 5))⟩,
  ⟨(some 112), (some (107, false)), (.load 1 false (.t 111))⟩,
  ⟨(some 113), (some (107, false)), (.len (.t 112))⟩,
  ⟨(some 114), (some (107, false)), (.bin .gtr (.t 110) (.t 113))⟩,
  ⟨(some 115), none, (.pick (.t 107) (.c (.sc (.bool true))) (.t 114))⟩] none)
 (.cond (.t 115)
 (.seq (.reg [⟨(some 4), none, (.mv (.c (.sc (.bool false))))⟩] none) .ret) .skip))
 (.seq (.reg [⟨(some 11), none, (.mv (.c (.sc (.int .i64 (0)))))⟩,
  ⟨(some 12), none, (.mv (.c (.sc (.int .i64 (0)))))⟩] none)
 (.seq (.seq (.reg [⟨(some 13), none, (.mv (.c (.sc (.int .i64 (0)))))⟩] none) (.block 0 
 (.loop ⟨[1, 2, 5, 7, 9, 11, 12, 13], []⟩
 (.seq (.seq (.reg [⟨(some 116), none, (.mv (.t 13))⟩,
  ⟨(some 117), none, (.faddr 4 (.t 5))⟩,
  ⟨(some 118), none, (.load 1 false (.t 117))⟩,
  ⟨(some 119), none, (.len (.t 118))⟩,
  ⟨(some 120), none, (.bin .lss (.t 116) (.t 119))⟩] none)
 (.cond (.t 120) .skip (.exit 0)))
 (.seq (.block 1
 (.seq (.reg [⟨(some 124), none, (.faddr 4 (.t 2))⟩,
  ⟨(some 125), none, (.load 1 false (.t 124))⟩,
  ⟨(some 126), none, (.faddr 4 (.t 5))⟩,
  ⟨(some 127), none, (.load 1 false (.t 126))⟩,
  ⟨(some 128), none, (.mv (.t 13))⟩,
  ⟨(some 129), none, (.iaddr 4 (.t 127) (.t 128))⟩,
  ⟨(some 130), none, (.faddr 0 (.t 129))⟩,
  ⟨(some 131), none, (.load 1 false (.t 130))⟩,
  ⟨(some 132), none, (.call 20 [(.t 125), (.t 131)])⟩,
  ⟨(some 123), none, (.mv (.t 132))⟩,
  ⟨(some 133), none, (.ext 0 (.t 123))⟩,
  ⟨(some 134), none, (.ext 1 (.t 123))⟩,
  ⟨(some 14), none, (.new [(.sc (.int .i64 (0))), (.sc (.int .i64 (0))), (.sc (.int .i64 (0))), (.sc (.int .i64 (0))), (.sc (.int .i64 (0))), (.sc (.int .i64 (0))), (.sc (.bool false)), (.sc (.slice none 0 0)), (.sc (.slice none 0 0)), (.sc (.int .i64 (0))), (.sc (.int .i64 (0))), (.sc (.int .i64 (0))), (.sc (.int .i64 (0)))])⟩,
  ⟨none, none, (.store 13 (.t 14) (.t 133))⟩,
  ⟨(some 15), none, (.mv (.t 134))⟩] (some [[], [0], [], [2], [], [3, 4, 2], [5, 3, 4, 2], [6, 5, 3, 4, 2], [1, 7, 0, 6, 5, 3, 4, 2], [8, 1, 7, 0, 6, 5, 3, 4, 2], [9, 8, 1, 7, 0, 6, 5, 3, 4, 2], [9, 8, 1, 7, 0, 6, 5, 3, 4, 2], [], [12, 10, 8, 0, 1, 2, 3, 4, 5, 6, 7, 9], [11, 13, 0, 1, 2, 3, 4, 5, 6, 7, 8, 9, 10, 12]]))
 (.seq (.reg [⟨(some 135), none, (.faddr 2 (.t 14))⟩,
  ⟨(some 136), none, (.faddr 0 (.t 135))⟩,
  ⟨(some 137), none, (.load 1 false (.t 136))⟩,
  ⟨(some 138), none, (.mv (.t 1))⟩,
  ⟨(some 139), none, (.bin .lss (.t 137) (.t 138))⟩] none)
 (.cond (.t 139)
 (.seq (.seq (.reg [⟨(some 140), none, (.mv (.t 11))⟩,
  ⟨(some 141), none, (.faddr 4 (.t 7))⟩,
  ⟨(some 142), none, (.load 1 false (.t 141))⟩,
  ⟨(some 143), none, (.len (.t 142))⟩,
  ⟨(some 144), none, (.bin .geq (.t 140) (.t 143))⟩,
  ⟨(some 145), none, (.mv (.t 144))⟩,
  ⟨(some 146), (some (145, false)), (.faddr 4 (.t 7))⟩,
  ⟨(some 147), (some (145, false)), (.load 1 false (.t 146))⟩,
  ⟨(some 148), (some (145, false)), (.mv (.t 11))⟩,
  ⟨(some 149), (some (145, false)), (.mv (.t 11))⟩,
  ⟨(some 150), (some (145, false)), (.bin .add (.t 149) (.c (.sc (.int .i64 (1)))))⟩,
  ⟨(some 151), (some (145, false)), (.slice 4 (.t 147) (some (.t 148)) (some (.t 150)) none)⟩,
  ⟨(some 152), (some (145, false)), (.faddr 4 (.t 5))⟩,
  ⟨(some 153), (some (145, false)), (.load 1 false (.t 152))⟩,
  ⟨(some 154), (some (145, false)), (.mv (.t 13))⟩,
  ⟨(some 155), (some (145, false)), (.mv (.t 13))⟩,
  ⟨(some 156), (some (145, false)), (.bin .add (.t 155) (.c (.sc (.int .i64 (1)))))⟩,
  ⟨(some 157), (some (145, false)), (.slice 4 (.t 153) (some (.t 154)) (some (.t 156)) none)⟩,
  ⟨(some 158), (some (145, false)), (.call 21 [(.t 151), (.t 157)])⟩,
  ⟨(some 159), (some (145, false)), (.un .not (.t 158))⟩,
  ⟨(some 160), none, (.pick (.t 145) (.c (.sc (.bool true))) (.t 159))⟩] (some [[], [], [1], [2, 1], [0, 3, 2, 1], [4, 0, 3, 2, 1], [5, 4, 0, 3, 2, 1], [6, 5, 4, 0, 3, 2, 1], [5, 4, 0, 3, 2, 1], [5, 4, 0, 3, 2, 1], [9, 5, 4, 0, 3, 2, 1], [7, 8, 10, 5, 6, 4, 0, 3, 2, 1, 9], [5, 4, 0, 3, 2, 1], [12, 5, 4, 0, 3, 2, 1], [5, 4, 0, 3, 2, 1], [5, 4, 0, 3, 2, 1], [15, 5, 4, 0, 3, 2, 1], [13, 14, 16, 5, 12, 4, 0, 3, 2, 1, 15], [11, 17, 5, 7, 8, 10, 6, 4, 0, 3, 2, 1, 9, 13, 14, 16, 12, 15], [18, 5, 11, 17, 7, 8, 10, 6, 4, 0, 3, 2, 1, 9, 13, 14, 16, 12, 15], [5, 19, 4, 0, 3, 2, 1, 18, 11, 17, 7, 8, 10, 6, 9, 13, 14, 16, 12, 15]]))
 (.cond (.t 160)
 (.seq (.reg [⟨(some 4), none, (.mv (.c (.sc (.bool false))))⟩] none) .ret) .skip)) (.reg [⟨(some 161), none, (.mv (.t 11))⟩,
  ⟨(some 162), none, (.bin .add (.t 161) (.c (.sc (.int .i64 (1)))))⟩,
  ⟨(some 11), none, (.mv (.t 162))⟩] none))
 (.seq (.seq (.reg [⟨(some 163), none, (.mv (.t 12))⟩,
  ⟨(some 164), none, (.faddr 4 (.t 9))⟩,
  ⟨(some 165), none, (.load 1 false (.t 164))⟩,
  ⟨(some 166), none, (.len (.t 165))⟩,
  ⟨(some 167), none, (.bin .geq (.t 163) (.t 166))⟩,
  ⟨(some 168), none, (.mv (.t 167))⟩,
  ⟨(some 169), (some (168, false)), (.faddr 4 (.t 9))⟩,
  ⟨(some 170), (some (168, false)), (.load 1 false (.t 169))⟩,
  ⟨(some 171), (some (168, false)), (.mv (.t 12))⟩,
  ⟨(some 172), (some (168, false)), (.mv (.t 12))⟩,
  ⟨(some 173), (some (168, false)), (.bin .add (.t 172) (.c (.sc (.int .i64 (1)))))⟩,
  ⟨(some 174), (some (168, false)), (.slice 4 (.t 170) (some (.t 171)) (some (.t 173)) none)⟩,
  ⟨(some 175), (some (168, false)), (.faddr 4 (.t 5))⟩,
  ⟨(some 176), (some (168, false)), (.load 1 false (.t 175))⟩,
  ⟨(some 177), (some (168, false)), (.mv (.t 13))⟩,
  ⟨(some 178), (some (168, false)), (.mv (.t 13))⟩,
  ⟨(some 179), (some (168, false)), (.bin .add (.t 178) (.c (.sc (.int .i64 (1)))))⟩,
  ⟨(some 180), (some (168, false)), (.slice 4 (.t 176) (some (.t 177)) (some (.t 179)) none)⟩,
  ⟨(some 181), (some (168, false)), (.call 21 [(.t 174), (.t 180)])⟩,
  ⟨(some 182), (some (168, false)), (.un .not (.t 181))⟩,
  ⟨(some 183), none, (.pick (.t 168) (.c (.sc (.bool true))) (.t 182))⟩] (some [[], [], [1], [2, 1], [0, 3, 2, 1], [4, 0, 3, 2, 1], [5, 4, 0, 3, 2, 1], [6, 5, 4, 0, 3, 2, 1], [5, 4, 0, 3, 2, 1], [5, 4, 0, 3, 2, 1], [9, 5, 4, 0, 3, 2, 1], [7, 8, 10, 5, 6, 4, 0, 3, 2, 1, 9], [5, 4, 0, 3, 2, 1], [12, 5, 4, 0, 3, 2, 1], [5, 4, 0, 3, 2, 1], [5, 4, 0, 3, 2, 1], [15, 5, 4, 0, 3, 2, 1], [13, 14, 16, 5, 12, 4, 0, 3, 2, 1, 15], [11, 17, 5, 7, 8, 10, 6, 4, 0, 3, 2, 1, 9, 13, 14, 16, 12, 15], [18, 5, 11, 17, 7, 8, 10, 6, 4, 0, 3, 2, 1, 9, 13, 14, 16, 12, 15], [5, 19, 4, 0, 3, 2, 1, 18, 11, 17, 7, 8, 10, 6, 9, 13, 14, 16, 12, 15]]))
 (.cond (.t 183)
 (.seq (.reg [⟨(some 4), none, (.mv (.c (.sc (.bool false))))⟩] none) .ret) .skip)) (.reg [⟨(some 184), none, (.mv (.t 12))⟩,
  ⟨(some 185), none, (.bin .add (.t 184) (.c (.sc (.int .i64 (1)))))⟩,
  ⟨(some 12), none, (.mv (.t 185))⟩] none)))))) (.reg [⟨(some 121), none, (.mv (.t 13))⟩,
  ⟨(some 122), none, (.bin .add (.t 121) (.c (.sc (.int .i64 (1)))))⟩,
  ⟨(some 13), none, (.mv (.t 122))⟩] none))))))
 (.seq (.reg [⟨(some 186), none, (.faddr 5 (.t 7))⟩,
  ⟨(some 187), none, (.load 1 false (.t 186))⟩,
  ⟨(some 188), none, (.len (.t 187))⟩,
  ⟨(some 189), none, (.faddr 5 (.t 9))⟩,
  ⟨(some 190), none, (.load 1 false (.t 189))⟩,
  ⟨(some 191), none, (.len (.t 190))⟩,
  ⟨(some 192), none, (.bin .add (.t 188) (.t 191))⟩,
  ⟨(some 193), none, (.faddr 5 (.t 5))⟩,
  ⟨(some 194), none, (.load 1 false (.t 193))⟩,
  ⟨(some 195), none, (.len (.t 194))⟩,
  ⟨(some 196), none, (.bin .eql (.t 192) (.t 195))⟩,
  ⟨(some 197), none, (.mv (.t 196))⟩,
  ⟨(some 198), (some (197, true)), (.call 10 [])⟩,
  ⟨(some 199), none, (.pick (.t 197) (.t 198) (.c (.sc (.bool false))))⟩,
  ⟨(some 4), none, (.mv (.t 199))⟩] none) .ret))))))))))
theorem good5 {args : List PV} {r : PV} (hl : args.length ≤ 200) (h : Run Tryd.prog [.code ac5] (endQ [(.t 4)] r) ⟨initT 0 args, [], 0, 200⟩) : Good Tryd.prog 5 args r :=
  good_run (by kernel_rfl) Xcmix Tryd.func5 rfl (hs := [⟨[1, 2, 5, 7, 9, 11, 12, 13], []⟩]) (hs' := []) (by kernel_rfl) hl h
def ac6 : ACode :=
 (.seq (.reg [⟨(some 1), none, (.boxv (.t 0))⟩,
  ⟨(some 2), none, (.mv (.c (.sc (.bool false))))⟩] none)
 (.seq (.seq (.reg [⟨(some 9), none, (.load 7 true (.t 1))⟩,
  ⟨(some 10), none, (.call 9 [(.t 9)])⟩,
  ⟨(some 11), none, (.un .not (.t 10))⟩,
  ⟨(some 12), none, (.mv (.t 11))⟩,
  ⟨(some 13), (some (12, false)), (.faddr 5 (.t 1))⟩,
  ⟨(some 14), (some (12, false)), (.load 1 false (.t 13))⟩,
  ⟨(some 15), (some (12, false)), (.call 22 [(.t 14)])⟩,
  ⟨(some 16), (some (12, false)), (.un .not (.t 15))⟩,
  ⟨(some 17), none, (.pick (.t 12) (.c (.sc (.bool true))) (.t 16))⟩] none)
 (.cond (.t 17)
 (.seq (.reg [⟨(some 18), none, (.call 10 [])⟩,
  ⟨(some 2), none, (.mv (.t 18))⟩] none) .ret) .skip))
 (.seq (.reg [⟨(some 20), none, (.load 7 true (.t 1))⟩,
  ⟨(some 21), none, (.faddr 2 (.t 1))⟩,
  ⟨(some 22), none, (.load 2 true (.t 21))⟩,
  ⟨(some 23), none, (.call 11 [(.t 20), (.t 22)])⟩,
  ⟨(some 19), none, (.mv (.t 23))⟩,
  ⟨(some 24), none, (.ext 0 (.t 19))⟩,
  ⟨(some 25), none, (.ext 1 (.t 19))⟩,
  ⟨(some 3), none, (.new [(.sc (.int .i64 (0))), (.sc (.int .i64 (0))), (.sc (.int .i64 (0))), (.sc (.int .i64 (0))), (.sc (.slice none 0 0)), (.sc (.slice none 0 0)), (.sc (.int .i64 (0)))])⟩,
  ⟨none, none, (.store 7 (.t 3) (.t 24))⟩,
  ⟨(some 4), none, (.mv (.t 25))⟩] none)
 (.seq (.seq (.reg [⟨(some 26), none, (.mv (.t 4))⟩,
  ⟨(some 27), none, (.bin .neq (.t 26) (.c (.sc (.int .i64 (0)))))⟩] none)
 (.cond (.t 27)
 (.seq (.reg [⟨(some 28), none, (.call 10 [])⟩,
  ⟨(some 2), none, (.mv (.t 28))⟩] none) .ret) .skip))
 (.seq (.reg [⟨(some 30), none, (.load 7 true (.t 3))⟩,
  ⟨(some 31), none, (.call 15 [(.t 30)])⟩,
  ⟨(some 29), none, (.mv (.t 31))⟩,
  ⟨(some 32), none, (.ext 0 (.t 29))⟩,
  ⟨(some 33), none, (.ext 1 (.t 29))⟩,
  ⟨(some 5), none, (.mv (.t 32))⟩,
  ⟨(some 6), none, (.mv (.t 33))⟩] none)
 (.seq (.reg [⟨(some 34), none, (.faddr 4 (.t 3))⟩,
  ⟨(some 35), none, (.load 1 false (.t 34))⟩,
  ⟨(some 36), none, (.len (.t 35))⟩,
  ⟨(some 37), none, (.bin .add (.c (.sc (.int .i64 (2)))) (.t 36))⟩,
  ⟨(some 38), none, (.faddr 5 (.t 3))⟩,
  ⟨(some 39), none, (.load 1 false (.t 38))⟩,
  ⟨(some 40), none, (.len (.t 39))⟩,
  ⟨(some 41), none, (.bin .add (.t 37) (.t 40))⟩,
  ⟨(some 7), none, (.mv (.t 41))⟩] none)
 (.seq (.seq (.reg [⟨(some 8), none, (.mv (.c (.sc (.int .i64 (0)))))⟩] none) (.block 0 
 (.loop ⟨[3, 5, 6, 7, 8], []⟩
 (.seq (.seq (.reg [⟨(some 42), none, (.mv (.t 8))⟩,
  ⟨(some 43), none, (.faddr 4 (.t 3))⟩,
  ⟨(some 44), none, (.load 1 false (.t 43))⟩,
  ⟨(some 45), none, (.len (.t 44))⟩,
  ⟨(some 46), none, (.bin .lss (.t 42) (.t 45))⟩] none)
 (.cond (.t 46) .skip (.exit 0)))
 (.seq (.block 1 (.reg [⟨(some 49), none, (.mv (.t 7))⟩,
  ⟨(some 50), none, (.faddr 4 (.t 3))⟩,
  ⟨(some 51), none, (.load 1 false (.t 50))⟩,
  ⟨(some 52), none, (.mv (.t 8))⟩,
  ⟨(some 53), none, (.iaddr 4 (.t 51) (.t 52))⟩,
  ⟨(some 54), none, (.faddr 2 (.t 53))⟩,
  ⟨(some 55), none, (.load 1 false (.t 54))⟩,
  ⟨(some 56), none, (.len (.t 55))⟩,
  ⟨(some 57), none, (.bin .add (.t 49) (.t 56))⟩,
  ⟨(some 7), none, (.mv (.t 57))⟩] none)) (.reg [⟨(some 47), none, (.mv (.t 8))⟩,
  ⟨(some 48), none, (.bin .add (.t 47) (.c (.sc (.int .i64 (1)))))⟩,
  ⟨(some 8), none, (.mv (.t 48))⟩] none))))))
 (.seq (.reg [⟨(some 58), none, (.load 7 true (.t 3))⟩,
  ⟨(some 59), none, (.call 17 [(.t 58)])⟩,
  ⟨(some 60), none, (.bin .eql (.t 59) (.c (.sc (.int .i64 (0)))))⟩,
  ⟨(some 61), none, (.mv (.t 60))⟩,
  ⟨(some 62), (some (61, true)), (.mv (.t 6))⟩,
  ⟨(some 63), (some (61, true)), (.bin .eql (.t 62) (.c (.sc (.int .i64 (0)))))⟩,
  ⟨(some 64), none, (.pick (.t 61) (.t 63) (.c (.sc (.bool false))))⟩,
  ⟨(some 65), none, (.mv (.t 64))⟩,
  ⟨(some 66), (some (65, true)), (.mv (.t 5))⟩,
  ⟨(some 67), (some (65, true)), (.len (.t 66))⟩,
  ⟨(some 68), (some (65, true)), (.mv (.t 7))⟩,
  ⟨(some 69), (some (65, true)), (.bin .eql (.t 67) (.t 68))⟩,
  ⟨(some 70), none, (.pick (.t 65) (.t 69) (.c (.sc (.bool false))))⟩,
  ⟨(some 71), none, (.mv (.t 70))⟩,
  ⟨(some 72), (some (71, true)), (.call 10 [])⟩,
  ⟨(some 73), none, (.pick (.t 71) (.t 72) (.c (.sc (.bool false))))⟩,
  ⟨(some 2), none, (.mv (.t 73))⟩] none) .ret))))))))
theorem good6 {args : List PV} {r : PV} (hl : args.length ≤ 74) (h : Run Tryd.prog [.code ac6] (endQ [(.t 2)] r) ⟨initT 0 args, [], 0, 74⟩) : Good Tryd.prog 6 args r :=
  good_run (by kernel_rfl) Xcmix Tryd.func6 rfl (hs := [⟨[3, 5, 6, 7, 8], []⟩]) (hs' := []) (by kernel_rfl) hl h
def ac8 : ACode :=
 (.seq (.reg [⟨(some 1), none, (.boxv (.t 0))⟩,
  ⟨(some 2), none, (.mv (.c (.sc (.bool false))))⟩] none)
 (.seq (.seq (.reg [⟨(some 9), none, (.load 7 true (.t 1))⟩,
  ⟨(some 10), none, (.call 9 [(.t 9)])⟩,
  ⟨(some 11), none, (.un .not (.t 10))⟩,
  ⟨(some 12), none, (.mv (.t 11))⟩,
  ⟨(some 13), (some (12, false)), (.faddr 5 (.t 1))⟩,
  ⟨(some 14), (some (12, false)), (.load 1 false (.t 13))⟩,
  ⟨(some 15), (some (12, false)), (.call 22 [(.t 14)])⟩,
  ⟨(some 16), (some (12, false)), (.un .not (.t 15))⟩,
  ⟨(some 17), none, (.pick (.t 12) (.c (.sc (.bool true))) (.t 16))⟩] none)
 (.cond (.t 17)
 (.seq (.reg [⟨(some 18), none, (.call 10 [])⟩,
  ⟨(some 2), none, (.mv (.t 18))⟩] none) .ret) .skip))
 (.seq (.reg [⟨(some 20), none, (.load 7 true (.t 1))⟩,
  ⟨(some 21), none, (.faddr 2 (.t 1))⟩,
  ⟨(some 22), none, (.load 2 true (.t 21))⟩,
  ⟨(some 23), none, (.call 11 [(.t 20), (.t 22)])⟩,
  ⟨(some 19), none, (.mv (.t 23))⟩,
  ⟨(some 24), none, (.ext 0 (.t 19))⟩,
  ⟨(some 25), none, (.ext 1 (.t 19))⟩,
  ⟨(some 3), none, (.new [(.sc (.int .i64 (0))), (.sc (.int .i64 (0))), (.sc (.int .i64 (0))), (.sc (.int .i64 (0))), (.sc (.slice none 0 0)), (.sc (.slice none 0 0)), (.sc (.int .i64 (0)))])⟩,
  ⟨none, none, (.store 7 (.t 3) (.t 24))⟩,
  ⟨(some 4), none, (.mv (.t 25))⟩] none)
 (.seq (.seq (.reg [⟨(some 26), none, (.mv (.t 4))⟩,
  ⟨(some 27), none, (.bin .neq (.t 26) (.c (.sc (.int .i64 (0)))))⟩] none)
 (.cond (.t 27)
 (.seq (.reg [⟨(some 28), none, (.faddr 6 (.t 3))⟩,
  ⟨(some 29), none, (.load 1 false (.t 28))⟩,
  ⟨(some 30), none, (.bin .eql (.t 29) (.c (.sc (.int .i64 (0)))))⟩,
  ⟨(some 31), none, (.mv (.t 30))⟩,
  ⟨(some 32), (some (31, true)), (.call 10 [])⟩,
  ⟨(some 33), none, (.pick (.t 31) (.t 32) (.c (.sc (.bool false))))⟩,
  ⟨(some 2), none, (.mv (.t 33))⟩] none) .ret) .skip))
 (.seq (.reg [⟨(some 5), none, (.mv (.c (.sc (.int .i64 (0)))))⟩] none)
 (.seq (.seq (.reg [⟨(some 6), none, (.mv (.c (.sc (.int .i64 (0)))))⟩] none) (.block 0 
 (.loop ⟨[1, 3, 5, 6], []⟩
 (.seq (.seq (.reg [⟨(some 34), none, (.mv (.t 6))⟩,
  ⟨(some 35), none, (.faddr 4 (.t 3))⟩,
  ⟨(some 36), none, (.load 1 false (.t 35))⟩,
  ⟨(some 37), none, (.len (.t 36))⟩,
  ⟨(some 38), none, (.bin .lss (.t 34) (.t 37))⟩] none)
 (.cond (.t 38) .skip (.exit 0)))
 (.seq (.block 1
 (.seq (.reg [⟨(some 42), none, (.faddr 5 (.t 1))⟩,
  ⟨(some 43), none, (.load 1 false (.t 42))⟩,
  ⟨(some 44), none, (.faddr 6 (.t 1))⟩,
  ⟨(some 45), none, (.load 1 false (.t 44))⟩,
  ⟨(some 46), none, (.faddr 4 (.t 3))⟩,
  ⟨(some 47), none, (.load 1 false (.t 46))⟩,
  ⟨(some 48), none, (.mv (.t 6))⟩,
  ⟨(some 49), none, (.iaddr 4 (.t 47) (.t 48))⟩,
  ⟨(some 50), none, (.faddr 0 (.t 49))⟩,
  ⟨(some 51), none, (.load 1 false (.t 50))⟩,
  ⟨(some 52), none, (.call 25 [(.t 43), (.t 45), (.t 51)])⟩,
  ⟨(some 41), none, (.mv (.t 52))⟩,
  ⟨(some 53), none, (.ext 0 (.t 41))⟩,
  ⟨(some 54), none, (.ext 1 (.t 41))⟩,
  ⟨(some 7), none, (.mv (.t 53))⟩,
  ⟨(some 8), none, (.mv (.t 54))⟩] (some [[], [0], [], [2], [], [4], [], [5, 6, 4], [7, 5, 6, 4], [8, 7, 5, 6, 4], [1, 3, 9, 0, 2, 8, 7, 5, 6, 4], [10, 1, 3, 9, 0, 2, 8, 7, 5, 6, 4], [11, 10, 1, 3, 9, 0, 2, 8, 7, 5, 6, 4], [11, 10, 1, 3, 9, 0, 2, 8, 7, 5, 6, 4], [12, 10, 0, 1, 2, 3, 4, 5, 6, 7, 8, 9, 11], [13, 14, 0, 1, 2, 3, 4, 5, 6, 7, 8, 9, 10, 11, 12]]))
 (.seq (.seq (.reg [⟨(some 55), none, (.mv (.t 8))⟩,
  ⟨(some 56), none, (.bin .neq (.t 55) (.c (.sc (.int .i64 (0)))))⟩,
  ⟨(some 57), none, (.mv (.t 56))⟩,
  ⟨(some 58), (some (57, false)), (.faddr 4 (.t 3))⟩,
  ⟨(some 59), (some (57, false)), (.load 1 false (.t 58))⟩,
  ⟨(some 60), (some (57, false)), (.mv (.t 6))⟩,
  ⟨(some 61), (some (57, false)), (.iaddr 4 (.t 59) (.t 60))⟩,
  ⟨(some 62), (some (57, false)), (.faddr 1 (.t 61))⟩,
  ⟨(some 63), (some (57, false)), (.load 1 false (.t 62))⟩,
  ⟨(some 64), (some (57, false)), (.faddr 1 (.t 1))⟩,
  ⟨(some 65), (some (57, false)), (.load 1 false (.t 64))⟩,
  ⟨(some 66), (some (57, false)), (.bin .neq (.t 63) (.t 65))⟩,
  ⟨(some 67), none, (.pick (.t 57) (.c (.sc (.bool true))) (.t 66))⟩] (some [[], [0], [1, 0], [2, 1, 0], [3, 2, 1, 0], [2, 1, 0], [4, 5, 2, 3, 1, 0], [6, 2, 4, 5, 3, 1, 0], [7, 2, 6, 4, 5, 3, 1, 0], [2, 1, 0], [9, 2, 1, 0], [8, 10, 2, 7, 6, 4, 5, 3, 1, 0, 9], [2, 11, 1, 0, 8, 10, 7, 6, 4, 5, 3, 9]]))
 (.cond (.t 67)
 (.seq (.reg [⟨(some 2), none, (.mv (.c (.sc (.bool false))))⟩] none) .ret) .skip)) (.reg [⟨(some 68), none, (.mv (.t 5))⟩,
  ⟨(some 69), none, (.mv (.t 7))⟩,
  ⟨(some 70), none, (.bin .add (.t 68) (.t 69))⟩,
  ⟨(some 5), none, (.mv (.t 70))⟩] none)))) (.reg [⟨(some 39), none, (.mv (.t 6))⟩,
  ⟨(some 40), none, (.bin .add (.t 39) (.c (.sc (.int .i64 (1)))))⟩,
  ⟨(some 6), none, (.mv (.t 40))⟩] none))))))
 (.seq (.reg [⟨(some 71), none, (.mv (.t 5))⟩,
  ⟨(some 72), none, (.faddr 6 (.t 3))⟩,
  ⟨(some 73), none, (.load 1 false (.t 72))⟩,
  ⟨(some 74), none, (.bin .eql (.t 71) (.t 73))⟩,
  ⟨(some 75), none, (.mv (.t 74))⟩,
  ⟨(some 76), (some (75, true)), (.call 10 [])⟩,
  ⟨(some 77), none, (.pick (.t 75) (.t 76) (.c (.sc (.bool false))))⟩,
  ⟨(some 2), none, (.mv (.t 77))⟩] none) .ret)))))))
theorem good8 {args : List PV} {r : PV} (hl : args.length ≤ 78) (h : Run Tryd.prog [.code ac8] (endQ [(.t 2)] r) ⟨initT 0 args, [], 0, 78⟩) : Good Tryd.prog 8 args r :=
  good_run (by kernel_rfl) Xcmix Tryd.func8 rfl (hs := [⟨[1, 3, 5, 6], []⟩]) (hs' := []) (by kernel_rfl) hl h
def ac7 : ACode :=
 (.seq (.reg [⟨(some 1), none, (.boxv (.t 0))⟩,
  ⟨(some 2), none, (.mv (.c (.sc (.bool false))))⟩] none)
 (.seq (.seq (.reg [⟨(some 12), none, (.load 7 true (.t 1))⟩,
  ⟨(some 13), none, (.call 9 [(.t 12)])⟩,
  ⟨(some 14), none, (.un .not (.t 13))⟩,
  ⟨(some 15), none, (.mv (.t 14))⟩,
  ⟨(some 16), (some (15, false)), (.faddr 5 (.t 1))⟩,
  ⟨(some 17), (some (15, false)), (.load 1 false (.t 16))⟩,
  ⟨(some 18), (some (15, false)), (.call 22 [(.t 17)])⟩,
  ⟨(some 19), (some (15, false)), (.un .not (.t 18))⟩,
  ⟨(some 20), none, (.pick (.t 15) (.c (.sc (.bool true))) (.t 19))⟩] none)
 (.cond (.t 20)
 (.seq (.reg [⟨(some 21), none, (.call 10 [])⟩,
  ⟨(some 2), none, (.mv (.t 21))⟩] none) .ret) .skip))
 (.seq (.reg [⟨(some 3), none, (.mv (.c (.sc (.int .i64 (0)))))⟩] none)
 (.seq (.seq (.reg [⟨(some 4), none, (.mv (.c (.sc (.int .i64 (0)))))⟩] none) (.block 0 
 (.loop ⟨[1, 3, 4], []⟩
 (.seq (.seq (.reg [⟨(some 22), none, (.mv (.t 4))⟩,
  ⟨(some 23), none, (.faddr 5 (.t 1))⟩,
  ⟨(some 24), none, (.load 1 false (.t 23))⟩,
  ⟨(some 25), none, (.len (.t 24))⟩,
  ⟨(some 26), none, (.bin .lss (.t 22) (.t 25))⟩] none)
 (.cond (.t 26) .skip (.exit 0)))
 (.seq (.block 1
 (.seq (.reg [⟨(some 30), none, (.faddr 4 (.t 1))⟩,
  ⟨(some 31), none, (.load 1 false (.t 30))⟩,
  ⟨(some 32), none, (.faddr 5 (.t 1))⟩,
  ⟨(some 33), none, (.load 1 false (.t 32))⟩,
  ⟨(some 34), none, (.mv (.t 4))⟩,
  ⟨(some 35), none, (.iaddr 4 (.t 33) (.t 34))⟩,
  ⟨(some 36), none, (.faddr 0 (.t 35))⟩,
  ⟨(some 37), none, (.load 1 false (.t 36))⟩,
  ⟨(some 38), none, (.call 20 [(.t 31), (.t 37)])⟩,
  ⟨(some 29), none, (.mv (.t 38))⟩,
  ⟨(some 39), none, (.ext 0 (.t 29))⟩,
  ⟨(some 40), none, (.ext 1 (.t 29))⟩,
  ⟨(some 5), none, (.new [(.sc (.int .i64 (0))), (.sc (.int .i64 (0))), (.sc (.int .i64 (0))), (.sc (.int .i64 (0))), (.sc (.int .i64 (0))), (.sc (.int .i64 (0))), (.sc (.bool false)), (.sc (.slice none 0 0)), (.sc (.slice none 0 0)), (.sc (.int .i64 (0))), (.sc (.int .i64 (0))), (.sc (.int .i64 (0))), (.sc (.int .i64 (0)))])⟩,
  ⟨none, none, (.store 13 (.t 5) (.t 39))⟩,
  ⟨(some 6), none, (.mv (.t 40))⟩] (some [[], [0], [], [2], [], [3, 4, 2], [5, 3, 4, 2], [6, 5, 3, 4, 2], [1, 7, 0, 6, 5, 3, 4, 2], [8, 1, 7, 0, 6, 5, 3, 4, 2], [9, 8, 1, 7, 0, 6, 5, 3, 4, 2], [9, 8, 1, 7, 0, 6, 5, 3, 4, 2], [], [12, 10, 8, 0, 1, 2, 3, 4, 5, 6, 7, 9], [11, 13, 0, 1, 2, 3, 4, 5, 6, 7, 8, 9, 10, 12]]))
 (.seq (.seq (.reg [⟨(some 41), none, (.mv (.t 6))⟩,
  ⟨(some 42), none, (.un .not (.t 41))⟩,
  ⟨(some 43), none, (.mv (.t 42))⟩,
  ⟨(some 44), (some (43, false)), (.faddr 2 (.t 5))⟩,
  ⟨(some 45), (some (43, false)), (.faddr 0 (.t 44))⟩,
  ⟨(some 46), (some (43, false)), (.load 1 false (.t 45))⟩,
  ⟨(some 47), (some (43, false)), (.bin .lss (.t 46) (.c (.sc (.int .i64 (0)))))⟩,
  ⟨(some 48), none, (.pick (.t 43) (.c (.sc (.bool true))) (.t 47))⟩,
  ⟨(some 49), none, (.mv (.t 48))⟩,
  ⟨(some 50), (some (49, false)), (.faddr 2 (.t 5))⟩,
  ⟨(some 51), (some (49, false)), (.faddr 0 (.t 50))⟩,
  ⟨(some 52), (some (49, false)), (.load 1 false (.t 51))⟩,
  ⟨(some 53), (some (49, false)), (.bin .gtr (.t 52) (.c (.sc (.int .i64 (4294943999)))))⟩,
  ⟨(some 54), none, (.pick (.t 49) (.c (.sc (.bool true))) (.t 53))⟩,
  ⟨(some 55), none, (.mv (.t 54))⟩,
  ⟨(some 56), (some (55, false)), (.faddr 5 (.t 1))⟩,
  ⟨(some 57), (some (55, false)), (.load 1 false (.t 56))⟩,
  ⟨(some 58), (some (55, false)), (.mv (.t 4))⟩,
  ⟨(some 59), (some (55, false)), (.iaddr 4 (.t 57) (.t 58))⟩,
  ⟨(some 60), (some (55, false)), (.faddr 1 (.t 59))⟩,
  ⟨(some 61), (some (55, false)), (.load 1 false (.t 60))⟩,
  ⟨(some 62), (some (55, false)), (.bin .lss (.t 61) (.c (.sc (.int .i64 (0)))))⟩,
  ⟨(some 63), none, (.pick (.t 55) (.c (.sc (.bool true))) (.t 62))⟩,
  ⟨(some 64), none, (.mv (.t 63))⟩,
  ⟨(some 65), (some (64, false)), (.faddr 5 (.t 1))⟩,
  ⟨(some 66), (some (64, false)), (.load 1 false (.t 65))⟩,
  ⟨(some 67), (some (64, false)), (.mv (.t 4))⟩,
  ⟨(some 68), (some (64, false)), (.iaddr 4 (.t 66) (.t 67))⟩,
  ⟨(some 69), (some (64, false)), (.faddr 1 (.t 68))⟩,
  ⟨(some 70), (some (64, false)), (.load 1 false (.t 69))⟩,
  ⟨(some 71), (some (64, false)), (.bin .geq (.t 70) (.c (.sc (.int .i64 (128)))))⟩,
  ⟨(some 72), none, (.pick (.t 64) (.c (.sc (.bool true))) (.t 71))⟩,
  ⟨(some 73), none, (.mv (.t 72))⟩,
  ⟨(some 74), (some (73, false)), (.faddr 5 (.t 1))⟩,
  ⟨(some 75), (some (73, false)), (.load 1 false (.t 74))⟩,
  ⟨(some 76), (some (73, false)), (.mv (.t 4))⟩,
  ⟨(some 77), (some (73, false)), (.iaddr 4 (.t 75) (.t 76))⟩,
  ⟨(some 78), (some (73, false)), (.faddr 3 (.t 77))⟩,
  ⟨(some 79), (some (73, false)), (.load 1 false (.t 78))⟩,
  ⟨(some 80), (some (73, false)), (.bin .gtr (.t 79) (.c (.sc (.int .i64 (1000000000000)))))⟩,
  ⟨(some 81), none, (.pick (.t 73) (.c (.sc (.bool true))) (.t 80))⟩,
  ⟨(some 82), none, (.mv (.t 81))⟩,
  ⟨(some 83), (some (82, false)), (.faddr 5 (.t 1))⟩,
  ⟨(some 84), (some (82, false)), (.load 1 false (.t 83))⟩,
  ⟨(some 85), (some (82, false)), (.mv (.t 4))⟩,
  ⟨(some 86), (some (82, false)), (.iaddr 4 (.t 84) (.t 85))⟩,
  ⟨(some 87), (some (82, false)), (.faddr 3 (.t 86))⟩,
  ⟨(some 88), (some (82, false)), (.load 1 false (.t 87))⟩,
  ⟨(some 89), (some (82, false)), (.bin .lss (.t 88) (.c (.sc (.int .i64 (-1000000000000)))))⟩,
  ⟨(some 90), none, (.pick (.t 82) (.c (.sc (.bool true))) (.t 89))⟩] none)
 (.cond (.t 90)
 (.seq (.reg [⟨(some 91), none, (.call 10 [])⟩,
  ⟨(some 2), none, (.mv (.t 91))⟩] none) .ret) .skip)) (.reg [⟨(some 92), none, (.mv (.t 3))⟩,
  ⟨(some 93), none, (.faddr 5 (.t 1))⟩,
  ⟨(some 94), none, (.load 1 false (.t 93))⟩,
  ⟨(some 95), none, (.mv (.t 4))⟩,
  ⟨(some 96), none, (.iaddr 4 (.t 94) (.t 95))⟩,
  ⟨(some 97), none, (.faddr 3 (.t 96))⟩,
  ⟨(some 98), none, (.load 1 false (.t 97))⟩,
  ⟨(some 99), none, (.bin .add (.t 92) (.t 98))⟩,
  ⟨(some 3), none, (.mv (.t 99))⟩] none)))) (.reg [⟨(some 27), none, (.mv (.t 4))⟩,
  ⟨(some 28), none, (.bin .add (.t 27) (.c (.sc (.int .i64 (1)))))⟩,
  ⟨(some 4), none, (.mv (.t 28))⟩] none))))))
 (.seq (.seq (.reg [⟨(some 100), none, (.faddr 5 (.t 1))⟩,
  ⟨(some 101), none, (.load 1 false (.t 100))⟩,
  ⟨(some 102), none, (.faddr 6 (.t 1))⟩,
  ⟨(some 103), none, (.load 1 false (.t 102))⟩,
  ⟨(some 104), none, (.call 23 [(.t 101), (.t 103)])⟩,
  ⟨(some 105), none, (.bin .neq (.t 104) (.c (.sc (.int .i64 (0)))))⟩] none)
 (.cond (.t 105)
 (.seq (.reg [⟨(some 106), none, (.call 10 [])⟩,
  ⟨(some 2), none, (.mv (.t 106))⟩] none) .ret) .skip))
 (.seq (.seq (.reg [⟨(some 7), none, (.mv (.c (.sc (.int .i64 (0)))))⟩] none) (.block 2 
 (.loop ⟨[1, 3, 7], []⟩
 (.seq (.seq (.reg [⟨(some 107), none, (.mv (.t 7))⟩,
  ⟨(some 108), none, (.faddr 6 (.t 1))⟩,
  ⟨(some 109), none, (.load 1 false (.t 108))⟩,
  ⟨(some 110), none, (.len (.t 109))⟩,
  ⟨(some 111), none, (.bin .lss (.t 107) (.t 110))⟩] none)
 (.cond (.t 111) .skip (.exit 2)))
 (.seq (.block 3 (.reg [⟨(some 114), none, (.mv (.t 3))⟩,
  ⟨(some 115), none, (.faddr 6 (.t 1))⟩,
  ⟨(some 116), none, (.load 1 false (.t 115))⟩,
  ⟨(some 117), none, (.mv (.t 7))⟩,
  ⟨(some 118), none, (.iaddr 4 (.t 116) (.t 117))⟩,
  ⟨(some 119), none, (.faddr 3 (.t 118))⟩,
  ⟨(some 120), none, (.load 1 false (.t 119))⟩,
  ⟨(some 121), none, (.bin .sub (.t 114) (.t 120))⟩,
  ⟨(some 3), none, (.mv (.t 121))⟩] none)) (.reg [⟨(some 112), none, (.mv (.t 7))⟩,
  ⟨(some 113), none, (.bin .add (.t 112) (.c (.sc (.int .i64 (1)))))⟩,
  ⟨(some 7), none, (.mv (.t 113))⟩] none))))))
 (.seq (.reg [⟨(some 8), none, (.mv (.c (.sc (.int .i64 (0)))))⟩] none)
 (.seq (.seq (.reg [⟨(some 9), none, (.mv (.c (.sc (.int .i64 (0)))))⟩] none) (.block 4 
 (.loop ⟨[1, 3, 8, 9], []⟩
 (.seq (.seq (.reg [⟨(some 122), none, (.mv (.t 9))⟩,
  ⟨(some 123), none, (.bin .lss (.t 122) (.c (.sc (.int .i64 (128)))))⟩] none)
 (.cond (.t 123) .skip (.exit 4)))
 (.seq (.block 5
 (.seq (.reg [⟨(some 127), none, (.mv (.t 9))⟩,
  ⟨(some 128), none, (.build [(.sc (.int .i64 (0))), (.sc (.int .i64 (0)))] [(1, (1, (.c (.sc (.int .i64 (4294944000))))))])⟩,
  ⟨(some 129), none, (.faddr 4 (.t 1))⟩,
  ⟨(some 130), none, (.load 1 false (.t 129))⟩,
  ⟨(some 131), none, (.faddr 5 (.t 1))⟩,
  ⟨(some 132), none, (.load 1 false (.t 131))⟩,
  ⟨(some 133), none, (.faddr 6 (.t 1))⟩,
  ⟨(some 134), none, (.load 1 false (.t 133))⟩,
  ⟨(some 135), none, (.call 24 [(.c (.sc (.int .i64 (1)))), (.t 127), (.t 128), (.t 130), (.t 132), (.t 134)])⟩,
  ⟨(some 126), none, (.mv (.t 135))⟩,
  ⟨(some 136), none, (.ext 0 (.t 126))⟩,
  ⟨(some 137), none, (.ext 1 (.t 126))⟩,
  ⟨(some 10), none, (.new [(.sc (.int .i64 (0))), (.sc (.int .i64 (0))), (.sc (.int .i64 (0))), (.sc (.int .i64 (0))), (.sc (.slice none 0 0)), (.sc (.slice none 0 0)), (.sc (.int .i64 (0)))])⟩,
  ⟨none, none, (.store 7 (.t 10) (.t 136))⟩,
  ⟨(some 11), none, (.mv (.t 137))⟩] none)
 (.seq (.seq (.reg [⟨(some 138), none, (.mv (.t 11))⟩,
  ⟨(some 139), none, (.bin .neq (.t 138) (.c (.sc (.int .i64 (0)))))⟩] none)
 (.cond (.t 139)
 (.seq (.reg [⟨(some 2), none, (.mv (.c (.sc (.bool false))))⟩] none) .ret) .skip)) (.reg [⟨(some 140), none, (.mv (.t 8))⟩,
  ⟨(some 141), none, (.faddr 6 (.t 10))⟩,
  ⟨(some 142), none, (.load 1 false (.t 141))⟩,
  ⟨(some 143), none, (.bin .add (.t 140) (.t 142))⟩,
  ⟨(some 8), none, (.mv (.t 143))⟩] none)))) (.reg [⟨(some 124), none, (.mv (.t 9))⟩,
  ⟨(some 125), none, (.bin .add (.t 124) (.c (.sc (.int .i64 (1)))))⟩,
  ⟨(some 9), none, (.mv (.t 125))⟩] none))))))
 (.seq (.reg [⟨(some 144), none, (.mv (.t 8))⟩,
  ⟨(some 145), none, (.mv (.t 3))⟩,
  ⟨(some 146), none, (.bin .eql (.t 144) (.t 145))⟩,
  ⟨(some 147), none, (.mv (.t 146))⟩,
  ⟨(some 148), (some (147, true)), (.call 10 [])⟩,
  ⟨(some 149), none, (.pick (.t 147) (.t 148) (.c (.sc (.bool false))))⟩,
  ⟨(some 2), none, (.mv (.t 149))⟩] none) .ret)))))))))
theorem good7 {args : List PV} {r : PV} (hl : args.length ≤ 150) (h : Run Tryd.prog [.code ac7] (endQ [(.t 2)] r) ⟨initT 0 args, [], 0, 150⟩) : Good Tryd.prog 7 args r :=
  good_run (by kernel_rfl) Xcmix Tryd.func7 rfl (hs := [⟨[1, 3, 4], []⟩, ⟨[1, 3, 7], []⟩, ⟨[1, 3, 8, 9], []⟩]) (hs' := []) (by kernel_rfl) hl h
end Go.Proofs.YtaejaogidkgalaaDoor
