/-
  The translated codes of functions, checked by the kernel.
-/
import Derived.Test.YtjlhnlfalomenaaDoorKc
import Derived.KernelRfl
namespace Go.Proofs.YtjlhnlfalomenaaDoor
set_option linter.unusedVariables false
set_option linter.unusedSimpArgs false
set_option linter.unnecessarySimpa false
theorem Namix : Tryd.prog.follows .mixedOrders = true := by kernel_rfl
def ac13 : ACode :=
 (.seq (.reg [⟨(some 4), none, (.mv (.c (.sc (.int .i64 (0)))))⟩,
  ⟨(some 5), none, (.mv (.c (.sc (.int .i64 (0)))))⟩] none)
 (.seq (.seq (.reg [⟨(some 6), none, (.mv (.t 0))⟩,
  ⟨(some 7), none, (.call 35 [(.t 6)])⟩,
  ⟨(some 8), none, (.un .not (.t 7))⟩,
  ⟨(some 9), none, (.mv (.t 8))⟩,
  ⟨(some 10), (some (9, false)), (.mv (.t 1))⟩,
  ⟨(some 11), (some (9, false)), (.call 35 [(.t 10)])⟩,
  ⟨(some 12), (some (9, false)), (.un .not (.t 11))⟩,
  ⟨(some 13), none, (.pick (.t 9) (.c (.sc (.bool true))) (.t 12))⟩] none)
 (.cond (.t 13)
 (.seq (.reg [⟨(some 4), none, (.mv (.c (.sc (.int .i64 (0)))))⟩,
  ⟨(some 5), none, (.mv (.c (.sc (.int .i64 (1)))))⟩] none) .ret) .skip))
 (.seq (.reg [⟨(some 14), none, (.mv (.t 0))⟩,
  ⟨(some 15), none, (.mv (.t 1))⟩,
  ⟨(some 16), none, (.bin .add (.t 14) (.t 15))⟩,
  ⟨(some 17), none, (.call 36 [(.t 16)])⟩,
  ⟨(some 18), none, (.ext 0 (.t 17))⟩,
  ⟨(some 19), none, (.ext 1 (.t 17))⟩,
  ⟨(some 4), none, (.mv (.t 18))⟩,
  ⟨(some 5), none, (.mv (.t 19))⟩] none) .ret)))
theorem good13 {args : List PV} {r : PV} (hl : args.length ≤ 20) (h : Run Tryd.prog [.code ac13] (endQ [(.t 4), (.t 5)] r) ⟨initT 0 args, [], 0, 20⟩) : Good Tryd.prog 13 args r :=
  good_run (by kernel_rfl) Namix Tryd.func13 rfl (hs := []) (hs' := []) (by kernel_rfl) hl h
def ac14 : ACode :=
 (.seq (.reg [⟨(some 4), none, (.mv (.c (.sc (.int .i64 (0)))))⟩,
  ⟨(some 5), none, (.mv (.c (.sc (.int .i64 (0)))))⟩] none)
 (.seq (.seq (.reg [⟨(some 6), none, (.mv (.t 0))⟩,
  ⟨(some 7), none, (.call 25 [(.t 6)])⟩,
  ⟨(some 8), none, (.un .not (.t 7))⟩,
  ⟨(some 9), none, (.mv (.t 8))⟩,
  ⟨(some 10), (some (9, false)), (.mv (.t 1))⟩,
  ⟨(some 11), (some (9, false)), (.call 25 [(.t 10)])⟩,
  ⟨(some 12), (some (9, false)), (.un .not (.t 11))⟩,
  ⟨(some 13), none, (.pick (.t 9) (.c (.sc (.bool true))) (.t 12))⟩] none)
 (.cond (.t 13)
 (.seq (.reg [⟨(some 4), none, (.mv (.c (.sc (.int .i64 (0)))))⟩,
  ⟨(some 5), none, (.mv (.c (.sc (.int .i64 (1)))))⟩] none) .ret) .skip))
 (.seq (.seq (.reg [⟨(some 14), none, (.mv (.t 0))⟩,
  ⟨(some 15), none, (.mv (.t 1))⟩,
  ⟨(some 16), none, (.bin .add (.t 14) (.t 15))⟩,
  ⟨(some 17), none, (.call 25 [(.t 16)])⟩,
  ⟨(some 18), none, (.un .not (.t 17))⟩] none)
 (.cond (.t 18)
 (.seq (.reg [⟨(some 4), none, (.mv (.c (.sc (.int .i64 (0)))))⟩,
  ⟨(some 5), none, (.mv (.c (.sc (.int .i64 (2)))))⟩] none) .ret) .skip))
 (.seq (.reg [⟨(some 19), none, (.mv (.t 0))⟩,
  ⟨(some 20), none, (.mv (.t 1))⟩,
  ⟨(some 21), none, (.bin .add (.t 19) (.t 20))⟩,
  ⟨(some 4), none, (.mv (.t 21))⟩,
  ⟨(some 5), none, (.mv (.c (.sc (.int .i64 (0)))))⟩] none) .ret))))
theorem good14 {args : List PV} {r : PV} (hl : args.length ≤ 22) (h : Run Tryd.prog [.code ac14] (endQ [(.t 4), (.t 5)] r) ⟨initT 0 args, [], 0, 22⟩) : Good Tryd.prog 14 args r :=
  good_run (by kernel_rfl) Namix Tryd.func14 rfl (hs := []) (hs' := []) (by kernel_rfl) hl h
def ac15 : ACode :=
 (.seq (.reg [⟨(some 4), none, (.mv (.c (.sc (.int .i64 (0)))))⟩,
  ⟨(some 5), none, (.mv (.c (.sc (.int .i64 (0)))))⟩] none)
 (.seq (.seq (.reg [⟨(some 8), none, (.mv (.t 0))⟩,
  ⟨(some 9), none, (.call 35 [(.t 8)])⟩,
  ⟨(some 10), none, (.un .not (.t 9))⟩,
  ⟨(some 11), none, (.mv (.t 10))⟩,
  ⟨(some 12), (some (11, false)), (.mv (.t 1))⟩,
  ⟨(some 13), (some (11, false)), (.call 35 [(.t 12)])⟩,
  ⟨(some 14), (some (11, false)), (.un .not (.t 13))⟩,
  ⟨(some 15), none, (.pick (.t 11) (.c (.sc (.bool true))) (.t 14))⟩] none)
 (.cond (.t 15)
 (.seq (.reg [⟨(some 4), none, (.mv (.c (.sc (.int .i64 (0)))))⟩,
  ⟨(some 5), none, (.mv (.c (.sc (.int .i64 (1)))))⟩] none) .ret) .skip))
 (.seq (.reg [⟨(some 17), none, (.mv (.t 0))⟩,
  ⟨(some 18), none, (.mv (.t 0))⟩,
  ⟨(some 19), none, (.un .neg (.t 18))⟩,
  ⟨(some 20), none, (.mx (.t 17) (.t 19))⟩,
  ⟨(some 21), none, (.conv .u64 (.t 20))⟩,
  ⟨(some 22), none, (.mv (.t 1))⟩,
  ⟨(some 23), none, (.mv (.t 1))⟩,
  ⟨(some 24), none, (.un .neg (.t 23))⟩,
  ⟨(some 25), none, (.mx (.t 22) (.t 24))⟩,
  ⟨(some 26), none, (.conv .u64 (.t 25))⟩,
  ⟨(some 27), none, (.call 37 [(.t 21), (.t 26)])⟩,
  ⟨(some 16), none, (.mv (.t 27))⟩,
  ⟨(some 28), none, (.ext 0 (.t 16))⟩,
  ⟨(some 29), none, (.ext 1 (.t 16))⟩,
  ⟨(some 6), none, (.mv (.t 28))⟩,
  ⟨(some 7), none, (.mv (.t 29))⟩] none)
 (.seq (.seq (.reg [⟨(some 30), none, (.mv (.t 6))⟩,
  ⟨(some 31), none, (.bin .gtr (.t 30) (.c (.sc (.int .u64 (0)))))⟩,
  ⟨(some 32), none, (.mv (.t 31))⟩,
  ⟨(some 33), (some (32, false)), (.mv (.t 7))⟩,
  ⟨(some 34), (some (32, false)), (.bin .gtr (.t 33) (.c (.sc (.int .u64 (1125899906842624)))))⟩,
  ⟨(some 35), none, (.pick (.t 32) (.c (.sc (.bool true))) (.t 34))⟩] none)
 (.cond (.t 35)
 (.seq (.reg [⟨(some 4), none, (.mv (.c (.sc (.int .i64 (0)))))⟩,
  ⟨(some 5), none, (.mv (.c (.sc (.int .i64 (2)))))⟩] none) .ret) .skip))
 (.seq (.seq (.reg [⟨(some 36), none, (.mv (.t 0))⟩,
  ⟨(some 37), none, (.bin .lss (.t 36) (.c (.sc (.int .i64 (0)))))⟩,
  ⟨(some 38), none, (.mv (.t 1))⟩,
  ⟨(some 39), none, (.bin .lss (.t 38) (.c (.sc (.int .i64 (0)))))⟩,
  ⟨(some 40), none, (.beq true (.t 37) (.t 39))⟩] none)
 (.cond (.t 40)
 (.seq (.reg [⟨(some 41), none, (.mv (.t 7))⟩,
  ⟨(some 42), none, (.conv .i64 (.t 41))⟩,
  ⟨(some 43), none, (.un .neg (.t 42))⟩,
  ⟨(some 4), none, (.mv (.t 43))⟩,
  ⟨(some 5), none, (.mv (.c (.sc (.int .i64 (0)))))⟩] none) .ret) .skip))
 (.seq (.reg [⟨(some 44), none, (.mv (.t 7))⟩,
  ⟨(some 45), none, (.conv .i64 (.t 44))⟩,
  ⟨(some 4), none, (.mv (.t 45))⟩,
  ⟨(some 5), none, (.mv (.c (.sc (.int .i64 (0)))))⟩] none) .ret))))))
theorem good15 {args : List PV} {r : PV} (hl : args.length ≤ 46) (h : Run Tryd.prog [.code ac15] (endQ [(.t 4), (.t 5)] r) ⟨initT 0 args, [], 0, 46⟩) : Good Tryd.prog 15 args r :=
  good_run (by kernel_rfl) Namix Tryd.func15 rfl (hs := []) (hs' := []) (by kernel_rfl) hl h
def ac16 : ACode :=
 (.seq (.reg [⟨(some 4), none, (.mv (.c (.sc (.int .i64 (0)))))⟩,
  ⟨(some 5), none, (.mv (.c (.sc (.int .i64 (0)))))⟩] none)
 (.seq (.seq (.reg [⟨(some 6), none, (.mv (.t 0))⟩,
  ⟨(some 7), none, (.call 25 [(.t 6)])⟩,
  ⟨(some 8), none, (.un .not (.t 7))⟩,
  ⟨(some 9), none, (.mv (.t 8))⟩,
  ⟨(some 10), (some (9, false)), (.mv (.t 1))⟩,
  ⟨(some 11), (some (9, false)), (.call 25 [(.t 10)])⟩,
  ⟨(some 12), (some (9, false)), (.un .not (.t 11))⟩,
  ⟨(some 13), none, (.pick (.t 9) (.c (.sc (.bool true))) (.t 12))⟩] none)
 (.cond (.t 13)
 (.seq (.reg [⟨(some 4), none, (.mv (.c (.sc (.int .i64 (0)))))⟩,
  ⟨(some 5), none, (.mv (.c (.sc (.int .i64 (1)))))⟩] none) .ret) .skip))
 (.seq (.seq (.reg [⟨(some 14), none, (.mv (.t 0))⟩,
  ⟨(some 15), none, (.bin .neq (.t 14) (.c (.sc (.int .i64 (0)))))⟩,
  ⟨(some 16), none, (.mv (.t 15))⟩,
  ⟨(some 17), (some (16, true)), (.mv (.t 1))⟩,
  ⟨(some 18), (some (16, true)), (.mv (.t 1))⟩,
  ⟨(some 19), (some (16, true)), (.un .neg (.t 18))⟩,
  ⟨(some 20), (some (16, true)), (.mx (.t 17) (.t 19))⟩,
  ⟨(some 21), (some (16, true)), (.mv (.t 0))⟩,
  ⟨(some 22), (some (16, true)), (.mv (.t 0))⟩,
  ⟨(some 23), (some (16, true)), (.un .neg (.t 22))⟩,
  ⟨(some 24), (some (16, true)), (.mx (.t 21) (.t 23))⟩,
  ⟨(some 25), (some (16, true)), (.bin .quo (.c (.sc (.int .i64 (1125899906842624)))) (.t 24))⟩,
  ⟨(some 26), (some (16, true)), (.bin .gtr (.t 20) (.t 25))⟩,
  ⟨(some 27), none, (.pick (.t 16) (.t 26) (.c (.sc (.bool false))))⟩] none)
 (.cond (.t 27)
 (.seq (.reg [⟨(some 4), none, (.mv (.c (.sc (.int .i64 (0)))))⟩,
  ⟨(some 5), none, (.mv (.c (.sc (.int .i64 (2)))))⟩] none) .ret) .skip))
 (.seq (.reg [⟨(some 28), none, (.mv (.t 0))⟩,
  ⟨(some 29), none, (.mv (.t 1))⟩,
  ⟨(some 30), none, (.bin .mul (.t 28) (.t 29))⟩,
  ⟨(some 4), none, (.mv (.t 30))⟩,
  ⟨(some 5), none, (.mv (.c (.sc (.int .i64 (0)))))⟩] none) .ret))))
theorem good16 {args : List PV} {r : PV} (hl : args.length ≤ 31) (h : Run Tryd.prog [.code ac16] (endQ [(.t 4), (.t 5)] r) ⟨initT 0 args, [], 0, 31⟩) : Good Tryd.prog 16 args r :=
  good_run (by kernel_rfl) Namix Tryd.func16 rfl (hs := []) (hs' := []) (by kernel_rfl) hl h
def ac18 : ACode :=
 (.seq (.reg [⟨(some 2), none, (.mv (.c (.sc (.int .i64 (0)))))⟩,
  ⟨(some 3), none, (.mv (.c (.sc (.int .i64 (0)))))⟩] none)
 (.seq (.reg [⟨(some 4), none, (.mv (.c (.sc (.int .u64 (0)))))⟩,
  ⟨(some 5), none, (.mv (.c (.sc (.int .u64 (0)))))⟩] none)
 (.seq (.seq (.reg [⟨(some 10), none, (.mv (.t 0))⟩,
  ⟨(some 11), none, (.len (.t 10))⟩,
  ⟨(some 12), none, (.mv (.c (.sc (.int .i64 (0)))))⟩] none) (.block 0 
 (.loop ⟨[4, 5, 10, 11, 12], []⟩
 (.seq (.reg [⟨(some 13), none, (.bin .lss (.t 12) (.t 11))⟩] none)
 (.seq
 (.cond (.t 13) .skip (.exit 0))
 (.seq (.block 1
 (.seq (.reg [⟨(some 14), none, (.iaddr 1 (.t 10) (.t 12))⟩,
  ⟨(some 15), none, (.load 1 false (.t 14))⟩,
  ⟨(some 7), none, (.mv (.t 15))⟩] none)
 (.seq (.seq (.reg [⟨(some 16), none, (.mv (.t 7))⟩,
  ⟨(some 17), none, (.call 35 [(.t 16)])⟩,
  ⟨(some 18), none, (.un .not (.t 17))⟩] none)
 (.cond (.t 18)
 (.seq (.reg [⟨(some 2), none, (.mv (.c (.sc (.int .i64 (0)))))⟩,
  ⟨(some 3), none, (.mv (.c (.sc (.int .i64 (1)))))⟩] none) .ret) .skip))
 (.seq (.reg [⟨(some 8), none, (.mv (.c (.sc (.int .u64 (0)))))⟩] none)
 (.seq (.reg [⟨(some 20), none, (.mv (.t 5))⟩,
  ⟨(some 21), none, (.mv (.t 7))⟩,
  ⟨(some 22), none, (.conv .u64 (.t 21))⟩,
  ⟨(some 23), none, (.add64 (.t 20) (.t 22) (.c (.sc (.int .u64 (0)))))⟩,
  ⟨(some 19), none, (.mv (.t 23))⟩,
  ⟨(some 24), none, (.ext 0 (.t 19))⟩,
  ⟨(some 25), none, (.ext 1 (.t 19))⟩,
  ⟨(some 5), none, (.mv (.t 24))⟩,
  ⟨(some 8), none, (.mv (.t 25))⟩] none) (.reg [⟨(some 27), none, (.mv (.t 4))⟩,
  ⟨(some 28), none, (.mv (.t 7))⟩,
  ⟨(some 29), none, (.bin .shr (.t 28) (.c (.sc (.int .u64 (63)))))⟩,
  ⟨(some 30), none, (.conv .u64 (.t 29))⟩,
  ⟨(some 31), none, (.mv (.t 8))⟩,
  ⟨(some 32), none, (.add64 (.t 27) (.t 30) (.t 31))⟩,
  ⟨(some 26), none, (.mv (.t 32))⟩,
  ⟨(some 33), none, (.ext 0 (.t 26))⟩,
  ⟨(some 34), none, (.ext 1 (.t 26))⟩,
  ⟨(some 4), none, (.mv (.t 33))⟩] none)))))) (.reg [⟨(some 35), none, (.bin .add (.t 12) (.c (.sc (.int .i64 (1)))))⟩,
  ⟨(some 12), none, (.mv (.t 35))⟩] none)))))))
 (.seq (.seq (.reg [⟨(some 36), none, (.mv (.t 5))⟩,
  ⟨(some 37), none, (.conv .i64 (.t 36))⟩,
  ⟨(some 9), none, (.mv (.t 37))⟩] none)
 (.seq (.reg [⟨(some 38), none, (.mv (.t 4))⟩,
  ⟨(some 39), none, (.mv (.t 9))⟩,
  ⟨(some 40), none, (.bin .shr (.t 39) (.c (.sc (.int .u64 (63)))))⟩,
  ⟨(some 41), none, (.conv .u64 (.t 40))⟩,
  ⟨(some 42), none, (.bin .eql (.t 38) (.t 41))⟩] none)
 (.cond (.t 42)
 (.seq (.reg [⟨(some 43), none, (.mv (.t 9))⟩,
  ⟨(some 44), none, (.call 36 [(.t 43)])⟩,
  ⟨(some 45), none, (.ext 0 (.t 44))⟩,
  ⟨(some 46), none, (.ext 1 (.t 44))⟩,
  ⟨(some 2), none, (.mv (.t 45))⟩,
  ⟨(some 3), none, (.mv (.t 46))⟩] none) .ret) .skip)))
 (.seq (.reg [⟨(some 2), none, (.mv (.c (.sc (.int .i64 (0)))))⟩,
  ⟨(some 3), none, (.mv (.c (.sc (.int .i64 (2)))))⟩] none) .ret)))))
theorem good18 {args : List PV} {r : PV} (hl : args.length ≤ 47) (h : Run Tryd.prog [.code ac18] (endQ [(.t 2), (.t 3)] r) ⟨initT 0 args, [], 0, 47⟩) : Good Tryd.prog 18 args r :=
  good_run (by kernel_rfl) Namix Tryd.func18 rfl (hs := [⟨[4, 5, 10, 11, 12], []⟩]) (hs' := []) (by kernel_rfl) hl h
def ac19 : ACode :=
 (.seq (.reg [⟨(some 2), none, (.mv (.c (.sc (.int .i64 (0)))))⟩,
  ⟨(some 3), none, (.mv (.c (.sc (.int .i64 (0)))))⟩] none)
 (.seq (.seq (.reg [⟨(some 4), none, (.mv (.c (.sc (.int .i64 (0)))))⟩] none) (.block 0 
 (.loop ⟨[0, 4], []⟩
 (.seq (.seq (.reg [⟨(some 7), none, (.mv (.t 4))⟩,
  ⟨(some 8), none, (.mv (.t 0))⟩,
  ⟨(some 9), none, (.len (.t 8))⟩,
  ⟨(some 10), none, (.bin .lss (.t 7) (.t 9))⟩] none)
 (.cond (.t 10) .skip (.exit 0)))
 (.seq (.block 1
 (.seq (.reg [⟨(some 13), none, (.mv (.t 0))⟩,
  ⟨(some 14), none, (.mv (.t 4))⟩,
  ⟨(some 15), none, (.iaddr 1 (.t 13) (.t 14))⟩,
  ⟨(some 16), none, (.load 1 false (.t 15))⟩,
  ⟨(some 17), none, (.call 25 [(.t 16)])⟩,
  ⟨(some 18), none, (.un .not (.t 17))⟩] none)
 (.cond (.t 18)
 (.seq (.reg [⟨(some 2), none, (.mv (.c (.sc (.int .i64 (0)))))⟩,
  ⟨(some 3), none, (.mv (.c (.sc (.int .i64 (1)))))⟩] none) .ret) .skip))) (.reg [⟨(some 11), none, (.mv (.t 4))⟩,
  ⟨(some 12), none, (.bin .add (.t 11) (.c (.sc (.int .i64 (1)))))⟩,
  ⟨(some 4), none, (.mv (.t 12))⟩] none))))))
 (.seq (.reg [⟨(some 5), none, (.mv (.c (.sc (.int .i64 (0)))))⟩] none)
 (.seq (.seq (.reg [⟨(some 6), none, (.mv (.c (.sc (.int .i64 (0)))))⟩] none) (.block 2 
 (.loop ⟨[0, 5, 6], []⟩
 (.seq (.seq (.reg [⟨(some 19), none, (.mv (.t 6))⟩,
  ⟨(some 20), none, (.mv (.t 0))⟩,
  ⟨(some 21), none, (.len (.t 20))⟩,
  ⟨(some 22), none, (.bin .lss (.t 19) (.t 21))⟩] none)
 (.cond (.t 22) .skip (.exit 2)))
 (.seq (.block 3 (.reg [⟨(some 25), none, (.mv (.t 5))⟩,
  ⟨(some 26), none, (.mv (.t 0))⟩,
  ⟨(some 27), none, (.mv (.t 6))⟩,
  ⟨(some 28), none, (.iaddr 1 (.t 26) (.t 27))⟩,
  ⟨(some 29), none, (.load 1 false (.t 28))⟩,
  ⟨(some 30), none, (.bin .add (.t 25) (.t 29))⟩,
  ⟨(some 5), none, (.mv (.t 30))⟩] none)) (.reg [⟨(some 23), none, (.mv (.t 6))⟩,
  ⟨(some 24), none, (.bin .add (.t 23) (.c (.sc (.int .i64 (1)))))⟩,
  ⟨(some 6), none, (.mv (.t 24))⟩] none))))))
 (.seq (.seq (.reg [⟨(some 31), none, (.mv (.t 5))⟩,
  ⟨(some 32), none, (.call 25 [(.t 31)])⟩,
  ⟨(some 33), none, (.un .not (.t 32))⟩] none)
 (.cond (.t 33)
 (.seq (.reg [⟨(some 2), none, (.mv (.c (.sc (.int .i64 (0)))))⟩,
  ⟨(some 3), none, (.mv (.c (.sc (.int .i64 (2)))))⟩] none) .ret) .skip))
 (.seq (.reg [⟨(some 34), none, (.mv (.t 5))⟩,
  ⟨(some 2), none, (.mv (.t 34))⟩,
  ⟨(some 3), none, (.mv (.c (.sc (.int .i64 (0)))))⟩] none) .ret))))))
theorem good19 {args : List PV} {r : PV} (hl : args.length ≤ 35) (h : Run Tryd.prog [.code ac19] (endQ [(.t 2), (.t 3)] r) ⟨initT 0 args, [], 0, 35⟩) : Good Tryd.prog 19 args r :=
  good_run (by kernel_rfl) Namix Tryd.func19 rfl (hs := [⟨[0, 4], []⟩, ⟨[0, 5, 6], []⟩]) (hs' := []) (by kernel_rfl) hl h
def ac20 : ACode :=
 (.seq (.reg [⟨(some 6), none, (.mv (.c (.sc (.int .i64 (0)))))⟩,
  ⟨(some 7), none, (.mv (.c (.sc (.int .i64 (0)))))⟩] none)
 (.seq (.seq (.reg [⟨(some 14), none, (.mv (.t 0))⟩,
  ⟨(some 15), none, (.call 39 [(.t 14), (.c (.sc (.int .i64 (0)))), (.c (.sc (.int .i64 (1125899906842624))))])⟩,
  ⟨(some 16), none, (.un .not (.t 15))⟩,
  ⟨(some 17), none, (.mv (.t 16))⟩,
  ⟨(some 18), (some (17, false)), (.mv (.t 1))⟩,
  ⟨(some 19), (some (17, false)), (.call 39 [(.t 18), (.c (.sc (.int .i64 (0)))), (.c (.sc (.int .i64 (1125899906842624))))])⟩,
  ⟨(some 20), (some (17, false)), (.un .not (.t 19))⟩,
  ⟨(some 21), none, (.pick (.t 17) (.c (.sc (.bool true))) (.t 20))⟩,
  ⟨(some 22), none, (.mv (.t 21))⟩,
  ⟨(some 23), (some (22, false)), (.mv (.t 2))⟩,
  ⟨(some 24), (some (22, false)), (.call 39 [(.t 23), (.c (.sc (.int .i64 (1)))), (.c (.sc (.int .i64 (1125899906842624))))])⟩,
  ⟨(some 25), (some (22, false)), (.un .not (.t 24))⟩,
  ⟨(some 26), none, (.pick (.t 22) (.c (.sc (.bool true))) (.t 25))⟩] none)
 (.cond (.t 26)
 (.seq (.reg [⟨(some 6), none, (.mv (.c (.sc (.int .i64 (0)))))⟩,
  ⟨(some 7), none, (.mv (.c (.sc (.int .i64 (1)))))⟩] none) .ret) .skip))
 (.seq (.seq (.reg [⟨(some 28), none, (.mv (.t 0))⟩,
  ⟨(some 29), none, (.conv .u64 (.t 28))⟩,
  ⟨(some 30), none, (.mv (.t 1))⟩,
  ⟨(some 31), none, (.conv .u64 (.t 30))⟩,
  ⟨(some 32), none, (.call 37 [(.t 29), (.t 31)])⟩,
  ⟨(some 27), none, (.mv (.t 32))⟩,
  ⟨(some 33), none, (.ext 0 (.t 27))⟩,
  ⟨(some 34), none, (.ext 1 (.t 27))⟩,
  ⟨(some 8), none, (.mv (.t 33))⟩,
  ⟨(some 9), none, (.mv (.t 34))⟩] none)
 (.seq (.reg [⟨(some 35), none, (.mv (.t 8))⟩,
  ⟨(some 36), none, (.mv (.t 2))⟩,
  ⟨(some 37), none, (.conv .u64 (.t 36))⟩,
  ⟨(some 38), none, (.bin .geq (.t 35) (.t 37))⟩] none)
 (.cond (.t 38)
 (.seq (.reg [⟨(some 6), none, (.mv (.c (.sc (.int .i64 (0)))))⟩,
  ⟨(some 7), none, (.mv (.c (.sc (.int .i64 (2)))))⟩] none) .ret) .skip)))
 (.seq (.reg [⟨(some 40), none, (.mv (.t 0))⟩,
  ⟨(some 41), none, (.conv .u64 (.t 40))⟩,
  ⟨(some 42), none, (.mv (.t 1))⟩,
  ⟨(some 43), none, (.conv .u64 (.t 42))⟩,
  ⟨(some 44), none, (.call 37 [(.t 41), (.t 43)])⟩,
  ⟨(some 39), none, (.mv (.t 44))⟩,
  ⟨(some 45), none, (.ext 0 (.t 39))⟩,
  ⟨(some 46), none, (.ext 1 (.t 39))⟩,
  ⟨(some 10), none, (.mv (.t 45))⟩,
  ⟨(some 11), none, (.mv (.t 46))⟩] none)
 (.seq (.reg [⟨(some 48), none, (.mv (.t 10))⟩,
  ⟨(some 49), none, (.mv (.t 11))⟩,
  ⟨(some 50), none, (.mv (.t 2))⟩,
  ⟨(some 51), none, (.conv .u64 (.t 50))⟩,
  ⟨(some 52), none, (.call 40 [(.t 48), (.t 49), (.t 51)])⟩,
  ⟨(some 47), none, (.mv (.t 52))⟩,
  ⟨(some 53), none, (.ext 0 (.t 47))⟩,
  ⟨(some 54), none, (.ext 1 (.t 47))⟩,
  ⟨(some 12), none, (.mv (.t 53))⟩,
  ⟨(some 13), none, (.mv (.t 54))⟩] none)
 (.seq (.seq (.reg [⟨(some 55), none, (.mv (.t 12))⟩,
  ⟨(some 56), none, (.bin .gtr (.t 55) (.c (.sc (.int .u64 (1125899906842624)))))⟩] none)
 (.cond (.t 56)
 (.seq (.reg [⟨(some 6), none, (.mv (.c (.sc (.int .i64 (0)))))⟩,
  ⟨(some 7), none, (.mv (.c (.sc (.int .i64 (2)))))⟩] none) .ret) .skip))
 (.seq (.reg [⟨(some 57), none, (.mv (.t 12))⟩,
  ⟨(some 58), none, (.conv .i64 (.t 57))⟩,
  ⟨(some 6), none, (.mv (.t 58))⟩,
  ⟨(some 7), none, (.mv (.c (.sc (.int .i64 (0)))))⟩] none) .ret)))))))
theorem good20 {args : List PV} {r : PV} (hl : args.length ≤ 59) (h : Run Tryd.prog [.code ac20] (endQ [(.t 6), (.t 7)] r) ⟨initT 0 args, [], 0, 59⟩) : Good Tryd.prog 20 args r :=
  good_run (by kernel_rfl) Namix Tryd.func20 rfl (hs := []) (hs' := []) (by kernel_rfl) hl h
def ac21 : ACode :=
 (.seq (.reg [⟨(some 6), none, (.mv (.c (.sc (.int .i64 (0)))))⟩,
  ⟨(some 7), none, (.mv (.c (.sc (.int .i64 (0)))))⟩] none)
 (.seq (.seq (.reg [⟨(some 10), none, (.mv (.t 0))⟩,
  ⟨(some 11), none, (.bin .lss (.t 10) (.c (.sc (.int .i64 (0)))))⟩,
  ⟨(some 12), none, (.mv (.t 11))⟩,
  ⟨(some 13), (some (12, false)), (.mv (.t 0))⟩,
  ⟨(some 14), (some (12, false)), (.bin .gtr (.t 13) (.c (.sc (.int .i64 (1125899906842624)))))⟩,
  ⟨(some 15), none, (.pick (.t 12) (.c (.sc (.bool true))) (.t 14))⟩,
  ⟨(some 16), none, (.mv (.t 15))⟩,
  ⟨(some 17), (some (16, false)), (.mv (.t 1))⟩,
  ⟨(some 18), (some (16, false)), (.bin .lss (.t 17) (.c (.sc (.int .i64 (0)))))⟩,
  ⟨(some 19), none, (.pick (.t 16) (.c (.sc (.bool true))) (.t 18))⟩,
  ⟨(some 20), none, (.mv (.t 19))⟩,
  ⟨(some 21), (some (20, false)), (.mv (.t 1))⟩,
  ⟨(some 22), (some (20, false)), (.bin .gtr (.t 21) (.c (.sc (.int .i64 (1125899906842624)))))⟩,
  ⟨(some 23), none, (.pick (.t 20) (.c (.sc (.bool true))) (.t 22))⟩,
  ⟨(some 24), none, (.mv (.t 23))⟩,
  ⟨(some 25), (some (24, false)), (.mv (.t 2))⟩,
  ⟨(some 26), (some (24, false)), (.bin .lss (.t 25) (.c (.sc (.int .i64 (1)))))⟩,
  ⟨(some 27), none, (.pick (.t 24) (.c (.sc (.bool true))) (.t 26))⟩,
  ⟨(some 28), none, (.mv (.t 27))⟩,
  ⟨(some 29), (some (28, false)), (.mv (.t 2))⟩,
  ⟨(some 30), (some (28, false)), (.bin .gtr (.t 29) (.c (.sc (.int .i64 (1125899906842624)))))⟩,
  ⟨(some 31), none, (.pick (.t 28) (.c (.sc (.bool true))) (.t 30))⟩] none)
 (.cond (.t 31)
 (.seq (.reg [⟨(some 6), none, (.mv (.c (.sc (.int .i64 (0)))))⟩,
  ⟨(some 7), none, (.mv (.c (.sc (.int .i64 (1)))))⟩] none) .ret) .skip))
 (.seq (.reg [⟨(some 33), none, (.mv (.t 0))⟩,
  ⟨(some 34), none, (.mv (.t 1))⟩,
  ⟨(some 35), none, (.mv (.t 2))⟩,
  ⟨(some 36), none, (.call 30 [(.t 33), (.t 34), (.t 35)])⟩,
  ⟨(some 32), none, (.mv (.t 36))⟩,
  ⟨(some 37), none, (.ext 0 (.t 32))⟩,
  ⟨(some 38), none, (.ext 1 (.t 32))⟩,
  ⟨(some 8), none, (.mv (.t 37))⟩,
  ⟨(some 9), none, (.mv (.t 38))⟩] none)
 (.seq (.seq (.reg [⟨(some 39), none, (.mv (.t 8))⟩,
  ⟨(some 40), none, (.bin .gtr (.t 39) (.c (.sc (.int .i64 (1125899906842624)))))⟩] none)
 (.cond (.t 40)
 (.seq (.reg [⟨(some 6), none, (.mv (.c (.sc (.int .i64 (0)))))⟩,
  ⟨(some 7), none, (.mv (.c (.sc (.int .i64 (2)))))⟩] none) .ret) .skip))
 (.seq (.reg [⟨(some 41), none, (.mv (.t 8))⟩,
  ⟨(some 6), none, (.mv (.t 41))⟩,
  ⟨(some 7), none, (.mv (.c (.sc (.int .i64 (0)))))⟩] none) .ret)))))
theorem good21 {args : List PV} {r : PV} (hl : args.length ≤ 42) (h : Run Tryd.prog [.code ac21] (endQ [(.t 6), (.t 7)] r) ⟨initT 0 args, [], 0, 42⟩) : Good Tryd.prog 21 args r :=
  good_run (by kernel_rfl) Namix Tryd.func21 rfl (hs := []) (hs' := []) (by kernel_rfl) hl h
def ac22 : ACode :=
 (.seq (.reg [⟨(some 4), none, (.mv (.c (.sc (.int .i64 (0)))))⟩,
  ⟨(some 5), none, (.mv (.c (.sc (.int .i64 (0)))))⟩] none)
 (.seq (.seq (.reg [⟨(some 9), none, (.mv (.t 0))⟩,
  ⟨(some 10), none, (.call 35 [(.t 9)])⟩,
  ⟨(some 11), none, (.un .not (.t 10))⟩,
  ⟨(some 12), none, (.mv (.t 11))⟩,
  ⟨(some 13), (some (12, false)), (.mv (.t 1))⟩,
  ⟨(some 14), (some (12, false)), (.call 39 [(.t 13), (.c (.sc (.int .i64 (1)))), (.c (.sc (.int .i64 (1125899906842624))))])⟩,
  ⟨(some 15), (some (12, false)), (.un .not (.t 14))⟩,
  ⟨(some 16), none, (.pick (.t 12) (.c (.sc (.bool true))) (.t 15))⟩] none)
 (.cond (.t 16)
 (.seq (.reg [⟨(some 4), none, (.mv (.c (.sc (.int .i64 (0)))))⟩,
  ⟨(some 5), none, (.mv (.c (.sc (.int .i64 (1)))))⟩] none) .ret) .skip))
 (.seq (.reg [⟨(some 17), none, (.mv (.t 0))⟩,
  ⟨(some 18), none, (.bin .mul (.c (.sc (.int .i64 (2)))) (.t 17))⟩,
  ⟨(some 19), none, (.mv (.t 1))⟩,
  ⟨(some 20), none, (.bin .add (.t 18) (.t 19))⟩,
  ⟨(some 21), none, (.mv (.t 1))⟩,
  ⟨(some 22), none, (.bin .mul (.c (.sc (.int .i64 (2)))) (.t 21))⟩,
  ⟨(some 6), none, (.mv (.t 20))⟩,
  ⟨(some 7), none, (.mv (.t 22))⟩] none)
 (.seq (.reg [⟨(some 23), none, (.mv (.t 6))⟩,
  ⟨(some 24), none, (.mv (.t 7))⟩,
  ⟨(some 25), none, (.bin .quo (.t 23) (.t 24))⟩,
  ⟨(some 8), none, (.mv (.t 25))⟩] none)
 (.seq (.seq (.reg [⟨(some 26), none, (.mv (.t 6))⟩,
  ⟨(some 27), none, (.mv (.t 7))⟩,
  ⟨(some 28), none, (.bin .rem (.t 26) (.t 27))⟩,
  ⟨(some 29), none, (.bin .lss (.t 28) (.c (.sc (.int .i64 (0)))))⟩] none)
 (.cond (.t 29) (.reg [⟨(some 30), none, (.mv (.t 8))⟩,
  ⟨(some 31), none, (.bin .sub (.t 30) (.c (.sc (.int .i64 (1)))))⟩,
  ⟨(some 8), none, (.mv (.t 31))⟩] none) .skip))
 (.seq (.reg [⟨(some 32), none, (.mv (.t 8))⟩,
  ⟨(some 4), none, (.mv (.t 32))⟩,
  ⟨(some 5), none, (.mv (.c (.sc (.int .i64 (0)))))⟩] none) .ret))))))
theorem good22 {args : List PV} {r : PV} (hl : args.length ≤ 33) (h : Run Tryd.prog [.code ac22] (endQ [(.t 4), (.t 5)] r) ⟨initT 0 args, [], 0, 33⟩) : Good Tryd.prog 22 args r :=
  good_run (by kernel_rfl) Namix Tryd.func22 rfl (hs := []) (hs' := []) (by kernel_rfl) hl h
def ac23 : ACode :=
 (.seq (.reg [⟨(some 4), none, (.mv (.c (.sc (.int .i64 (0)))))⟩,
  ⟨(some 5), none, (.mv (.c (.sc (.int .i64 (0)))))⟩] none)
 (.seq (.seq (.reg [⟨(some 7), none, (.mv (.t 0))⟩,
  ⟨(some 8), none, (.call 25 [(.t 7)])⟩,
  ⟨(some 9), none, (.un .not (.t 8))⟩,
  ⟨(some 10), none, (.mv (.t 9))⟩,
  ⟨(some 11), (some (10, false)), (.mv (.t 1))⟩,
  ⟨(some 12), (some (10, false)), (.bin .lss (.t 11) (.c (.sc (.int .i64 (1)))))⟩,
  ⟨(some 13), none, (.pick (.t 10) (.c (.sc (.bool true))) (.t 12))⟩,
  ⟨(some 14), none, (.mv (.t 13))⟩,
  ⟨(some 15), (some (14, false)), (.mv (.t 1))⟩,
  ⟨(some 16), (some (14, false)), (.bin .gtr (.t 15) (.c (.sc (.int .i64 (1125899906842624)))))⟩,
  ⟨(some 17), none, (.pick (.t 14) (.c (.sc (.bool true))) (.t 16))⟩] none)
 (.cond (.t 17)
 (.seq (.reg [⟨(some 4), none, (.mv (.c (.sc (.int .i64 (0)))))⟩,
  ⟨(some 5), none, (.mv (.c (.sc (.int .i64 (1)))))⟩] none) .ret) .skip))
 (.seq (.reg [⟨(some 18), none, (.mv (.t 0))⟩,
  ⟨(some 19), none, (.bin .mul (.c (.sc (.int .i64 (2)))) (.t 18))⟩,
  ⟨(some 20), none, (.mv (.t 1))⟩,
  ⟨(some 21), none, (.bin .add (.t 19) (.t 20))⟩,
  ⟨(some 22), none, (.mv (.t 1))⟩,
  ⟨(some 23), none, (.bin .mul (.c (.sc (.int .i64 (2)))) (.t 22))⟩,
  ⟨(some 24), none, (.bin .quo (.t 21) (.t 23))⟩,
  ⟨(some 6), none, (.mv (.t 24))⟩] none)
 (.seq (.seq (.reg [⟨(some 25), none, (.mv (.t 0))⟩,
  ⟨(some 26), none, (.bin .mul (.c (.sc (.int .i64 (2)))) (.t 25))⟩,
  ⟨(some 27), none, (.mv (.t 1))⟩,
  ⟨(some 28), none, (.bin .add (.t 26) (.t 27))⟩,
  ⟨(some 29), none, (.mv (.t 1))⟩,
  ⟨(some 30), none, (.bin .mul (.c (.sc (.int .i64 (2)))) (.t 29))⟩,
  ⟨(some 31), none, (.bin .rem (.t 28) (.t 30))⟩,
  ⟨(some 32), none, (.bin .lss (.t 31) (.c (.sc (.int .i64 (0)))))⟩] none)
 (.cond (.t 32) (.reg [⟨(some 33), none, (.mv (.t 6))⟩,
  ⟨(some 34), none, (.bin .sub (.t 33) (.c (.sc (.int .i64 (1)))))⟩,
  ⟨(some 6), none, (.mv (.t 34))⟩] none) .skip))
 (.seq (.reg [⟨(some 35), none, (.mv (.t 6))⟩,
  ⟨(some 4), none, (.mv (.t 35))⟩,
  ⟨(some 5), none, (.mv (.c (.sc (.int .i64 (0)))))⟩] none) .ret)))))
theorem good23 {args : List PV} {r : PV} (hl : args.length ≤ 36) (h : Run Tryd.prog [.code ac23] (endQ [(.t 4), (.t 5)] r) ⟨initT 0 args, [], 0, 36⟩) : Good Tryd.prog 23 args r :=
  good_run (by kernel_rfl) Namix Tryd.func23 rfl (hs := []) (hs' := []) (by kernel_rfl) hl h
def ac24 : ACode :=
 (.seq (.reg [⟨(some 4), none, (.mv (.c (.sc (.bool false))))⟩] none)
 (.seq (.reg [⟨(some 5), none, (.mv (.t 0))⟩,
  ⟨(some 6), none, (.mv (.t 1))⟩,
  ⟨(some 7), none, (.bin .geq (.t 5) (.t 6))⟩,
  ⟨(some 8), none, (.mv (.t 7))⟩,
  ⟨(some 9), (some (8, true)), (.mv (.t 0))⟩,
  ⟨(some 10), (some (8, true)), (.bin .leq (.t 9) (.c (.sc (.int .i64 (1125899906842624)))))⟩,
  ⟨(some 11), none, (.pick (.t 8) (.t 10) (.c (.sc (.bool false))))⟩,
  ⟨(some 4), none, (.mv (.t 11))⟩] none) .ret))
theorem good24 {args : List PV} {r : PV} (hl : args.length ≤ 12) (h : Run Tryd.prog [.code ac24] (endQ [(.t 4)] r) ⟨initT 0 args, [], 0, 12⟩) : Good Tryd.prog 24 args r :=
  good_run (by kernel_rfl) Namix Tryd.func24 rfl (hs := []) (hs' := []) (by kernel_rfl) hl h
def ac25 : ACode :=
 (.seq (.reg [⟨(some 2), none, (.mv (.c (.sc (.bool false))))⟩] none)
 (.seq (.reg [⟨(some 3), none, (.mv (.t 0))⟩,
  ⟨(some 4), none, (.bin .geq (.t 3) (.c (.sc (.int .i64 (-1125899906842624)))))⟩,
  ⟨(some 5), none, (.mv (.t 4))⟩,
  ⟨(some 6), (some (5, true)), (.mv (.t 0))⟩,
  ⟨(some 7), (some (5, true)), (.bin .leq (.t 6) (.c (.sc (.int .i64 (1125899906842624)))))⟩,
  ⟨(some 8), none, (.pick (.t 5) (.t 7) (.c (.sc (.bool false))))⟩,
  ⟨(some 2), none, (.mv (.t 8))⟩] none) .ret))
theorem good25 {args : List PV} {r : PV} (hl : args.length ≤ 9) (h : Run Tryd.prog [.code ac25] (endQ [(.t 2)] r) ⟨initT 0 args, [], 0, 9⟩) : Good Tryd.prog 25 args r :=
  good_run (by kernel_rfl) Namix Tryd.func25 rfl (hs := []) (hs' := []) (by kernel_rfl) hl h
def ac35 : ACode :=
 (.seq (.reg [⟨(some 2), none, (.mv (.c (.sc (.bool false))))⟩] none)
 (.seq (.reg [⟨(some 3), none, (.mv (.t 0))⟩,
  ⟨(some 4), none, (.bin .leq (.c (.sc (.int .i64 (-1125899906842624)))) (.t 3))⟩,
  ⟨(some 5), none, (.mv (.t 4))⟩,
  ⟨(some 6), (some (5, true)), (.mv (.t 0))⟩,
  ⟨(some 7), (some (5, true)), (.bin .leq (.t 6) (.c (.sc (.int .i64 (1125899906842624)))))⟩,
  ⟨(some 8), none, (.pick (.t 5) (.t 7) (.c (.sc (.bool false))))⟩,
  ⟨(some 2), none, (.mv (.t 8))⟩] none) .ret))
theorem good35 {args : List PV} {r : PV} (hl : args.length ≤ 9) (h : Run Tryd.prog [.code ac35] (endQ [(.t 2)] r) ⟨initT 0 args, [], 0, 9⟩) : Good Tryd.prog 35 args r :=
  good_run (by kernel_rfl) Namix Tryd.func35 rfl (hs := []) (hs' := []) (by kernel_rfl) hl h
def ac36 : ACode :=
 (.seq (.reg [⟨(some 2), none, (.mv (.c (.sc (.int .i64 (0)))))⟩,
  ⟨(some 3), none, (.mv (.c (.sc (.int .i64 (0)))))⟩] none)
 (.seq (.seq (.reg [⟨(some 4), none, (.mv (.t 0))⟩,
  ⟨(some 5), none, (.call 35 [(.t 4)])⟩,
  ⟨(some 6), none, (.un .not (.t 5))⟩] none)
 (.cond (.t 6)
 (.seq (.reg [⟨(some 2), none, (.mv (.c (.sc (.int .i64 (0)))))⟩,
  ⟨(some 3), none, (.mv (.c (.sc (.int .i64 (2)))))⟩] none) .ret) .skip))
 (.seq (.reg [⟨(some 7), none, (.mv (.t 0))⟩,
  ⟨(some 2), none, (.mv (.t 7))⟩,
  ⟨(some 3), none, (.mv (.c (.sc (.int .i64 (0)))))⟩] none) .ret)))
theorem good36 {args : List PV} {r : PV} (hl : args.length ≤ 8) (h : Run Tryd.prog [.code ac36] (endQ [(.t 2), (.t 3)] r) ⟨initT 0 args, [], 0, 8⟩) : Good Tryd.prog 36 args r :=
  good_run (by kernel_rfl) Namix Tryd.func36 rfl (hs := []) (hs' := []) (by kernel_rfl) hl h
def ac28 : ACode :=
 (.seq (.reg [⟨(some 4), none, (.mv (.c (.sc (.bool false))))⟩] none)
 (.seq (.seq (.reg [⟨(some 6), none, (.mv (.t 0))⟩,
  ⟨(some 7), none, (.len (.t 6))⟩,
  ⟨(some 8), none, (.mv (.t 1))⟩,
  ⟨(some 9), none, (.len (.t 8))⟩,
  ⟨(some 10), none, (.bin .neq (.t 7) (.t 9))⟩] none)
 (.cond (.t 10)
 (.seq (.reg [⟨(some 4), none, (.mv (.c (.sc (.bool false))))⟩] none) .ret) .skip))
 (.seq (.seq (.reg [⟨(some 5), none, (.mv (.c (.sc (.int .i64 (0)))))⟩] none) (.block 0 
 (.loop ⟨[0, 1, 5], []⟩
 (.seq (.seq (.reg [⟨(some 11), none, (.mv (.t 5))⟩,
  ⟨(some 12), none, (.mv (.t 0))⟩,
  ⟨(some 13), none, (.len (.t 12))⟩,
  ⟨(some 14), none, (.bin .lss (.t 11) (.t 13))⟩] none)
 (.cond (.t 14) .skip (.exit 0)))
 (.seq (.block 1
 (.seq (.reg [⟨(some 17), none, (.mv (.t 0))⟩,
  ⟨(some 18), none, (.mv (.t 5))⟩,
  ⟨(some 19), none, (.iaddr 1 (.t 17) (.t 18))⟩,
  ⟨(some 20), none, (.load 1 false (.t 19))⟩,
  ⟨(some 21), none, (.mv (.t 1))⟩,
  ⟨(some 22), none, (.mv (.t 5))⟩,
  ⟨(some 23), none, (.iaddr 1 (.t 21) (.t 22))⟩,
  ⟨(some 24), none, (.load 1 false (.t 23))⟩,
  ⟨(some 25), none, (.bin .neq (.t 20) (.t 24))⟩] (some [[], [], [0, 1], [2, 0, 1], [], [], [4, 5], [6, 4, 5], [3, 7, 2, 0, 1, 6, 4, 5]]))
 (.cond (.t 25)
 (.seq (.reg [⟨(some 4), none, (.mv (.c (.sc (.bool false))))⟩] none) .ret) .skip))) (.reg [⟨(some 15), none, (.mv (.t 5))⟩,
  ⟨(some 16), none, (.bin .add (.t 15) (.c (.sc (.int .i64 (1)))))⟩,
  ⟨(some 5), none, (.mv (.t 16))⟩] none))))))
 (.seq (.reg [⟨(some 4), none, (.mv (.c (.sc (.bool true))))⟩] none) .ret))))
theorem good28 {args : List PV} {r : PV} (hl : args.length ≤ 26) (h : Run Tryd.prog [.code ac28] (endQ [(.t 4)] r) ⟨initT 0 args, [], 0, 26⟩) : Good Tryd.prog 28 args r :=
  good_run (by kernel_rfl) Namix Tryd.func28 rfl (hs := [⟨[0, 1, 5], []⟩]) (hs' := []) (by kernel_rfl) hl h
def ac29 : ACode :=
 (.seq (.reg [⟨(some 2), none, (.mv (.c (.sc (.int .i64 (0)))))⟩,
  ⟨(some 3), none, (.mv (.c (.sc (.bool false))))⟩] none)
 (.seq (.reg [⟨(some 4), none, (.mv (.c (.sc (.int .i64 (0)))))⟩] none)
 (.seq (.seq (.reg [⟨(some 5), none, (.mv (.c (.sc (.int .i64 (0)))))⟩] none) (.block 0 
 (.loop ⟨[0, 4, 5], []⟩
 (.seq (.seq (.reg [⟨(some 6), none, (.mv (.t 5))⟩,
  ⟨(some 7), none, (.mv (.t 0))⟩,
  ⟨(some 8), none, (.len (.t 7))⟩,
  ⟨(some 9), none, (.bin .lss (.t 6) (.t 8))⟩] none)
 (.cond (.t 9) .skip (.exit 0)))
 (.seq (.block 1
 (.seq (.seq (.reg [⟨(some 12), none, (.mv (.t 0))⟩,
  ⟨(some 13), none, (.mv (.t 5))⟩,
  ⟨(some 14), none, (.iaddr 1 (.t 12) (.t 13))⟩,
  ⟨(some 15), none, (.load 1 false (.t 14))⟩,
  ⟨(some 16), none, (.call 24 [(.t 15), (.c (.sc (.int .i64 (0))))])⟩,
  ⟨(some 17), none, (.un .not (.t 16))⟩] none)
 (.cond (.t 17)
 (.seq (.reg [⟨(some 2), none, (.mv (.c (.sc (.int .i64 (0)))))⟩,
  ⟨(some 3), none, (.mv (.c (.sc (.bool false))))⟩] none) .ret) .skip)) (.reg [⟨(some 18), none, (.mv (.t 4))⟩,
  ⟨(some 19), none, (.mv (.t 0))⟩,
  ⟨(some 20), none, (.mv (.t 5))⟩,
  ⟨(some 21), none, (.iaddr 1 (.t 19) (.t 20))⟩,
  ⟨(some 22), none, (.load 1 false (.t 21))⟩,
  ⟨(some 23), none, (.bin .add (.t 18) (.t 22))⟩,
  ⟨(some 4), none, (.mv (.t 23))⟩] none))) (.reg [⟨(some 10), none, (.mv (.t 5))⟩,
  ⟨(some 11), none, (.bin .add (.t 10) (.c (.sc (.int .i64 (1)))))⟩,
  ⟨(some 5), none, (.mv (.t 11))⟩] none))))))
 (.seq (.reg [⟨(some 24), none, (.mv (.t 4))⟩,
  ⟨(some 2), none, (.mv (.t 24))⟩,
  ⟨(some 3), none, (.mv (.c (.sc (.bool true))))⟩] none) .ret))))
theorem good29 {args : List PV} {r : PV} (hl : args.length ≤ 25) (h : Run Tryd.prog [.code ac29] (endQ [(.t 2), (.t 3)] r) ⟨initT 0 args, [], 0, 25⟩) : Good Tryd.prog 29 args r :=
  good_run (by kernel_rfl) Namix Tryd.func29 rfl (hs := [⟨[0, 4, 5], []⟩]) (hs' := []) (by kernel_rfl) hl h
end Go.Proofs.YtjlhnlfalomenaaDoor
