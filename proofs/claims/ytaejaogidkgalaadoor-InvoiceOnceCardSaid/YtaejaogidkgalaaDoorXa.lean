/-
  The translated codes of functions, checked by the kernel.
-/
import Derived.Test.YtaejaogidkgalaaDoorKc
import Derived.KernelRfl
namespace Go.Proofs.YtaejaogidkgalaaDoor
set_option linter.unusedVariables false
set_option linter.unusedSimpArgs false
set_option linter.unnecessarySimpa false
theorem Xamix : Tryd.prog.follows .mixedOrders = true := by kernel_rfl
def ac46 : ACode :=
 (.seq (.reg [⟨(some 4), none, (.new [(.sc (.int .i64 (0))), (.sc (.int .i64 (0))), (.sc (.slice none 0 0)), (.sc (.int .i64 (0)))])⟩,
  ⟨(some 5), none, (.mv (.c (.sc (.bool false))))⟩] none)
 (.seq (.seq (.reg [⟨(some 8), none, (.mv (.t 0))⟩,
  ⟨(some 9), none, (.len (.t 8))⟩,
  ⟨(some 10), none, (.mv (.c (.sc (.int .i64 (0)))))⟩] none) (.block 0 
 (.loop ⟨[1, 4, 8, 9, 10], []⟩
 (.seq (.reg [⟨(some 11), none, (.bin .lss (.t 10) (.t 9))⟩] none)
 (.seq
 (.cond (.t 11) .skip (.exit 0))
 (.seq (.block 1
 (.seq (.reg [⟨(some 12), none, (.iaddr 4 (.t 8) (.t 10))⟩,
  ⟨(some 13), none, (.load 4 true (.t 12))⟩,
  ⟨(some 7), none, (.new [(.sc (.int .i64 (0))), (.sc (.int .i64 (0))), (.sc (.slice none 0 0)), (.sc (.int .i64 (0)))])⟩,
  ⟨none, none, (.store 4 (.t 7) (.t 13))⟩] none)
 (.seq (.reg [⟨(some 14), none, (.faddr 0 (.t 7))⟩,
  ⟨(some 15), none, (.load 1 false (.t 14))⟩,
  ⟨(some 16), none, (.mv (.t 1))⟩,
  ⟨(some 17), none, (.bin .eql (.t 15) (.t 16))⟩] none)
 (.cond (.t 17)
 (.seq (.reg [⟨(some 18), none, (.load 4 true (.t 7))⟩,
  ⟨none, none, (.store 4 (.t 4) (.t 18))⟩,
  ⟨(some 5), none, (.mv (.c (.sc (.bool true))))⟩] none) .ret) .skip)))) (.reg [⟨(some 19), none, (.bin .add (.t 10) (.c (.sc (.int .i64 (1)))))⟩,
  ⟨(some 10), none, (.mv (.t 19))⟩] none)))))))
 (.seq (.reg [⟨(some 20), none, (.build [(.sc (.int .i64 (0))), (.sc (.int .i64 (0))), (.sc (.slice none 0 0)), (.sc (.int .i64 (0)))] [])⟩,
  ⟨none, none, (.store 4 (.t 4) (.t 20))⟩,
  ⟨(some 5), none, (.mv (.c (.sc (.bool false))))⟩] none) .ret)))
theorem good46 {args : List PV} {r : PV} (hl : args.length ≤ 21) (h : Run Tryd.prog [.code ac46] (endQ [(.c 4 4 true), (.t 5)] r) ⟨initT 0 args, [], 0, 21⟩) : Good Tryd.prog 46 args r :=
  good_run (by kernel_rfl) Xamix Tryd.func46 rfl (hs := [⟨[1, 4, 8, 9, 10], []⟩]) (hs' := []) (by kernel_rfl) hl h
def ac44 : ACode :=
 (.seq (.reg [⟨(some 6), none, (.new [(.sc (.int .i64 (0))), (.sc (.int .i64 (0))), (.sc (.slice none 0 0)), (.sc (.int .i64 (0)))])⟩,
  ⟨(some 7), none, (.new [(.sc (.int .i64 (0))), (.sc (.int .i64 (0))), (.sc (.int .i64 (0)))])⟩,
  ⟨(some 8), none, (.mv (.c (.sc (.bool false))))⟩] none)
 (.seq (.reg [⟨(some 12), none, (.mv (.t 0))⟩,
  ⟨(some 13), none, (.mv (.t 1))⟩,
  ⟨(some 14), none, (.call 46 [(.t 12), (.t 13)])⟩,
  ⟨(some 11), none, (.mv (.t 14))⟩,
  ⟨(some 15), none, (.ext 0 (.t 11))⟩,
  ⟨(some 16), none, (.ext 1 (.t 11))⟩,
  ⟨(some 9), none, (.new [(.sc (.int .i64 (0))), (.sc (.int .i64 (0))), (.sc (.slice none 0 0)), (.sc (.int .i64 (0)))])⟩,
  ⟨none, none, (.store 4 (.t 9) (.t 15))⟩,
  ⟨(some 10), none, (.mv (.t 16))⟩] none)
 (.seq (.seq (.reg [⟨(some 17), none, (.mv (.t 10))⟩,
  ⟨(some 18), none, (.un .not (.t 17))⟩,
  ⟨(some 19), none, (.mv (.t 18))⟩,
  ⟨(some 20), (some (19, false)), (.mv (.t 2))⟩,
  ⟨(some 21), (some (19, false)), (.bin .lss (.t 20) (.c (.sc (.int .i64 (0)))))⟩,
  ⟨(some 22), none, (.pick (.t 19) (.c (.sc (.bool true))) (.t 21))⟩,
  ⟨(some 23), none, (.mv (.t 22))⟩,
  ⟨(some 24), (some (23, false)), (.mv (.t 2))⟩,
  ⟨(some 25), (some (23, false)), (.faddr 2 (.t 9))⟩,
  ⟨(some 26), (some (23, false)), (.load 1 false (.t 25))⟩,
  ⟨(some 27), (some (23, false)), (.len (.t 26))⟩,
  ⟨(some 28), (some (23, false)), (.bin .geq (.t 24) (.t 27))⟩,
  ⟨(some 29), none, (.pick (.t 23) (.c (.sc (.bool true))) (.t 28))⟩] none)
 (.cond (.t 29)
 (.seq (.reg [⟨(some 30), none, (.build [(.sc (.int .i64 (0))), (.sc (.int .i64 (0))), (.sc (.slice none 0 0)), (.sc (.int .i64 (0)))] [])⟩,
  ⟨(some 31), none, (.build [(.sc (.int .i64 (0))), (.sc (.int .i64 (0))), (.sc (.int .i64 (0)))] [])⟩,
  ⟨none, none, (.store 4 (.t 6) (.t 30))⟩,
  ⟨none, none, (.store 3 (.t 7) (.t 31))⟩,
  ⟨(some 8), none, (.mv (.c (.sc (.bool false))))⟩] none) .ret) .skip))
 (.seq (.reg [⟨(some 32), none, (.load 4 true (.t 9))⟩,
  ⟨(some 33), none, (.faddr 2 (.t 9))⟩,
  ⟨(some 34), none, (.load 1 false (.t 33))⟩,
  ⟨(some 35), none, (.mv (.t 2))⟩,
  ⟨(some 36), none, (.iaddr 3 (.t 34) (.t 35))⟩,
  ⟨(some 37), none, (.load 3 true (.t 36))⟩,
  ⟨none, none, (.store 4 (.t 6) (.t 32))⟩,
  ⟨none, none, (.store 3 (.t 7) (.t 37))⟩,
  ⟨(some 8), none, (.mv (.c (.sc (.bool true))))⟩] (some [[], [], [1], [], [2, 3, 1], [4, 2, 3, 1], [0], [5, 6, 0, 1, 2, 3, 4], [7, 0, 1, 2, 3, 4, 5, 6]])) .ret))))
theorem good44 {args : List PV} {r : PV} (hl : args.length ≤ 38) (h : Run Tryd.prog [.code ac44] (endQ [(.c 6 4 true), (.c 7 3 true), (.t 8)] r) ⟨initT 0 args, [], 0, 38⟩) : Good Tryd.prog 44 args r :=
  good_run (by kernel_rfl) Xamix Tryd.func44 rfl (hs := []) (hs' := []) (by kernel_rfl) hl h
def ac42 : ACode :=
 (.seq (.reg [⟨(some 3), none, (.boxv (.t 1))⟩,
  ⟨(some 4), none, (.mv (.c (.sc (.int .i64 (0)))))⟩] none)
 (.seq (.seq (.reg [⟨(some 8), none, (.faddr 0 (.t 3))⟩,
  ⟨(some 9), none, (.load 1 false (.t 8))⟩,
  ⟨(some 10), none, (.bin .lss (.t 9) (.c (.sc (.int .i64 (1)))))⟩,
  ⟨(some 11), none, (.mv (.t 10))⟩,
  ⟨(some 12), (some (11, false)), (.faddr 0 (.t 3))⟩,
  ⟨(some 13), (some (11, false)), (.load 1 false (.t 12))⟩,
  ⟨(some 14), (some (11, false)), (.bin .gtr (.t 13) (.c (.sc (.int .i64 (1000000)))))⟩,
  ⟨(some 15), none, (.pick (.t 11) (.c (.sc (.bool true))) (.t 14))⟩,
  ⟨(some 16), none, (.mv (.t 15))⟩,
  ⟨(some 17), (some (16, false)), (.faddr 3 (.t 3))⟩,
  ⟨(some 18), (some (16, false)), (.load 1 false (.t 17))⟩,
  ⟨(some 19), (some (16, false)), (.bin .lss (.t 18) (.c (.sc (.int .i64 (1)))))⟩,
  ⟨(some 20), none, (.pick (.t 16) (.c (.sc (.bool true))) (.t 19))⟩,
  ⟨(some 21), none, (.mv (.t 20))⟩,
  ⟨(some 22), (some (21, false)), (.faddr 3 (.t 3))⟩,
  ⟨(some 23), (some (21, false)), (.load 1 false (.t 22))⟩,
  ⟨(some 24), (some (21, false)), (.bin .gtr (.t 23) (.c (.sc (.int .i64 (1000000000000)))))⟩,
  ⟨(some 25), none, (.pick (.t 21) (.c (.sc (.bool true))) (.t 24))⟩] none)
 (.cond (.t 25)
 (.seq (.reg [⟨(some 4), none, (.mv (.c (.sc (.int .i64 (1)))))⟩] none) .ret) .skip))
 (.seq (.reg [⟨(some 27), none, (.mv (.t 0))⟩,
  ⟨(some 28), none, (.faddr 1 (.t 3))⟩,
  ⟨(some 29), none, (.load 1 false (.t 28))⟩,
  ⟨(some 30), none, (.faddr 2 (.t 3))⟩,
  ⟨(some 31), none, (.load 1 false (.t 30))⟩,
  ⟨(some 32), none, (.call 44 [(.t 27), (.t 29), (.t 31)])⟩,
  ⟨(some 26), none, (.mv (.t 32))⟩,
  ⟨(some 33), none, (.ext 0 (.t 26))⟩,
  ⟨(some 34), none, (.ext 1 (.t 26))⟩,
  ⟨(some 35), none, (.ext 2 (.t 26))⟩,
  ⟨(some 5), none, (.new [(.sc (.int .i64 (0))), (.sc (.int .i64 (0))), (.sc (.slice none 0 0)), (.sc (.int .i64 (0)))])⟩,
  ⟨(some 6), none, (.new [(.sc (.int .i64 (0))), (.sc (.int .i64 (0))), (.sc (.int .i64 (0)))])⟩,
  ⟨none, none, (.store 4 (.t 5) (.t 33))⟩,
  ⟨none, none, (.store 3 (.t 6) (.t 34))⟩,
  ⟨(some 7), none, (.mv (.t 35))⟩] none)
 (.seq (.block 0
 (.seq (.reg [⟨(some 37), none, (.mv (.t 7))⟩,
  ⟨(some 38), none, (.un .not (.t 37))⟩,
  ⟨(some 36), none, (.mv (.t 38))⟩] none)
 (.cond (.t 36)
 (.seq (.reg [⟨(some 4), none, (.mv (.c (.sc (.int .i64 (7)))))⟩] none) .ret)
 (.seq (.reg [⟨(some 40), none, (.faddr 2 (.t 6))⟩,
  ⟨(some 41), none, (.load 1 false (.t 40))⟩,
  ⟨(some 42), none, (.bin .leq (.t 41) (.c (.sc (.int .i64 (0)))))⟩,
  ⟨(some 39), none, (.mv (.t 42))⟩] none)
 (.cond (.t 39)
 (.seq (.reg [⟨(some 4), none, (.mv (.c (.sc (.int .i64 (27)))))⟩] none) .ret) .skip)))))
 (.seq (.reg [⟨(some 4), none, (.mv (.c (.sc (.int .i64 (0)))))⟩] none) .ret)))))
theorem good42 {args : List PV} {r : PV} (hl : args.length ≤ 43) (h : Run Tryd.prog [.code ac42] (endQ [(.t 4)] r) ⟨initT 0 args, [], 0, 43⟩) : Good Tryd.prog 42 args r :=
  good_run (by kernel_rfl) Xamix Tryd.func42 rfl (hs := []) (hs' := []) (by kernel_rfl) hl h
def ac43 : ACode :=
 (.seq (.reg [⟨(some 2), none, (.mv (.c (.sc (.map none))))⟩,
  ⟨(some 3), none, (.mv (.c (.sc (.map none))))⟩] none)
 (.seq (.reg [⟨(some 8), none, (.mkmap 84)⟩,
  ⟨(some 9), none, (.mkmap 3)⟩,
  ⟨(some 4), none, (.mv (.t 8))⟩,
  ⟨(some 5), none, (.mv (.t 9))⟩] none)
 (.seq (.seq (.reg [⟨(some 10), none, (.mv (.t 0))⟩,
  ⟨(some 11), none, (.len (.t 10))⟩,
  ⟨(some 12), none, (.mv (.c (.sc (.int .i64 (0)))))⟩] none) (.block 0 
 (.loop ⟨[4, 5, 10, 11, 12], []⟩
 (.seq (.reg [⟨(some 13), none, (.bin .lss (.t 12) (.t 11))⟩] none)
 (.seq
 (.cond (.t 13) .skip (.exit 0))
 (.seq (.block 1
 (.seq (.reg [⟨(some 14), none, (.iaddr 4 (.t 10) (.t 12))⟩,
  ⟨(some 15), none, (.load 4 true (.t 14))⟩,
  ⟨(some 7), none, (.new [(.sc (.int .i64 (0))), (.sc (.int .i64 (0))), (.sc (.int .i64 (0))), (.sc (.int .i64 (0)))])⟩,
  ⟨none, none, (.store 4 (.t 7) (.t 15))⟩] none)
 (.seq .dead (.reg [⟨(some 28), none, (.mv (.t 5))⟩,
  ⟨(some 29), none, (.faddr 1 (.t 7))⟩,
  ⟨(some 30), none, (.load 1 false (.t 29))⟩,
  ⟨(some 31), none, (.mlook false 3 (.int .i64) (.int .i64 (0)) (.t 28) (.t 30))⟩,
  ⟨(some 32), none, (.faddr 3 (.t 7))⟩,
  ⟨(some 33), none, (.load 1 false (.t 32))⟩,
  ⟨(some 34), none, (.bin .add (.t 31) (.t 33))⟩,
  ⟨none, none, (.mupd 3 (.int .i64) (.t 28) (.t 30) (.t 34))⟩] none)))) (.reg [⟨(some 35), none, (.bin .add (.t 12) (.c (.sc (.int .i64 (1)))))⟩,
  ⟨(some 12), none, (.mv (.t 35))⟩] none)))))))
 (.seq (.reg [⟨(some 36), none, (.mv (.t 4))⟩,
  ⟨(some 37), none, (.mv (.t 5))⟩,
  ⟨(some 2), none, (.mv (.t 36))⟩,
  ⟨(some 3), none, (.mv (.t 37))⟩] none) .ret))))
theorem good43 {args : List PV} {r : PV} (hl : args.length ≤ 38) (h : Run Tryd.prog [.code ac43] (endQ [(.t 2), (.t 3)] r) ⟨initT 0 args, [], 0, 38⟩) : Good Tryd.prog 43 args r :=
  good_run (by kernel_rfl) Xamix Tryd.func43 rfl (hs := [⟨[4, 5, 10, 11, 12], []⟩]) (hs' := []) (by kernel_rfl) hl h
def ac23 : ACode :=
 (.seq (.reg [⟨(some 4), none, (.mv (.c (.sc (.int .i64 (0)))))⟩] none)
 (.seq (.seq (.reg [⟨(some 18), none, (.mv (.t 1))⟩,
  ⟨(some 19), none, (.len (.t 18))⟩,
  ⟨(some 20), none, (.bin .gtr (.t 19) (.c (.sc (.int .i64 (512)))))⟩] none)
 (.cond (.t 20)
 (.seq (.reg [⟨(some 4), none, (.mv (.c (.sc (.int .i64 (8)))))⟩] none) .ret) .skip))
 (.seq (.seq (.reg [⟨(some 21), none, (.mv (.t 1))⟩,
  ⟨(some 22), none, (.len (.t 21))⟩,
  ⟨(some 23), none, (.mv (.c (.sc (.int .i64 (0)))))⟩] none) (.block 0 
 (.loop ⟨[0, 1, 21, 22, 23], []⟩
 (.seq (.reg [⟨(some 24), none, (.bin .lss (.t 23) (.t 22))⟩] none)
 (.seq
 (.cond (.t 24) .skip (.exit 0))
 (.seq (.block 1
 (.seq (.reg [⟨(some 25), none, (.iaddr 4 (.t 21) (.t 23))⟩,
  ⟨(some 26), none, (.load 4 true (.t 25))⟩,
  ⟨(some 6), none, (.new [(.sc (.int .i64 (0))), (.sc (.int .i64 (0))), (.sc (.int .i64 (0))), (.sc (.int .i64 (0)))])⟩,
  ⟨none, none, (.store 4 (.t 6) (.t 26))⟩] none)
 (.seq (.reg [⟨(some 27), none, (.mv (.t 0))⟩,
  ⟨(some 28), none, (.load 4 true (.t 6))⟩,
  ⟨(some 29), none, (.call 42 [(.t 27), (.t 28)])⟩,
  ⟨(some 7), none, (.mv (.t 29))⟩] none)
 (.seq (.reg [⟨(some 30), none, (.mv (.t 7))⟩,
  ⟨(some 31), none, (.bin .neq (.t 30) (.c (.sc (.int .i64 (0)))))⟩] none)
 (.cond (.t 31)
 (.seq (.reg [⟨(some 32), none, (.mv (.t 7))⟩,
  ⟨(some 4), none, (.mv (.t 32))⟩] none) .ret) .skip))))) (.reg [⟨(some 33), none, (.bin .add (.t 23) (.c (.sc (.int .i64 (1)))))⟩,
  ⟨(some 23), none, (.mv (.t 33))⟩] none)))))))
 (.seq (.reg [⟨(some 34), none, (.mkmap 3)⟩,
  ⟨(some 8), none, (.mv (.t 34))⟩] none)
 (.seq (.seq (.reg [⟨(some 35), none, (.mv (.t 1))⟩,
  ⟨(some 36), none, (.len (.t 35))⟩,
  ⟨(some 37), none, (.mv (.c (.sc (.int .i64 (0)))))⟩] none) (.block 2 
 (.loop ⟨[0, 1, 8, 35, 36, 37], []⟩
 (.seq (.reg [⟨(some 38), none, (.bin .lss (.t 37) (.t 36))⟩] none)
 (.seq
 (.cond (.t 38) .skip (.exit 2))
 (.seq (.block 3
 (.seq (.reg [⟨(some 39), none, (.iaddr 4 (.t 35) (.t 37))⟩,
  ⟨(some 40), none, (.load 4 true (.t 39))⟩,
  ⟨(some 10), none, (.new [(.sc (.int .i64 (0))), (.sc (.int .i64 (0))), (.sc (.int .i64 (0))), (.sc (.int .i64 (0)))])⟩,
  ⟨none, none, (.store 4 (.t 10) (.t 40))⟩] none)
 (.seq (.seq (.reg [⟨(some 41), none, (.mv (.t 8))⟩,
  ⟨(some 42), none, (.faddr 0 (.t 10))⟩,
  ⟨(some 43), none, (.load 1 false (.t 42))⟩,
  ⟨(some 44), none, (.mlook false 3 (.int .i64) (.bool false) (.t 41) (.t 43))⟩] none)
 (.cond (.t 44)
 (.seq (.reg [⟨(some 4), none, (.mv (.c (.sc (.int .i64 (6)))))⟩] none) .ret) .skip)) (.reg [⟨(some 45), none, (.mv (.t 8))⟩,
  ⟨(some 46), none, (.faddr 0 (.t 10))⟩,
  ⟨(some 47), none, (.load 1 false (.t 46))⟩,
  ⟨none, none, (.mupd 3 (.int .i64) (.t 45) (.t 47) (.c (.sc (.bool true))))⟩] none)))) (.reg [⟨(some 48), none, (.bin .add (.t 37) (.c (.sc (.int .i64 (1)))))⟩,
  ⟨(some 37), none, (.mv (.t 48))⟩] none)))))))
 (.seq (.reg [⟨(some 50), none, (.mv (.t 1))⟩,
  ⟨(some 51), none, (.call 43 [(.t 50)])⟩,
  ⟨(some 49), none, (.mv (.t 51))⟩,
  ⟨(some 52), none, (.ext 0 (.t 49))⟩,
  ⟨(some 53), none, (.ext 1 (.t 49))⟩,
  ⟨(some 11), none, (.mv (.t 52))⟩,
  ⟨(some 12), none, (.mv (.t 53))⟩] none)
 (.seq (.seq (.reg [⟨(some 54), none, (.mv (.t 1))⟩,
  ⟨(some 55), none, (.len (.t 54))⟩,
  ⟨(some 56), none, (.mv (.c (.sc (.int .i64 (0)))))⟩] none) (.block 4 
 (.loop ⟨[0, 11, 12, 54, 55, 56], []⟩
 (.seq (.reg [⟨(some 57), none, (.bin .lss (.t 56) (.t 55))⟩] none)
 (.seq
 (.cond (.t 57) .skip (.exit 4))
 (.seq (.block 5
 (.seq (.reg [⟨(some 58), none, (.iaddr 4 (.t 54) (.t 56))⟩,
  ⟨(some 59), none, (.load 4 true (.t 58))⟩,
  ⟨(some 14), none, (.new [(.sc (.int .i64 (0))), (.sc (.int .i64 (0))), (.sc (.int .i64 (0))), (.sc (.int .i64 (0)))])⟩,
  ⟨none, none, (.store 4 (.t 14) (.t 59))⟩] none)
 (.seq (.reg [⟨(some 61), none, (.mv (.t 0))⟩,
  ⟨(some 62), none, (.faddr 1 (.t 14))⟩,
  ⟨(some 63), none, (.load 1 false (.t 62))⟩,
  ⟨(some 64), none, (.faddr 2 (.t 14))⟩,
  ⟨(some 65), none, (.load 1 false (.t 64))⟩,
  ⟨(some 66), none, (.call 44 [(.t 61), (.t 63), (.t 65)])⟩,
  ⟨(some 60), none, (.mv (.t 66))⟩,
  ⟨(some 67), none, (.ext 0 (.t 60))⟩,
  ⟨(some 68), none, (.ext 1 (.t 60))⟩,
  ⟨(some 69), none, (.ext 2 (.t 60))⟩,
  ⟨(some 15), none, (.new [(.sc (.int .i64 (0))), (.sc (.int .i64 (0))), (.sc (.slice none 0 0)), (.sc (.int .i64 (0)))])⟩,
  ⟨(some 16), none, (.new [(.sc (.int .i64 (0))), (.sc (.int .i64 (0))), (.sc (.int .i64 (0)))])⟩,
  ⟨none, none, (.store 4 (.t 15) (.t 67))⟩,
  ⟨none, none, (.store 3 (.t 16) (.t 68))⟩,
  ⟨(some 17), none, (.mv (.t 69))⟩] none)
 (.seq (.reg [⟨(some 70), none, (.mv (.t 11))⟩,
  ⟨(some 71), none, (.faddr 1 (.t 14))⟩,
  ⟨(some 72), none, (.load 1 false (.t 71))⟩,
  ⟨(some 73), none, (.faddr 2 (.t 14))⟩,
  ⟨(some 74), none, (.load 1 false (.t 73))⟩,
  ⟨(some 75), none, (.build [(.sc (.int .i64 (0))), (.sc (.int .i64 (0)))] [(0, (1, (.t 72))), (1, (1, (.t 74)))])⟩,
  ⟨(some 76), none, (.mlook false 84 (.arr 2 .i64) (.int .i64 (0)) (.t 70) (.t 75))⟩,
  ⟨(some 77), none, (.faddr 2 (.t 16))⟩,
  ⟨(some 78), none, (.load 1 false (.t 77))⟩,
  ⟨(some 79), none, (.bin .gtr (.t 76) (.t 78))⟩,
  ⟨(some 80), none, (.mv (.t 79))⟩,
  ⟨(some 81), (some (80, false)), (.mv (.t 12))⟩,
  ⟨(some 82), (some (80, false)), (.faddr 1 (.t 14))⟩,
  ⟨(some 83), (some (80, false)), (.load 1 false (.t 82))⟩,
  ⟨(some 84), (some (80, false)), (.mlook false 3 (.int .i64) (.int .i64 (0)) (.t 81) (.t 83))⟩,
  ⟨(some 85), (some (80, false)), (.faddr 3 (.t 15))⟩,
  ⟨(some 86), (some (80, false)), (.load 1 false (.t 85))⟩,
  ⟨(some 87), (some (80, false)), (.bin .gtr (.t 84) (.t 86))⟩,
  ⟨(some 88), none, (.pick (.t 80) (.c (.sc (.bool true))) (.t 87))⟩] (some [[], [], [1], [], [3], [2, 4, 1, 3], [0, 5, 2, 4, 1, 3], [], [7], [6, 8, 0, 5, 2, 4, 1, 3, 7], [9, 6, 8, 0, 5, 2, 4, 1, 3, 7], [10, 9, 6, 8, 0, 5, 2, 4, 1, 3, 7], [10, 9, 6, 8, 0, 5, 2, 4, 1, 3, 7], [12, 10, 9, 6, 8, 0, 5, 2, 4, 1, 3, 7], [11, 13, 10, 9, 6, 8, 0, 5, 2, 4, 1, 3, 7, 12], [10, 9, 6, 8, 0, 5, 2, 4, 1, 3, 7], [15, 10, 9, 6, 8, 0, 5, 2, 4, 1, 3, 7], [14, 16, 10, 11, 13, 9, 6, 8, 0, 5, 2, 4, 1, 3, 7, 12, 15], [10, 17, 9, 6, 8, 0, 5, 2, 4, 1, 3, 7, 14, 16, 11, 13, 12, 15]]))
 (.cond (.t 88)
 (.seq (.reg [⟨(some 4), none, (.mv (.c (.sc (.int .i64 (27)))))⟩] none) .ret) .skip))))) (.reg [⟨(some 89), none, (.bin .add (.t 56) (.c (.sc (.int .i64 (1)))))⟩,
  ⟨(some 56), none, (.mv (.t 89))⟩] none)))))))
 (.seq (.reg [⟨(some 4), none, (.mv (.c (.sc (.int .i64 (0)))))⟩] none) .ret))))))))
theorem good23 {args : List PV} {r : PV} (hl : args.length ≤ 90) (h : Run Tryd.prog [.code ac23] (endQ [(.t 4)] r) ⟨initT 0 args, [], 0, 90⟩) : Good Tryd.prog 23 args r :=
  good_run (by kernel_rfl) Xamix Tryd.func23 rfl (hs := [⟨[0, 1, 21, 22, 23], []⟩, ⟨[0, 1, 8, 35, 36, 37], []⟩, ⟨[0, 11, 12, 54, 55, 56], []⟩]) (hs' := []) (by kernel_rfl) hl h
def ac25 : ACode :=
 (.seq (.reg [⟨(some 6), none, (.mv (.c (.sc (.int .i64 (0)))))⟩,
  ⟨(some 7), none, (.mv (.c (.sc (.int .i64 (0)))))⟩] none)
 (.seq (.seq (.reg [⟨(some 13), none, (.mv (.t 0))⟩,
  ⟨(some 14), none, (.mv (.t 1))⟩,
  ⟨(some 15), none, (.call 23 [(.t 13), (.t 14)])⟩,
  ⟨(some 8), none, (.mv (.t 15))⟩] none)
 (.seq (.reg [⟨(some 16), none, (.mv (.t 8))⟩,
  ⟨(some 17), none, (.bin .neq (.t 16) (.c (.sc (.int .i64 (0)))))⟩] none)
 (.cond (.t 17)
 (.seq (.reg [⟨(some 18), none, (.mv (.t 8))⟩,
  ⟨(some 6), none, (.mv (.c (.sc (.int .i64 (0)))))⟩,
  ⟨(some 7), none, (.mv (.t 18))⟩] none) .ret) .skip)))
 (.seq (.reg [⟨(some 20), none, (.mv (.t 0))⟩,
  ⟨(some 21), none, (.mv (.t 2))⟩,
  ⟨(some 22), none, (.call 46 [(.t 20), (.t 21)])⟩,
  ⟨(some 19), none, (.mv (.t 22))⟩,
  ⟨(some 23), none, (.ext 0 (.t 19))⟩,
  ⟨(some 24), none, (.ext 1 (.t 19))⟩,
  ⟨(some 9), none, (.new [(.sc (.int .i64 (0))), (.sc (.int .i64 (0))), (.sc (.slice none 0 0)), (.sc (.int .i64 (0)))])⟩,
  ⟨none, none, (.store 4 (.t 9) (.t 23))⟩,
  ⟨(some 10), none, (.mv (.t 24))⟩] none)
 (.seq (.seq (.reg [⟨(some 25), none, (.mv (.t 10))⟩,
  ⟨(some 26), none, (.un .not (.t 25))⟩] none)
 (.cond (.t 26)
 (.seq (.reg [⟨(some 6), none, (.mv (.c (.sc (.int .i64 (0)))))⟩,
  ⟨(some 7), none, (.mv (.c (.sc (.int .i64 (7)))))⟩] none) .ret) .skip))
 (.seq (.reg [⟨(some 28), none, (.mv (.t 1))⟩,
  ⟨(some 29), none, (.call 43 [(.t 28)])⟩,
  ⟨(some 27), none, (.mv (.t 29))⟩,
  ⟨(some 30), none, (.ext 0 (.t 27))⟩,
  ⟨(some 31), none, (.ext 1 (.t 27))⟩,
  ⟨(some 11), none, (.mv (.t 30))⟩,
  ⟨(some 12), none, (.mv (.t 31))⟩] none)
 (.seq (.reg [⟨(some 32), none, (.faddr 3 (.t 9))⟩,
  ⟨(some 33), none, (.load 1 false (.t 32))⟩,
  ⟨(some 34), none, (.mv (.t 12))⟩,
  ⟨(some 35), none, (.mv (.t 2))⟩,
  ⟨(some 36), none, (.mlook false 3 (.int .i64) (.int .i64 (0)) (.t 34) (.t 35))⟩,
  ⟨(some 37), none, (.bin .sub (.t 33) (.t 36))⟩,
  ⟨(some 6), none, (.mv (.t 37))⟩,
  ⟨(some 7), none, (.mv (.c (.sc (.int .i64 (0)))))⟩] none) .ret))))))
theorem good25 {args : List PV} {r : PV} (hl : args.length ≤ 38) (h : Run Tryd.prog [.code ac25] (endQ [(.t 6), (.t 7)] r) ⟨initT 0 args, [], 0, 38⟩) : Good Tryd.prog 25 args r :=
  good_run (by kernel_rfl) Xamix Tryd.func25 rfl (hs := []) (hs' := []) (by kernel_rfl) hl h
def ac48 : ACode :=
 (.seq (.reg [⟨(some 4), none, (.new [(.sc (.int .i64 (0))), (.sc (.int .i64 (0))), (.sc (.slice none 0 0)), (.sc (.int .i64 (0)))])⟩,
  ⟨(some 5), none, (.mv (.c (.sc (.bool false))))⟩] none)
 (.seq (.seq (.reg [⟨(some 6), none, (.mv (.c (.sc (.int .i64 (0)))))⟩] none) (.block 0 
 (.loop ⟨[0, 1, 4, 6], []⟩
 (.seq (.seq (.reg [⟨(some 7), none, (.mv (.t 6))⟩,
  ⟨(some 8), none, (.mv (.t 0))⟩,
  ⟨(some 9), none, (.len (.t 8))⟩,
  ⟨(some 10), none, (.bin .lss (.t 7) (.t 9))⟩] none)
 (.cond (.t 10) .skip (.exit 0)))
 (.seq (.block 1
 (.seq (.reg [⟨(some 13), none, (.mv (.t 0))⟩,
  ⟨(some 14), none, (.mv (.t 6))⟩,
  ⟨(some 15), none, (.iaddr 4 (.t 13) (.t 14))⟩,
  ⟨(some 16), none, (.faddr 0 (.t 15))⟩,
  ⟨(some 17), none, (.load 1 false (.t 16))⟩,
  ⟨(some 18), none, (.mv (.t 1))⟩,
  ⟨(some 19), none, (.bin .eql (.t 17) (.t 18))⟩] none)
 (.cond (.t 19)
 (.seq (.reg [⟨(some 20), none, (.mv (.t 0))⟩,
  ⟨(some 21), none, (.mv (.t 6))⟩,
  ⟨(some 22), none, (.iaddr 4 (.t 20) (.t 21))⟩,
  ⟨(some 23), none, (.load 4 true (.t 22))⟩,
  ⟨none, none, (.store 4 (.t 4) (.t 23))⟩,
  ⟨(some 5), none, (.mv (.c (.sc (.bool true))))⟩] none) .ret) .skip))) (.reg [⟨(some 11), none, (.mv (.t 6))⟩,
  ⟨(some 12), none, (.bin .add (.t 11) (.c (.sc (.int .i64 (1)))))⟩,
  ⟨(some 6), none, (.mv (.t 12))⟩] none))))))
 (.seq (.reg [⟨(some 24), none, (.build [(.sc (.int .i64 (0))), (.sc (.int .i64 (0))), (.sc (.slice none 0 0)), (.sc (.int .i64 (0)))] [])⟩,
  ⟨none, none, (.store 4 (.t 4) (.t 24))⟩,
  ⟨(some 5), none, (.mv (.c (.sc (.bool false))))⟩] none) .ret)))
theorem good48 {args : List PV} {r : PV} (hl : args.length ≤ 25) (h : Run Tryd.prog [.code ac48] (endQ [(.c 4 4 true), (.t 5)] r) ⟨initT 0 args, [], 0, 25⟩) : Good Tryd.prog 48 args r :=
  good_run (by kernel_rfl) Xamix Tryd.func48 rfl (hs := [⟨[0, 1, 4, 6], []⟩]) (hs' := []) (by kernel_rfl) hl h
def ac54 : ACode :=
 (.seq (.reg [⟨(some 6), none, (.mv (.c (.sc (.int .i64 (0)))))⟩,
  ⟨(some 7), none, (.mv (.c (.sc (.bool false))))⟩] none)
 (.seq (.reg [⟨(some 11), none, (.mv (.t 0))⟩,
  ⟨(some 12), none, (.mv (.t 1))⟩,
  ⟨(some 13), none, (.call 48 [(.t 11), (.t 12)])⟩,
  ⟨(some 10), none, (.mv (.t 13))⟩,
  ⟨(some 14), none, (.ext 0 (.t 10))⟩,
  ⟨(some 15), none, (.ext 1 (.t 10))⟩,
  ⟨(some 8), none, (.new [(.sc (.int .i64 (0))), (.sc (.int .i64 (0))), (.sc (.slice none 0 0)), (.sc (.int .i64 (0)))])⟩,
  ⟨none, none, (.store 4 (.t 8) (.t 14))⟩,
  ⟨(some 9), none, (.mv (.t 15))⟩] none)
 (.seq (.seq (.reg [⟨(some 16), none, (.mv (.t 9))⟩,
  ⟨(some 17), none, (.un .not (.t 16))⟩,
  ⟨(some 18), none, (.mv (.t 17))⟩,
  ⟨(some 19), (some (18, false)), (.mv (.t 2))⟩,
  ⟨(some 20), (some (18, false)), (.bin .lss (.t 19) (.c (.sc (.int .i64 (0)))))⟩,
  ⟨(some 21), none, (.pick (.t 18) (.c (.sc (.bool true))) (.t 20))⟩,
  ⟨(some 22), none, (.mv (.t 21))⟩,
  ⟨(some 23), (some (22, false)), (.mv (.t 2))⟩,
  ⟨(some 24), (some (22, false)), (.faddr 2 (.t 8))⟩,
  ⟨(some 25), (some (22, false)), (.load 1 false (.t 24))⟩,
  ⟨(some 26), (some (22, false)), (.len (.t 25))⟩,
  ⟨(some 27), (some (22, false)), (.bin .geq (.t 23) (.t 26))⟩,
  ⟨(some 28), none, (.pick (.t 22) (.c (.sc (.bool true))) (.t 27))⟩] none)
 (.cond (.t 28)
 (.seq (.reg [⟨(some 6), none, (.mv (.c (.sc (.int .i64 (0)))))⟩,
  ⟨(some 7), none, (.mv (.c (.sc (.bool false))))⟩] none) .ret) .skip))
 (.seq (.reg [⟨(some 29), none, (.faddr 2 (.t 8))⟩,
  ⟨(some 30), none, (.load 1 false (.t 29))⟩,
  ⟨(some 31), none, (.mv (.t 2))⟩,
  ⟨(some 32), none, (.iaddr 3 (.t 30) (.t 31))⟩,
  ⟨(some 33), none, (.faddr 2 (.t 32))⟩,
  ⟨(some 34), none, (.load 1 false (.t 33))⟩,
  ⟨(some 6), none, (.mv (.t 34))⟩,
  ⟨(some 7), none, (.mv (.c (.sc (.bool true))))⟩] none) .ret))))
theorem good54 {args : List PV} {r : PV} (hl : args.length ≤ 35) (h : Run Tryd.prog [.code ac54] (endQ [(.t 6), (.t 7)] r) ⟨initT 0 args, [], 0, 35⟩) : Good Tryd.prog 54 args r :=
  good_run (by kernel_rfl) Xamix Tryd.func54 rfl (hs := []) (hs' := []) (by kernel_rfl) hl h
def ac47 : ACode :=
 (.seq (.reg [⟨(some 3), none, (.boxv (.t 1))⟩,
  ⟨(some 4), none, (.mv (.c (.sc (.int .i64 (0)))))⟩] none)
 (.seq (.seq (.reg [⟨(some 7), none, (.faddr 0 (.t 3))⟩,
  ⟨(some 8), none, (.load 1 false (.t 7))⟩,
  ⟨(some 9), none, (.bin .lss (.t 8) (.c (.sc (.int .i64 (1)))))⟩,
  ⟨(some 10), none, (.mv (.t 9))⟩,
  ⟨(some 11), (some (10, false)), (.faddr 0 (.t 3))⟩,
  ⟨(some 12), (some (10, false)), (.load 1 false (.t 11))⟩,
  ⟨(some 13), (some (10, false)), (.bin .gtr (.t 12) (.c (.sc (.int .i64 (1000000)))))⟩,
  ⟨(some 14), none, (.pick (.t 10) (.c (.sc (.bool true))) (.t 13))⟩,
  ⟨(some 15), none, (.mv (.t 14))⟩,
  ⟨(some 16), (some (15, false)), (.faddr 3 (.t 3))⟩,
  ⟨(some 17), (some (15, false)), (.load 1 false (.t 16))⟩,
  ⟨(some 18), (some (15, false)), (.bin .lss (.t 17) (.c (.sc (.int .i64 (1)))))⟩,
  ⟨(some 19), none, (.pick (.t 15) (.c (.sc (.bool true))) (.t 18))⟩,
  ⟨(some 20), none, (.mv (.t 19))⟩,
  ⟨(some 21), (some (20, false)), (.faddr 3 (.t 3))⟩,
  ⟨(some 22), (some (20, false)), (.load 1 false (.t 21))⟩,
  ⟨(some 23), (some (20, false)), (.bin .gtr (.t 22) (.c (.sc (.int .i64 (1000000000000)))))⟩,
  ⟨(some 24), none, (.pick (.t 20) (.c (.sc (.bool true))) (.t 23))⟩] none)
 (.cond (.t 24)
 (.seq (.reg [⟨(some 4), none, (.mv (.c (.sc (.int .i64 (1)))))⟩] none) .ret) .skip))
 (.seq (.reg [⟨(some 26), none, (.mv (.t 0))⟩,
  ⟨(some 27), none, (.faddr 1 (.t 3))⟩,
  ⟨(some 28), none, (.load 1 false (.t 27))⟩,
  ⟨(some 29), none, (.faddr 2 (.t 3))⟩,
  ⟨(some 30), none, (.load 1 false (.t 29))⟩,
  ⟨(some 31), none, (.call 54 [(.t 26), (.t 28), (.t 30)])⟩,
  ⟨(some 25), none, (.mv (.t 31))⟩,
  ⟨(some 32), none, (.ext 0 (.t 25))⟩,
  ⟨(some 33), none, (.ext 1 (.t 25))⟩,
  ⟨(some 5), none, (.mv (.t 32))⟩,
  ⟨(some 6), none, (.mv (.t 33))⟩] none)
 (.seq (.seq (.reg [⟨(some 34), none, (.mv (.t 6))⟩,
  ⟨(some 35), none, (.un .not (.t 34))⟩] none)
 (.cond (.t 35)
 (.seq (.reg [⟨(some 4), none, (.mv (.c (.sc (.int .i64 (7)))))⟩] none) .ret) .skip))
 (.seq (.seq (.reg [⟨(some 36), none, (.mv (.t 5))⟩,
  ⟨(some 37), none, (.bin .leq (.t 36) (.c (.sc (.int .i64 (0)))))⟩] none)
 (.cond (.t 37)
 (.seq (.reg [⟨(some 4), none, (.mv (.c (.sc (.int .i64 (27)))))⟩] none) .ret) .skip))
 (.seq (.reg [⟨(some 4), none, (.mv (.c (.sc (.int .i64 (0)))))⟩] none) .ret))))))
theorem good47 {args : List PV} {r : PV} (hl : args.length ≤ 38) (h : Run Tryd.prog [.code ac47] (endQ [(.t 4)] r) ⟨initT 0 args, [], 0, 38⟩) : Good Tryd.prog 47 args r :=
  good_run (by kernel_rfl) Xamix Tryd.func47 rfl (hs := []) (hs' := []) (by kernel_rfl) hl h
def ac49 : ACode :=
 (.seq (.reg [⟨(some 6), none, (.mv (.c (.sc (.int .i64 (0)))))⟩,
  ⟨(some 7), none, (.mv (.c (.sc (.int .i64 (0)))))⟩] none)
 (.seq (.reg [⟨(some 8), none, (.mv (.c (.sc (.int .i64 (0)))))⟩,
  ⟨(some 9), none, (.mv (.c (.sc (.int .i64 (0)))))⟩] none)
 (.seq (.seq (.reg [⟨(some 10), none, (.mv (.c (.sc (.int .i64 (0)))))⟩] none) (.block 0 
 (.loop ⟨[0, 1, 2, 8, 9, 10], []⟩
 (.seq (.seq (.reg [⟨(some 11), none, (.mv (.t 10))⟩,
  ⟨(some 12), none, (.mv (.t 0))⟩,
  ⟨(some 13), none, (.len (.t 12))⟩,
  ⟨(some 14), none, (.bin .lss (.t 11) (.t 13))⟩] none)
 (.cond (.t 14) .skip (.exit 0)))
 (.seq (.block 1
 (.seq (.reg [⟨(some 17), none, (.mv (.t 0))⟩,
  ⟨(some 18), none, (.mv (.t 10))⟩,
  ⟨(some 19), none, (.iaddr 4 (.t 17) (.t 18))⟩,
  ⟨(some 20), none, (.faddr 1 (.t 19))⟩,
  ⟨(some 21), none, (.load 1 false (.t 20))⟩,
  ⟨(some 22), none, (.mv (.t 1))⟩,
  ⟨(some 23), none, (.bin .eql (.t 21) (.t 22))⟩] none)
 (.cond (.t 23)
 (.seq (.reg [⟨(some 24), none, (.mv (.t 9))⟩,
  ⟨(some 25), none, (.mv (.t 0))⟩,
  ⟨(some 26), none, (.mv (.t 10))⟩,
  ⟨(some 27), none, (.iaddr 4 (.t 25) (.t 26))⟩,
  ⟨(some 28), none, (.faddr 3 (.t 27))⟩,
  ⟨(some 29), none, (.load 1 false (.t 28))⟩,
  ⟨(some 30), none, (.bin .add (.t 24) (.t 29))⟩,
  ⟨(some 9), none, (.mv (.t 30))⟩] none)
 (.seq (.reg [⟨(some 31), none, (.mv (.t 0))⟩,
  ⟨(some 32), none, (.mv (.t 10))⟩,
  ⟨(some 33), none, (.iaddr 4 (.t 31) (.t 32))⟩,
  ⟨(some 34), none, (.faddr 2 (.t 33))⟩,
  ⟨(some 35), none, (.load 1 false (.t 34))⟩,
  ⟨(some 36), none, (.mv (.t 2))⟩,
  ⟨(some 37), none, (.bin .eql (.t 35) (.t 36))⟩] none)
 (.cond (.t 37) (.reg [⟨(some 38), none, (.mv (.t 8))⟩,
  ⟨(some 39), none, (.mv (.t 0))⟩,
  ⟨(some 40), none, (.mv (.t 10))⟩,
  ⟨(some 41), none, (.iaddr 4 (.t 39) (.t 40))⟩,
  ⟨(some 42), none, (.faddr 3 (.t 41))⟩,
  ⟨(some 43), none, (.load 1 false (.t 42))⟩,
  ⟨(some 44), none, (.bin .add (.t 38) (.t 43))⟩,
  ⟨(some 8), none, (.mv (.t 44))⟩] none) .skip))) .skip))) (.reg [⟨(some 15), none, (.mv (.t 10))⟩,
  ⟨(some 16), none, (.bin .add (.t 15) (.c (.sc (.int .i64 (1)))))⟩,
  ⟨(some 10), none, (.mv (.t 16))⟩] none))))))
 (.seq (.reg [⟨(some 45), none, (.mv (.t 8))⟩,
  ⟨(some 46), none, (.mv (.t 9))⟩,
  ⟨(some 6), none, (.mv (.t 45))⟩,
  ⟨(some 7), none, (.mv (.t 46))⟩] none) .ret))))
theorem good49 {args : List PV} {r : PV} (hl : args.length ≤ 47) (h : Run Tryd.prog [.code ac49] (endQ [(.t 6), (.t 7)] r) ⟨initT 0 args, [], 0, 47⟩) : Good Tryd.prog 49 args r :=
  good_run (by kernel_rfl) Xamix Tryd.func49 rfl (hs := [⟨[0, 1, 2, 8, 9, 10], []⟩]) (hs' := []) (by kernel_rfl) hl h
def ac29 : ACode :=
 (.seq (.reg [⟨(some 4), none, (.mv (.c (.sc (.int .i64 (0)))))⟩] none)
 (.seq (.seq (.reg [⟨(some 14), none, (.mv (.t 1))⟩,
  ⟨(some 15), none, (.len (.t 14))⟩,
  ⟨(some 16), none, (.bin .gtr (.t 15) (.c (.sc (.int .i64 (512)))))⟩] none)
 (.cond (.t 16)
 (.seq (.reg [⟨(some 4), none, (.mv (.c (.sc (.int .i64 (8)))))⟩] none) .ret) .skip))
 (.seq (.seq (.reg [⟨(some 5), none, (.mv (.c (.sc (.int .i64 (0)))))⟩] none) (.block 0 
 (.loop ⟨[0, 1, 5], []⟩
 (.seq (.seq (.reg [⟨(some 17), none, (.mv (.t 5))⟩,
  ⟨(some 18), none, (.mv (.t 1))⟩,
  ⟨(some 19), none, (.len (.t 18))⟩,
  ⟨(some 20), none, (.bin .lss (.t 17) (.t 19))⟩] none)
 (.cond (.t 20) .skip (.exit 0)))
 (.seq (.block 1
 (.seq (.reg [⟨(some 23), none, (.mv (.t 0))⟩,
  ⟨(some 24), none, (.mv (.t 1))⟩,
  ⟨(some 25), none, (.mv (.t 5))⟩,
  ⟨(some 26), none, (.iaddr 4 (.t 24) (.t 25))⟩,
  ⟨(some 27), none, (.load 4 true (.t 26))⟩,
  ⟨(some 28), none, (.call 47 [(.t 23), (.t 27)])⟩,
  ⟨(some 6), none, (.mv (.t 28))⟩] none)
 (.seq (.reg [⟨(some 29), none, (.mv (.t 6))⟩,
  ⟨(some 30), none, (.bin .neq (.t 29) (.c (.sc (.int .i64 (0)))))⟩] none)
 (.cond (.t 30)
 (.seq (.reg [⟨(some 31), none, (.mv (.t 6))⟩,
  ⟨(some 4), none, (.mv (.t 31))⟩] none) .ret) .skip)))) (.reg [⟨(some 21), none, (.mv (.t 5))⟩,
  ⟨(some 22), none, (.bin .add (.t 21) (.c (.sc (.int .i64 (1)))))⟩,
  ⟨(some 5), none, (.mv (.t 22))⟩] none))))))
 (.seq (.seq (.reg [⟨(some 7), none, (.mv (.c (.sc (.int .i64 (0)))))⟩] none) (.block 2 
 (.loop ⟨[0, 1, 7], []⟩
 (.seq (.seq (.reg [⟨(some 32), none, (.mv (.t 7))⟩,
  ⟨(some 33), none, (.mv (.t 1))⟩,
  ⟨(some 34), none, (.len (.t 33))⟩,
  ⟨(some 35), none, (.bin .lss (.t 32) (.t 34))⟩] none)
 (.cond (.t 35) .skip (.exit 2)))
 (.seq (.block 3
 (.seq (.reg [⟨(some 8), none, (.mv (.c (.sc (.int .i64 (0)))))⟩] none) (.block 4 
 (.loop ⟨[0, 1, 7, 8], []⟩
 (.seq (.seq (.reg [⟨(some 38), none, (.mv (.t 8))⟩,
  ⟨(some 39), none, (.mv (.t 7))⟩,
  ⟨(some 40), none, (.bin .lss (.t 38) (.t 39))⟩] none)
 (.cond (.t 40) .skip (.exit 4)))
 (.seq (.block 5
 (.seq (.reg [⟨(some 43), none, (.mv (.t 1))⟩,
  ⟨(some 44), none, (.mv (.t 7))⟩,
  ⟨(some 45), none, (.iaddr 4 (.t 43) (.t 44))⟩,
  ⟨(some 46), none, (.faddr 0 (.t 45))⟩,
  ⟨(some 47), none, (.load 1 false (.t 46))⟩,
  ⟨(some 48), none, (.mv (.t 1))⟩,
  ⟨(some 49), none, (.mv (.t 8))⟩,
  ⟨(some 50), none, (.iaddr 4 (.t 48) (.t 49))⟩,
  ⟨(some 51), none, (.faddr 0 (.t 50))⟩,
  ⟨(some 52), none, (.load 1 false (.t 51))⟩,
  ⟨(some 53), none, (.bin .eql (.t 47) (.t 52))⟩] (some [[], [], [0, 1], [2, 0, 1], [3, 2, 0, 1], [], [], [5, 6], [7, 5, 6], [8, 7, 5, 6], [4, 9, 3, 2, 0, 1, 8, 7, 5, 6]]))
 (.cond (.t 53)
 (.seq (.reg [⟨(some 4), none, (.mv (.c (.sc (.int .i64 (6)))))⟩] none) .ret) .skip))) (.reg [⟨(some 41), none, (.mv (.t 8))⟩,
  ⟨(some 42), none, (.bin .add (.t 41) (.c (.sc (.int .i64 (1)))))⟩,
  ⟨(some 8), none, (.mv (.t 42))⟩] none))))))) (.reg [⟨(some 36), none, (.mv (.t 7))⟩,
  ⟨(some 37), none, (.bin .add (.t 36) (.c (.sc (.int .i64 (1)))))⟩,
  ⟨(some 7), none, (.mv (.t 37))⟩] none))))))
 (.seq (.seq (.reg [⟨(some 9), none, (.mv (.c (.sc (.int .i64 (0)))))⟩] none) (.block 6 
 (.loop ⟨[0, 1, 9], []⟩
 (.seq (.seq (.reg [⟨(some 54), none, (.mv (.t 9))⟩,
  ⟨(some 55), none, (.mv (.t 1))⟩,
  ⟨(some 56), none, (.len (.t 55))⟩,
  ⟨(some 57), none, (.bin .lss (.t 54) (.t 56))⟩] none)
 (.cond (.t 57) .skip (.exit 6)))
 (.seq (.block 7
 (.seq (.reg [⟨(some 61), none, (.mv (.t 0))⟩,
  ⟨(some 62), none, (.mv (.t 1))⟩,
  ⟨(some 63), none, (.mv (.t 9))⟩,
  ⟨(some 64), none, (.iaddr 4 (.t 62) (.t 63))⟩,
  ⟨(some 65), none, (.faddr 1 (.t 64))⟩,
  ⟨(some 66), none, (.load 1 false (.t 65))⟩,
  ⟨(some 67), none, (.call 48 [(.t 61), (.t 66)])⟩,
  ⟨(some 60), none, (.mv (.t 67))⟩,
  ⟨(some 68), none, (.ext 0 (.t 60))⟩,
  ⟨(some 69), none, (.ext 1 (.t 60))⟩,
  ⟨(some 10), none, (.new [(.sc (.int .i64 (0))), (.sc (.int .i64 (0))), (.sc (.slice none 0 0)), (.sc (.int .i64 (0)))])⟩,
  ⟨none, none, (.store 4 (.t 10) (.t 68))⟩,
  ⟨(some 11), none, (.mv (.t 69))⟩] none)
 (.seq (.reg [⟨(some 71), none, (.mv (.t 1))⟩,
  ⟨(some 72), none, (.mv (.t 1))⟩,
  ⟨(some 73), none, (.mv (.t 9))⟩,
  ⟨(some 74), none, (.iaddr 4 (.t 72) (.t 73))⟩,
  ⟨(some 75), none, (.faddr 1 (.t 74))⟩,
  ⟨(some 76), none, (.load 1 false (.t 75))⟩,
  ⟨(some 77), none, (.mv (.t 1))⟩,
  ⟨(some 78), none, (.mv (.t 9))⟩,
  ⟨(some 79), none, (.iaddr 4 (.t 77) (.t 78))⟩,
  ⟨(some 80), none, (.faddr 2 (.t 79))⟩,
  ⟨(some 81), none, (.load 1 false (.t 80))⟩,
  ⟨(some 82), none, (.call 49 [(.t 71), (.t 76), (.t 81)])⟩,
  ⟨(some 70), none, (.mv (.t 82))⟩,
  ⟨(some 83), none, (.ext 0 (.t 70))⟩,
  ⟨(some 84), none, (.ext 1 (.t 70))⟩,
  ⟨(some 12), none, (.mv (.t 83))⟩,
  ⟨(some 13), none, (.mv (.t 84))⟩] (some [[], [], [], [1, 2], [3, 1, 2], [4, 3, 1, 2], [], [], [6, 7], [8, 6, 7], [9, 8, 6, 7], [0, 5, 10, 4, 3, 1, 2, 9, 8, 6, 7], [11, 0, 5, 10, 4, 3, 1, 2, 9, 8, 6, 7], [12, 11, 0, 5, 10, 4, 3, 1, 2, 9, 8, 6, 7], [12, 11, 0, 5, 10, 4, 3, 1, 2, 9, 8, 6, 7], [13, 11, 0, 1, 2, 3, 4, 5, 6, 7, 8, 9, 10, 12], [14, 15, 0, 1, 2, 3, 4, 5, 6, 7, 8, 9, 10, 11, 12, 13]]))
 (.seq (.reg [⟨(some 85), none, (.mv (.t 12))⟩,
  ⟨(some 86), none, (.faddr 2 (.t 10))⟩,
  ⟨(some 87), none, (.load 1 false (.t 86))⟩,
  ⟨(some 88), none, (.mv (.t 1))⟩,
  ⟨(some 89), none, (.mv (.t 9))⟩,
  ⟨(some 90), none, (.iaddr 4 (.t 88) (.t 89))⟩,
  ⟨(some 91), none, (.faddr 2 (.t 90))⟩,
  ⟨(some 92), none, (.load 1 false (.t 91))⟩,
  ⟨(some 93), none, (.iaddr 3 (.t 87) (.t 92))⟩,
  ⟨(some 94), none, (.faddr 2 (.t 93))⟩,
  ⟨(some 95), none, (.load 1 false (.t 94))⟩,
  ⟨(some 96), none, (.bin .gtr (.t 85) (.t 95))⟩,
  ⟨(some 97), none, (.mv (.t 96))⟩,
  ⟨(some 98), (some (97, false)), (.mv (.t 13))⟩,
  ⟨(some 99), (some (97, false)), (.faddr 3 (.t 10))⟩,
  ⟨(some 100), (some (97, false)), (.load 1 false (.t 99))⟩,
  ⟨(some 101), (some (97, false)), (.bin .gtr (.t 98) (.t 100))⟩,
  ⟨(some 102), none, (.pick (.t 97) (.c (.sc (.bool true))) (.t 101))⟩] (some [[], [], [1], [], [], [3, 4], [5, 3, 4], [6, 5, 3, 4], [2, 7, 1, 6, 5, 3, 4], [8, 2, 7, 1, 6, 5, 3, 4], [9, 8, 2, 7, 1, 6, 5, 3, 4], [0, 10, 9, 8, 2, 7, 1, 6, 5, 3, 4], [11, 0, 10, 9, 8, 2, 7, 1, 6, 5, 3, 4], [12, 11, 0, 10, 9, 8, 2, 7, 1, 6, 5, 3, 4], [12, 11, 0, 10, 9, 8, 2, 7, 1, 6, 5, 3, 4], [14, 12, 11, 0, 10, 9, 8, 2, 7, 1, 6, 5, 3, 4], [13, 15, 12, 11, 0, 10, 9, 8, 2, 7, 1, 6, 5, 3, 4, 14], [12, 16, 11, 0, 10, 9, 8, 2, 7, 1, 6, 5, 3, 4, 13, 15, 14]]))
 (.cond (.t 102)
 (.seq (.reg [⟨(some 4), none, (.mv (.c (.sc (.int .i64 (27)))))⟩] none) .ret) .skip))))) (.reg [⟨(some 58), none, (.mv (.t 9))⟩,
  ⟨(some 59), none, (.bin .add (.t 58) (.c (.sc (.int .i64 (1)))))⟩,
  ⟨(some 9), none, (.mv (.t 59))⟩] none))))))
 (.seq (.reg [⟨(some 4), none, (.mv (.c (.sc (.int .i64 (0)))))⟩] none) .ret))))))
theorem good29 {args : List PV} {r : PV} (hl : args.length ≤ 103) (h : Run Tryd.prog [.code ac29] (endQ [(.t 4)] r) ⟨initT 0 args, [], 0, 103⟩) : Good Tryd.prog 29 args r :=
  good_run (by kernel_rfl) Xamix Tryd.func29 rfl (hs := [⟨[0, 1, 5], []⟩, ⟨[0, 1, 7], []⟩, ⟨[0, 1, 7, 8], []⟩, ⟨[0, 1, 9], []⟩]) (hs' := []) (by kernel_rfl) hl h
def ac14 : ACode :=
 (.seq (.reg [⟨(some 2), none, (.mv (.c (.sc (.bool false))))⟩] none)
 (.seq (.seq (.reg [⟨(some 3), none, (.mv (.c (.sc (.int .i64 (0)))))⟩] none) (.block 0 
 (.loop ⟨[0, 3], []⟩
 (.seq (.seq (.reg [⟨(some 4), none, (.mv (.t 3))⟩,
  ⟨(some 5), none, (.mv (.t 0))⟩,
  ⟨(some 6), none, (.len (.t 5))⟩,
  ⟨(some 7), none, (.bin .lss (.t 4) (.t 6))⟩] none)
 (.cond (.t 7) .skip (.exit 0)))
 (.seq (.block 1
 (.seq (.reg [⟨(some 10), none, (.mv (.t 0))⟩,
  ⟨(some 11), none, (.mv (.t 3))⟩,
  ⟨(some 12), none, (.iaddr 4 (.t 10) (.t 11))⟩,
  ⟨(some 13), none, (.faddr 2 (.t 12))⟩,
  ⟨(some 14), none, (.load 1 false (.t 13))⟩,
  ⟨(some 15), none, (.len (.t 14))⟩,
  ⟨(some 16), none, (.bin .gtr (.t 15) (.c (.sc (.int .i64 (20)))))⟩] none)
 (.cond (.t 16)
 (.seq (.reg [⟨(some 2), none, (.mv (.c (.sc (.bool false))))⟩] none) .ret) .skip))) (.reg [⟨(some 8), none, (.mv (.t 3))⟩,
  ⟨(some 9), none, (.bin .add (.t 8) (.c (.sc (.int .i64 (1)))))⟩,
  ⟨(some 3), none, (.mv (.t 9))⟩] none))))))
 (.seq (.reg [⟨(some 17), none, (.mv (.t 0))⟩,
  ⟨(some 18), none, (.len (.t 17))⟩,
  ⟨(some 19), none, (.bin .leq (.t 18) (.c (.sc (.int .i64 (40)))))⟩,
  ⟨(some 2), none, (.mv (.t 19))⟩] none) .ret)))
theorem good14 {args : List PV} {r : PV} (hl : args.length ≤ 20) (h : Run Tryd.prog [.code ac14] (endQ [(.t 2)] r) ⟨initT 0 args, [], 0, 20⟩) : Good Tryd.prog 14 args r :=
  good_run (by kernel_rfl) Xamix Tryd.func14 rfl (hs := [⟨[0, 3], []⟩]) (hs' := []) (by kernel_rfl) hl h
def ac31 : ACode :=
 (.seq (.reg [⟨(some 4), none, (.mv (.c (.sc (.bool false))))⟩] none)
 (.seq (.seq (.reg [⟨(some 6), none, (.mv (.t 0))⟩,
  ⟨(some 7), none, (.len (.t 6))⟩,
  ⟨(some 8), none, (.mv (.t 1))⟩,
  ⟨(some 9), none, (.len (.t 8))⟩,
  ⟨(some 10), none, (.bin .neq (.t 7) (.t 9))⟩] none)
 (.cond (.t 10)
 (.seq (.reg [⟨(some 4), none, (.mv (.c (.sc (.bool false))))⟩] none) .ret) .skip))
 (.seq (.seq (.reg [⟨(some 5), none, (.mv (.c (.sc (.int .i64 (0)))))⟩] none) (.block 0 
 (.loop ⟨[0, 1, 5], []⟩
 (.seq (.seq (.reg [⟨(some 11), none, (.mv (.t 5))⟩,
  ⟨(some 12), none, (.mv (.t 0))⟩,
  ⟨(some 13), none, (.len (.t 12))⟩,
  ⟨(some 14), none, (.bin .lss (.t 11) (.t 13))⟩] none)
 (.cond (.t 14) .skip (.exit 0)))
 (.seq (.block 1
 (.seq (.reg [⟨(some 17), none, (.mv (.t 0))⟩,
  ⟨(some 18), none, (.mv (.t 5))⟩,
  ⟨(some 19), none, (.iaddr 4 (.t 17) (.t 18))⟩,
  ⟨(some 20), none, (.load 4 true (.t 19))⟩,
  ⟨(some 21), none, (.mv (.t 1))⟩,
  ⟨(some 22), none, (.mv (.t 5))⟩,
  ⟨(some 23), none, (.iaddr 4 (.t 21) (.t 22))⟩,
  ⟨(some 24), none, (.load 4 true (.t 23))⟩,
  ⟨(some 25), none, (.eqs true [(.i .i64), (.i .i64), (.i .i64), (.i .i64)] (.t 20) (.t 24))⟩] (some [[], [], [0, 1], [2, 0, 1], [], [], [4, 5], [6, 4, 5], [3, 7, 2, 0, 1, 6, 4, 5]]))
 (.cond (.t 25)
 (.seq (.reg [⟨(some 4), none, (.mv (.c (.sc (.bool false))))⟩] none) .ret) .skip))) (.reg [⟨(some 15), none, (.mv (.t 5))⟩,
  ⟨(some 16), none, (.bin .add (.t 15) (.c (.sc (.int .i64 (1)))))⟩,
  ⟨(some 5), none, (.mv (.t 16))⟩] none))))))
 (.seq (.reg [⟨(some 4), none, (.mv (.c (.sc (.bool true))))⟩] none) .ret))))
theorem good31 {args : List PV} {r : PV} (hl : args.length ≤ 26) (h : Run Tryd.prog [.code ac31] (endQ [(.t 4)] r) ⟨initT 0 args, [], 0, 26⟩) : Good Tryd.prog 31 args r :=
  good_run (by kernel_rfl) Xamix Tryd.func31 rfl (hs := [⟨[0, 1, 5], []⟩]) (hs' := []) (by kernel_rfl) hl h
def ac20 : ACode :=
 (.seq (.reg [⟨(some 4), none, (.new [(.sc (.int .i64 (0))), (.sc (.int .i64 (0))), (.sc (.int .i64 (0))), (.sc (.int .i64 (0))), (.sc (.int .i64 (0))), (.sc (.int .i64 (0))), (.sc (.bool false)), (.sc (.slice none 0 0)), (.sc (.slice none 0 0)), (.sc (.int .i64 (0))), (.sc (.int .i64 (0))), (.sc (.int .i64 (0))), (.sc (.int .i64 (0)))])⟩,
  ⟨(some 5), none, (.mv (.c (.sc (.bool false))))⟩] none)
 (.seq (.reg [⟨(some 7), none, (.mv (.t 0))⟩,
  ⟨(some 8), none, (.mv (.t 1))⟩,
  ⟨(some 9), none, (.call 41 [(.t 7), (.t 8)])⟩,
  ⟨(some 6), none, (.mv (.t 9))⟩] none)
 (.seq (.seq (.reg [⟨(some 10), none, (.mv (.t 6))⟩,
  ⟨(some 11), none, (.bin .lss (.t 10) (.c (.sc (.int .i64 (0)))))⟩] none)
 (.cond (.t 11)
 (.seq (.reg [⟨(some 12), none, (.build [(.sc (.int .i64 (0))), (.sc (.int .i64 (0))), (.sc (.int .i64 (0))), (.sc (.int .i64 (0))), (.sc (.int .i64 (0))), (.sc (.int .i64 (0))), (.sc (.bool false)), (.sc (.slice none 0 0)), (.sc (.slice none 0 0)), (.sc (.int .i64 (0))), (.sc (.int .i64 (0))), (.sc (.int .i64 (0))), (.sc (.int .i64 (0)))] [])⟩,
  ⟨none, none, (.store 13 (.t 4) (.t 12))⟩,
  ⟨(some 5), none, (.mv (.c (.sc (.bool false))))⟩] none) .ret) .skip))
 (.seq (.reg [⟨(some 13), none, (.mv (.t 0))⟩,
  ⟨(some 14), none, (.mv (.t 6))⟩,
  ⟨(some 15), none, (.iaddr 13 (.t 13) (.t 14))⟩,
  ⟨(some 16), none, (.load 13 true (.t 15))⟩,
  ⟨none, none, (.store 13 (.t 4) (.t 16))⟩,
  ⟨(some 5), none, (.mv (.c (.sc (.bool true))))⟩] none) .ret))))
theorem good20 {args : List PV} {r : PV} (hl : args.length ≤ 17) (h : Run Tryd.prog [.code ac20] (endQ [(.c 4 13 true), (.t 5)] r) ⟨initT 0 args, [], 0, 17⟩) : Good Tryd.prog 20 args r :=
  good_run (by kernel_rfl) Xamix Tryd.func20 rfl (hs := []) (hs' := []) (by kernel_rfl) hl h
def ac41 : ACode :=
 (.seq (.reg [⟨(some 4), none, (.mv (.c (.sc (.int .i64 (0)))))⟩] none)
 (.seq (.seq (.reg [⟨(some 5), none, (.mv (.c (.sc (.int .i64 (0)))))⟩] none) (.block 0 
 (.loop ⟨[0, 1, 5], []⟩
 (.seq (.seq (.reg [⟨(some 6), none, (.mv (.t 5))⟩,
  ⟨(some 7), none, (.mv (.t 0))⟩,
  ⟨(some 8), none, (.len (.t 7))⟩,
  ⟨(some 9), none, (.bin .lss (.t 6) (.t 8))⟩] none)
 (.cond (.t 9) .skip (.exit 0)))
 (.seq (.block 1
 (.seq (.reg [⟨(some 12), none, (.mv (.t 0))⟩,
  ⟨(some 13), none, (.mv (.t 5))⟩,
  ⟨(some 14), none, (.iaddr 13 (.t 12) (.t 13))⟩,
  ⟨(some 15), none, (.faddr 0 (.t 14))⟩,
  ⟨(some 16), none, (.load 1 false (.t 15))⟩,
  ⟨(some 17), none, (.mv (.t 1))⟩,
  ⟨(some 18), none, (.bin .eql (.t 16) (.t 17))⟩] none)
 (.cond (.t 18)
 (.seq (.reg [⟨(some 19), none, (.mv (.t 5))⟩,
  ⟨(some 4), none, (.mv (.t 19))⟩] none) .ret) .skip))) (.reg [⟨(some 10), none, (.mv (.t 5))⟩,
  ⟨(some 11), none, (.bin .add (.t 10) (.c (.sc (.int .i64 (1)))))⟩,
  ⟨(some 5), none, (.mv (.t 11))⟩] none))))))
 (.seq (.reg [⟨(some 4), none, (.mv (.c (.sc (.int .i64 (-1)))))⟩] none) .ret)))
theorem good41 {args : List PV} {r : PV} (hl : args.length ≤ 20) (h : Run Tryd.prog [.code ac41] (endQ [(.t 4)] r) ⟨initT 0 args, [], 0, 20⟩) : Good Tryd.prog 41 args r :=
  good_run (by kernel_rfl) Xamix Tryd.func41 rfl (hs := [⟨[0, 1, 5], []⟩]) (hs' := []) (by kernel_rfl) hl h
def ac26 : ACode :=
 (.seq (.reg [⟨(some 4), none, (.mv (.c (.sc (.bool false))))⟩] none)
 (.seq (.seq (.reg [⟨(some 5), none, (.mv (.c (.sc (.int .i64 (0)))))⟩] none) (.block 0 
 (.loop ⟨[0, 1, 5], []⟩
 (.seq (.seq (.reg [⟨(some 6), none, (.mv (.t 5))⟩,
  ⟨(some 7), none, (.mv (.t 0))⟩,
  ⟨(some 8), none, (.len (.t 7))⟩,
  ⟨(some 9), none, (.bin .lss (.t 6) (.t 8))⟩] none)
 (.cond (.t 9) .skip (.exit 0)))
 (.seq (.block 1
 (.seq (.reg [⟨(some 12), none, (.mv (.t 0))⟩,
  ⟨(some 13), none, (.mv (.t 5))⟩,
  ⟨(some 14), none, (.iaddr 13 (.t 12) (.t 13))⟩,
  ⟨(some 15), none, (.faddr 7 (.t 14))⟩,
  ⟨(some 16), none, (.load 1 false (.t 15))⟩,
  ⟨(some 17), none, (.len (.t 16))⟩,
  ⟨(some 18), none, (.bin .gtr (.t 17) (.c (.sc (.int .i64 (40)))))⟩,
  ⟨(some 19), none, (.mv (.t 18))⟩,
  ⟨(some 20), (some (19, false)), (.mv (.t 0))⟩,
  ⟨(some 21), (some (19, false)), (.mv (.t 5))⟩,
  ⟨(some 22), (some (19, false)), (.iaddr 13 (.t 20) (.t 21))⟩,
  ⟨(some 23), (some (19, false)), (.faddr 8 (.t 22))⟩,
  ⟨(some 24), (some (19, false)), (.load 1 false (.t 23))⟩,
  ⟨(some 25), (some (19, false)), (.len (.t 24))⟩,
  ⟨(some 26), (some (19, false)), (.bin .gtr (.t 25) (.c (.sc (.int .i64 (40)))))⟩,
  ⟨(some 27), none, (.pick (.t 19) (.c (.sc (.bool true))) (.t 26))⟩] none)
 (.cond (.t 27)
 (.seq (.reg [⟨(some 4), none, (.mv (.c (.sc (.bool false))))⟩] none) .ret) .skip))) (.reg [⟨(some 10), none, (.mv (.t 5))⟩,
  ⟨(some 11), none, (.bin .add (.t 10) (.c (.sc (.int .i64 (1)))))⟩,
  ⟨(some 5), none, (.mv (.t 11))⟩] none))))))
 (.seq (.reg [⟨(some 28), none, (.mv (.t 0))⟩,
  ⟨(some 29), none, (.len (.t 28))⟩,
  ⟨(some 30), none, (.mv (.t 1))⟩,
  ⟨(some 31), none, (.bin .leq (.t 29) (.t 30))⟩,
  ⟨(some 4), none, (.mv (.t 31))⟩] none) .ret)))
theorem good26 {args : List PV} {r : PV} (hl : args.length ≤ 32) (h : Run Tryd.prog [.code ac26] (endQ [(.t 4)] r) ⟨initT 0 args, [], 0, 32⟩) : Good Tryd.prog 26 args r :=
  good_run (by kernel_rfl) Xamix Tryd.func26 rfl (hs := [⟨[0, 1, 5], []⟩]) (hs' := []) (by kernel_rfl) hl h
def ac45 : ACode :=
 (.seq (.reg [⟨(some 4), none, (.new [(.sc (.int .i64 (0))), (.sc (.int .i64 (0))), (.sc (.int .i64 (0))), (.sc (.int .i64 (0))), (.sc (.int .i64 (0))), (.sc (.int .i64 (0))), (.sc (.bool false)), (.sc (.slice none 0 0)), (.sc (.slice none 0 0)), (.sc (.int .i64 (0))), (.sc (.int .i64 (0))), (.sc (.int .i64 (0))), (.sc (.int .i64 (0)))])⟩,
  ⟨(some 5), none, (.mv (.c (.sc (.bool false))))⟩] none)
 (.seq (.seq (.reg [⟨(some 8), none, (.mv (.t 0))⟩,
  ⟨(some 9), none, (.len (.t 8))⟩,
  ⟨(some 10), none, (.mv (.c (.sc (.int .i64 (0)))))⟩] none) (.block 0 
 (.loop ⟨[1, 4, 8, 9, 10], []⟩
 (.seq (.reg [⟨(some 11), none, (.bin .lss (.t 10) (.t 9))⟩] none)
 (.seq
 (.cond (.t 11) .skip (.exit 0))
 (.seq (.block 1
 (.seq (.reg [⟨(some 12), none, (.iaddr 13 (.t 8) (.t 10))⟩,
  ⟨(some 13), none, (.load 13 true (.t 12))⟩,
  ⟨(some 7), none, (.new [(.sc (.int .i64 (0))), (.sc (.int .i64 (0))), (.sc (.int .i64 (0))), (.sc (.int .i64 (0))), (.sc (.int .i64 (0))), (.sc (.int .i64 (0))), (.sc (.bool false)), (.sc (.slice none 0 0)), (.sc (.slice none 0 0)), (.sc (.int .i64 (0))), (.sc (.int .i64 (0))), (.sc (.int .i64 (0))), (.sc (.int .i64 (0)))])⟩,
  ⟨none, none, (.store 13 (.t 7) (.t 13))⟩] none)
 (.seq (.reg [⟨(some 14), none, (.faddr 0 (.t 7))⟩,
  ⟨(some 15), none, (.load 1 false (.t 14))⟩,
  ⟨(some 16), none, (.mv (.t 1))⟩,
  ⟨(some 17), none, (.bin .eql (.t 15) (.t 16))⟩] none)
 (.cond (.t 17)
 (.seq (.reg [⟨(some 18), none, (.load 13 true (.t 7))⟩,
  ⟨(some 19), none, (.call 53 [(.t 18)])⟩,
  ⟨none, none, (.store 13 (.t 4) (.t 19))⟩,
  ⟨(some 5), none, (.mv (.c (.sc (.bool true))))⟩] none) .ret) .skip)))) (.reg [⟨(some 20), none, (.bin .add (.t 10) (.c (.sc (.int .i64 (1)))))⟩,
  ⟨(some 10), none, (.mv (.t 20))⟩] none)))))))
 (.seq (.reg [⟨(some 21), none, (.build [(.sc (.int .i64 (0))), (.sc (.int .i64 (0))), (.sc (.int .i64 (0))), (.sc (.int .i64 (0))), (.sc (.int .i64 (0))), (.sc (.int .i64 (0))), (.sc (.bool false)), (.sc (.slice none 0 0)), (.sc (.slice none 0 0)), (.sc (.int .i64 (0))), (.sc (.int .i64 (0))), (.sc (.int .i64 (0))), (.sc (.int .i64 (0)))] [])⟩,
  ⟨none, none, (.store 13 (.t 4) (.t 21))⟩,
  ⟨(some 5), none, (.mv (.c (.sc (.bool false))))⟩] none) .ret)))
theorem good45 {args : List PV} {r : PV} (hl : args.length ≤ 22) (h : Run Tryd.prog [.code ac45] (endQ [(.c 4 13 true), (.t 5)] r) ⟨initT 0 args, [], 0, 22⟩) : Good Tryd.prog 45 args r :=
  good_run (by kernel_rfl) Xamix Tryd.func45 rfl (hs := [⟨[1, 4, 8, 9, 10], []⟩]) (hs' := []) (by kernel_rfl) hl h
def ac53 : ACode :=
 (.seq (.reg [⟨(some 1), none, (.boxv (.t 0))⟩,
  ⟨(some 2), none, (.new [(.sc (.int .i64 (0))), (.sc (.int .i64 (0))), (.sc (.int .i64 (0))), (.sc (.int .i64 (0))), (.sc (.int .i64 (0))), (.sc (.int .i64 (0))), (.sc (.bool false)), (.sc (.slice none 0 0)), (.sc (.slice none 0 0)), (.sc (.int .i64 (0))), (.sc (.int .i64 (0))), (.sc (.int .i64 (0))), (.sc (.int .i64 (0)))])⟩] none)
 (.seq (.reg [⟨(some 3), none, (.faddr 7 (.t 1))⟩,
  ⟨(some 4), none, (.load 1 false (.t 3))⟩,
  ⟨(some 5), none, (.call 62 [(.t 4)])⟩,
  ⟨(some 6), none, (.faddr 8 (.t 1))⟩,
  ⟨(some 7), none, (.load 1 false (.t 6))⟩,
  ⟨(some 8), none, (.call 63 [(.t 7)])⟩,
  ⟨(some 9), none, (.faddr 7 (.t 1))⟩,
  ⟨none, none, (.store 1 (.t 9) (.t 5))⟩,
  ⟨(some 10), none, (.faddr 8 (.t 1))⟩,
  ⟨none, none, (.store 1 (.t 10) (.t 8))⟩] (some [[], [0], [1, 0], [], [3], [4, 2, 3, 1, 0], [0, 1, 2, 3, 4], [6, 2, 5, 0, 1, 3, 4], [0, 1, 2, 3, 4, 5, 6, 7], [8, 5, 7, 0, 1, 2, 3, 4, 6]]))
 (.seq (.reg [⟨(some 11), none, (.load 13 true (.t 1))⟩,
  ⟨none, none, (.store 13 (.t 2) (.t 11))⟩] none) .ret)))
theorem good53 {args : List PV} {r : PV} (hl : args.length ≤ 12) (h : Run Tryd.prog [.code ac53] (endQ [(.c 2 13 true)] r) ⟨initT 0 args, [], 0, 12⟩) : Good Tryd.prog 53 args r :=
  good_run (by kernel_rfl) Xamix Tryd.func53 rfl (hs := []) (hs' := []) (by kernel_rfl) hl h
def ac62 : ACode :=
 (.seq (.reg [⟨(some 2), none, (.mv (.c (.sc (.slice none 0 0))))⟩] none)
 (.seq (.seq (.reg [⟨(some 3), none, (.mv (.t 0))⟩,
  ⟨(some 4), none, (.bin .eql (.t 3) (.c (.sc (.slice none 0 0))))⟩] none)
 (.cond (.t 4)
 (.seq (.reg [⟨(some 2), none, (.mv (.c (.sc (.slice none 0 0))))⟩] none) .ret) .skip))
 (.seq (.reg [⟨(some 5), none, (.bslice 112 5 [])⟩,
  ⟨(some 6), none, (.mv (.t 0))⟩,
  ⟨(some 7), none, (.append 112 5 40 (.t 5) (.t 6))⟩,
  ⟨(some 2), none, (.mv (.t 7))⟩] none) .ret)))
theorem good62 {args : List PV} {r : PV} (hl : args.length ≤ 8) (h : Run Tryd.prog [.code ac62] (endQ [(.t 2)] r) ⟨initT 0 args, [], 0, 8⟩) : Good Tryd.prog 62 args r :=
  good_run (by kernel_rfl) Xamix Tryd.func62 rfl (hs := []) (hs' := []) (by kernel_rfl) hl h
def ac63 : ACode :=
 (.seq (.reg [⟨(some 2), none, (.mv (.c (.sc (.slice none 0 0))))⟩] none)
 (.seq (.seq (.reg [⟨(some 3), none, (.mv (.t 0))⟩,
  ⟨(some 4), none, (.bin .eql (.t 3) (.c (.sc (.slice none 0 0))))⟩] none)
 (.cond (.t 4)
 (.seq (.reg [⟨(some 2), none, (.mv (.c (.sc (.slice none 0 0))))⟩] none) .ret) .skip))
 (.seq (.reg [⟨(some 5), none, (.bslice 115 4 [])⟩,
  ⟨(some 6), none, (.mv (.t 0))⟩,
  ⟨(some 7), none, (.append 115 4 32 (.t 5) (.t 6))⟩,
  ⟨(some 2), none, (.mv (.t 7))⟩] none) .ret)))
theorem good63 {args : List PV} {r : PV} (hl : args.length ≤ 8) (h : Run Tryd.prog [.code ac63] (endQ [(.t 2)] r) ⟨initT 0 args, [], 0, 8⟩) : Good Tryd.prog 63 args r :=
  good_run (by kernel_rfl) Xamix Tryd.func63 rfl (hs := []) (hs' := []) (by kernel_rfl) hl h
def ac39 : ACode :=
 (.seq (.reg [⟨(some 2), none, (.mv (.c (.sc (.int .i64 (0)))))⟩,
  ⟨(some 3), none, (.mv (.c (.sc (.int .i64 (0)))))⟩] none)
 (.seq (.seq (.reg [⟨(some 7), none, (.mv (.t 0))⟩,
  ⟨(some 8), none, (.len (.t 7))⟩,
  ⟨(some 9), none, (.bin .gtr (.t 8) (.c (.sc (.int .i64 (16)))))⟩] none)
 (.cond (.t 9)
 (.seq (.reg [⟨(some 2), none, (.mv (.c (.sc (.int .i64 (0)))))⟩,
  ⟨(some 3), none, (.mv (.c (.sc (.int .i64 (8)))))⟩] none) .ret) .skip))
 (.seq (.reg [⟨(some 4), none, (.mv (.c (.sc (.int .i64 (0)))))⟩] none)
 (.seq (.seq (.reg [⟨(some 10), none, (.mv (.t 0))⟩,
  ⟨(some 11), none, (.len (.t 10))⟩,
  ⟨(some 12), none, (.mv (.c (.sc (.int .i64 (0)))))⟩] none) (.block 0 
 (.loop ⟨[4, 10, 11, 12], []⟩
 (.seq (.reg [⟨(some 13), none, (.bin .lss (.t 12) (.t 11))⟩] none)
 (.seq
 (.cond (.t 13) .skip (.exit 0))
 (.seq (.block 1
 (.seq (.reg [⟨(some 14), none, (.iaddr 3 (.t 10) (.t 12))⟩,
  ⟨(some 15), none, (.load 3 true (.t 14))⟩,
  ⟨(some 6), none, (.new [(.sc (.int .i64 (0))), (.sc (.int .i64 (0))), (.sc (.int .i64 (0)))])⟩,
  ⟨none, none, (.store 3 (.t 6) (.t 15))⟩] none)
 (.seq (.seq (.reg [⟨(some 16), none, (.faddr 2 (.t 6))⟩,
  ⟨(some 17), none, (.load 1 false (.t 16))⟩,
  ⟨(some 18), none, (.bin .lss (.t 17) (.c (.sc (.int .i64 (-1000000000000)))))⟩,
  ⟨(some 19), none, (.mv (.t 18))⟩,
  ⟨(some 20), (some (19, false)), (.faddr 2 (.t 6))⟩,
  ⟨(some 21), (some (19, false)), (.load 1 false (.t 20))⟩,
  ⟨(some 22), (some (19, false)), (.bin .gtr (.t 21) (.c (.sc (.int .i64 (1000000000000)))))⟩,
  ⟨(some 23), none, (.pick (.t 19) (.c (.sc (.bool true))) (.t 22))⟩] none)
 (.cond (.t 23)
 (.seq (.reg [⟨(some 2), none, (.mv (.c (.sc (.int .i64 (0)))))⟩,
  ⟨(some 3), none, (.mv (.c (.sc (.int .i64 (1)))))⟩] none) .ret) .skip)) (.reg [⟨(some 24), none, (.mv (.t 4))⟩,
  ⟨(some 25), none, (.faddr 2 (.t 6))⟩,
  ⟨(some 26), none, (.load 1 false (.t 25))⟩,
  ⟨(some 27), none, (.bin .add (.t 24) (.t 26))⟩,
  ⟨(some 4), none, (.mv (.t 27))⟩] none)))) (.reg [⟨(some 28), none, (.bin .add (.t 12) (.c (.sc (.int .i64 (1)))))⟩,
  ⟨(some 12), none, (.mv (.t 28))⟩] none)))))))
 (.seq (.reg [⟨(some 29), none, (.mv (.t 4))⟩,
  ⟨(some 2), none, (.mv (.t 29))⟩,
  ⟨(some 3), none, (.mv (.c (.sc (.int .i64 (0)))))⟩] none) .ret)))))
theorem good39 {args : List PV} {r : PV} (hl : args.length ≤ 30) (h : Run Tryd.prog [.code ac39] (endQ [(.t 2), (.t 3)] r) ⟨initT 0 args, [], 0, 30⟩) : Good Tryd.prog 39 args r :=
  good_run (by kernel_rfl) Xamix Tryd.func39 rfl (hs := [⟨[4, 10, 11, 12], []⟩]) (hs' := []) (by kernel_rfl) hl h
end Go.Proofs.YtaejaogidkgalaaDoor
