/-
  The translated codes of functions, checked by the kernel.
-/
import Derived.Test.YtjobpjhmdbmdgaaKc
import Derived.KernelRfl
namespace Go.Proofs.Ytjobpjhmdbmdgaa
set_option linter.unusedVariables false
set_option linter.unusedSimpArgs false
set_option linter.unnecessarySimpa false
theorem Hamix : Try.prog.follows .mixedOrders = true := by kernel_rfl
def ac3 : ACode :=
 (.seq (.reg [⟨(some 6), none, (.mv (.c (.sc (.bool false))))⟩] none)
 (.seq (.seq (.reg [⟨(some 9), none, (.mv (.t 2))⟩,
  ⟨(some 10), none, (.len (.t 9))⟩,
  ⟨(some 11), none, (.bin .gtr (.t 10) (.c (.sc (.int .i64 (100)))))⟩] none)
 (.cond (.t 11)
 (.seq (.reg [⟨(some 12), none, (.call 10 [])⟩,
  ⟨(some 6), none, (.mv (.t 12))⟩] none) .ret) .skip))
 (.seq (.reg [⟨(some 13), none, (.mv (.t 0))⟩,
  ⟨(some 14), none, (.mv (.t 1))⟩,
  ⟨(some 15), none, (.mv (.t 2))⟩,
  ⟨(some 16), none, (.call 11 [(.t 13), (.t 14), (.t 15)])⟩,
  ⟨(some 7), none, (.new [(.sc (.int .i64 (0))), (.sc (.slice none 0 0)), (.sc (.slice none 0 0))])⟩,
  ⟨none, none, (.store 3 (.t 7) (.t 16))⟩] none)
 (.seq (.reg [⟨(some 17), none, (.load 3 true (.t 7))⟩,
  ⟨(some 8), none, (.new [(.sc (.int .i64 (0))), (.sc (.slice none 0 0)), (.sc (.slice none 0 0))])⟩,
  ⟨none, none, (.store 3 (.t 8) (.t 17))⟩] none)
 (.seq (.seq (.reg [⟨(some 18), none, (.faddr 2 (.t 7))⟩,
  ⟨(some 19), none, (.load 1 false (.t 18))⟩,
  ⟨(some 20), none, (.len (.t 19))⟩,
  ⟨(some 21), none, (.bin .gtr (.t 20) (.c (.sc (.int .i64 (0)))))⟩] none)
 (.cond (.t 21) (.reg [⟨(some 22), none, (.faddr 2 (.t 7))⟩,
  ⟨(some 23), none, (.load 1 false (.t 22))⟩,
  ⟨(some 24), none, (.faddr 2 (.t 7))⟩,
  ⟨(some 25), none, (.load 1 false (.t 24))⟩,
  ⟨(some 26), none, (.len (.t 25))⟩,
  ⟨(some 27), none, (.bin .sub (.t 26) (.c (.sc (.int .i64 (1)))))⟩,
  ⟨(some 28), none, (.slice 1 (.t 23) none (some (.t 27)) none)⟩,
  ⟨(some 29), none, (.faddr 2 (.t 8))⟩,
  ⟨none, none, (.store 1 (.t 29) (.t 28))⟩] none) .skip))
 (.seq (.reg [⟨(some 30), none, (.load 3 true (.t 7))⟩,
  ⟨(some 31), none, (.call 12 [(.t 30)])⟩,
  ⟨(some 32), none, (.load 3 true (.t 7))⟩,
  ⟨(some 33), none, (.call 13 [(.t 32)])⟩,
  ⟨(some 34), none, (.bin .eql (.t 31) (.t 33))⟩,
  ⟨(some 35), none, (.mv (.t 34))⟩,
  ⟨(some 36), (some (35, true)), (.load 3 true (.t 8))⟩,
  ⟨(some 37), (some (35, true)), (.call 12 [(.t 36)])⟩,
  ⟨(some 38), (some (35, true)), (.load 3 true (.t 8))⟩,
  ⟨(some 39), (some (35, true)), (.call 13 [(.t 38)])⟩,
  ⟨(some 40), (some (35, true)), (.bin .eql (.t 37) (.t 39))⟩,
  ⟨(some 41), none, (.pick (.t 35) (.t 40) (.c (.sc (.bool false))))⟩,
  ⟨(some 42), none, (.mv (.t 41))⟩,
  ⟨(some 43), (some (42, true)), (.call 10 [])⟩,
  ⟨(some 44), none, (.pick (.t 42) (.t 43) (.c (.sc (.bool false))))⟩,
  ⟨(some 6), none, (.mv (.t 44))⟩] (some [[], [0], [], [2, 1, 0], [1, 3, 0, 2], [4, 3, 1, 0, 2], [5, 4, 3, 1, 0, 2], [6, 5, 4, 3, 1, 0, 2], [5, 4, 3, 1, 0, 2], [8, 7, 5, 4, 3, 1, 0, 2, 6], [7, 9, 5, 6, 4, 3, 1, 0, 2, 8], [5, 10, 4, 3, 1, 0, 2, 7, 9, 6, 8], [11, 9, 5, 10, 4, 3, 1, 0, 2, 7, 6, 8], [12, 11, 9, 5, 10, 4, 3, 1, 0, 2, 7, 6, 8], [12, 13, 11, 9, 5, 10, 4, 3, 1, 0, 2, 7, 6, 8], [14, 13, 0, 1, 2, 3, 4, 5, 6, 7, 8, 9, 10, 11, 12]])) .ret))))))
theorem good3 {args : List PV} {r : PV} (hl : args.length ≤ 45) (h : Run Try.prog [.code ac3] (endQ [(.t 6)] r) ⟨initT 0 args, [], 0, 45⟩) : Good Try.prog 3 args r :=
  good_run (by kernel_rfl) Hamix Try.func3 rfl (hs := []) (hs' := []) (by kernel_rfl) hl h
def ac4 : ACode :=
 (.seq (.reg [⟨(some 4), none, (.mv (.c (.sc (.bool false))))⟩] none)
 (.seq (.seq (.reg [⟨(some 9), none, (.mv (.t 1))⟩,
  ⟨(some 10), none, (.call 14 [(.t 9)])⟩,
  ⟨(some 11), none, (.un .not (.t 10))⟩] none)
 (.cond (.t 11)
 (.seq (.reg [⟨(some 12), none, (.call 10 [])⟩,
  ⟨(some 4), none, (.mv (.t 12))⟩] none) .ret) .skip))
 (.seq (.reg [⟨(some 14), none, (.mv (.t 0))⟩,
  ⟨(some 15), none, (.mv (.t 1))⟩,
  ⟨(some 16), none, (.call 15 [(.t 14), (.t 15)])⟩,
  ⟨(some 13), none, (.mv (.t 16))⟩,
  ⟨(some 17), none, (.ext 0 (.t 13))⟩,
  ⟨(some 18), none, (.ext 1 (.t 13))⟩,
  ⟨(some 5), none, (.new [(.sc (.int .i64 (0))), (.sc (.slice none 0 0)), (.sc (.slice none 0 0))])⟩,
  ⟨none, none, (.store 3 (.t 5) (.t 17))⟩,
  ⟨(some 6), none, (.mv (.t 18))⟩] none)
 (.seq (.reg [⟨(some 20), none, (.mv (.t 0))⟩,
  ⟨(some 21), none, (.mv (.t 1))⟩,
  ⟨(some 22), none, (.call 16 [(.t 20), (.t 21)])⟩,
  ⟨(some 19), none, (.mv (.t 22))⟩,
  ⟨(some 23), none, (.ext 0 (.t 19))⟩,
  ⟨(some 24), none, (.ext 1 (.t 19))⟩,
  ⟨(some 7), none, (.new [(.sc (.int .i64 (0))), (.sc (.slice none 0 0)), (.sc (.slice none 0 0))])⟩,
  ⟨none, none, (.store 3 (.t 7) (.t 23))⟩,
  ⟨(some 8), none, (.mv (.t 24))⟩] none)
 (.seq (.reg [⟨(some 25), none, (.load 3 true (.t 5))⟩,
  ⟨(some 26), none, (.load 3 true (.t 7))⟩,
  ⟨(some 27), none, (.call 17 [(.t 25), (.t 26)])⟩,
  ⟨(some 28), none, (.mv (.t 27))⟩,
  ⟨(some 29), (some (28, true)), (.mv (.t 6))⟩,
  ⟨(some 30), (some (28, true)), (.mv (.t 8))⟩,
  ⟨(some 31), (some (28, true)), (.bin .eql (.t 29) (.t 30))⟩,
  ⟨(some 32), none, (.pick (.t 28) (.t 31) (.c (.sc (.bool false))))⟩,
  ⟨(some 33), none, (.mv (.t 32))⟩,
  ⟨(some 34), (some (33, true)), (.call 10 [])⟩,
  ⟨(some 35), none, (.pick (.t 33) (.t 34) (.c (.sc (.bool false))))⟩,
  ⟨(some 4), none, (.mv (.t 35))⟩] none) .ret)))))
theorem good4 {args : List PV} {r : PV} (hl : args.length ≤ 36) (h : Run Try.prog [.code ac4] (endQ [(.t 4)] r) ⟨initT 0 args, [], 0, 36⟩) : Good Try.prog 4 args r :=
  good_run (by kernel_rfl) Hamix Try.func4 rfl (hs := []) (hs' := []) (by kernel_rfl) hl h
def ac5 : ACode :=
 (.seq (.reg [⟨(some 1), none, (.boxv (.t 0))⟩,
  ⟨(some 2), none, (.mv (.c (.sc (.bool false))))⟩] none)
 (.seq (.seq (.reg [⟨(some 13), none, (.faddr 3 (.t 1))⟩,
  ⟨(some 14), none, (.load 1 false (.t 13))⟩,
  ⟨(some 15), none, (.len (.t 14))⟩,
  ⟨(some 16), none, (.bin .gtr (.t 15) (.c (.sc (.int .i64 (100)))))⟩,
  ⟨(some 17), none, (.mv (.t 16))⟩,
  ⟨(some 18), (some (17, false)), (.faddr 4 (.t 1))⟩,
  ⟨(some 19), (some (17, false)), (.load 1 false (.t 18))⟩,
  ⟨(some 20), (some (17, false)), (.len (.t 19))⟩,
  ⟨(some 21), (some (17, false)), (.bin .gtr (.t 20) (.c (.sc (.int .i64 (100)))))⟩,
  ⟨(some 22), none, (.pick (.t 17) (.c (.sc (.bool true))) (.t 21))⟩] none)
 (.cond (.t 22)
 (.seq (.reg [⟨(some 23), none, (.call 10 [])⟩,
  ⟨(some 2), none, (.mv (.t 23))⟩] none) .ret) .skip))
 (.seq (.reg [⟨(some 24), none, (.faddr 0 (.t 1))⟩,
  ⟨(some 25), none, (.iaddrA 1 2 (.t 24) (.c (.sc (.int .i64 (0)))))⟩,
  ⟨(some 26), none, (.load 1 false (.t 25))⟩,
  ⟨(some 27), none, (.faddr 3 (.t 1))⟩,
  ⟨(some 28), none, (.load 1 false (.t 27))⟩,
  ⟨(some 29), none, (.call 11 [(.t 26), (.c (.sc (.int .i64 (0)))), (.t 28)])⟩,
  ⟨(some 30), none, (.faddr 0 (.t 1))⟩,
  ⟨(some 31), none, (.iaddrA 1 2 (.t 30) (.c (.sc (.int .i64 (1)))))⟩,
  ⟨(some 32), none, (.load 1 false (.t 31))⟩,
  ⟨(some 33), none, (.faddr 2 (.t 1))⟩,
  ⟨(some 34), none, (.load 1 false (.t 33))⟩,
  ⟨(some 35), none, (.faddr 4 (.t 1))⟩,
  ⟨(some 36), none, (.load 1 false (.t 35))⟩,
  ⟨(some 37), none, (.call 11 [(.t 32), (.t 34), (.t 36)])⟩,
  ⟨(some 3), none, (.new [(.sc (.int .i64 (0))), (.sc (.slice none 0 0)), (.sc (.slice none 0 0))])⟩,
  ⟨(some 4), none, (.new [(.sc (.int .i64 (0))), (.sc (.slice none 0 0)), (.sc (.slice none 0 0))])⟩,
  ⟨none, none, (.store 3 (.t 3) (.t 29))⟩,
  ⟨none, none, (.store 3 (.t 4) (.t 37))⟩] (some [[], [0], [1, 0], [], [3], [2, 4, 1, 0, 3], [], [6], [7, 6], [], [9], [], [11], [8, 10, 12, 5, 7, 6, 9, 11, 2, 4, 1, 0, 3], [], [], [14, 5, 13, 0, 1, 2, 3, 4, 15, 8, 10, 12, 7, 6, 9, 11], [15, 13, 16, 0, 1, 2, 3, 4, 5, 6, 7, 8, 9, 10, 11, 12, 14]]))
 (.seq (.reg [⟨(some 39), none, (.load 3 true (.t 3))⟩,
  ⟨(some 40), none, (.load 3 true (.t 4))⟩,
  ⟨(some 41), none, (.call 18 [(.t 39), (.t 40)])⟩,
  ⟨(some 38), none, (.mv (.t 41))⟩,
  ⟨(some 42), none, (.ext 0 (.t 38))⟩,
  ⟨(some 43), none, (.ext 1 (.t 38))⟩,
  ⟨(some 5), none, (.new [(.sc (.int .i64 (0))), (.sc (.slice none 0 0)), (.sc (.slice none 0 0))])⟩,
  ⟨none, none, (.store 3 (.t 5) (.t 42))⟩,
  ⟨(some 6), none, (.mv (.t 43))⟩] none)
 (.seq (.reg [⟨(some 45), none, (.load 3 true (.t 3))⟩,
  ⟨(some 46), none, (.load 3 true (.t 4))⟩,
  ⟨(some 47), none, (.call 19 [(.t 45), (.t 46)])⟩,
  ⟨(some 44), none, (.mv (.t 47))⟩,
  ⟨(some 48), none, (.ext 0 (.t 44))⟩,
  ⟨(some 49), none, (.ext 1 (.t 44))⟩,
  ⟨(some 7), none, (.new [(.sc (.int .i64 (0))), (.sc (.slice none 0 0)), (.sc (.slice none 0 0))])⟩,
  ⟨none, none, (.store 3 (.t 7) (.t 48))⟩,
  ⟨(some 8), none, (.mv (.t 49))⟩] none)
 (.seq (.reg [⟨(some 51), none, (.load 3 true (.t 4))⟩,
  ⟨(some 52), none, (.load 3 true (.t 3))⟩,
  ⟨(some 53), none, (.call 18 [(.t 51), (.t 52)])⟩,
  ⟨(some 50), none, (.mv (.t 53))⟩,
  ⟨(some 54), none, (.ext 0 (.t 50))⟩,
  ⟨(some 55), none, (.ext 1 (.t 50))⟩,
  ⟨(some 9), none, (.new [(.sc (.int .i64 (0))), (.sc (.slice none 0 0)), (.sc (.slice none 0 0))])⟩,
  ⟨none, none, (.store 3 (.t 9) (.t 54))⟩,
  ⟨(some 10), none, (.mv (.t 55))⟩] none)
 (.seq (.reg [⟨(some 57), none, (.load 3 true (.t 4))⟩,
  ⟨(some 58), none, (.load 3 true (.t 3))⟩,
  ⟨(some 59), none, (.call 19 [(.t 57), (.t 58)])⟩,
  ⟨(some 56), none, (.mv (.t 59))⟩,
  ⟨(some 60), none, (.ext 0 (.t 56))⟩,
  ⟨(some 61), none, (.ext 1 (.t 56))⟩,
  ⟨(some 11), none, (.new [(.sc (.int .i64 (0))), (.sc (.slice none 0 0)), (.sc (.slice none 0 0))])⟩,
  ⟨none, none, (.store 3 (.t 11) (.t 60))⟩,
  ⟨(some 12), none, (.mv (.t 61))⟩] none)
 (.seq (.reg [⟨(some 62), none, (.load 3 true (.t 5))⟩,
  ⟨(some 63), none, (.load 3 true (.t 7))⟩,
  ⟨(some 64), none, (.call 17 [(.t 62), (.t 63)])⟩,
  ⟨(some 65), none, (.mv (.t 64))⟩,
  ⟨(some 66), (some (65, true)), (.mv (.t 6))⟩,
  ⟨(some 67), (some (65, true)), (.mv (.t 8))⟩,
  ⟨(some 68), (some (65, true)), (.bin .eql (.t 66) (.t 67))⟩,
  ⟨(some 69), none, (.pick (.t 65) (.t 68) (.c (.sc (.bool false))))⟩,
  ⟨(some 70), none, (.mv (.t 69))⟩,
  ⟨(some 71), (some (70, true)), (.load 3 true (.t 9))⟩,
  ⟨(some 72), (some (70, true)), (.load 3 true (.t 11))⟩,
  ⟨(some 73), (some (70, true)), (.call 17 [(.t 71), (.t 72)])⟩,
  ⟨(some 74), none, (.pick (.t 70) (.t 73) (.c (.sc (.bool false))))⟩,
  ⟨(some 75), none, (.mv (.t 74))⟩,
  ⟨(some 76), (some (75, true)), (.mv (.t 10))⟩,
  ⟨(some 77), (some (75, true)), (.mv (.t 12))⟩,
  ⟨(some 78), (some (75, true)), (.bin .eql (.t 76) (.t 77))⟩,
  ⟨(some 79), none, (.pick (.t 75) (.t 78) (.c (.sc (.bool false))))⟩,
  ⟨(some 80), none, (.mv (.t 79))⟩,
  ⟨(some 81), (some (80, true)), (.call 10 [])⟩,
  ⟨(some 82), none, (.pick (.t 80) (.t 81) (.c (.sc (.bool false))))⟩,
  ⟨(some 2), none, (.mv (.t 82))⟩] none) .ret))))))))
theorem good5 {args : List PV} {r : PV} (hl : args.length ≤ 83) (h : Run Try.prog [.code ac5] (endQ [(.t 2)] r) ⟨initT 0 args, [], 0, 83⟩) : Good Try.prog 5 args r :=
  good_run (by kernel_rfl) Hamix Try.func5 rfl (hs := []) (hs' := []) (by kernel_rfl) hl h
def ac6 : ACode :=
 (.seq (.reg [⟨(some 5), none, (.boxv (.t 2))⟩,
  ⟨(some 6), none, (.mv (.c (.sc (.bool false))))⟩] none)
 (.seq (.seq (.reg [⟨(some 14), none, (.mv (.t 1))⟩,
  ⟨(some 15), none, (.len (.t 14))⟩,
  ⟨(some 16), none, (.bin .gtr (.t 15) (.c (.sc (.int .i64 (100)))))⟩] none)
 (.cond (.t 16)
 (.seq (.reg [⟨(some 17), none, (.call 10 [])⟩,
  ⟨(some 6), none, (.mv (.t 17))⟩] none) .ret) .skip))
 (.seq (.reg [⟨(some 18), none, (.mv (.t 0))⟩,
  ⟨(some 19), none, (.mv (.t 1))⟩,
  ⟨(some 20), none, (.call 11 [(.t 18), (.c (.sc (.int .i64 (0)))), (.t 19)])⟩,
  ⟨(some 7), none, (.new [(.sc (.int .i64 (0))), (.sc (.slice none 0 0)), (.sc (.slice none 0 0))])⟩,
  ⟨none, none, (.store 3 (.t 7) (.t 20))⟩] none)
 (.seq (.reg [⟨(some 22), none, (.load 3 true (.t 7))⟩,
  ⟨(some 23), none, (.iaddrA 1 3 (.t 5) (.c (.sc (.int .i64 (0)))))⟩,
  ⟨(some 24), none, (.load 1 false (.t 23))⟩,
  ⟨(some 25), none, (.iaddrA 1 3 (.t 5) (.c (.sc (.int .i64 (1)))))⟩,
  ⟨(some 26), none, (.load 1 false (.t 25))⟩,
  ⟨(some 27), none, (.iaddrA 1 3 (.t 5) (.c (.sc (.int .i64 (2)))))⟩,
  ⟨(some 28), none, (.load 1 false (.t 27))⟩,
  ⟨(some 29), none, (.call 20 [(.t 22), (.t 24), (.t 26), (.t 28)])⟩,
  ⟨(some 21), none, (.mv (.t 29))⟩,
  ⟨(some 30), none, (.ext 0 (.t 21))⟩,
  ⟨(some 31), none, (.ext 1 (.t 21))⟩,
  ⟨(some 32), none, (.ext 2 (.t 21))⟩,
  ⟨(some 8), none, (.mv (.t 30))⟩,
  ⟨(some 9), none, (.mv (.t 31))⟩,
  ⟨(some 10), none, (.mv (.t 32))⟩] none)
 (.seq (.reg [⟨(some 34), none, (.load 3 true (.t 7))⟩,
  ⟨(some 35), none, (.iaddrA 1 3 (.t 5) (.c (.sc (.int .i64 (0)))))⟩,
  ⟨(some 36), none, (.load 1 false (.t 35))⟩,
  ⟨(some 37), none, (.iaddrA 1 3 (.t 5) (.c (.sc (.int .i64 (1)))))⟩,
  ⟨(some 38), none, (.load 1 false (.t 37))⟩,
  ⟨(some 39), none, (.iaddrA 1 3 (.t 5) (.c (.sc (.int .i64 (2)))))⟩,
  ⟨(some 40), none, (.load 1 false (.t 39))⟩,
  ⟨(some 41), none, (.call 21 [(.t 34), (.t 36), (.t 38), (.t 40)])⟩,
  ⟨(some 33), none, (.mv (.t 41))⟩,
  ⟨(some 42), none, (.ext 0 (.t 33))⟩,
  ⟨(some 43), none, (.ext 1 (.t 33))⟩,
  ⟨(some 44), none, (.ext 2 (.t 33))⟩,
  ⟨(some 11), none, (.mv (.t 42))⟩,
  ⟨(some 12), none, (.mv (.t 43))⟩,
  ⟨(some 13), none, (.mv (.t 44))⟩] none)
 (.seq (.reg [⟨(some 45), none, (.mv (.t 8))⟩,
  ⟨(some 46), none, (.mv (.t 11))⟩,
  ⟨(some 47), none, (.bin .eql (.t 45) (.t 46))⟩,
  ⟨(some 48), none, (.mv (.t 47))⟩,
  ⟨(some 49), (some (48, true)), (.mv (.t 9))⟩,
  ⟨(some 50), (some (48, true)), (.mv (.t 12))⟩,
  ⟨(some 51), (some (48, true)), (.bin .eql (.t 49) (.t 50))⟩,
  ⟨(some 52), none, (.pick (.t 48) (.t 51) (.c (.sc (.bool false))))⟩,
  ⟨(some 53), none, (.mv (.t 52))⟩,
  ⟨(some 54), (some (53, true)), (.mv (.t 10))⟩,
  ⟨(some 55), (some (53, true)), (.mv (.t 13))⟩,
  ⟨(some 56), (some (53, true)), (.bin .eql (.t 54) (.t 55))⟩,
  ⟨(some 57), none, (.pick (.t 53) (.t 56) (.c (.sc (.bool false))))⟩,
  ⟨(some 58), none, (.mv (.t 57))⟩,
  ⟨(some 59), (some (58, true)), (.call 10 [])⟩,
  ⟨(some 60), none, (.pick (.t 58) (.t 59) (.c (.sc (.bool false))))⟩,
  ⟨(some 6), none, (.mv (.t 60))⟩] none) .ret))))))
theorem good6 {args : List PV} {r : PV} (hl : args.length ≤ 61) (h : Run Try.prog [.code ac6] (endQ [(.t 6)] r) ⟨initT 0 args, [], 0, 61⟩) : Good Try.prog 6 args r :=
  good_run (by kernel_rfl) Hamix Try.func6 rfl (hs := []) (hs' := []) (by kernel_rfl) hl h
def ac7 : ACode :=
 (.seq (.reg [⟨(some 6), none, (.mv (.c (.sc (.bool false))))⟩] none)
 (.seq (.seq (.reg [⟨(some 21), none, (.mv (.t 1))⟩,
  ⟨(some 22), none, (.call 14 [(.t 21)])⟩,
  ⟨(some 23), none, (.un .not (.t 22))⟩,
  ⟨(some 24), none, (.mv (.t 23))⟩,
  ⟨(some 25), (some (24, false)), (.mv (.t 1))⟩,
  ⟨(some 26), (some (24, false)), (.len (.t 25))⟩,
  ⟨(some 27), (some (24, false)), (.bin .gtr (.t 26) (.c (.sc (.int .i64 (200)))))⟩,
  ⟨(some 28), none, (.pick (.t 24) (.c (.sc (.bool true))) (.t 27))⟩] none)
 (.cond (.t 28)
 (.seq (.reg [⟨(some 29), none, (.call 10 [])⟩,
  ⟨(some 6), none, (.mv (.t 29))⟩] none) .ret) .skip))
 (.seq (.reg [⟨(some 7), none, (.mv (.c (.sc (.slice none 0 0))))⟩,
  ⟨(some 8), none, (.mv (.c (.sc (.slice none 0 0))))⟩,
  ⟨(some 9), none, (.mv (.c (.sc (.slice none 0 0))))⟩] none)
 (.seq (.seq (.reg [⟨(some 10), none, (.mv (.c (.sc (.int .i64 (0)))))⟩] none) (.block 0 
 (.loop ⟨[0, 1, 2, 7, 8, 9, 10], [(7, (52, 13)), (8, (52, 13)), (9, (52, 13))]⟩
 (.seq (.seq (.reg [⟨(some 30), none, (.mv (.t 10))⟩,
  ⟨(some 31), none, (.mv (.t 1))⟩,
  ⟨(some 32), none, (.len (.t 31))⟩,
  ⟨(some 33), none, (.bin .lss (.t 30) (.t 32))⟩] none)
 (.cond (.t 33) .skip (.exit 0)))
 (.seq (.block 1
 (.seq (.seq (.reg [⟨(some 36), none, (.mv (.t 10))⟩,
  ⟨(some 37), none, (.mv (.t 2))⟩,
  ⟨(some 38), none, (.len (.t 37))⟩,
  ⟨(some 39), none, (.bin .lss (.t 36) (.t 38))⟩,
  ⟨(some 40), none, (.mv (.t 39))⟩,
  ⟨(some 41), (some (40, true)), (.mv (.t 2))⟩,
  ⟨(some 42), (some (40, true)), (.mv (.t 10))⟩,
  ⟨(some 43), (some (40, true)), (.iaddr 1 (.t 41) (.t 42))⟩,
  ⟨(some 44), (some (40, true)), (.load 1 false (.t 43))⟩,
  ⟨(some 45), none, (.pick (.t 40) (.t 44) (.c (.sc (.bool false))))⟩] none)
 (.cond (.t 45) (.reg [⟨(some 46), none, (.mv (.t 7))⟩,
  ⟨(some 47), none, (.mv (.t 1))⟩,
  ⟨(some 48), none, (.mv (.t 10))⟩,
  ⟨(some 49), none, (.iaddr 13 (.t 47) (.t 48))⟩,
  ⟨(some 50), none, (.load 13 true (.t 49))⟩,
  ⟨(some 51), none, (.bslice 52 13 [(.t 50)])⟩,
  ⟨(some 52), none, (.append 52 13 136 (.t 46) (.t 51))⟩,
  ⟨(some 7), none, (.mv (.t 52))⟩] none) (.reg [⟨(some 53), none, (.mv (.t 8))⟩,
  ⟨(some 54), none, (.mv (.t 1))⟩,
  ⟨(some 55), none, (.mv (.t 10))⟩,
  ⟨(some 56), none, (.iaddr 13 (.t 54) (.t 55))⟩,
  ⟨(some 57), none, (.load 13 true (.t 56))⟩,
  ⟨(some 58), none, (.bslice 52 13 [(.t 57)])⟩,
  ⟨(some 59), none, (.append 52 13 136 (.t 53) (.t 58))⟩,
  ⟨(some 8), none, (.mv (.t 59))⟩] none))) (.reg [⟨(some 60), none, (.mv (.t 9))⟩,
  ⟨(some 61), none, (.mv (.t 1))⟩,
  ⟨(some 62), none, (.mv (.t 1))⟩,
  ⟨(some 63), none, (.len (.t 62))⟩,
  ⟨(some 64), none, (.bin .sub (.t 63) (.c (.sc (.int .i64 (1)))))⟩,
  ⟨(some 65), none, (.mv (.t 10))⟩,
  ⟨(some 66), none, (.bin .sub (.t 64) (.t 65))⟩,
  ⟨(some 67), none, (.iaddr 13 (.t 61) (.t 66))⟩,
  ⟨(some 68), none, (.load 13 true (.t 67))⟩,
  ⟨(some 69), none, (.bslice 52 13 [(.t 68)])⟩,
  ⟨(some 70), none, (.append 52 13 136 (.t 60) (.t 69))⟩,
  ⟨(some 9), none, (.mv (.t 70))⟩] none))) (.reg [⟨(some 34), none, (.mv (.t 10))⟩,
  ⟨(some 35), none, (.bin .add (.t 34) (.c (.sc (.int .i64 (1)))))⟩,
  ⟨(some 10), none, (.mv (.t 35))⟩] none))))))
 (.seq (.reg [⟨(some 72), none, (.mv (.t 0))⟩,
  ⟨(some 73), none, (.mv (.t 1))⟩,
  ⟨(some 74), none, (.call 15 [(.t 72), (.t 73)])⟩,
  ⟨(some 71), none, (.mv (.t 74))⟩,
  ⟨(some 75), none, (.ext 0 (.t 71))⟩,
  ⟨(some 76), none, (.ext 1 (.t 71))⟩,
  ⟨(some 11), none, (.new [(.sc (.int .i64 (0))), (.sc (.slice none 0 0)), (.sc (.slice none 0 0))])⟩,
  ⟨none, none, (.store 3 (.t 11) (.t 75))⟩,
  ⟨(some 12), none, (.mv (.t 76))⟩] none)
 (.seq (.reg [⟨(some 78), none, (.mv (.t 0))⟩,
  ⟨(some 79), none, (.mv (.t 9))⟩,
  ⟨(some 80), none, (.call 15 [(.t 78), (.t 79)])⟩,
  ⟨(some 77), none, (.mv (.t 80))⟩,
  ⟨(some 81), none, (.ext 0 (.t 77))⟩,
  ⟨(some 82), none, (.ext 1 (.t 77))⟩,
  ⟨(some 13), none, (.new [(.sc (.int .i64 (0))), (.sc (.slice none 0 0)), (.sc (.slice none 0 0))])⟩,
  ⟨none, none, (.store 3 (.t 13) (.t 81))⟩,
  ⟨(some 14), none, (.mv (.t 82))⟩] none)
 (.seq (.reg [⟨(some 84), none, (.mv (.t 0))⟩,
  ⟨(some 85), none, (.mv (.t 7))⟩,
  ⟨(some 86), none, (.call 15 [(.t 84), (.t 85)])⟩,
  ⟨(some 83), none, (.mv (.t 86))⟩,
  ⟨(some 87), none, (.ext 0 (.t 83))⟩,
  ⟨(some 88), none, (.ext 1 (.t 83))⟩,
  ⟨(some 15), none, (.new [(.sc (.int .i64 (0))), (.sc (.slice none 0 0)), (.sc (.slice none 0 0))])⟩,
  ⟨none, none, (.store 3 (.t 15) (.t 87))⟩,
  ⟨(some 16), none, (.mv (.t 88))⟩] none)
 (.seq (.reg [⟨(some 90), none, (.mv (.t 0))⟩,
  ⟨(some 91), none, (.mv (.t 8))⟩,
  ⟨(some 92), none, (.call 15 [(.t 90), (.t 91)])⟩,
  ⟨(some 89), none, (.mv (.t 92))⟩,
  ⟨(some 93), none, (.ext 0 (.t 89))⟩,
  ⟨(some 94), none, (.ext 1 (.t 89))⟩,
  ⟨(some 17), none, (.new [(.sc (.int .i64 (0))), (.sc (.slice none 0 0)), (.sc (.slice none 0 0))])⟩,
  ⟨none, none, (.store 3 (.t 17) (.t 93))⟩,
  ⟨(some 18), none, (.mv (.t 94))⟩] none)
 (.seq (.seq (.reg [⟨(some 95), none, (.mv (.t 12))⟩,
  ⟨(some 96), none, (.bin .neq (.t 95) (.c (.sc (.int .i64 (0)))))⟩] none)
 (.cond (.t 96)
 (.seq (.reg [⟨(some 97), none, (.faddr 1 (.t 11))⟩,
  ⟨(some 98), none, (.load 1 false (.t 97))⟩,
  ⟨(some 99), none, (.len (.t 98))⟩,
  ⟨(some 100), none, (.bin .eql (.t 99) (.c (.sc (.int .i64 (0)))))⟩,
  ⟨(some 101), none, (.mv (.t 100))⟩,
  ⟨(some 102), (some (101, true)), (.mv (.t 14))⟩,
  ⟨(some 103), (some (101, true)), (.bin .neq (.t 102) (.c (.sc (.int .i64 (0)))))⟩,
  ⟨(some 104), none, (.pick (.t 101) (.t 103) (.c (.sc (.bool false))))⟩,
  ⟨(some 105), none, (.mv (.t 104))⟩,
  ⟨(some 106), (some (105, true)), (.mv (.t 16))⟩,
  ⟨(some 107), (some (105, true)), (.bin .neq (.t 106) (.c (.sc (.int .i64 (0)))))⟩,
  ⟨(some 108), (some (105, true)), (.mv (.t 107))⟩,
  ⟨(some 109), (some (108, false)), (.mv (.t 18))⟩,
  ⟨(some 110), (some (108, false)), (.bin .neq (.t 109) (.c (.sc (.int .i64 (0)))))⟩,
  ⟨(some 111), (some (105, true)), (.pick (.t 108) (.c (.sc (.bool true))) (.t 110))⟩,
  ⟨(some 112), none, (.pick (.t 105) (.t 111) (.c (.sc (.bool false))))⟩,
  ⟨(some 113), none, (.mv (.t 112))⟩,
  ⟨(some 114), (some (113, true)), (.call 10 [])⟩,
  ⟨(some 115), none, (.pick (.t 113) (.t 114) (.c (.sc (.bool false))))⟩,
  ⟨(some 6), none, (.mv (.t 115))⟩] none) .ret) .skip))
 (.seq (.reg [⟨(some 117), none, (.load 3 true (.t 15))⟩,
  ⟨(some 118), none, (.load 3 true (.t 17))⟩,
  ⟨(some 119), none, (.call 18 [(.t 117), (.t 118)])⟩,
  ⟨(some 116), none, (.mv (.t 119))⟩,
  ⟨(some 120), none, (.ext 0 (.t 116))⟩,
  ⟨(some 121), none, (.ext 1 (.t 116))⟩,
  ⟨(some 19), none, (.new [(.sc (.int .i64 (0))), (.sc (.slice none 0 0)), (.sc (.slice none 0 0))])⟩,
  ⟨none, none, (.store 3 (.t 19) (.t 120))⟩,
  ⟨(some 20), none, (.mv (.t 121))⟩] none)
 (.seq (.reg [⟨(some 122), none, (.mv (.t 14))⟩,
  ⟨(some 123), none, (.bin .eql (.t 122) (.c (.sc (.int .i64 (0)))))⟩,
  ⟨(some 124), none, (.mv (.t 123))⟩,
  ⟨(some 125), (some (124, true)), (.mv (.t 16))⟩,
  ⟨(some 126), (some (124, true)), (.bin .eql (.t 125) (.c (.sc (.int .i64 (0)))))⟩,
  ⟨(some 127), none, (.pick (.t 124) (.t 126) (.c (.sc (.bool false))))⟩,
  ⟨(some 128), none, (.mv (.t 127))⟩,
  ⟨(some 129), (some (128, true)), (.mv (.t 18))⟩,
  ⟨(some 130), (some (128, true)), (.bin .eql (.t 129) (.c (.sc (.int .i64 (0)))))⟩,
  ⟨(some 131), none, (.pick (.t 128) (.t 130) (.c (.sc (.bool false))))⟩,
  ⟨(some 132), none, (.mv (.t 131))⟩,
  ⟨(some 133), (some (132, true)), (.mv (.t 20))⟩,
  ⟨(some 134), (some (132, true)), (.bin .eql (.t 133) (.c (.sc (.int .i64 (0)))))⟩,
  ⟨(some 135), none, (.pick (.t 132) (.t 134) (.c (.sc (.bool false))))⟩,
  ⟨(some 136), none, (.mv (.t 135))⟩,
  ⟨(some 137), (some (136, true)), (.load 3 true (.t 13))⟩,
  ⟨(some 138), (some (136, true)), (.load 3 true (.t 11))⟩,
  ⟨(some 139), (some (136, true)), (.call 17 [(.t 137), (.t 138)])⟩,
  ⟨(some 140), none, (.pick (.t 136) (.t 139) (.c (.sc (.bool false))))⟩,
  ⟨(some 141), none, (.mv (.t 140))⟩,
  ⟨(some 142), (some (141, true)), (.load 3 true (.t 19))⟩,
  ⟨(some 143), (some (141, true)), (.load 3 true (.t 11))⟩,
  ⟨(some 144), (some (141, true)), (.call 17 [(.t 142), (.t 143)])⟩,
  ⟨(some 145), none, (.pick (.t 141) (.t 144) (.c (.sc (.bool false))))⟩,
  ⟨(some 146), none, (.mv (.t 145))⟩,
  ⟨(some 147), (some (146, true)), (.call 10 [])⟩,
  ⟨(some 148), none, (.pick (.t 146) (.t 147) (.c (.sc (.bool false))))⟩,
  ⟨(some 6), none, (.mv (.t 148))⟩] none) .ret)))))))))))
theorem good7 {args : List PV} {r : PV} (hl : args.length ≤ 149) (h : Run Try.prog [.code ac7] (endQ [(.t 6)] r) ⟨initT 0 args, [], 0, 149⟩) : Good Try.prog 7 args r :=
  good_run (by kernel_rfl) Hamix Try.func7 rfl (hs := [⟨[0, 1, 2, 7, 8, 9, 10], [(7, 52, 13), (8, 52, 13), (9, 52, 13)]⟩]) (hs' := []) (by kernel_rfl) hl h
def ac8 : ACode :=
 (.seq (.reg [⟨(some 4), none, (.mv (.c (.sc (.bool false))))⟩] none)
 (.seq (.seq (.reg [⟨(some 14), none, (.mv (.t 1))⟩,
  ⟨(some 15), none, (.call 14 [(.t 14)])⟩,
  ⟨(some 16), none, (.un .not (.t 15))⟩] none)
 (.cond (.t 16)
 (.seq (.reg [⟨(some 17), none, (.call 10 [])⟩,
  ⟨(some 4), none, (.mv (.t 17))⟩] none) .ret) .skip))
 (.seq (.reg [⟨(some 19), none, (.mv (.t 0))⟩,
  ⟨(some 20), none, (.mv (.t 1))⟩,
  ⟨(some 21), none, (.call 15 [(.t 19), (.t 20)])⟩,
  ⟨(some 18), none, (.mv (.t 21))⟩,
  ⟨(some 22), none, (.ext 0 (.t 18))⟩,
  ⟨(some 23), none, (.ext 1 (.t 18))⟩,
  ⟨(some 5), none, (.new [(.sc (.int .i64 (0))), (.sc (.slice none 0 0)), (.sc (.slice none 0 0))])⟩,
  ⟨none, none, (.store 3 (.t 5) (.t 22))⟩,
  ⟨(some 6), none, (.mv (.t 23))⟩] none)
 (.seq (.seq (.reg [⟨(some 24), none, (.mv (.t 6))⟩,
  ⟨(some 25), none, (.bin .neq (.t 24) (.c (.sc (.int .i64 (0)))))⟩] none)
 (.cond (.t 25)
 (.seq (.reg [⟨(some 26), none, (.faddr 0 (.t 5))⟩,
  ⟨(some 27), none, (.load 1 false (.t 26))⟩,
  ⟨(some 28), none, (.bin .eql (.t 27) (.c (.sc (.int .i64 (0)))))⟩,
  ⟨(some 29), none, (.mv (.t 28))⟩,
  ⟨(some 30), (some (29, true)), (.faddr 1 (.t 5))⟩,
  ⟨(some 31), (some (29, true)), (.load 1 false (.t 30))⟩,
  ⟨(some 32), (some (29, true)), (.len (.t 31))⟩,
  ⟨(some 33), (some (29, true)), (.bin .eql (.t 32) (.c (.sc (.int .i64 (0)))))⟩,
  ⟨(some 34), none, (.pick (.t 29) (.t 33) (.c (.sc (.bool false))))⟩,
  ⟨(some 35), none, (.mv (.t 34))⟩,
  ⟨(some 36), (some (35, true)), (.faddr 2 (.t 5))⟩,
  ⟨(some 37), (some (35, true)), (.load 1 false (.t 36))⟩,
  ⟨(some 38), (some (35, true)), (.len (.t 37))⟩,
  ⟨(some 39), (some (35, true)), (.bin .eql (.t 38) (.c (.sc (.int .i64 (0)))))⟩,
  ⟨(some 40), none, (.pick (.t 35) (.t 39) (.c (.sc (.bool false))))⟩,
  ⟨(some 41), none, (.mv (.t 40))⟩,
  ⟨(some 42), (some (41, true)), (.call 10 [])⟩,
  ⟨(some 43), none, (.pick (.t 41) (.t 42) (.c (.sc (.bool false))))⟩,
  ⟨(some 4), none, (.mv (.t 43))⟩] none) .ret) .skip))
 (.seq (.reg [⟨(some 7), none, (.mv (.c (.sc (.int .i64 (0)))))⟩,
  ⟨(some 8), none, (.mv (.c (.sc (.int .i64 (0)))))⟩] none)
 (.seq (.seq (.reg [⟨(some 9), none, (.mv (.c (.sc (.int .i64 (0)))))⟩] none) (.block 0 
 (.loop ⟨[0, 1, 5, 7, 8, 9], []⟩
 (.seq (.seq (.reg [⟨(some 44), none, (.mv (.t 9))⟩,
  ⟨(some 45), none, (.mv (.t 1))⟩,
  ⟨(some 46), none, (.len (.t 45))⟩,
  ⟨(some 47), none, (.bin .lss (.t 44) (.t 46))⟩] none)
 (.cond (.t 47) .skip (.exit 0)))
 (.seq (.block 1
 (.seq (.seq (.reg [⟨(some 50), none, (.mv (.t 1))⟩,
  ⟨(some 51), none, (.mv (.t 9))⟩,
  ⟨(some 52), none, (.iaddr 13 (.t 50) (.t 51))⟩,
  ⟨(some 53), none, (.load 13 true (.t 52))⟩,
  ⟨(some 54), none, (.call 22 [(.t 53)])⟩,
  ⟨(some 55), none, (.bin .neq (.t 54) (.c (.sc (.int .i64 (0)))))⟩] none)
 (.cond (.t 55)
 (.seq (.reg [⟨(some 4), none, (.mv (.c (.sc (.bool false))))⟩] none) .ret) .skip))
 (.seq (.seq (.reg [⟨(some 56), none, (.mv (.t 1))⟩,
  ⟨(some 57), none, (.mv (.t 9))⟩,
  ⟨(some 58), none, (.iaddr 13 (.t 56) (.t 57))⟩,
  ⟨(some 59), none, (.faddr 9 (.t 58))⟩,
  ⟨(some 60), none, (.load 1 false (.t 59))⟩,
  ⟨(some 61), none, (.bin .eql (.t 60) (.c (.sc (.int .i64 (1)))))⟩] none)
 (.cond (.t 61) (.reg [⟨(some 62), none, (.mv (.t 7))⟩,
  ⟨(some 63), none, (.bin .add (.t 62) (.c (.sc (.int .i64 (1)))))⟩,
  ⟨(some 7), none, (.mv (.t 63))⟩] none) .skip))
 (.seq (.reg [⟨(some 64), none, (.mv (.t 1))⟩,
  ⟨(some 65), none, (.mv (.t 9))⟩,
  ⟨(some 66), none, (.iaddr 13 (.t 64) (.t 65))⟩,
  ⟨(some 67), none, (.faddr 11 (.t 66))⟩,
  ⟨(some 68), none, (.load 1 false (.t 67))⟩,
  ⟨(some 69), none, (.bin .eql (.t 68) (.c (.sc (.int .i64 (1)))))⟩] none)
 (.cond (.t 69) (.reg [⟨(some 70), none, (.mv (.t 8))⟩,
  ⟨(some 71), none, (.bin .add (.t 70) (.c (.sc (.int .i64 (1)))))⟩,
  ⟨(some 8), none, (.mv (.t 71))⟩] none) .skip))))) (.reg [⟨(some 48), none, (.mv (.t 9))⟩,
  ⟨(some 49), none, (.bin .add (.t 48) (.c (.sc (.int .i64 (1)))))⟩,
  ⟨(some 9), none, (.mv (.t 49))⟩] none))))))
 (.seq (.reg [⟨(some 73), none, (.faddr 1 (.t 5))⟩,
  ⟨(some 74), none, (.load 1 false (.t 73))⟩,
  ⟨(some 75), none, (.call 23 [(.t 74)])⟩,
  ⟨(some 72), none, (.mv (.t 75))⟩,
  ⟨(some 76), none, (.ext 0 (.t 72))⟩,
  ⟨(some 77), none, (.ext 1 (.t 72))⟩,
  ⟨(some 10), none, (.mv (.t 76))⟩,
  ⟨(some 11), none, (.mv (.t 77))⟩] none)
 (.seq (.reg [⟨(some 79), none, (.faddr 2 (.t 5))⟩,
  ⟨(some 80), none, (.load 1 false (.t 79))⟩,
  ⟨(some 81), none, (.call 23 [(.t 80)])⟩,
  ⟨(some 78), none, (.mv (.t 81))⟩,
  ⟨(some 82), none, (.ext 0 (.t 78))⟩,
  ⟨(some 83), none, (.ext 1 (.t 78))⟩,
  ⟨(some 12), none, (.mv (.t 82))⟩,
  ⟨(some 13), none, (.mv (.t 83))⟩] none)
 (.seq (.reg [⟨(some 84), none, (.load 3 true (.t 5))⟩,
  ⟨(some 85), none, (.call 12 [(.t 84)])⟩,
  ⟨(some 86), none, (.bin .eql (.t 85) (.c (.sc (.int .i64 (0)))))⟩,
  ⟨(some 87), none, (.mv (.t 86))⟩,
  ⟨(some 88), (some (87, true)), (.faddr 0 (.t 5))⟩,
  ⟨(some 89), (some (87, true)), (.load 1 false (.t 88))⟩,
  ⟨(some 90), (some (87, true)), (.mv (.t 0))⟩,
  ⟨(some 91), (some (87, true)), (.bin .eql (.t 89) (.t 90))⟩,
  ⟨(some 92), none, (.pick (.t 87) (.t 91) (.c (.sc (.bool false))))⟩,
  ⟨(some 93), none, (.mv (.t 92))⟩,
  ⟨(some 94), (some (93, true)), (.mv (.t 11))⟩,
  ⟨(some 95), none, (.pick (.t 93) (.t 94) (.c (.sc (.bool false))))⟩,
  ⟨(some 96), none, (.mv (.t 95))⟩,
  ⟨(some 97), (some (96, true)), (.mv (.t 13))⟩,
  ⟨(some 98), none, (.pick (.t 96) (.t 97) (.c (.sc (.bool false))))⟩,
  ⟨(some 99), none, (.mv (.t 98))⟩,
  ⟨(some 100), (some (99, true)), (.mv (.t 10))⟩,
  ⟨(some 101), (some (99, true)), (.mv (.t 7))⟩,
  ⟨(some 102), (some (99, true)), (.bin .eql (.t 100) (.t 101))⟩,
  ⟨(some 103), none, (.pick (.t 99) (.t 102) (.c (.sc (.bool false))))⟩,
  ⟨(some 104), none, (.mv (.t 103))⟩,
  ⟨(some 105), (some (104, true)), (.mv (.t 12))⟩,
  ⟨(some 106), (some (104, true)), (.mv (.t 8))⟩,
  ⟨(some 107), (some (104, true)), (.bin .eql (.t 105) (.t 106))⟩,
  ⟨(some 108), none, (.pick (.t 104) (.t 107) (.c (.sc (.bool false))))⟩,
  ⟨(some 109), none, (.mv (.t 108))⟩,
  ⟨(some 110), (some (109, true)), (.call 10 [])⟩,
  ⟨(some 111), none, (.pick (.t 109) (.t 110) (.c (.sc (.bool false))))⟩,
  ⟨(some 4), none, (.mv (.t 111))⟩] none) .ret)))))))))
theorem good8 {args : List PV} {r : PV} (hl : args.length ≤ 112) (h : Run Try.prog [.code ac8] (endQ [(.t 4)] r) ⟨initT 0 args, [], 0, 112⟩) : Good Try.prog 8 args r :=
  good_run (by kernel_rfl) Hamix Try.func8 rfl (hs := [⟨[0, 1, 5, 7, 8, 9], []⟩]) (hs' := []) (by kernel_rfl) hl h
def ac9 : ACode :=
 (.seq (.reg [⟨(some 9), none, (.boxv (.t 4))⟩,
  ⟨(some 10), none, (.mv (.c (.sc (.bool false))))⟩] none)
 (.seq (.seq (.reg [⟨(some 31), none, (.mv (.t 1))⟩,
  ⟨(some 32), none, (.len (.t 31))⟩,
  ⟨(some 33), none, (.bin .gtr (.t 32) (.c (.sc (.int .i64 (100)))))⟩] none)
 (.cond (.t 33)
 (.seq (.reg [⟨(some 34), none, (.call 10 [])⟩,
  ⟨(some 10), none, (.mv (.t 34))⟩] none) .ret) .skip))
 (.seq (.reg [⟨(some 35), none, (.mv (.t 0))⟩,
  ⟨(some 36), none, (.mv (.t 1))⟩,
  ⟨(some 37), none, (.call 11 [(.t 35), (.c (.sc (.int .i64 (0)))), (.t 36)])⟩,
  ⟨(some 11), none, (.new [(.sc (.int .i64 (0))), (.sc (.slice none 0 0)), (.sc (.slice none 0 0))])⟩,
  ⟨none, none, (.store 3 (.t 11) (.t 37))⟩] none)
 (.seq (.reg [⟨(some 38), none, (.iaddrA 1 2 (.t 9) (.c (.sc (.int .i64 (0)))))⟩,
  ⟨(some 39), none, (.load 1 false (.t 38))⟩,
  ⟨(some 40), none, (.conv .i64 (.t 39))⟩,
  ⟨(some 41), none, (.iaddrA 1 2 (.t 9) (.c (.sc (.int .i64 (1)))))⟩,
  ⟨(some 42), none, (.load 1 false (.t 41))⟩,
  ⟨(some 43), none, (.conv .i64 (.t 42))⟩,
  ⟨(some 12), none, (.mv (.t 40))⟩,
  ⟨(some 13), none, (.mv (.t 43))⟩] (some [[], [0], [1, 0], [], [3], [4, 3], [2, 0, 1], [5, 6, 0, 1, 2, 3, 4]]))
 (.seq (.seq (.reg [⟨(some 44), none, (.load 3 true (.t 11))⟩,
  ⟨(some 45), none, (.call 12 [(.t 44)])⟩,
  ⟨(some 46), none, (.bin .neq (.t 45) (.c (.sc (.int .i64 (0)))))⟩,
  ⟨(some 47), none, (.mv (.t 46))⟩,
  ⟨(some 48), (some (47, false)), (.mv (.t 2))⟩,
  ⟨(some 49), (some (47, false)), (.bin .lss (.t 48) (.c (.sc (.int .i64 (0)))))⟩,
  ⟨(some 50), none, (.pick (.t 47) (.c (.sc (.bool true))) (.t 49))⟩,
  ⟨(some 51), none, (.mv (.t 50))⟩,
  ⟨(some 52), (some (51, false)), (.mv (.t 2))⟩,
  ⟨(some 53), (some (51, false)), (.mv (.t 0))⟩,
  ⟨(some 54), (some (51, false)), (.bin .geq (.t 52) (.t 53))⟩,
  ⟨(some 55), none, (.pick (.t 51) (.c (.sc (.bool true))) (.t 54))⟩,
  ⟨(some 56), none, (.mv (.t 55))⟩,
  ⟨(some 57), (some (56, false)), (.mv (.t 3))⟩,
  ⟨(some 58), (some (56, false)), (.bin .lss (.t 57) (.c (.sc (.int .i64 (0)))))⟩,
  ⟨(some 59), none, (.pick (.t 56) (.c (.sc (.bool true))) (.t 58))⟩,
  ⟨(some 60), none, (.mv (.t 59))⟩,
  ⟨(some 61), (some (60, false)), (.mv (.t 3))⟩,
  ⟨(some 62), (some (60, false)), (.bin .geq (.t 61) (.c (.sc (.int .i64 (168)))))⟩,
  ⟨(some 63), none, (.pick (.t 60) (.c (.sc (.bool true))) (.t 62))⟩,
  ⟨(some 64), none, (.mv (.t 63))⟩,
  ⟨(some 65), (some (64, false)), (.mv (.t 12))⟩,
  ⟨(some 66), (some (64, false)), (.mv (.t 13))⟩,
  ⟨(some 67), (some (64, false)), (.bin .add (.t 65) (.t 66))⟩,
  ⟨(some 68), (some (64, false)), (.bin .gtr (.t 67) (.c (.sc (.int .i64 (168)))))⟩,
  ⟨(some 69), none, (.pick (.t 64) (.c (.sc (.bool true))) (.t 68))⟩] none)
 (.cond (.t 69)
 (.seq (.reg [⟨(some 70), none, (.call 10 [])⟩,
  ⟨(some 10), none, (.mv (.t 70))⟩] none) .ret) .skip))
 (.seq (.reg [⟨(some 72), none, (.load 3 true (.t 11))⟩,
  ⟨(some 73), none, (.mv (.t 2))⟩,
  ⟨(some 74), none, (.mv (.t 3))⟩,
  ⟨(some 75), none, (.mv (.t 12))⟩,
  ⟨(some 76), none, (.call 20 [(.t 72), (.t 73), (.t 74), (.t 75)])⟩,
  ⟨(some 71), none, (.mv (.t 76))⟩,
  ⟨(some 77), none, (.ext 0 (.t 71))⟩,
  ⟨(some 78), none, (.ext 1 (.t 71))⟩,
  ⟨(some 79), none, (.ext 2 (.t 71))⟩,
  ⟨(some 14), none, (.mv (.t 77))⟩,
  ⟨(some 15), none, (.mv (.t 78))⟩,
  ⟨(some 16), none, (.mv (.t 79))⟩] none)
 (.seq (.reg [⟨(some 81), none, (.load 3 true (.t 11))⟩,
  ⟨(some 82), none, (.mv (.t 2))⟩,
  ⟨(some 83), none, (.mv (.t 3))⟩,
  ⟨(some 84), none, (.mv (.t 12))⟩,
  ⟨(some 85), none, (.bin .add (.t 83) (.t 84))⟩,
  ⟨(some 86), none, (.bin .rem (.t 85) (.c (.sc (.int .i64 (168)))))⟩,
  ⟨(some 87), none, (.mv (.t 13))⟩,
  ⟨(some 88), none, (.call 20 [(.t 81), (.t 82), (.t 86), (.t 87)])⟩,
  ⟨(some 80), none, (.mv (.t 88))⟩,
  ⟨(some 89), none, (.ext 0 (.t 80))⟩,
  ⟨(some 90), none, (.ext 1 (.t 80))⟩,
  ⟨(some 91), none, (.ext 2 (.t 80))⟩,
  ⟨(some 17), none, (.mv (.t 89))⟩,
  ⟨(some 18), none, (.mv (.t 90))⟩,
  ⟨(some 19), none, (.mv (.t 91))⟩] none)
 (.seq (.reg [⟨(some 93), none, (.load 3 true (.t 11))⟩,
  ⟨(some 94), none, (.mv (.t 2))⟩,
  ⟨(some 95), none, (.mv (.t 3))⟩,
  ⟨(some 96), none, (.mv (.t 12))⟩,
  ⟨(some 97), none, (.mv (.t 13))⟩,
  ⟨(some 98), none, (.bin .add (.t 96) (.t 97))⟩,
  ⟨(some 99), none, (.call 20 [(.t 93), (.t 94), (.t 95), (.t 98)])⟩,
  ⟨(some 92), none, (.mv (.t 99))⟩,
  ⟨(some 100), none, (.ext 0 (.t 92))⟩,
  ⟨(some 101), none, (.ext 1 (.t 92))⟩,
  ⟨(some 102), none, (.ext 2 (.t 92))⟩,
  ⟨(some 20), none, (.mv (.t 100))⟩,
  ⟨(some 21), none, (.mv (.t 101))⟩,
  ⟨(some 22), none, (.mv (.t 102))⟩] none)
 (.seq (.reg [⟨(some 104), none, (.load 3 true (.t 11))⟩,
  ⟨(some 105), none, (.mv (.t 2))⟩,
  ⟨(some 106), none, (.mv (.t 3))⟩,
  ⟨(some 107), none, (.call 20 [(.t 104), (.t 105), (.t 106), (.c (.sc (.int .i64 (168))))])⟩,
  ⟨(some 103), none, (.mv (.t 107))⟩,
  ⟨(some 108), none, (.ext 0 (.t 103))⟩,
  ⟨(some 109), none, (.ext 1 (.t 103))⟩,
  ⟨(some 110), none, (.ext 2 (.t 103))⟩,
  ⟨(some 23), none, (.mv (.t 108))⟩,
  ⟨(some 24), none, (.mv (.t 109))⟩,
  ⟨(some 25), none, (.mv (.t 110))⟩] none)
 (.seq (.reg [⟨(some 112), none, (.load 3 true (.t 11))⟩,
  ⟨(some 113), none, (.mv (.t 2))⟩,
  ⟨(some 114), none, (.call 20 [(.t 112), (.t 113), (.c (.sc (.int .i64 (0)))), (.c (.sc (.int .i64 (168))))])⟩,
  ⟨(some 111), none, (.mv (.t 114))⟩,
  ⟨(some 115), none, (.ext 0 (.t 111))⟩,
  ⟨(some 116), none, (.ext 1 (.t 111))⟩,
  ⟨(some 117), none, (.ext 2 (.t 111))⟩,
  ⟨(some 26), none, (.mv (.t 115))⟩,
  ⟨(some 27), none, (.mv (.t 116))⟩,
  ⟨(some 28), none, (.mv (.t 117))⟩] none)
 (.seq (.reg [⟨(some 119), none, (.faddr 1 (.t 11))⟩,
  ⟨(some 120), none, (.load 1 false (.t 119))⟩,
  ⟨(some 121), none, (.mv (.t 2))⟩,
  ⟨(some 122), none, (.bin .mul (.t 121) (.c (.sc (.int .i64 (168)))))⟩,
  ⟨(some 123), none, (.mv (.t 2))⟩,
  ⟨(some 124), none, (.bin .add (.t 123) (.c (.sc (.int .i64 (1)))))⟩,
  ⟨(some 125), none, (.bin .mul (.t 124) (.c (.sc (.int .i64 (168)))))⟩,
  ⟨(some 126), none, (.slice 1 (.t 120) (some (.t 122)) (some (.t 125)) none)⟩,
  ⟨(some 127), none, (.call 23 [(.t 126)])⟩,
  ⟨(some 118), none, (.mv (.t 127))⟩,
  ⟨(some 128), none, (.ext 0 (.t 118))⟩,
  ⟨(some 129), none, (.ext 1 (.t 118))⟩,
  ⟨(some 29), none, (.mv (.t 128))⟩,
  ⟨(some 30), none, (.mv (.t 129))⟩] none)
 (.seq (.seq (.reg [⟨(some 130), none, (.mv (.t 16))⟩,
  ⟨(some 131), none, (.bin .neq (.t 130) (.c (.sc (.int .i64 (0)))))⟩,
  ⟨(some 132), none, (.mv (.t 131))⟩,
  ⟨(some 133), (some (132, false)), (.mv (.t 19))⟩,
  ⟨(some 134), (some (132, false)), (.bin .neq (.t 133) (.c (.sc (.int .i64 (0)))))⟩,
  ⟨(some 135), none, (.pick (.t 132) (.c (.sc (.bool true))) (.t 134))⟩,
  ⟨(some 136), none, (.mv (.t 135))⟩,
  ⟨(some 137), (some (136, false)), (.mv (.t 22))⟩,
  ⟨(some 138), (some (136, false)), (.bin .neq (.t 137) (.c (.sc (.int .i64 (0)))))⟩,
  ⟨(some 139), none, (.pick (.t 136) (.c (.sc (.bool true))) (.t 138))⟩,
  ⟨(some 140), none, (.mv (.t 139))⟩,
  ⟨(some 141), (some (140, false)), (.mv (.t 25))⟩,
  ⟨(some 142), (some (140, false)), (.bin .neq (.t 141) (.c (.sc (.int .i64 (0)))))⟩,
  ⟨(some 143), none, (.pick (.t 140) (.c (.sc (.bool true))) (.t 142))⟩,
  ⟨(some 144), none, (.mv (.t 143))⟩,
  ⟨(some 145), (some (144, false)), (.mv (.t 28))⟩,
  ⟨(some 146), (some (144, false)), (.bin .neq (.t 145) (.c (.sc (.int .i64 (0)))))⟩,
  ⟨(some 147), none, (.pick (.t 144) (.c (.sc (.bool true))) (.t 146))⟩,
  ⟨(some 148), none, (.mv (.t 147))⟩,
  ⟨(some 149), (some (148, false)), (.mv (.t 30))⟩,
  ⟨(some 150), (some (148, false)), (.un .not (.t 149))⟩,
  ⟨(some 151), none, (.pick (.t 148) (.c (.sc (.bool true))) (.t 150))⟩] none)
 (.cond (.t 151)
 (.seq (.reg [⟨(some 10), none, (.mv (.c (.sc (.bool false))))⟩] none) .ret) .skip))
 (.seq (.reg [⟨(some 152), none, (.mv (.t 14))⟩,
  ⟨(some 153), none, (.mv (.t 17))⟩,
  ⟨(some 154), none, (.bin .add (.t 152) (.t 153))⟩,
  ⟨(some 155), none, (.mv (.t 20))⟩,
  ⟨(some 156), none, (.bin .eql (.t 154) (.t 155))⟩,
  ⟨(some 157), none, (.mv (.t 156))⟩,
  ⟨(some 158), (some (157, true)), (.mv (.t 15))⟩,
  ⟨(some 159), (some (157, true)), (.mv (.t 18))⟩,
  ⟨(some 160), (some (157, true)), (.bin .add (.t 158) (.t 159))⟩,
  ⟨(some 161), (some (157, true)), (.mv (.t 21))⟩,
  ⟨(some 162), (some (157, true)), (.bin .eql (.t 160) (.t 161))⟩,
  ⟨(some 163), none, (.pick (.t 157) (.t 162) (.c (.sc (.bool false))))⟩,
  ⟨(some 164), none, (.mv (.t 163))⟩,
  ⟨(some 165), (some (164, true)), (.mv (.t 23))⟩,
  ⟨(some 166), (some (164, true)), (.mv (.t 26))⟩,
  ⟨(some 167), (some (164, true)), (.bin .eql (.t 165) (.t 166))⟩,
  ⟨(some 168), none, (.pick (.t 164) (.t 167) (.c (.sc (.bool false))))⟩,
  ⟨(some 169), none, (.mv (.t 168))⟩,
  ⟨(some 170), (some (169, true)), (.mv (.t 24))⟩,
  ⟨(some 171), (some (169, true)), (.mv (.t 27))⟩,
  ⟨(some 172), (some (169, true)), (.bin .eql (.t 170) (.t 171))⟩,
  ⟨(some 173), none, (.pick (.t 169) (.t 172) (.c (.sc (.bool false))))⟩,
  ⟨(some 174), none, (.mv (.t 173))⟩,
  ⟨(some 175), (some (174, true)), (.mv (.t 23))⟩,
  ⟨(some 176), (some (174, true)), (.mv (.t 29))⟩,
  ⟨(some 177), (some (174, true)), (.bin .eql (.t 175) (.t 176))⟩,
  ⟨(some 178), none, (.pick (.t 174) (.t 177) (.c (.sc (.bool false))))⟩,
  ⟨(some 179), none, (.mv (.t 178))⟩,
  ⟨(some 180), (some (179, true)), (.call 10 [])⟩,
  ⟨(some 181), none, (.pick (.t 179) (.t 180) (.c (.sc (.bool false))))⟩,
  ⟨(some 10), none, (.mv (.t 181))⟩] none) .ret)))))))))))))
theorem good9 {args : List PV} {r : PV} (hl : args.length ≤ 182) (h : Run Try.prog [.code ac9] (endQ [(.t 10)] r) ⟨initT 0 args, [], 0, 182⟩) : Good Try.prog 9 args r :=
  good_run (by kernel_rfl) Hamix Try.func9 rfl (hs := []) (hs' := []) (by kernel_rfl) hl h
def ac10 : ACode :=
 (.seq (.reg [⟨(some 0), none, (.mv (.c (.sc (.bool false))))⟩] none)
 (.seq (.reg [⟨(some 15), none, (.call 24 [])⟩,
  ⟨(some 16), none, (.bslice 52 13 [(.t 15)])⟩,
  ⟨(some 17), none, (.call 15 [(.c (.sc (.int .i64 (2)))), (.t 16)])⟩,
  ⟨(some 14), none, (.mv (.t 17))⟩,
  ⟨(some 18), none, (.ext 0 (.t 14))⟩,
  ⟨(some 19), none, (.ext 1 (.t 14))⟩,
  ⟨(some 1), none, (.new [(.sc (.int .i64 (0))), (.sc (.slice none 0 0)), (.sc (.slice none 0 0))])⟩,
  ⟨none, none, (.store 3 (.t 1) (.t 18))⟩,
  ⟨(some 2), none, (.mv (.t 19))⟩] none)
 (.seq (.reg [⟨(some 21), none, (.load 3 true (.t 1))⟩,
  ⟨(some 22), none, (.call 20 [(.t 21), (.c (.sc (.int .i64 (0)))), (.c (.sc (.int .i64 (0)))), (.c (.sc (.int .i64 (3))))])⟩,
  ⟨(some 20), none, (.mv (.t 22))⟩,
  ⟨(some 23), none, (.ext 0 (.t 20))⟩,
  ⟨(some 24), none, (.ext 1 (.t 20))⟩,
  ⟨(some 25), none, (.ext 2 (.t 20))⟩,
  ⟨(some 3), none, (.mv (.t 23))⟩,
  ⟨(some 4), none, (.mv (.t 24))⟩,
  ⟨(some 5), none, (.mv (.t 25))⟩] none)
 (.seq (.reg [⟨(some 27), none, (.load 3 true (.t 1))⟩,
  ⟨(some 28), none, (.call 20 [(.t 27), (.c (.sc (.int .i64 (0)))), (.c (.sc (.int .i64 (0)))), (.c (.sc (.int .i64 (2))))])⟩,
  ⟨(some 26), none, (.mv (.t 28))⟩,
  ⟨(some 29), none, (.ext 0 (.t 26))⟩,
  ⟨(some 30), none, (.ext 1 (.t 26))⟩,
  ⟨(some 31), none, (.ext 2 (.t 26))⟩,
  ⟨(some 6), none, (.mv (.t 29))⟩,
  ⟨(some 7), none, (.mv (.t 30))⟩,
  ⟨(some 8), none, (.mv (.t 31))⟩] none)
 (.seq (.reg [⟨(some 33), none, (.load 3 true (.t 1))⟩,
  ⟨(some 34), none, (.call 20 [(.t 33), (.c (.sc (.int .i64 (1)))), (.c (.sc (.int .i64 (167)))), (.c (.sc (.int .i64 (4))))])⟩,
  ⟨(some 32), none, (.mv (.t 34))⟩,
  ⟨(some 35), none, (.ext 0 (.t 32))⟩,
  ⟨(some 36), none, (.ext 1 (.t 32))⟩,
  ⟨(some 37), none, (.ext 2 (.t 32))⟩,
  ⟨(some 9), none, (.mv (.t 35))⟩,
  ⟨(some 10), none, (.mv (.t 36))⟩,
  ⟨(some 11), none, (.mv (.t 37))⟩] none)
 (.seq (.reg [⟨(some 39), none, (.load 3 true (.t 1))⟩,
  ⟨(some 40), none, (.load 3 true (.t 1))⟩,
  ⟨(some 41), none, (.call 18 [(.t 39), (.t 40)])⟩,
  ⟨(some 38), none, (.mv (.t 41))⟩,
  ⟨(some 42), none, (.ext 0 (.t 38))⟩,
  ⟨(some 43), none, (.ext 1 (.t 38))⟩,
  ⟨(some 12), none, (.new [(.sc (.int .i64 (0))), (.sc (.slice none 0 0)), (.sc (.slice none 0 0))])⟩,
  ⟨none, none, (.store 3 (.t 12) (.t 42))⟩,
  ⟨(some 13), none, (.mv (.t 43))⟩] none)
 (.seq (.reg [⟨(some 44), none, (.mv (.t 2))⟩,
  ⟨(some 45), none, (.bin .eql (.t 44) (.c (.sc (.int .i64 (0)))))⟩,
  ⟨(some 46), none, (.mv (.t 45))⟩,
  ⟨(some 47), (some (46, true)), (.mv (.t 5))⟩,
  ⟨(some 48), (some (46, true)), (.bin .eql (.t 47) (.c (.sc (.int .i64 (0)))))⟩,
  ⟨(some 49), none, (.pick (.t 46) (.t 48) (.c (.sc (.bool false))))⟩,
  ⟨(some 50), none, (.mv (.t 49))⟩,
  ⟨(some 51), (some (50, true)), (.mv (.t 8))⟩,
  ⟨(some 52), (some (50, true)), (.bin .eql (.t 51) (.c (.sc (.int .i64 (0)))))⟩,
  ⟨(some 53), none, (.pick (.t 50) (.t 52) (.c (.sc (.bool false))))⟩,
  ⟨(some 54), none, (.mv (.t 53))⟩,
  ⟨(some 55), (some (54, true)), (.mv (.t 11))⟩,
  ⟨(some 56), (some (54, true)), (.bin .eql (.t 55) (.c (.sc (.int .i64 (0)))))⟩,
  ⟨(some 57), none, (.pick (.t 54) (.t 56) (.c (.sc (.bool false))))⟩,
  ⟨(some 58), none, (.mv (.t 57))⟩,
  ⟨(some 59), (some (58, true)), (.mv (.t 13))⟩,
  ⟨(some 60), (some (58, true)), (.bin .eql (.t 59) (.c (.sc (.int .i64 (0)))))⟩,
  ⟨(some 61), none, (.pick (.t 58) (.t 60) (.c (.sc (.bool false))))⟩,
  ⟨(some 62), none, (.mv (.t 61))⟩,
  ⟨(some 63), (some (62, true)), (.mv (.t 3))⟩,
  ⟨(some 64), (some (62, true)), (.bin .eql (.t 63) (.c (.sc (.int .i64 (1)))))⟩,
  ⟨(some 65), none, (.pick (.t 62) (.t 64) (.c (.sc (.bool false))))⟩,
  ⟨(some 66), none, (.mv (.t 65))⟩,
  ⟨(some 67), (some (66, true)), (.mv (.t 4))⟩,
  ⟨(some 68), (some (66, true)), (.bin .eql (.t 67) (.c (.sc (.int .i64 (0)))))⟩,
  ⟨(some 69), none, (.pick (.t 66) (.t 68) (.c (.sc (.bool false))))⟩,
  ⟨(some 70), none, (.mv (.t 69))⟩,
  ⟨(some 71), (some (70, true)), (.mv (.t 6))⟩,
  ⟨(some 72), (some (70, true)), (.bin .eql (.t 71) (.c (.sc (.int .i64 (0)))))⟩,
  ⟨(some 73), none, (.pick (.t 70) (.t 72) (.c (.sc (.bool false))))⟩,
  ⟨(some 74), none, (.mv (.t 73))⟩,
  ⟨(some 75), (some (74, true)), (.mv (.t 7))⟩,
  ⟨(some 76), (some (74, true)), (.bin .eql (.t 75) (.c (.sc (.int .i64 (0)))))⟩,
  ⟨(some 77), none, (.pick (.t 74) (.t 76) (.c (.sc (.bool false))))⟩,
  ⟨(some 78), none, (.mv (.t 77))⟩,
  ⟨(some 79), (some (78, true)), (.mv (.t 9))⟩,
  ⟨(some 80), (some (78, true)), (.bin .eql (.t 79) (.c (.sc (.int .i64 (0)))))⟩,
  ⟨(some 81), none, (.pick (.t 78) (.t 80) (.c (.sc (.bool false))))⟩,
  ⟨(some 82), none, (.mv (.t 81))⟩,
  ⟨(some 83), (some (82, true)), (.mv (.t 10))⟩,
  ⟨(some 84), (some (82, true)), (.bin .eql (.t 83) (.c (.sc (.int .i64 (1)))))⟩,
  ⟨(some 85), none, (.pick (.t 82) (.t 84) (.c (.sc (.bool false))))⟩,
  ⟨(some 86), none, (.mv (.t 85))⟩,
  ⟨(some 87), (some (86, true)), (.load 3 true (.t 12))⟩,
  ⟨(some 88), (some (86, true)), (.call 12 [(.t 87)])⟩,
  ⟨(some 89), (some (86, true)), (.bin .eql (.t 88) (.c (.sc (.int .i64 (0)))))⟩,
  ⟨(some 90), none, (.pick (.t 86) (.t 89) (.c (.sc (.bool false))))⟩,
  ⟨(some 91), none, (.mv (.t 90))⟩,
  ⟨(some 92), (some (91, true)), (.faddr 2 (.t 12))⟩,
  ⟨(some 93), (some (91, true)), (.load 1 false (.t 92))⟩,
  ⟨(some 94), (some (91, true)), (.len (.t 93))⟩,
  ⟨(some 95), (some (91, true)), (.bin .eql (.t 94) (.c (.sc (.int .i64 (336)))))⟩,
  ⟨(some 96), none, (.pick (.t 91) (.t 95) (.c (.sc (.bool false))))⟩,
  ⟨(some 97), none, (.mv (.t 96))⟩,
  ⟨(some 98), (some (97, true)), (.faddr 2 (.t 12))⟩,
  ⟨(some 99), (some (97, true)), (.load 1 false (.t 98))⟩,
  ⟨(some 100), (some (97, true)), (.iaddr 1 (.t 99) (.c (.sc (.int .i64 (170)))))⟩,
  ⟨(some 101), (some (97, true)), (.load 1 false (.t 100))⟩,
  ⟨(some 102), (some (97, true)), (.bin .eql (.t 101) (.c (.sc (.int .i64 (2)))))⟩,
  ⟨(some 103), none, (.pick (.t 97) (.t 102) (.c (.sc (.bool false))))⟩,
  ⟨(some 104), none, (.mv (.t 103))⟩,
  ⟨(some 105), (some (104, true)), (.faddr 1 (.t 12))⟩,
  ⟨(some 106), (some (104, true)), (.load 1 false (.t 105))⟩,
  ⟨(some 107), (some (104, true)), (.iaddr 1 (.t 106) (.c (.sc (.int .i64 (2)))))⟩,
  ⟨(some 108), (some (104, true)), (.load 1 false (.t 107))⟩,
  ⟨(some 109), (some (104, true)), (.bin .eql (.t 108) (.c (.sc (.int .i64 (2)))))⟩,
  ⟨(some 110), none, (.pick (.t 104) (.t 109) (.c (.sc (.bool false))))⟩,
  ⟨(some 0), none, (.mv (.t 110))⟩] none) .ret)))))))
theorem good10 {args : List PV} {r : PV} (hl : args.length ≤ 111) (h : Run Try.prog [.code ac10] (endQ [(.t 0)] r) ⟨initT 0 args, [], 0, 111⟩) : Good Try.prog 10 args r :=
  good_run (by kernel_rfl) Hamix Try.func10 rfl (hs := []) (hs' := []) (by kernel_rfl) hl h
def ac11 : ACode :=
 (.seq (.reg [⟨(some 6), none, (.new [(.sc (.int .i64 (0))), (.sc (.slice none 0 0)), (.sc (.slice none 0 0))])⟩] none)
 (.seq (.reg [⟨(some 10), none, (.mv (.t 0))⟩,
  ⟨(some 11), none, (.mn (.t 10) (.c (.sc (.int .i64 (32)))))⟩,
  ⟨(some 12), none, (.mx (.c (.sc (.int .i64 (0)))) (.t 11))⟩,
  ⟨(some 13), none, (.bin .mul (.t 12) (.c (.sc (.int .i64 (168)))))⟩,
  ⟨(some 14), none, (.mv (.t 1))⟩,
  ⟨(some 15), none, (.mn (.t 14) (.c (.sc (.int .i64 (1)))))⟩,
  ⟨(some 16), none, (.mx (.c (.sc (.int .i64 (-1)))) (.t 15))⟩,
  ⟨(some 17), none, (.bin .add (.t 13) (.t 16))⟩,
  ⟨(some 7), none, (.mv (.t 17))⟩] none)
 (.seq (.reg [⟨(some 18), none, (.mv (.t 0))⟩,
  ⟨(some 19), none, (.mv (.t 7))⟩,
  ⟨(some 20), none, (.mx (.c (.sc (.int .i64 (0)))) (.t 19))⟩,
  ⟨(some 21), none, (.mk 3 1 8 [(.sc (.int .i64 (0)))] (.t 20) (.t 20))⟩,
  ⟨(some 22), none, (.mv (.t 7))⟩,
  ⟨(some 23), none, (.mx (.c (.sc (.int .i64 (0)))) (.t 22))⟩,
  ⟨(some 24), none, (.mk 3 1 8 [(.sc (.int .i64 (0)))] (.t 23) (.t 23))⟩,
  ⟨(some 25), none, (.build [(.sc (.int .i64 (0))), (.sc (.slice none 0 0)), (.sc (.slice none 0 0))] [(0, (1, (.t 18))), (1, (1, (.t 21))), (2, (1, (.t 24)))])⟩,
  ⟨(some 8), none, (.new [(.sc (.int .i64 (0))), (.sc (.slice none 0 0)), (.sc (.slice none 0 0))])⟩,
  ⟨none, none, (.store 3 (.t 8) (.t 25))⟩] (some [[], [], [1], [2, 1], [], [4], [5, 4], [0, 3, 6, 2, 1, 5, 4], [], [8, 7, 0, 1, 2, 3, 4, 5, 6]]))
 (.seq (.seq (.reg [⟨(some 9), none, (.mv (.c (.sc (.int .i64 (0)))))⟩] none) (.block 0 
 (.loop ⟨[2, 6, 7, 8, 9], []⟩
 (.seq (.seq (.reg [⟨(some 26), none, (.mv (.t 9))⟩,
  ⟨(some 27), none, (.mv (.t 2))⟩,
  ⟨(some 28), none, (.len (.t 27))⟩,
  ⟨(some 29), none, (.bin .lss (.t 26) (.t 28))⟩] none)
 (.cond (.t 29) .skip (.exit 0)))
 (.seq (.block 1
 (.seq (.seq (.reg [⟨(some 32), none, (.mv (.t 2))⟩,
  ⟨(some 33), none, (.mv (.t 9))⟩,
  ⟨(some 34), none, (.iaddr 3 (.t 32) (.t 33))⟩,
  ⟨(some 35), none, (.faddr 1 (.t 34))⟩,
  ⟨(some 36), none, (.load 1 false (.t 35))⟩,
  ⟨(some 37), none, (.bin .lss (.t 36) (.c (.sc (.int .i64 (0)))))⟩,
  ⟨(some 38), none, (.mv (.t 37))⟩,
  ⟨(some 39), (some (38, false)), (.mv (.t 2))⟩,
  ⟨(some 40), (some (38, false)), (.mv (.t 9))⟩,
  ⟨(some 41), (some (38, false)), (.iaddr 3 (.t 39) (.t 40))⟩,
  ⟨(some 42), (some (38, false)), (.faddr 1 (.t 41))⟩,
  ⟨(some 43), (some (38, false)), (.load 1 false (.t 42))⟩,
  ⟨(some 44), (some (38, false)), (.mv (.t 7))⟩,
  ⟨(some 45), (some (38, false)), (.bin .geq (.t 43) (.t 44))⟩,
  ⟨(some 46), none, (.pick (.t 38) (.c (.sc (.bool true))) (.t 45))⟩] none)
 (.cond (.t 46) (.exit 1) .skip))
 (.seq (.reg [⟨(some 47), none, (.mv (.t 2))⟩,
  ⟨(some 48), none, (.mv (.t 9))⟩,
  ⟨(some 49), none, (.iaddr 3 (.t 47) (.t 48))⟩,
  ⟨(some 50), none, (.faddr 0 (.t 49))⟩,
  ⟨(some 51), none, (.load 1 false (.t 50))⟩] none)
 (.cond (.t 51) (.reg [⟨(some 52), none, (.faddr 2 (.t 8))⟩,
  ⟨(some 53), none, (.load 1 false (.t 52))⟩,
  ⟨(some 54), none, (.mv (.t 2))⟩,
  ⟨(some 55), none, (.mv (.t 9))⟩,
  ⟨(some 56), none, (.iaddr 3 (.t 54) (.t 55))⟩,
  ⟨(some 57), none, (.faddr 1 (.t 56))⟩,
  ⟨(some 58), none, (.load 1 false (.t 57))⟩,
  ⟨(some 59), none, (.mv (.t 2))⟩,
  ⟨(some 60), none, (.mv (.t 9))⟩,
  ⟨(some 61), none, (.iaddr 3 (.t 59) (.t 60))⟩,
  ⟨(some 62), none, (.faddr 2 (.t 61))⟩,
  ⟨(some 63), none, (.load 1 false (.t 62))⟩,
  ⟨(some 64), none, (.iaddr 1 (.t 53) (.t 58))⟩,
  ⟨none, none, (.store 1 (.t 64) (.t 63))⟩] (some [[], [0], [], [], [2, 3], [4, 2, 3], [5, 4, 2, 3], [], [], [7, 8], [9, 7, 8], [10, 9, 7, 8], [1, 6, 0, 2, 3, 4, 5, 7, 8, 9, 10, 11], [12, 11, 0, 1, 2, 3, 4, 5, 6, 7, 8, 9, 10]])) (.reg [⟨(some 65), none, (.faddr 1 (.t 8))⟩,
  ⟨(some 66), none, (.load 1 false (.t 65))⟩,
  ⟨(some 67), none, (.mv (.t 2))⟩,
  ⟨(some 68), none, (.mv (.t 9))⟩,
  ⟨(some 69), none, (.iaddr 3 (.t 67) (.t 68))⟩,
  ⟨(some 70), none, (.faddr 1 (.t 69))⟩,
  ⟨(some 71), none, (.load 1 false (.t 70))⟩,
  ⟨(some 72), none, (.mv (.t 2))⟩,
  ⟨(some 73), none, (.mv (.t 9))⟩,
  ⟨(some 74), none, (.iaddr 3 (.t 72) (.t 73))⟩,
  ⟨(some 75), none, (.faddr 2 (.t 74))⟩,
  ⟨(some 76), none, (.load 1 false (.t 75))⟩,
  ⟨(some 77), none, (.iaddr 1 (.t 66) (.t 71))⟩,
  ⟨none, none, (.store 1 (.t 77) (.t 76))⟩] (some [[], [0], [], [], [2, 3], [4, 2, 3], [5, 4, 2, 3], [], [], [7, 8], [9, 7, 8], [10, 9, 7, 8], [1, 6, 0, 2, 3, 4, 5, 7, 8, 9, 10, 11], [12, 11, 0, 1, 2, 3, 4, 5, 6, 7, 8, 9, 10]])))))) (.reg [⟨(some 30), none, (.mv (.t 9))⟩,
  ⟨(some 31), none, (.bin .add (.t 30) (.c (.sc (.int .i64 (1)))))⟩,
  ⟨(some 9), none, (.mv (.t 31))⟩] none))))))
 (.seq (.reg [⟨(some 78), none, (.load 3 true (.t 8))⟩,
  ⟨none, none, (.store 3 (.t 6) (.t 78))⟩] none) .ret)))))
theorem good11 {args : List PV} {r : PV} (hl : args.length ≤ 79) (h : Run Try.prog [.code ac11] (endQ [(.c 6 3 true)] r) ⟨initT 0 args, [], 0, 79⟩) : Good Try.prog 11 args r :=
  good_run (by kernel_rfl) Hamix Try.func11 rfl (hs := [⟨[2, 6, 7, 8, 9], []⟩]) (hs' := []) (by kernel_rfl) hl h
def ac12 : ACode :=
 (.seq (.reg [⟨(some 1), none, (.boxv (.t 0))⟩,
  ⟨(some 2), none, (.mv (.c (.sc (.int .i64 (0)))))⟩] none)
 (.seq (.seq (.reg [⟨(some 5), none, (.faddr 0 (.t 1))⟩,
  ⟨(some 6), none, (.load 1 false (.t 5))⟩,
  ⟨(some 7), none, (.call 25 [(.t 6), (.c (.sc (.int .i64 (1)))), (.c (.sc (.int .i64 (32))))])⟩,
  ⟨(some 8), none, (.un .not (.t 7))⟩] none)
 (.cond (.t 8)
 (.seq (.reg [⟨(some 2), none, (.mv (.c (.sc (.int .i64 (1)))))⟩] none) .ret) .skip))
 (.seq (.seq (.reg [⟨(some 9), none, (.faddr 0 (.t 1))⟩,
  ⟨(some 10), none, (.load 1 false (.t 9))⟩,
  ⟨(some 11), none, (.bin .mul (.t 10) (.c (.sc (.int .i64 (168)))))⟩,
  ⟨(some 3), none, (.mv (.t 11))⟩] none)
 (.seq (.reg [⟨(some 12), none, (.faddr 1 (.t 1))⟩,
  ⟨(some 13), none, (.load 1 false (.t 12))⟩,
  ⟨(some 14), none, (.len (.t 13))⟩,
  ⟨(some 15), none, (.mv (.t 3))⟩,
  ⟨(some 16), none, (.bin .neq (.t 14) (.t 15))⟩,
  ⟨(some 17), none, (.mv (.t 16))⟩,
  ⟨(some 18), (some (17, false)), (.faddr 2 (.t 1))⟩,
  ⟨(some 19), (some (17, false)), (.load 1 false (.t 18))⟩,
  ⟨(some 20), (some (17, false)), (.len (.t 19))⟩,
  ⟨(some 21), (some (17, false)), (.mv (.t 3))⟩,
  ⟨(some 22), (some (17, false)), (.bin .neq (.t 20) (.t 21))⟩,
  ⟨(some 23), none, (.pick (.t 17) (.c (.sc (.bool true))) (.t 22))⟩] none)
 (.cond (.t 23)
 (.seq (.reg [⟨(some 2), none, (.mv (.c (.sc (.int .i64 (3)))))⟩] none) .ret) .skip)))
 (.seq (.reg [⟨(some 4), none, (.mv (.c (.sc (.func (.func 26) #[] #[]))))⟩] none)
 (.seq (.seq (.reg [⟨(some 24), none, (.faddr 1 (.t 1))⟩,
  ⟨(some 25), none, (.load 1 false (.t 24))⟩,
  ⟨(some 26), none, (.mv (.t 4))⟩,
  ⟨(some 27), none, (.call 27 [(.t 25), (.t 26)])⟩,
  ⟨(some 28), none, (.mv (.t 27))⟩,
  ⟨(some 29), (some (28, false)), (.faddr 2 (.t 1))⟩,
  ⟨(some 30), (some (28, false)), (.load 1 false (.t 29))⟩,
  ⟨(some 31), (some (28, false)), (.mv (.t 4))⟩,
  ⟨(some 32), (some (28, false)), (.call 27 [(.t 30), (.t 31)])⟩,
  ⟨(some 33), none, (.pick (.t 28) (.c (.sc (.bool true))) (.t 32))⟩] none)
 (.cond (.t 33)
 (.seq (.reg [⟨(some 2), none, (.mv (.c (.sc (.int .i64 (1)))))⟩] none) .ret) .skip))
 (.seq (.reg [⟨(some 2), none, (.mv (.c (.sc (.int .i64 (0)))))⟩] none) .ret))))))
theorem good12 {args : List PV} {r : PV} (hl : args.length ≤ 34) (h : Run Try.prog [.code ac12] (endQ [(.t 2)] r) ⟨initT 0 args, [], 0, 34⟩) : Good Try.prog 12 args r :=
  good_run (by kernel_rfl) Hamix Try.func12 rfl (hs := []) (hs' := []) (by kernel_rfl) hl h
def ac13 : ACode :=
 (.seq (.reg [⟨(some 1), none, (.boxv (.t 0))⟩,
  ⟨(some 2), none, (.mv (.c (.sc (.int .i64 (0)))))⟩] none)
 (.seq (.seq (.reg [⟨(some 3), none, (.faddr 0 (.t 1))⟩,
  ⟨(some 4), none, (.load 1 false (.t 3))⟩,
  ⟨(some 5), none, (.bin .lss (.t 4) (.c (.sc (.int .i64 (1)))))⟩,
  ⟨(some 6), none, (.mv (.t 5))⟩,
  ⟨(some 7), (some (6, false)), (.faddr 0 (.t 1))⟩,
  ⟨(some 8), (some (6, false)), (.load 1 false (.t 7))⟩,
  ⟨(some 9), (some (6, false)), (.bin .gtr (.t 8) (.c (.sc (.int .i64 (32)))))⟩,
  ⟨(some 10), none, (.pick (.t 6) (.c (.sc (.bool true))) (.t 9))⟩] none)
 (.cond (.t 10)
 (.seq (.reg [⟨(some 2), none, (.mv (.c (.sc (.int .i64 (1)))))⟩] none) .ret) .skip))
 (.seq (.seq (.reg [⟨(some 11), none, (.faddr 1 (.t 1))⟩,
  ⟨(some 12), none, (.load 1 false (.t 11))⟩,
  ⟨(some 13), none, (.len (.t 12))⟩,
  ⟨(some 14), none, (.faddr 0 (.t 1))⟩,
  ⟨(some 15), none, (.load 1 false (.t 14))⟩,
  ⟨(some 16), none, (.bin .mul (.t 15) (.c (.sc (.int .i64 (168)))))⟩,
  ⟨(some 17), none, (.bin .neq (.t 13) (.t 16))⟩,
  ⟨(some 18), none, (.mv (.t 17))⟩,
  ⟨(some 19), (some (18, false)), (.faddr 2 (.t 1))⟩,
  ⟨(some 20), (some (18, false)), (.load 1 false (.t 19))⟩,
  ⟨(some 21), (some (18, false)), (.len (.t 20))⟩,
  ⟨(some 22), (some (18, false)), (.faddr 0 (.t 1))⟩,
  ⟨(some 23), (some (18, false)), (.load 1 false (.t 22))⟩,
  ⟨(some 24), (some (18, false)), (.bin .mul (.t 23) (.c (.sc (.int .i64 (168)))))⟩,
  ⟨(some 25), (some (18, false)), (.bin .neq (.t 21) (.t 24))⟩,
  ⟨(some 26), none, (.pick (.t 18) (.c (.sc (.bool true))) (.t 25))⟩] none)
 (.cond (.t 26)
 (.seq (.reg [⟨(some 2), none, (.mv (.c (.sc (.int .i64 (3)))))⟩] none) .ret) .skip))
 (.seq (.seq (.reg [⟨(some 27), none, (.faddr 1 (.t 1))⟩,
  ⟨(some 28), none, (.load 1 false (.t 27))⟩,
  ⟨(some 29), none, (.call 28 [(.t 28)])⟩,
  ⟨(some 30), none, (.un .not (.t 29))⟩,
  ⟨(some 31), none, (.mv (.t 30))⟩,
  ⟨(some 32), (some (31, false)), (.faddr 2 (.t 1))⟩,
  ⟨(some 33), (some (31, false)), (.load 1 false (.t 32))⟩,
  ⟨(some 34), (some (31, false)), (.call 28 [(.t 33)])⟩,
  ⟨(some 35), (some (31, false)), (.un .not (.t 34))⟩,
  ⟨(some 36), none, (.pick (.t 31) (.c (.sc (.bool true))) (.t 35))⟩] none)
 (.cond (.t 36)
 (.seq (.reg [⟨(some 2), none, (.mv (.c (.sc (.int .i64 (1)))))⟩] none) .ret) .skip))
 (.seq (.reg [⟨(some 2), none, (.mv (.c (.sc (.int .i64 (0)))))⟩] none) .ret)))))
theorem good13 {args : List PV} {r : PV} (hl : args.length ≤ 37) (h : Run Try.prog [.code ac13] (endQ [(.t 2)] r) ⟨initT 0 args, [], 0, 37⟩) : Good Try.prog 13 args r :=
  good_run (by kernel_rfl) Hamix Try.func13 rfl (hs := []) (hs' := []) (by kernel_rfl) hl h
def ac14 : ACode :=
 (.seq (.reg [⟨(some 2), none, (.mv (.c (.sc (.bool false))))⟩] none)
 (.seq (.seq (.reg [⟨(some 4), none, (.mv (.t 0))⟩,
  ⟨(some 5), none, (.len (.t 4))⟩,
  ⟨(some 6), none, (.bin .gtr (.t 5) (.c (.sc (.int .i64 (300)))))⟩] none)
 (.cond (.t 6)
 (.seq (.reg [⟨(some 2), none, (.mv (.c (.sc (.bool false))))⟩] none) .ret) .skip))
 (.seq (.seq (.reg [⟨(some 3), none, (.mv (.c (.sc (.int .i64 (0)))))⟩] none) (.block 0 
 (.loop ⟨[0, 3], []⟩
 (.seq (.seq (.reg [⟨(some 7), none, (.mv (.t 3))⟩,
  ⟨(some 8), none, (.mv (.t 0))⟩,
  ⟨(some 9), none, (.len (.t 8))⟩,
  ⟨(some 10), none, (.bin .lss (.t 7) (.t 9))⟩] none)
 (.cond (.t 10) .skip (.exit 0)))
 (.seq (.block 1
 (.seq (.reg [⟨(some 13), none, (.mv (.t 0))⟩,
  ⟨(some 14), none, (.mv (.t 3))⟩,
  ⟨(some 15), none, (.iaddr 13 (.t 13) (.t 14))⟩,
  ⟨(some 16), none, (.faddr 7 (.t 15))⟩,
  ⟨(some 17), none, (.load 1 false (.t 16))⟩,
  ⟨(some 18), none, (.len (.t 17))⟩,
  ⟨(some 19), none, (.bin .gtr (.t 18) (.c (.sc (.int .i64 (20)))))⟩,
  ⟨(some 20), none, (.mv (.t 19))⟩,
  ⟨(some 21), (some (20, false)), (.mv (.t 0))⟩,
  ⟨(some 22), (some (20, false)), (.mv (.t 3))⟩,
  ⟨(some 23), (some (20, false)), (.iaddr 13 (.t 21) (.t 22))⟩,
  ⟨(some 24), (some (20, false)), (.faddr 8 (.t 23))⟩,
  ⟨(some 25), (some (20, false)), (.load 1 false (.t 24))⟩,
  ⟨(some 26), (some (20, false)), (.len (.t 25))⟩,
  ⟨(some 27), (some (20, false)), (.bin .gtr (.t 26) (.c (.sc (.int .i64 (20)))))⟩,
  ⟨(some 28), none, (.pick (.t 20) (.c (.sc (.bool true))) (.t 27))⟩] none)
 (.cond (.t 28)
 (.seq (.reg [⟨(some 2), none, (.mv (.c (.sc (.bool false))))⟩] none) .ret) .skip))) (.reg [⟨(some 11), none, (.mv (.t 3))⟩,
  ⟨(some 12), none, (.bin .add (.t 11) (.c (.sc (.int .i64 (1)))))⟩,
  ⟨(some 3), none, (.mv (.t 12))⟩] none))))))
 (.seq (.reg [⟨(some 2), none, (.mv (.c (.sc (.bool true))))⟩] none) .ret))))
theorem good14 {args : List PV} {r : PV} (hl : args.length ≤ 29) (h : Run Try.prog [.code ac14] (endQ [(.t 2)] r) ⟨initT 0 args, [], 0, 29⟩) : Good Try.prog 14 args r :=
  good_run (by kernel_rfl) Hamix Try.func14 rfl (hs := [⟨[0, 3], []⟩]) (hs' := []) (by kernel_rfl) hl h
def ac15 : ACode :=
 (.seq (.reg [⟨(some 4), none, (.new [(.sc (.int .i64 (0))), (.sc (.slice none 0 0)), (.sc (.slice none 0 0))])⟩,
  ⟨(some 5), none, (.mv (.c (.sc (.int .i64 (0)))))⟩] none)
 (.seq (.block 0
 (.seq (.reg [⟨(some 15), none, (.mv (.t 0))⟩,
  ⟨(some 16), none, (.call 25 [(.t 15), (.c (.sc (.int .i64 (1)))), (.c (.sc (.int .i64 (32))))])⟩,
  ⟨(some 17), none, (.un .not (.t 16))⟩,
  ⟨(some 14), none, (.mv (.t 17))⟩] none)
 (.cond (.t 14)
 (.seq (.reg [⟨(some 18), none, (.build [(.sc (.int .i64 (0))), (.sc (.slice none 0 0)), (.sc (.slice none 0 0))] [])⟩,
  ⟨none, none, (.store 3 (.t 4) (.t 18))⟩,
  ⟨(some 5), none, (.mv (.c (.sc (.int .i64 (1)))))⟩] none) .ret)
 (.seq (.reg [⟨(some 20), none, (.mv (.t 1))⟩,
  ⟨(some 21), none, (.len (.t 20))⟩,
  ⟨(some 22), none, (.bin .gtr (.t 21) (.c (.sc (.int .i64 (256)))))⟩,
  ⟨(some 19), none, (.mv (.t 22))⟩] none)
 (.cond (.t 19)
 (.seq (.reg [⟨(some 23), none, (.build [(.sc (.int .i64 (0))), (.sc (.slice none 0 0)), (.sc (.slice none 0 0))] [])⟩,
  ⟨none, none, (.store 3 (.t 4) (.t 23))⟩,
  ⟨(some 5), none, (.mv (.c (.sc (.int .i64 (8)))))⟩] none) .ret) .skip)))))
 (.seq (.seq (.reg [⟨(some 24), none, (.mv (.t 1))⟩,
  ⟨(some 25), none, (.len (.t 24))⟩,
  ⟨(some 26), none, (.mv (.c (.sc (.int .i64 (0)))))⟩] none) (.block 1 
 (.loop ⟨[0, 1, 4, 24, 25, 26], []⟩
 (.seq (.reg [⟨(some 27), none, (.bin .lss (.t 26) (.t 25))⟩] none)
 (.seq
 (.cond (.t 27) .skip (.exit 1))
 (.seq (.block 2
 (.seq (.reg [⟨(some 28), none, (.iaddr 13 (.t 24) (.t 26))⟩,
  ⟨(some 29), none, (.load 13 true (.t 28))⟩,
  ⟨(some 7), none, (.new [(.sc (.int .i64 (0))), (.sc (.int .i64 (0))), (.sc (.int .i64 (0))), (.sc (.int .i64 (0))), (.sc (.int .i64 (0))), (.sc (.int .i64 (0))), (.sc (.bool false)), (.sc (.slice none 0 0)), (.sc (.slice none 0 0)), (.sc (.int .i64 (0))), (.sc (.int .i64 (0))), (.sc (.int .i64 (0))), (.sc (.int .i64 (0)))])⟩,
  ⟨none, none, (.store 13 (.t 7) (.t 29))⟩] none)
 (.seq (.reg [⟨(some 30), none, (.load 13 true (.t 7))⟩,
  ⟨(some 31), none, (.call 29 [(.t 30)])⟩,
  ⟨(some 8), none, (.mv (.t 31))⟩] none)
 (.seq (.reg [⟨(some 32), none, (.mv (.t 8))⟩,
  ⟨(some 33), none, (.bin .neq (.t 32) (.c (.sc (.int .i64 (0)))))⟩] none)
 (.cond (.t 33)
 (.seq (.reg [⟨(some 34), none, (.build [(.sc (.int .i64 (0))), (.sc (.slice none 0 0)), (.sc (.slice none 0 0))] [])⟩,
  ⟨(some 35), none, (.mv (.t 8))⟩,
  ⟨none, none, (.store 3 (.t 4) (.t 34))⟩,
  ⟨(some 5), none, (.mv (.t 35))⟩] none) .ret) .skip))))) (.reg [⟨(some 36), none, (.bin .add (.t 26) (.c (.sc (.int .i64 (1)))))⟩,
  ⟨(some 26), none, (.mv (.t 36))⟩] none)))))))
 (.seq (.reg [⟨(some 37), none, (.mv (.t 0))⟩,
  ⟨(some 38), none, (.mv (.t 0))⟩,
  ⟨(some 39), none, (.bin .mul (.t 38) (.c (.sc (.int .i64 (168)))))⟩,
  ⟨(some 40), none, (.mk 3 1 8 [(.sc (.int .i64 (0)))] (.t 39) (.t 39))⟩,
  ⟨(some 41), none, (.mv (.t 0))⟩,
  ⟨(some 42), none, (.bin .mul (.t 41) (.c (.sc (.int .i64 (168)))))⟩,
  ⟨(some 43), none, (.mk 3 1 8 [(.sc (.int .i64 (0)))] (.t 42) (.t 42))⟩,
  ⟨(some 44), none, (.build [(.sc (.int .i64 (0))), (.sc (.slice none 0 0)), (.sc (.slice none 0 0))] [(0, (1, (.t 37))), (1, (1, (.t 40))), (2, (1, (.t 43)))])⟩,
  ⟨(some 9), none, (.new [(.sc (.int .i64 (0))), (.sc (.slice none 0 0)), (.sc (.slice none 0 0))])⟩,
  ⟨none, none, (.store 3 (.t 9) (.t 44))⟩] (some [[], [], [1], [2, 1], [], [4], [5, 4], [0, 3, 6, 2, 1, 5, 4], [], [8, 7, 0, 1, 2, 3, 4, 5, 6]]))
 (.seq (.seq (.reg [⟨(some 45), none, (.mv (.t 1))⟩,
  ⟨(some 46), none, (.len (.t 45))⟩,
  ⟨(some 47), none, (.mv (.c (.sc (.int .i64 (0)))))⟩] none) (.block 3 
 (.loop ⟨[0, 4, 9, 45, 46, 47], []⟩
 (.seq (.reg [⟨(some 48), none, (.bin .lss (.t 47) (.t 46))⟩] none)
 (.seq
 (.cond (.t 48) .skip (.exit 3))
 (.seq (.block 4
 (.seq (.reg [⟨(some 49), none, (.iaddr 13 (.t 45) (.t 47))⟩,
  ⟨(some 50), none, (.load 13 true (.t 49))⟩,
  ⟨(some 11), none, (.new [(.sc (.int .i64 (0))), (.sc (.int .i64 (0))), (.sc (.int .i64 (0))), (.sc (.int .i64 (0))), (.sc (.int .i64 (0))), (.sc (.int .i64 (0))), (.sc (.bool false)), (.sc (.slice none 0 0)), (.sc (.slice none 0 0)), (.sc (.int .i64 (0))), (.sc (.int .i64 (0))), (.sc (.int .i64 (0))), (.sc (.int .i64 (0)))])⟩,
  ⟨none, none, (.store 13 (.t 11) (.t 50))⟩] none)
 (.seq (.seq (.reg [⟨(some 51), none, (.faddr 9 (.t 11))⟩,
  ⟨(some 52), none, (.load 1 false (.t 51))⟩,
  ⟨(some 53), none, (.bin .eql (.t 52) (.c (.sc (.int .i64 (1)))))⟩] none)
 (.cond (.t 53)
 (.seq (.reg [⟨(some 54), none, (.faddr 1 (.t 9))⟩,
  ⟨(some 55), none, (.load 1 false (.t 54))⟩,
  ⟨(some 56), none, (.mv (.t 0))⟩,
  ⟨(some 57), none, (.faddr 10 (.t 11))⟩,
  ⟨(some 58), none, (.load 1 false (.t 57))⟩,
  ⟨(some 59), none, (.faddr 2 (.t 11))⟩,
  ⟨(some 60), none, (.faddr 0 (.t 59))⟩,
  ⟨(some 61), none, (.load 1 false (.t 60))⟩,
  ⟨(some 62), none, (.call 30 [(.t 55), (.t 56), (.t 58), (.t 61)])⟩,
  ⟨(some 12), none, (.mv (.t 62))⟩] none)
 (.seq (.reg [⟨(some 63), none, (.mv (.t 12))⟩,
  ⟨(some 64), none, (.bin .neq (.t 63) (.c (.sc (.int .i64 (0)))))⟩] none)
 (.cond (.t 64)
 (.seq (.reg [⟨(some 65), none, (.build [(.sc (.int .i64 (0))), (.sc (.slice none 0 0)), (.sc (.slice none 0 0))] [])⟩,
  ⟨(some 66), none, (.mv (.t 12))⟩,
  ⟨none, none, (.store 3 (.t 4) (.t 65))⟩,
  ⟨(some 5), none, (.mv (.t 66))⟩] none) .ret) .skip))) .skip))
 (.seq (.reg [⟨(some 67), none, (.faddr 11 (.t 11))⟩,
  ⟨(some 68), none, (.load 1 false (.t 67))⟩,
  ⟨(some 69), none, (.bin .eql (.t 68) (.c (.sc (.int .i64 (1)))))⟩] none)
 (.cond (.t 69)
 (.seq (.reg [⟨(some 70), none, (.faddr 2 (.t 9))⟩,
  ⟨(some 71), none, (.load 1 false (.t 70))⟩,
  ⟨(some 72), none, (.mv (.t 0))⟩,
  ⟨(some 73), none, (.faddr 12 (.t 11))⟩,
  ⟨(some 74), none, (.load 1 false (.t 73))⟩,
  ⟨(some 75), none, (.faddr 4 (.t 11))⟩,
  ⟨(some 76), none, (.faddr 0 (.t 75))⟩,
  ⟨(some 77), none, (.load 1 false (.t 76))⟩,
  ⟨(some 78), none, (.call 30 [(.t 71), (.t 72), (.t 74), (.t 77)])⟩,
  ⟨(some 13), none, (.mv (.t 78))⟩] none)
 (.seq (.reg [⟨(some 79), none, (.mv (.t 13))⟩,
  ⟨(some 80), none, (.bin .neq (.t 79) (.c (.sc (.int .i64 (0)))))⟩] none)
 (.cond (.t 80)
 (.seq (.reg [⟨(some 81), none, (.build [(.sc (.int .i64 (0))), (.sc (.slice none 0 0)), (.sc (.slice none 0 0))] [])⟩,
  ⟨(some 82), none, (.mv (.t 13))⟩,
  ⟨none, none, (.store 3 (.t 4) (.t 81))⟩,
  ⟨(some 5), none, (.mv (.t 82))⟩] none) .ret) .skip))) .skip))))) (.reg [⟨(some 83), none, (.bin .add (.t 47) (.c (.sc (.int .i64 (1)))))⟩,
  ⟨(some 47), none, (.mv (.t 83))⟩] none)))))))
 (.seq (.reg [⟨(some 84), none, (.load 3 true (.t 9))⟩,
  ⟨none, none, (.store 3 (.t 4) (.t 84))⟩,
  ⟨(some 5), none, (.mv (.c (.sc (.int .i64 (0)))))⟩] none) .ret))))))
theorem good15 {args : List PV} {r : PV} (hl : args.length ≤ 85) (h : Run Try.prog [.code ac15] (endQ [(.c 4 3 true), (.t 5)] r) ⟨initT 0 args, [], 0, 85⟩) : Good Try.prog 15 args r :=
  good_run (by kernel_rfl) Hamix Try.func15 rfl (hs := [⟨[0, 1, 4, 24, 25, 26], []⟩, ⟨[0, 4, 9, 45, 46, 47], []⟩]) (hs' := []) (by kernel_rfl) hl h
def ac16 : ACode :=
 (.seq (.reg [⟨(some 4), none, (.new [(.sc (.int .i64 (0))), (.sc (.slice none 0 0)), (.sc (.slice none 0 0))])⟩,
  ⟨(some 5), none, (.mv (.c (.sc (.int .i64 (0)))))⟩] none)
 (.seq (.seq (.reg [⟨(some 17), none, (.mv (.t 0))⟩,
  ⟨(some 18), none, (.bin .lss (.t 17) (.c (.sc (.int .i64 (1)))))⟩,
  ⟨(some 19), none, (.mv (.t 18))⟩,
  ⟨(some 20), (some (19, false)), (.mv (.t 0))⟩,
  ⟨(some 21), (some (19, false)), (.bin .gtr (.t 20) (.c (.sc (.int .i64 (32)))))⟩,
  ⟨(some 22), none, (.pick (.t 19) (.c (.sc (.bool true))) (.t 21))⟩] none)
 (.cond (.t 22)
 (.seq (.reg [⟨(some 23), none, (.build [(.sc (.int .i64 (0))), (.sc (.slice none 0 0)), (.sc (.slice none 0 0))] [])⟩,
  ⟨none, none, (.store 3 (.t 4) (.t 23))⟩,
  ⟨(some 5), none, (.mv (.c (.sc (.int .i64 (1)))))⟩] none) .ret) .skip))
 (.seq (.seq (.reg [⟨(some 24), none, (.mv (.t 1))⟩,
  ⟨(some 25), none, (.len (.t 24))⟩,
  ⟨(some 26), none, (.bin .gtr (.t 25) (.c (.sc (.int .i64 (256)))))⟩] none)
 (.cond (.t 26)
 (.seq (.reg [⟨(some 27), none, (.build [(.sc (.int .i64 (0))), (.sc (.slice none 0 0)), (.sc (.slice none 0 0))] [])⟩,
  ⟨none, none, (.store 3 (.t 4) (.t 27))⟩,
  ⟨(some 5), none, (.mv (.c (.sc (.int .i64 (8)))))⟩] none) .ret) .skip))
 (.seq (.seq (.reg [⟨(some 6), none, (.mv (.c (.sc (.int .i64 (0)))))⟩] none) (.block 0 
 (.loop ⟨[0, 1, 4, 6], []⟩
 (.seq (.seq (.reg [⟨(some 28), none, (.mv (.t 6))⟩,
  ⟨(some 29), none, (.mv (.t 1))⟩,
  ⟨(some 30), none, (.len (.t 29))⟩,
  ⟨(some 31), none, (.bin .lss (.t 28) (.t 30))⟩] none)
 (.cond (.t 31) .skip (.exit 0)))
 (.seq (.block 1
 (.seq (.reg [⟨(some 34), none, (.mv (.t 1))⟩,
  ⟨(some 35), none, (.mv (.t 6))⟩,
  ⟨(some 36), none, (.iaddr 13 (.t 34) (.t 35))⟩,
  ⟨(some 37), none, (.load 13 true (.t 36))⟩,
  ⟨(some 38), none, (.call 22 [(.t 37)])⟩,
  ⟨(some 7), none, (.mv (.t 38))⟩] none)
 (.seq (.reg [⟨(some 39), none, (.mv (.t 7))⟩,
  ⟨(some 40), none, (.bin .neq (.t 39) (.c (.sc (.int .i64 (0)))))⟩] none)
 (.cond (.t 40)
 (.seq (.reg [⟨(some 41), none, (.build [(.sc (.int .i64 (0))), (.sc (.slice none 0 0)), (.sc (.slice none 0 0))] [])⟩,
  ⟨(some 42), none, (.mv (.t 7))⟩,
  ⟨none, none, (.store 3 (.t 4) (.t 41))⟩,
  ⟨(some 5), none, (.mv (.t 42))⟩] none) .ret) .skip)))) (.reg [⟨(some 32), none, (.mv (.t 6))⟩,
  ⟨(some 33), none, (.bin .add (.t 32) (.c (.sc (.int .i64 (1)))))⟩,
  ⟨(some 6), none, (.mv (.t 33))⟩] none))))))
 (.seq (.reg [⟨(some 43), none, (.mv (.t 0))⟩,
  ⟨(some 44), none, (.mv (.t 0))⟩,
  ⟨(some 45), none, (.bin .mul (.t 44) (.c (.sc (.int .i64 (168)))))⟩,
  ⟨(some 46), none, (.mk 3 1 8 [(.sc (.int .i64 (0)))] (.t 45) (.t 45))⟩,
  ⟨(some 47), none, (.mv (.t 0))⟩,
  ⟨(some 48), none, (.bin .mul (.t 47) (.c (.sc (.int .i64 (168)))))⟩,
  ⟨(some 49), none, (.mk 3 1 8 [(.sc (.int .i64 (0)))] (.t 48) (.t 48))⟩,
  ⟨(some 50), none, (.build [(.sc (.int .i64 (0))), (.sc (.slice none 0 0)), (.sc (.slice none 0 0))] [(0, (1, (.t 43))), (1, (1, (.t 46))), (2, (1, (.t 49)))])⟩,
  ⟨(some 8), none, (.new [(.sc (.int .i64 (0))), (.sc (.slice none 0 0)), (.sc (.slice none 0 0))])⟩,
  ⟨none, none, (.store 3 (.t 8) (.t 50))⟩] (some [[], [], [1], [2, 1], [], [4], [5, 4], [0, 3, 6, 2, 1, 5, 4], [], [8, 7, 0, 1, 2, 3, 4, 5, 6]]))
 (.seq (.seq (.reg [⟨(some 9), none, (.mv (.c (.sc (.int .i64 (0)))))⟩] none) (.block 2 
 (.loop ⟨[0, 1, 4, 8, 9], []⟩
 (.seq (.seq (.reg [⟨(some 51), none, (.mv (.t 9))⟩,
  ⟨(some 52), none, (.mv (.t 1))⟩,
  ⟨(some 53), none, (.len (.t 52))⟩,
  ⟨(some 54), none, (.bin .lss (.t 51) (.t 53))⟩] none)
 (.cond (.t 54) .skip (.exit 2)))
 (.seq (.block 3
 (.seq (.reg [⟨(some 57), none, (.mv (.t 1))⟩,
  ⟨(some 58), none, (.mv (.t 9))⟩,
  ⟨(some 59), none, (.iaddr 13 (.t 57) (.t 58))⟩,
  ⟨(some 60), none, (.load 13 true (.t 59))⟩,
  ⟨(some 10), none, (.new [(.sc (.int .i64 (0))), (.sc (.int .i64 (0))), (.sc (.int .i64 (0))), (.sc (.int .i64 (0))), (.sc (.int .i64 (0))), (.sc (.int .i64 (0))), (.sc (.bool false)), (.sc (.slice none 0 0)), (.sc (.slice none 0 0)), (.sc (.int .i64 (0))), (.sc (.int .i64 (0))), (.sc (.int .i64 (0))), (.sc (.int .i64 (0)))])⟩,
  ⟨none, none, (.store 13 (.t 10) (.t 60))⟩] none)
 (.seq (.seq (.reg [⟨(some 61), none, (.faddr 9 (.t 10))⟩,
  ⟨(some 62), none, (.load 1 false (.t 61))⟩,
  ⟨(some 63), none, (.bin .eql (.t 62) (.c (.sc (.int .i64 (1)))))⟩,
  ⟨(some 64), none, (.mv (.t 63))⟩,
  ⟨(some 65), (some (64, true)), (.mv (.t 0))⟩,
  ⟨(some 66), (some (64, true)), (.faddr 10 (.t 10))⟩,
  ⟨(some 67), (some (64, true)), (.load 1 false (.t 66))⟩,
  ⟨(some 68), (some (64, true)), (.call 31 [(.t 65), (.t 67)])⟩,
  ⟨(some 69), (some (64, true)), (.un .not (.t 68))⟩,
  ⟨(some 70), none, (.pick (.t 64) (.t 69) (.c (.sc (.bool false))))⟩,
  ⟨(some 71), none, (.mv (.t 70))⟩,
  ⟨(some 72), (some (71, false)), (.faddr 11 (.t 10))⟩,
  ⟨(some 73), (some (71, false)), (.load 1 false (.t 72))⟩,
  ⟨(some 74), (some (71, false)), (.bin .eql (.t 73) (.c (.sc (.int .i64 (1)))))⟩,
  ⟨(some 75), (some (71, false)), (.mv (.t 74))⟩,
  ⟨(some 76), (some (75, true)), (.mv (.t 0))⟩,
  ⟨(some 77), (some (75, true)), (.faddr 12 (.t 10))⟩,
  ⟨(some 78), (some (75, true)), (.load 1 false (.t 77))⟩,
  ⟨(some 79), (some (75, true)), (.call 31 [(.t 76), (.t 78)])⟩,
  ⟨(some 80), (some (75, true)), (.un .not (.t 79))⟩,
  ⟨(some 81), (some (71, false)), (.pick (.t 75) (.t 80) (.c (.sc (.bool false))))⟩,
  ⟨(some 82), none, (.pick (.t 71) (.c (.sc (.bool true))) (.t 81))⟩] none)
 (.cond (.t 82)
 (.seq (.reg [⟨(some 83), none, (.build [(.sc (.int .i64 (0))), (.sc (.slice none 0 0)), (.sc (.slice none 0 0))] [])⟩,
  ⟨none, none, (.store 3 (.t 4) (.t 83))⟩,
  ⟨(some 5), none, (.mv (.c (.sc (.int .i64 (7)))))⟩] none) .ret) .skip))
 (.seq (.seq (.reg [⟨(some 84), none, (.faddr 9 (.t 10))⟩,
  ⟨(some 85), none, (.load 1 false (.t 84))⟩,
  ⟨(some 86), none, (.bin .eql (.t 85) (.c (.sc (.int .i64 (1)))))⟩] none)
 (.cond (.t 86)
 (.seq (.reg [⟨(some 88), none, (.faddr 2 (.t 10))⟩,
  ⟨(some 89), none, (.faddr 0 (.t 88))⟩,
  ⟨(some 90), none, (.load 1 false (.t 89))⟩,
  ⟨(some 91), none, (.call 32 [(.t 90)])⟩,
  ⟨(some 87), none, (.mv (.t 91))⟩,
  ⟨(some 92), none, (.ext 0 (.t 87))⟩,
  ⟨(some 93), none, (.ext 1 (.t 87))⟩,
  ⟨(some 11), none, (.mv (.t 92))⟩,
  ⟨(some 12), none, (.mv (.t 93))⟩] none)
 (.seq (.reg [⟨(some 94), none, (.faddr 10 (.t 10))⟩,
  ⟨(some 95), none, (.load 1 false (.t 94))⟩,
  ⟨(some 96), none, (.bin .quo (.t 95) (.c (.sc (.int .i64 (32)))))⟩,
  ⟨(some 97), none, (.bin .mul (.t 96) (.c (.sc (.int .i64 (168)))))⟩,
  ⟨(some 98), none, (.mv (.t 11))⟩,
  ⟨(some 99), none, (.bin .add (.t 97) (.t 98))⟩,
  ⟨(some 13), none, (.mv (.t 99))⟩] none) (.reg [⟨(some 100), none, (.faddr 1 (.t 8))⟩,
  ⟨(some 101), none, (.load 1 false (.t 100))⟩,
  ⟨(some 102), none, (.mv (.t 13))⟩,
  ⟨(some 103), none, (.faddr 1 (.t 8))⟩,
  ⟨(some 104), none, (.load 1 false (.t 103))⟩,
  ⟨(some 105), none, (.mv (.t 13))⟩,
  ⟨(some 106), none, (.iaddr 1 (.t 104) (.t 105))⟩,
  ⟨(some 107), none, (.load 1 false (.t 106))⟩,
  ⟨(some 108), none, (.bin .add (.t 107) (.c (.sc (.int .i64 (1)))))⟩,
  ⟨(some 109), none, (.iaddr 1 (.t 101) (.t 102))⟩,
  ⟨none, none, (.store 1 (.t 109) (.t 108))⟩] (some [[], [0], [], [], [3], [], [4, 5, 3], [6, 4, 5, 3], [7, 6, 4, 5, 3], [1, 2, 0, 3, 4, 5, 6, 7, 8], [9, 8, 0, 1, 2, 3, 4, 5, 6, 7]])))) .skip))
 (.seq (.reg [⟨(some 110), none, (.faddr 11 (.t 10))⟩,
  ⟨(some 111), none, (.load 1 false (.t 110))⟩,
  ⟨(some 112), none, (.bin .eql (.t 111) (.c (.sc (.int .i64 (1)))))⟩] none)
 (.cond (.t 112)
 (.seq (.reg [⟨(some 114), none, (.faddr 4 (.t 10))⟩,
  ⟨(some 115), none, (.faddr 0 (.t 114))⟩,
  ⟨(some 116), none, (.load 1 false (.t 115))⟩,
  ⟨(some 117), none, (.call 32 [(.t 116)])⟩,
  ⟨(some 113), none, (.mv (.t 117))⟩,
  ⟨(some 118), none, (.ext 0 (.t 113))⟩,
  ⟨(some 119), none, (.ext 1 (.t 113))⟩,
  ⟨(some 14), none, (.mv (.t 118))⟩,
  ⟨(some 15), none, (.mv (.t 119))⟩] none)
 (.seq (.reg [⟨(some 120), none, (.faddr 12 (.t 10))⟩,
  ⟨(some 121), none, (.load 1 false (.t 120))⟩,
  ⟨(some 122), none, (.bin .quo (.t 121) (.c (.sc (.int .i64 (32)))))⟩,
  ⟨(some 123), none, (.bin .mul (.t 122) (.c (.sc (.int .i64 (168)))))⟩,
  ⟨(some 124), none, (.mv (.t 14))⟩,
  ⟨(some 125), none, (.bin .add (.t 123) (.t 124))⟩,
  ⟨(some 16), none, (.mv (.t 125))⟩] none) (.reg [⟨(some 126), none, (.faddr 2 (.t 8))⟩,
  ⟨(some 127), none, (.load 1 false (.t 126))⟩,
  ⟨(some 128), none, (.mv (.t 16))⟩,
  ⟨(some 129), none, (.faddr 2 (.t 8))⟩,
  ⟨(some 130), none, (.load 1 false (.t 129))⟩,
  ⟨(some 131), none, (.mv (.t 16))⟩,
  ⟨(some 132), none, (.iaddr 1 (.t 130) (.t 131))⟩,
  ⟨(some 133), none, (.load 1 false (.t 132))⟩,
  ⟨(some 134), none, (.bin .add (.t 133) (.c (.sc (.int .i64 (1)))))⟩,
  ⟨(some 135), none, (.iaddr 1 (.t 127) (.t 128))⟩,
  ⟨none, none, (.store 1 (.t 135) (.t 134))⟩] (some [[], [0], [], [], [3], [], [4, 5, 3], [6, 4, 5, 3], [7, 6, 4, 5, 3], [1, 2, 0, 3, 4, 5, 6, 7, 8], [9, 8, 0, 1, 2, 3, 4, 5, 6, 7]])))) .skip)))))) (.reg [⟨(some 55), none, (.mv (.t 9))⟩,
  ⟨(some 56), none, (.bin .add (.t 55) (.c (.sc (.int .i64 (1)))))⟩,
  ⟨(some 9), none, (.mv (.t 56))⟩] none))))))
 (.seq (.reg [⟨(some 136), none, (.load 3 true (.t 8))⟩,
  ⟨none, none, (.store 3 (.t 4) (.t 136))⟩,
  ⟨(some 5), none, (.mv (.c (.sc (.int .i64 (0)))))⟩] none) .ret)))))))
theorem good16 {args : List PV} {r : PV} (hl : args.length ≤ 137) (h : Run Try.prog [.code ac16] (endQ [(.c 4 3 true), (.t 5)] r) ⟨initT 0 args, [], 0, 137⟩) : Good Try.prog 16 args r :=
  good_run (by kernel_rfl) Hamix Try.func16 rfl (hs := [⟨[0, 1, 4, 6], []⟩, ⟨[0, 1, 4, 8, 9], []⟩]) (hs' := []) (by kernel_rfl) hl h
def ac17 : ACode :=
 (.seq (.reg [⟨(some 2), none, (.boxv (.t 0))⟩,
  ⟨(some 3), none, (.boxv (.t 1))⟩,
  ⟨(some 4), none, (.mv (.c (.sc (.bool false))))⟩] none)
 (.seq (.reg [⟨(some 5), none, (.faddr 0 (.t 2))⟩,
  ⟨(some 6), none, (.load 1 false (.t 5))⟩,
  ⟨(some 7), none, (.faddr 0 (.t 3))⟩,
  ⟨(some 8), none, (.load 1 false (.t 7))⟩,
  ⟨(some 9), none, (.bin .eql (.t 6) (.t 8))⟩,
  ⟨(some 10), none, (.mv (.t 9))⟩,
  ⟨(some 11), (some (10, true)), (.faddr 1 (.t 2))⟩,
  ⟨(some 12), (some (10, true)), (.load 1 false (.t 11))⟩,
  ⟨(some 13), (some (10, true)), (.faddr 1 (.t 3))⟩,
  ⟨(some 14), (some (10, true)), (.load 1 false (.t 13))⟩,
  ⟨(some 15), (some (10, true)), (.call 33 [(.t 12), (.t 14)])⟩,
  ⟨(some 16), none, (.pick (.t 10) (.t 15) (.c (.sc (.bool false))))⟩,
  ⟨(some 17), none, (.mv (.t 16))⟩,
  ⟨(some 18), (some (17, true)), (.faddr 2 (.t 2))⟩,
  ⟨(some 19), (some (17, true)), (.load 1 false (.t 18))⟩,
  ⟨(some 20), (some (17, true)), (.faddr 2 (.t 3))⟩,
  ⟨(some 21), (some (17, true)), (.load 1 false (.t 20))⟩,
  ⟨(some 22), (some (17, true)), (.call 33 [(.t 19), (.t 21)])⟩,
  ⟨(some 23), none, (.pick (.t 17) (.t 22) (.c (.sc (.bool false))))⟩,
  ⟨(some 4), none, (.mv (.t 23))⟩] none) .ret))
theorem good17 {args : List PV} {r : PV} (hl : args.length ≤ 24) (h : Run Try.prog [.code ac17] (endQ [(.t 4)] r) ⟨initT 0 args, [], 0, 24⟩) : Good Try.prog 17 args r :=
  good_run (by kernel_rfl) Hamix Try.func17 rfl (hs := []) (hs' := []) (by kernel_rfl) hl h
def ac18 : ACode :=
 (.seq (.reg [⟨(some 2), none, (.boxv (.t 0))⟩,
  ⟨(some 3), none, (.boxv (.t 1))⟩,
  ⟨(some 4), none, (.new [(.sc (.int .i64 (0))), (.sc (.slice none 0 0)), (.sc (.slice none 0 0))])⟩,
  ⟨(some 5), none, (.mv (.c (.sc (.int .i64 (0)))))⟩] none)
 (.seq (.seq (.reg [⟨(some 12), none, (.load 3 true (.t 2))⟩,
  ⟨(some 13), none, (.load 3 true (.t 3))⟩,
  ⟨(some 14), none, (.bslice 26 3 [(.t 12), (.t 13)])⟩,
  ⟨(some 15), none, (.len (.t 14))⟩,
  ⟨(some 16), none, (.mv (.c (.sc (.int .i64 (0)))))⟩] none) (.block 0 
 (.loop ⟨[2, 3, 4, 14, 15, 16], []⟩
 (.seq (.reg [⟨(some 17), none, (.bin .lss (.t 16) (.t 15))⟩] none)
 (.seq
 (.cond (.t 17) .skip (.exit 0))
 (.seq (.block 1
 (.seq (.reg [⟨(some 18), none, (.iaddr 3 (.t 14) (.t 16))⟩,
  ⟨(some 19), none, (.load 3 true (.t 18))⟩,
  ⟨(some 7), none, (.new [(.sc (.int .i64 (0))), (.sc (.slice none 0 0)), (.sc (.slice none 0 0))])⟩,
  ⟨none, none, (.store 3 (.t 7) (.t 19))⟩] none)
 (.seq (.reg [⟨(some 20), none, (.load 3 true (.t 7))⟩,
  ⟨(some 21), none, (.call 12 [(.t 20)])⟩,
  ⟨(some 8), none, (.mv (.t 21))⟩] none)
 (.seq (.reg [⟨(some 22), none, (.mv (.t 8))⟩,
  ⟨(some 23), none, (.bin .neq (.t 22) (.c (.sc (.int .i64 (0)))))⟩] none)
 (.cond (.t 23)
 (.seq (.reg [⟨(some 24), none, (.build [(.sc (.int .i64 (0))), (.sc (.slice none 0 0)), (.sc (.slice none 0 0))] [])⟩,
  ⟨(some 25), none, (.mv (.t 8))⟩,
  ⟨none, none, (.store 3 (.t 4) (.t 24))⟩,
  ⟨(some 5), none, (.mv (.t 25))⟩] none) .ret) .skip))))) (.reg [⟨(some 26), none, (.bin .add (.t 16) (.c (.sc (.int .i64 (1)))))⟩,
  ⟨(some 16), none, (.mv (.t 26))⟩] none)))))))
 (.seq (.seq (.reg [⟨(some 27), none, (.faddr 0 (.t 2))⟩,
  ⟨(some 28), none, (.load 1 false (.t 27))⟩,
  ⟨(some 29), none, (.faddr 0 (.t 3))⟩,
  ⟨(some 30), none, (.load 1 false (.t 29))⟩,
  ⟨(some 31), none, (.bin .neq (.t 28) (.t 30))⟩] none)
 (.cond (.t 31)
 (.seq (.reg [⟨(some 32), none, (.build [(.sc (.int .i64 (0))), (.sc (.slice none 0 0)), (.sc (.slice none 0 0))] [])⟩,
  ⟨none, none, (.store 3 (.t 4) (.t 32))⟩,
  ⟨(some 5), none, (.mv (.c (.sc (.int .i64 (3)))))⟩] none) .ret) .skip))
 (.seq (.reg [⟨(some 34), none, (.faddr 1 (.t 2))⟩,
  ⟨(some 35), none, (.load 1 false (.t 34))⟩,
  ⟨(some 36), none, (.faddr 1 (.t 3))⟩,
  ⟨(some 37), none, (.load 1 false (.t 36))⟩,
  ⟨(some 38), none, (.call 34 [(.t 35), (.t 37)])⟩,
  ⟨(some 33), none, (.mv (.t 38))⟩,
  ⟨(some 39), none, (.ext 0 (.t 33))⟩,
  ⟨(some 40), none, (.ext 1 (.t 33))⟩,
  ⟨(some 9), none, (.mv (.t 39))⟩,
  ⟨(some 10), none, (.mv (.t 40))⟩] none)
 (.seq (.seq (.reg [⟨(some 41), none, (.mv (.t 10))⟩,
  ⟨(some 42), none, (.bin .neq (.t 41) (.c (.sc (.int .i64 (0)))))⟩] none)
 (.cond (.t 42)
 (.seq (.reg [⟨(some 43), none, (.build [(.sc (.int .i64 (0))), (.sc (.slice none 0 0)), (.sc (.slice none 0 0))] [])⟩,
  ⟨(some 44), none, (.mv (.t 10))⟩,
  ⟨none, none, (.store 3 (.t 4) (.t 43))⟩,
  ⟨(some 5), none, (.mv (.t 44))⟩] none) .ret) .skip))
 (.seq (.reg [⟨(some 46), none, (.faddr 2 (.t 2))⟩,
  ⟨(some 47), none, (.load 1 false (.t 46))⟩,
  ⟨(some 48), none, (.faddr 2 (.t 3))⟩,
  ⟨(some 49), none, (.load 1 false (.t 48))⟩,
  ⟨(some 50), none, (.call 34 [(.t 47), (.t 49)])⟩,
  ⟨(some 45), none, (.mv (.t 50))⟩,
  ⟨(some 51), none, (.ext 0 (.t 45))⟩,
  ⟨(some 52), none, (.ext 1 (.t 45))⟩,
  ⟨(some 11), none, (.mv (.t 51))⟩,
  ⟨(some 10), none, (.mv (.t 52))⟩] none)
 (.seq (.seq (.reg [⟨(some 53), none, (.mv (.t 10))⟩,
  ⟨(some 54), none, (.bin .neq (.t 53) (.c (.sc (.int .i64 (0)))))⟩] none)
 (.cond (.t 54)
 (.seq (.reg [⟨(some 55), none, (.build [(.sc (.int .i64 (0))), (.sc (.slice none 0 0)), (.sc (.slice none 0 0))] [])⟩,
  ⟨(some 56), none, (.mv (.t 10))⟩,
  ⟨none, none, (.store 3 (.t 4) (.t 55))⟩,
  ⟨(some 5), none, (.mv (.t 56))⟩] none) .ret) .skip))
 (.seq (.reg [⟨(some 57), none, (.faddr 0 (.t 2))⟩,
  ⟨(some 58), none, (.load 1 false (.t 57))⟩,
  ⟨(some 59), none, (.mv (.t 9))⟩,
  ⟨(some 60), none, (.mv (.t 11))⟩,
  ⟨(some 61), none, (.build [(.sc (.int .i64 (0))), (.sc (.slice none 0 0)), (.sc (.slice none 0 0))] [(0, (1, (.t 58))), (1, (1, (.t 59))), (2, (1, (.t 60)))])⟩,
  ⟨none, none, (.store 3 (.t 4) (.t 61))⟩,
  ⟨(some 5), none, (.mv (.c (.sc (.int .i64 (0)))))⟩] none) .ret))))))))
theorem good18 {args : List PV} {r : PV} (hl : args.length ≤ 62) (h : Run Try.prog [.code ac18] (endQ [(.c 4 3 true), (.t 5)] r) ⟨initT 0 args, [], 0, 62⟩) : Good Try.prog 18 args r :=
  good_run (by kernel_rfl) Hamix Try.func18 rfl (hs := [⟨[2, 3, 4, 14, 15, 16], []⟩]) (hs' := []) (by kernel_rfl) hl h
def ac19 : ACode :=
 (.seq (.reg [⟨(some 2), none, (.boxv (.t 0))⟩,
  ⟨(some 3), none, (.boxv (.t 1))⟩,
  ⟨(some 4), none, (.new [(.sc (.int .i64 (0))), (.sc (.slice none 0 0)), (.sc (.slice none 0 0))])⟩,
  ⟨(some 5), none, (.mv (.c (.sc (.int .i64 (0)))))⟩] none)
 (.seq (.seq (.reg [⟨(some 10), none, (.load 3 true (.t 2))⟩,
  ⟨(some 11), none, (.call 13 [(.t 10)])⟩,
  ⟨(some 6), none, (.mv (.t 11))⟩] none)
 (.seq (.reg [⟨(some 12), none, (.mv (.t 6))⟩,
  ⟨(some 13), none, (.bin .neq (.t 12) (.c (.sc (.int .i64 (0)))))⟩] none)
 (.cond (.t 13)
 (.seq (.reg [⟨(some 14), none, (.build [(.sc (.int .i64 (0))), (.sc (.slice none 0 0)), (.sc (.slice none 0 0))] [])⟩,
  ⟨(some 15), none, (.mv (.t 6))⟩,
  ⟨none, none, (.store 3 (.t 4) (.t 14))⟩,
  ⟨(some 5), none, (.mv (.t 15))⟩] none) .ret) .skip)))
 (.seq (.seq (.reg [⟨(some 16), none, (.load 3 true (.t 3))⟩,
  ⟨(some 17), none, (.call 13 [(.t 16)])⟩,
  ⟨(some 7), none, (.mv (.t 17))⟩] none)
 (.seq (.reg [⟨(some 18), none, (.mv (.t 7))⟩,
  ⟨(some 19), none, (.bin .neq (.t 18) (.c (.sc (.int .i64 (0)))))⟩] none)
 (.cond (.t 19)
 (.seq (.reg [⟨(some 20), none, (.build [(.sc (.int .i64 (0))), (.sc (.slice none 0 0)), (.sc (.slice none 0 0))] [])⟩,
  ⟨(some 21), none, (.mv (.t 7))⟩,
  ⟨none, none, (.store 3 (.t 4) (.t 20))⟩,
  ⟨(some 5), none, (.mv (.t 21))⟩] none) .ret) .skip)))
 (.seq (.seq (.reg [⟨(some 22), none, (.faddr 0 (.t 2))⟩,
  ⟨(some 23), none, (.load 1 false (.t 22))⟩,
  ⟨(some 24), none, (.faddr 0 (.t 3))⟩,
  ⟨(some 25), none, (.load 1 false (.t 24))⟩,
  ⟨(some 26), none, (.bin .neq (.t 23) (.t 25))⟩] none)
 (.cond (.t 26)
 (.seq (.reg [⟨(some 27), none, (.build [(.sc (.int .i64 (0))), (.sc (.slice none 0 0)), (.sc (.slice none 0 0))] [])⟩,
  ⟨none, none, (.store 3 (.t 4) (.t 27))⟩,
  ⟨(some 5), none, (.mv (.c (.sc (.int .i64 (3)))))⟩] none) .ret) .skip))
 (.seq (.reg [⟨(some 28), none, (.faddr 0 (.t 2))⟩,
  ⟨(some 29), none, (.load 1 false (.t 28))⟩,
  ⟨(some 30), none, (.build [(.sc (.int .i64 (0))), (.sc (.slice none 0 0)), (.sc (.slice none 0 0))] [(0, (1, (.t 29)))])⟩,
  ⟨(some 8), none, (.new [(.sc (.int .i64 (0))), (.sc (.slice none 0 0)), (.sc (.slice none 0 0))])⟩,
  ⟨none, none, (.store 3 (.t 8) (.t 30))⟩] none)
 (.seq (.seq (.reg [⟨(some 9), none, (.mv (.c (.sc (.int .i64 (0)))))⟩] none) (.block 0 
 (.loop ⟨[2, 3, 4, 8, 9], [(200008, (3, 1)), (300008, (3, 1))]⟩
 (.seq (.seq (.reg [⟨(some 31), none, (.mv (.t 9))⟩,
  ⟨(some 32), none, (.faddr 1 (.t 2))⟩,
  ⟨(some 33), none, (.load 1 false (.t 32))⟩,
  ⟨(some 34), none, (.len (.t 33))⟩,
  ⟨(some 35), none, (.bin .lss (.t 31) (.t 34))⟩] none)
 (.cond (.t 35) .skip (.exit 0)))
 (.seq (.block 1 (.reg [⟨(some 38), none, (.faddr 1 (.t 8))⟩,
  ⟨(some 39), none, (.load 1 false (.t 38))⟩,
  ⟨(some 40), none, (.faddr 1 (.t 2))⟩,
  ⟨(some 41), none, (.load 1 false (.t 40))⟩,
  ⟨(some 42), none, (.mv (.t 9))⟩,
  ⟨(some 43), none, (.iaddr 1 (.t 41) (.t 42))⟩,
  ⟨(some 44), none, (.load 1 false (.t 43))⟩,
  ⟨(some 45), none, (.faddr 1 (.t 3))⟩,
  ⟨(some 46), none, (.load 1 false (.t 45))⟩,
  ⟨(some 47), none, (.mv (.t 9))⟩,
  ⟨(some 48), none, (.iaddr 1 (.t 46) (.t 47))⟩,
  ⟨(some 49), none, (.load 1 false (.t 48))⟩,
  ⟨(some 50), none, (.bin .add (.t 44) (.t 49))⟩,
  ⟨(some 51), none, (.bslice 3 1 [(.t 50)])⟩,
  ⟨(some 52), none, (.append 3 1 8 (.t 39) (.t 51))⟩,
  ⟨(some 53), none, (.faddr 2 (.t 8))⟩,
  ⟨(some 54), none, (.load 1 false (.t 53))⟩,
  ⟨(some 55), none, (.faddr 2 (.t 2))⟩,
  ⟨(some 56), none, (.load 1 false (.t 55))⟩,
  ⟨(some 57), none, (.mv (.t 9))⟩,
  ⟨(some 58), none, (.iaddr 1 (.t 56) (.t 57))⟩,
  ⟨(some 59), none, (.load 1 false (.t 58))⟩,
  ⟨(some 60), none, (.faddr 2 (.t 3))⟩,
  ⟨(some 61), none, (.load 1 false (.t 60))⟩,
  ⟨(some 62), none, (.mv (.t 9))⟩,
  ⟨(some 63), none, (.iaddr 1 (.t 61) (.t 62))⟩,
  ⟨(some 64), none, (.load 1 false (.t 63))⟩,
  ⟨(some 65), none, (.bin .add (.t 59) (.t 64))⟩,
  ⟨(some 66), none, (.bslice 3 1 [(.t 65)])⟩,
  ⟨(some 67), none, (.append 3 1 8 (.t 54) (.t 66))⟩,
  ⟨(some 68), none, (.faddr 1 (.t 8))⟩,
  ⟨none, none, (.store 1 (.t 68) (.t 52))⟩,
  ⟨(some 69), none, (.faddr 2 (.t 8))⟩,
  ⟨none, none, (.store 1 (.t 69) (.t 67))⟩] (some [[], [0], [], [2], [], [3, 4, 2], [5, 3, 4, 2], [], [7], [], [8, 9, 7], [10, 8, 9, 7], [6, 11, 5, 3, 4, 2, 10, 8, 9, 7], [12, 6, 11, 5, 3, 4, 2, 10, 8, 9, 7], [1, 13, 0, 12, 6, 11, 5, 3, 4, 2, 10, 8, 9, 7], [], [15], [], [17], [], [18, 19, 17], [20, 18, 19, 17], [], [22], [], [23, 24, 22], [25, 23, 24, 22], [21, 26, 20, 18, 19, 17, 25, 23, 24, 22], [27, 21, 26, 20, 18, 19, 17, 25, 23, 24, 22], [16, 28, 14, 15, 27, 21, 26, 20, 18, 19, 17, 25, 23, 24, 22, 1, 13, 0, 12, 6, 11, 5, 3, 4, 2, 10, 8, 9, 7], [0, 1, 2, 3, 4, 5, 6, 7, 8, 9, 10, 11, 12, 13, 14, 15, 16], [30, 14, 29, 0, 1, 2, 3, 4, 5, 6, 7, 8, 9, 10, 11, 12, 13, 15, 16, 28, 27, 21, 26, 20, 18, 19, 17, 25, 23, 24, 22], [0, 1, 2, 3, 4, 5, 6, 7, 8, 9, 10, 11, 12, 13, 14, 15, 16, 17, 18, 19, 20, 21, 22, 23, 24, 25, 26, 27, 28, 29, 30, 31], [32, 29, 31, 0, 1, 2, 3, 4, 5, 6, 7, 8, 9, 10, 11, 12, 13, 14, 15, 16, 17, 18, 19, 20, 21, 22, 23, 24, 25, 26, 27, 28, 30]]))) (.reg [⟨(some 36), none, (.mv (.t 9))⟩,
  ⟨(some 37), none, (.bin .add (.t 36) (.c (.sc (.int .i64 (1)))))⟩,
  ⟨(some 9), none, (.mv (.t 37))⟩] none))))))
 (.seq (.seq (.reg [⟨(some 70), none, (.faddr 1 (.t 8))⟩,
  ⟨(some 71), none, (.load 1 false (.t 70))⟩,
  ⟨(some 72), none, (.call 28 [(.t 71)])⟩,
  ⟨(some 73), none, (.un .not (.t 72))⟩,
  ⟨(some 74), none, (.mv (.t 73))⟩,
  ⟨(some 75), (some (74, false)), (.faddr 2 (.t 8))⟩,
  ⟨(some 76), (some (74, false)), (.load 1 false (.t 75))⟩,
  ⟨(some 77), (some (74, false)), (.call 28 [(.t 76)])⟩,
  ⟨(some 78), (some (74, false)), (.un .not (.t 77))⟩,
  ⟨(some 79), none, (.pick (.t 74) (.c (.sc (.bool true))) (.t 78))⟩] none)
 (.cond (.t 79)
 (.seq (.reg [⟨(some 80), none, (.build [(.sc (.int .i64 (0))), (.sc (.slice none 0 0)), (.sc (.slice none 0 0))] [])⟩,
  ⟨none, none, (.store 3 (.t 4) (.t 80))⟩,
  ⟨(some 5), none, (.mv (.c (.sc (.int .i64 (2)))))⟩] none) .ret) .skip))
 (.seq (.reg [⟨(some 81), none, (.load 3 true (.t 8))⟩,
  ⟨none, none, (.store 3 (.t 4) (.t 81))⟩,
  ⟨(some 5), none, (.mv (.c (.sc (.int .i64 (0)))))⟩] none) .ret))))))))
theorem good19 {args : List PV} {r : PV} (hl : args.length ≤ 82) (h : Run Try.prog [.code ac19] (endQ [(.c 4 3 true), (.t 5)] r) ⟨initT 0 args, [], 0, 82⟩) : Good Try.prog 19 args r :=
  good_run (by kernel_rfl) Hamix Try.func19 rfl (hs := [⟨[2, 3, 4, 8, 9], [(200008, 3, 1), (300008, 3, 1)]⟩]) (hs' := []) (by kernel_rfl) hl h
def ac20 : ACode :=
 (.seq (.reg [⟨(some 4), none, (.boxv (.t 0))⟩,
  ⟨(some 8), none, (.mv (.c (.sc (.int .i64 (0)))))⟩,
  ⟨(some 9), none, (.mv (.c (.sc (.int .i64 (0)))))⟩,
  ⟨(some 10), none, (.mv (.c (.sc (.int .i64 (0)))))⟩] none)
 (.seq (.reg [⟨(some 17), none, (.load 3 true (.t 4))⟩,
  ⟨(some 18), none, (.call 12 [(.t 17)])⟩,
  ⟨(some 11), none, (.mv (.t 18))⟩] none)
 (.seq (.block 0
 (.seq (.reg [⟨(some 20), none, (.mv (.t 11))⟩,
  ⟨(some 21), none, (.bin .neq (.t 20) (.c (.sc (.int .i64 (0)))))⟩,
  ⟨(some 19), none, (.mv (.t 21))⟩] none)
 (.cond (.t 19)
 (.seq (.reg [⟨(some 22), none, (.mv (.t 11))⟩,
  ⟨(some 8), none, (.mv (.c (.sc (.int .i64 (0)))))⟩,
  ⟨(some 9), none, (.mv (.c (.sc (.int .i64 (0)))))⟩,
  ⟨(some 10), none, (.mv (.t 22))⟩] none) .ret)
 (.seq (.reg [⟨(some 24), none, (.mv (.t 1))⟩,
  ⟨(some 25), none, (.faddr 0 (.t 4))⟩,
  ⟨(some 26), none, (.load 1 false (.t 25))⟩,
  ⟨(some 27), none, (.bin .sub (.t 26) (.c (.sc (.int .i64 (1)))))⟩,
  ⟨(some 28), none, (.call 25 [(.t 24), (.c (.sc (.int .i64 (0)))), (.t 27)])⟩,
  ⟨(some 29), none, (.un .not (.t 28))⟩,
  ⟨(some 23), none, (.mv (.t 29))⟩] none)
 (.cond (.t 23)
 (.seq (.reg [⟨(some 8), none, (.mv (.c (.sc (.int .i64 (0)))))⟩,
  ⟨(some 9), none, (.mv (.c (.sc (.int .i64 (0)))))⟩,
  ⟨(some 10), none, (.mv (.c (.sc (.int .i64 (7)))))⟩] none) .ret)
 (.seq (.reg [⟨(some 31), none, (.mv (.t 2))⟩,
  ⟨(some 32), none, (.call 25 [(.t 31), (.c (.sc (.int .i64 (0)))), (.c (.sc (.int .i64 (167))))])⟩,
  ⟨(some 33), none, (.un .not (.t 32))⟩,
  ⟨(some 34), none, (.mv (.t 33))⟩,
  ⟨(some 35), (some (34, false)), (.mv (.t 3))⟩,
  ⟨(some 36), (some (34, false)), (.call 25 [(.t 35), (.c (.sc (.int .i64 (0)))), (.c (.sc (.int .i64 (168))))])⟩,
  ⟨(some 37), (some (34, false)), (.un .not (.t 36))⟩,
  ⟨(some 38), none, (.pick (.t 34) (.c (.sc (.bool true))) (.t 37))⟩,
  ⟨(some 30), none, (.mv (.t 38))⟩] none)
 (.cond (.t 30)
 (.seq (.reg [⟨(some 8), none, (.mv (.c (.sc (.int .i64 (0)))))⟩,
  ⟨(some 9), none, (.mv (.c (.sc (.int .i64 (0)))))⟩,
  ⟨(some 10), none, (.mv (.c (.sc (.int .i64 (1)))))⟩] none) .ret) .skip)))))))
 (.seq (.reg [⟨(some 39), none, (.faddr 1 (.t 4))⟩,
  ⟨(some 40), none, (.load 1 false (.t 39))⟩,
  ⟨(some 41), none, (.mv (.t 1))⟩,
  ⟨(some 42), none, (.call 35 [(.t 40), (.t 41)])⟩,
  ⟨(some 43), none, (.faddr 2 (.t 4))⟩,
  ⟨(some 44), none, (.load 1 false (.t 43))⟩,
  ⟨(some 45), none, (.mv (.t 1))⟩,
  ⟨(some 46), none, (.call 35 [(.t 44), (.t 45)])⟩,
  ⟨(some 12), none, (.mv (.t 42))⟩,
  ⟨(some 13), none, (.mv (.t 46))⟩] (some [[], [0], [], [1, 2, 0], [], [4], [], [5, 6, 3, 4, 1, 2, 0], [3, 7, 0, 1, 2, 5, 6, 4], [7, 8, 0, 1, 2, 3, 4, 5, 6]]))
 (.seq (.reg [⟨(some 14), none, (.mv (.c (.sc (.int .i64 (0)))))⟩,
  ⟨(some 15), none, (.mv (.c (.sc (.int .i64 (0)))))⟩] none)
 (.seq (.seq (.reg [⟨(some 47), none, (.mv (.t 3))⟩,
  ⟨(some 48), none, (.mv (.c (.sc (.int .i64 (0)))))⟩] none) (.block 1 
 (.loop ⟨[2, 12, 13, 14, 15, 47, 48], []⟩
 (.seq (.reg [⟨(some 49), none, (.bin .lss (.t 48) (.t 47))⟩] none)
 (.seq
 (.cond (.t 49) .skip (.exit 1))
 (.seq (.block 2
 (.seq (.reg [⟨(some 50), none, (.mv (.t 48))⟩,
  ⟨(some 16), none, (.mv (.t 50))⟩] none)
 (.seq (.reg [⟨(some 51), none, (.mv (.t 14))⟩,
  ⟨(some 52), none, (.mv (.t 12))⟩,
  ⟨(some 53), none, (.mv (.t 2))⟩,
  ⟨(some 54), none, (.mv (.t 16))⟩,
  ⟨(some 55), none, (.bin .add (.t 53) (.t 54))⟩,
  ⟨(some 56), none, (.bin .rem (.t 55) (.c (.sc (.int .i64 (168)))))⟩,
  ⟨(some 57), none, (.iaddr 1 (.t 52) (.t 56))⟩,
  ⟨(some 58), none, (.load 1 false (.t 57))⟩,
  ⟨(some 59), none, (.bin .add (.t 51) (.t 58))⟩,
  ⟨(some 14), none, (.mv (.t 59))⟩] none) (.reg [⟨(some 60), none, (.mv (.t 15))⟩,
  ⟨(some 61), none, (.mv (.t 13))⟩,
  ⟨(some 62), none, (.mv (.t 2))⟩,
  ⟨(some 63), none, (.mv (.t 16))⟩,
  ⟨(some 64), none, (.bin .add (.t 62) (.t 63))⟩,
  ⟨(some 65), none, (.bin .rem (.t 64) (.c (.sc (.int .i64 (168)))))⟩,
  ⟨(some 66), none, (.iaddr 1 (.t 61) (.t 65))⟩,
  ⟨(some 67), none, (.load 1 false (.t 66))⟩,
  ⟨(some 68), none, (.bin .add (.t 60) (.t 67))⟩,
  ⟨(some 15), none, (.mv (.t 68))⟩] none)))) (.reg [⟨(some 69), none, (.bin .add (.t 48) (.c (.sc (.int .i64 (1)))))⟩,
  ⟨(some 48), none, (.mv (.t 69))⟩] none)))))))
 (.seq (.reg [⟨(some 70), none, (.mv (.t 14))⟩,
  ⟨(some 71), none, (.mv (.t 15))⟩,
  ⟨(some 8), none, (.mv (.t 70))⟩,
  ⟨(some 9), none, (.mv (.t 71))⟩,
  ⟨(some 10), none, (.mv (.c (.sc (.int .i64 (0)))))⟩] none) .ret)))))))
theorem good20 {args : List PV} {r : PV} (hl : args.length ≤ 72) (h : Run Try.prog [.code ac20] (endQ [(.t 8), (.t 9), (.t 10)] r) ⟨initT 0 args, [], 0, 72⟩) : Good Try.prog 20 args r :=
  good_run (by kernel_rfl) Hamix Try.func20 rfl (hs := [⟨[2, 12, 13, 14, 15, 47, 48], []⟩]) (hs' := []) (by kernel_rfl) hl h
def ac21 : ACode :=
 (.seq (.reg [⟨(some 4), none, (.boxv (.t 0))⟩,
  ⟨(some 8), none, (.mv (.c (.sc (.int .i64 (0)))))⟩,
  ⟨(some 9), none, (.mv (.c (.sc (.int .i64 (0)))))⟩,
  ⟨(some 10), none, (.mv (.c (.sc (.int .i64 (0)))))⟩] none)
 (.seq (.seq (.reg [⟨(some 16), none, (.load 3 true (.t 4))⟩,
  ⟨(some 17), none, (.call 13 [(.t 16)])⟩,
  ⟨(some 11), none, (.mv (.t 17))⟩] none)
 (.seq (.reg [⟨(some 18), none, (.mv (.t 11))⟩,
  ⟨(some 19), none, (.bin .neq (.t 18) (.c (.sc (.int .i64 (0)))))⟩] none)
 (.cond (.t 19)
 (.seq (.reg [⟨(some 20), none, (.mv (.t 11))⟩,
  ⟨(some 8), none, (.mv (.c (.sc (.int .i64 (0)))))⟩,
  ⟨(some 9), none, (.mv (.c (.sc (.int .i64 (0)))))⟩,
  ⟨(some 10), none, (.mv (.t 20))⟩] none) .ret) .skip)))
 (.seq (.seq (.reg [⟨(some 21), none, (.mv (.t 1))⟩,
  ⟨(some 22), none, (.bin .lss (.t 21) (.c (.sc (.int .i64 (0)))))⟩,
  ⟨(some 23), none, (.mv (.t 22))⟩,
  ⟨(some 24), (some (23, false)), (.mv (.t 1))⟩,
  ⟨(some 25), (some (23, false)), (.faddr 0 (.t 4))⟩,
  ⟨(some 26), (some (23, false)), (.load 1 false (.t 25))⟩,
  ⟨(some 27), (some (23, false)), (.bin .geq (.t 24) (.t 26))⟩,
  ⟨(some 28), none, (.pick (.t 23) (.c (.sc (.bool true))) (.t 27))⟩] none)
 (.cond (.t 28)
 (.seq (.reg [⟨(some 8), none, (.mv (.c (.sc (.int .i64 (0)))))⟩,
  ⟨(some 9), none, (.mv (.c (.sc (.int .i64 (0)))))⟩,
  ⟨(some 10), none, (.mv (.c (.sc (.int .i64 (7)))))⟩] none) .ret) .skip))
 (.seq (.seq (.reg [⟨(some 29), none, (.mv (.t 2))⟩,
  ⟨(some 30), none, (.bin .lss (.t 29) (.c (.sc (.int .i64 (0)))))⟩,
  ⟨(some 31), none, (.mv (.t 30))⟩,
  ⟨(some 32), (some (31, false)), (.mv (.t 2))⟩,
  ⟨(some 33), (some (31, false)), (.bin .geq (.t 32) (.c (.sc (.int .i64 (168)))))⟩,
  ⟨(some 34), none, (.pick (.t 31) (.c (.sc (.bool true))) (.t 33))⟩,
  ⟨(some 35), none, (.mv (.t 34))⟩,
  ⟨(some 36), (some (35, false)), (.mv (.t 3))⟩,
  ⟨(some 37), (some (35, false)), (.bin .lss (.t 36) (.c (.sc (.int .i64 (0)))))⟩,
  ⟨(some 38), none, (.pick (.t 35) (.c (.sc (.bool true))) (.t 37))⟩,
  ⟨(some 39), none, (.mv (.t 38))⟩,
  ⟨(some 40), (some (39, false)), (.mv (.t 3))⟩,
  ⟨(some 41), (some (39, false)), (.bin .gtr (.t 40) (.c (.sc (.int .i64 (168)))))⟩,
  ⟨(some 42), none, (.pick (.t 39) (.c (.sc (.bool true))) (.t 41))⟩] none)
 (.cond (.t 42)
 (.seq (.reg [⟨(some 8), none, (.mv (.c (.sc (.int .i64 (0)))))⟩,
  ⟨(some 9), none, (.mv (.c (.sc (.int .i64 (0)))))⟩,
  ⟨(some 10), none, (.mv (.c (.sc (.int .i64 (1)))))⟩] none) .ret) .skip))
 (.seq (.reg [⟨(some 12), none, (.mv (.c (.sc (.int .i64 (0)))))⟩,
  ⟨(some 13), none, (.mv (.c (.sc (.int .i64 (0)))))⟩] none)
 (.seq (.seq (.reg [⟨(some 14), none, (.mv (.c (.sc (.int .i64 (0)))))⟩] none) (.block 0 
 (.loop ⟨[1, 2, 3, 4, 12, 13, 14], []⟩
 (.seq (.seq (.reg [⟨(some 43), none, (.mv (.t 14))⟩,
  ⟨(some 44), none, (.mv (.t 3))⟩,
  ⟨(some 45), none, (.bin .lss (.t 43) (.t 44))⟩] none)
 (.cond (.t 45) .skip (.exit 0)))
 (.seq (.block 1
 (.seq (.reg [⟨(some 48), none, (.mv (.t 1))⟩,
  ⟨(some 49), none, (.bin .mul (.t 48) (.c (.sc (.int .i64 (168)))))⟩,
  ⟨(some 50), none, (.mv (.t 2))⟩,
  ⟨(some 51), none, (.mv (.t 14))⟩,
  ⟨(some 52), none, (.bin .add (.t 50) (.t 51))⟩,
  ⟨(some 53), none, (.bin .rem (.t 52) (.c (.sc (.int .i64 (168)))))⟩,
  ⟨(some 54), none, (.bin .add (.t 49) (.t 53))⟩,
  ⟨(some 15), none, (.mv (.t 54))⟩] none) (.reg [⟨(some 55), none, (.mv (.t 12))⟩,
  ⟨(some 56), none, (.faddr 1 (.t 4))⟩,
  ⟨(some 57), none, (.load 1 false (.t 56))⟩,
  ⟨(some 58), none, (.mv (.t 15))⟩,
  ⟨(some 59), none, (.iaddr 1 (.t 57) (.t 58))⟩,
  ⟨(some 60), none, (.load 1 false (.t 59))⟩,
  ⟨(some 61), none, (.bin .add (.t 55) (.t 60))⟩,
  ⟨(some 62), none, (.mv (.t 13))⟩,
  ⟨(some 63), none, (.faddr 2 (.t 4))⟩,
  ⟨(some 64), none, (.load 1 false (.t 63))⟩,
  ⟨(some 65), none, (.mv (.t 15))⟩,
  ⟨(some 66), none, (.iaddr 1 (.t 64) (.t 65))⟩,
  ⟨(some 67), none, (.load 1 false (.t 66))⟩,
  ⟨(some 68), none, (.bin .add (.t 62) (.t 67))⟩,
  ⟨(some 12), none, (.mv (.t 61))⟩,
  ⟨(some 13), none, (.mv (.t 68))⟩] (some [[], [], [1], [], [2, 3, 1], [4, 2, 3, 1], [0, 5, 4, 2, 3, 1], [], [], [8], [], [9, 10, 8], [11, 9, 10, 8], [7, 12, 11, 9, 10, 8], [6, 0, 1, 2, 3, 4, 5], [13, 14, 0, 1, 2, 3, 4, 5, 6, 7, 8, 9, 10, 11, 12]])))) (.reg [⟨(some 46), none, (.mv (.t 14))⟩,
  ⟨(some 47), none, (.bin .add (.t 46) (.c (.sc (.int .i64 (1)))))⟩,
  ⟨(some 14), none, (.mv (.t 47))⟩] none))))))
 (.seq (.reg [⟨(some 69), none, (.mv (.t 12))⟩,
  ⟨(some 70), none, (.mv (.t 13))⟩,
  ⟨(some 8), none, (.mv (.t 69))⟩,
  ⟨(some 9), none, (.mv (.t 70))⟩,
  ⟨(some 10), none, (.mv (.c (.sc (.int .i64 (0)))))⟩] none) .ret)))))))
theorem good21 {args : List PV} {r : PV} (hl : args.length ≤ 71) (h : Run Try.prog [.code ac21] (endQ [(.t 8), (.t 9), (.t 10)] r) ⟨initT 0 args, [], 0, 71⟩) : Good Try.prog 21 args r :=
  good_run (by kernel_rfl) Hamix Try.func21 rfl (hs := [⟨[1, 2, 3, 4, 12, 13, 14], []⟩]) (hs' := []) (by kernel_rfl) hl h
def ac23 : ACode :=
 (.seq (.reg [⟨(some 2), none, (.mv (.c (.sc (.int .i64 (0)))))⟩,
  ⟨(some 3), none, (.mv (.c (.sc (.bool false))))⟩] none)
 (.seq (.reg [⟨(some 4), none, (.mv (.c (.sc (.int .i64 (0)))))⟩] none)
 (.seq (.seq (.reg [⟨(some 5), none, (.mv (.c (.sc (.int .i64 (0)))))⟩] none) (.block 0 
 (.loop ⟨[0, 4, 5], []⟩
 (.seq (.seq (.reg [⟨(some 6), none, (.mv (.t 5))⟩,
  ⟨(some 7), none, (.mv (.t 0))⟩,
  ⟨(some 8), none, (.len (.t 7))⟩,
  ⟨(some 9), none, (.bin .lss (.t 6) (.t 8))⟩] none)
 (.cond (.t 9) .skip (.exit 0)))
 (.seq (.block 1
 (.seq (.seq (.reg [⟨(some 12), none, (.mv (.t 0))⟩,
  ⟨(some 13), none, (.mv (.t 5))⟩,
  ⟨(some 14), none, (.iaddr 1 (.t 12) (.t 13))⟩,
  ⟨(some 15), none, (.load 1 false (.t 14))⟩,
  ⟨(some 16), none, (.bin .lss (.t 15) (.c (.sc (.int .i64 (0)))))⟩,
  ⟨(some 17), none, (.mv (.t 16))⟩,
  ⟨(some 18), (some (17, false)), (.mv (.t 0))⟩,
  ⟨(some 19), (some (17, false)), (.mv (.t 5))⟩,
  ⟨(some 20), (some (17, false)), (.iaddr 1 (.t 18) (.t 19))⟩,
  ⟨(some 21), (some (17, false)), (.load 1 false (.t 20))⟩,
  ⟨(some 22), (some (17, false)), (.bin .gtr (.t 21) (.c (.sc (.int .i64 (1000000)))))⟩,
  ⟨(some 23), none, (.pick (.t 17) (.c (.sc (.bool true))) (.t 22))⟩] none)
 (.cond (.t 23)
 (.seq (.reg [⟨(some 2), none, (.mv (.c (.sc (.int .i64 (0)))))⟩,
  ⟨(some 3), none, (.mv (.c (.sc (.bool false))))⟩] none) .ret) .skip)) (.reg [⟨(some 24), none, (.mv (.t 4))⟩,
  ⟨(some 25), none, (.mv (.t 0))⟩,
  ⟨(some 26), none, (.mv (.t 5))⟩,
  ⟨(some 27), none, (.iaddr 1 (.t 25) (.t 26))⟩,
  ⟨(some 28), none, (.load 1 false (.t 27))⟩,
  ⟨(some 29), none, (.bin .add (.t 24) (.t 28))⟩,
  ⟨(some 4), none, (.mv (.t 29))⟩] none))) (.reg [⟨(some 10), none, (.mv (.t 5))⟩,
  ⟨(some 11), none, (.bin .add (.t 10) (.c (.sc (.int .i64 (1)))))⟩,
  ⟨(some 5), none, (.mv (.t 11))⟩] none))))))
 (.seq (.reg [⟨(some 30), none, (.mv (.t 4))⟩,
  ⟨(some 2), none, (.mv (.t 30))⟩,
  ⟨(some 3), none, (.mv (.c (.sc (.bool true))))⟩] none) .ret))))
theorem good23 {args : List PV} {r : PV} (hl : args.length ≤ 31) (h : Run Try.prog [.code ac23] (endQ [(.t 2), (.t 3)] r) ⟨initT 0 args, [], 0, 31⟩) : Good Try.prog 23 args r :=
  good_run (by kernel_rfl) Hamix Try.func23 rfl (hs := [⟨[0, 4, 5], []⟩]) (hs' := []) (by kernel_rfl) hl h
def ac24 : ACode :=
 (.seq (.reg [⟨(some 0), none, (.new [(.sc (.int .i64 (0))), (.sc (.int .i64 (0))), (.sc (.int .i64 (0))), (.sc (.int .i64 (0))), (.sc (.int .i64 (0))), (.sc (.int .i64 (0))), (.sc (.bool false)), (.sc (.slice none 0 0)), (.sc (.slice none 0 0)), (.sc (.int .i64 (0))), (.sc (.int .i64 (0))), (.sc (.int .i64 (0))), (.sc (.int .i64 (0)))])⟩] none)
 (.seq (.reg [⟨(some 3), none, (.build [(.sc (.int .i64 (0))), (.sc (.int .i64 (0)))] [(0, (1, (.c (.sc (.int .i64 (7200)))))), (1, (1, (.c (.sc (.int .i64 (7200))))))])⟩,
  ⟨(some 4), none, (.build [(.sc (.int .i64 (0))), (.sc (.int .i64 (0)))] [(0, (1, (.c (.sc (.int .i64 (9000)))))), (1, (1, (.c (.sc (.int .i64 (9010))))))])⟩,
  ⟨(some 1), none, (.new [(.sc (.int .i64 (0))), (.sc (.int .i64 (0)))])⟩,
  ⟨(some 2), none, (.new [(.sc (.int .i64 (0))), (.sc (.int .i64 (0)))])⟩,
  ⟨none, none, (.store 2 (.t 1) (.t 3))⟩,
  ⟨none, none, (.store 2 (.t 2) (.t 4))⟩] none)
 (.seq (.reg [⟨(some 5), none, (.load 2 true (.t 1))⟩,
  ⟨(some 6), none, (.load 2 true (.t 2))⟩,
  ⟨(some 7), none, (.load 2 true (.t 1))⟩,
  ⟨(some 8), none, (.load 2 true (.t 2))⟩,
  ⟨(some 9), none, (.build [(.sc (.int .i64 (0))), (.sc (.int .i64 (0))), (.sc (.int .i64 (0))), (.sc (.int .i64 (0))), (.sc (.int .i64 (0)))] [(1, (2, (.t 7))), (3, (2, (.t 8)))])⟩,
  ⟨(some 10), none, (.bslice 77 5 [(.t 9)])⟩,
  ⟨(some 11), none, (.build [(.sc (.int .i64 (0))), (.sc (.int .i64 (0))), (.sc (.int .i64 (0))), (.sc (.int .i64 (0))), (.sc (.int .i64 (0))), (.sc (.int .i64 (0))), (.sc (.bool false)), (.sc (.slice none 0 0)), (.sc (.slice none 0 0)), (.sc (.int .i64 (0))), (.sc (.int .i64 (0))), (.sc (.int .i64 (0))), (.sc (.int .i64 (0)))] [(0, (1, (.c (.sc (.int .i64 (1)))))), (2, (2, (.t 5))), (4, (2, (.t 6))), (7, (1, (.t 10))), (9, (1, (.c (.sc (.int .i64 (1)))))), (10, (1, (.c (.sc (.int .i64 (3)))))), (11, (1, (.c (.sc (.int .i64 (1)))))), (12, (1, (.c (.sc (.int .i64 (33))))))])⟩,
  ⟨none, none, (.store 13 (.t 0) (.t 11))⟩] none) .ret)))
theorem good24 {args : List PV} {r : PV} (hl : args.length ≤ 12) (h : Run Try.prog [.code ac24] (endQ [(.c 0 13 true)] r) ⟨initT 0 args, [], 0, 12⟩) : Good Try.prog 24 args r :=
  good_run (by kernel_rfl) Hamix Try.func24 rfl (hs := []) (hs' := []) (by kernel_rfl) hl h
def ac25 : ACode :=
 (.seq (.reg [⟨(some 6), none, (.mv (.c (.sc (.bool false))))⟩] none)
 (.seq (.reg [⟨(some 7), none, (.mv (.t 1))⟩,
  ⟨(some 8), none, (.mv (.t 0))⟩,
  ⟨(some 9), none, (.bin .leq (.t 7) (.t 8))⟩,
  ⟨(some 10), none, (.mv (.t 9))⟩,
  ⟨(some 11), (some (10, true)), (.mv (.t 0))⟩,
  ⟨(some 12), (some (10, true)), (.mv (.t 2))⟩,
  ⟨(some 13), (some (10, true)), (.bin .leq (.t 11) (.t 12))⟩,
  ⟨(some 14), none, (.pick (.t 10) (.t 13) (.c (.sc (.bool false))))⟩,
  ⟨(some 6), none, (.mv (.t 14))⟩] none) .ret))
theorem good25 {args : List PV} {r : PV} (hl : args.length ≤ 15) (h : Run Try.prog [.code ac25] (endQ [(.t 6)] r) ⟨initT 0 args, [], 0, 15⟩) : Good Try.prog 25 args r :=
  good_run (by kernel_rfl) Hamix Try.func25 rfl (hs := []) (hs' := []) (by kernel_rfl) hl h
def ac26 : ACode :=
 (.seq (.reg [⟨(some 2), none, (.mv (.c (.sc (.bool false))))⟩] none)
 (.seq (.reg [⟨(some 3), none, (.mv (.t 0))⟩,
  ⟨(some 4), none, (.call 25 [(.t 3), (.c (.sc (.int .i64 (0)))), (.c (.sc (.int .i64 (1000000))))])⟩,
  ⟨(some 5), none, (.un .not (.t 4))⟩,
  ⟨(some 2), none, (.mv (.t 5))⟩] none) .ret))
theorem good26 {args : List PV} {r : PV} (hl : args.length ≤ 6) (h : Run Try.prog [.code ac26] (endQ [(.t 2)] r) ⟨initT 0 args, [], 0, 6⟩) : Good Try.prog 26 args r :=
  good_run (by kernel_rfl) Hamix Try.func26 rfl (hs := []) (hs' := []) (by kernel_rfl) hl h
def ac27 : ACode :=
 (.seq (.reg [⟨(some 4), none, (.mv (.c (.sc (.bool false))))⟩] none)
 (.seq (.reg [⟨(some 5), none, (.mv (.t 0))⟩,
  ⟨(some 6), none, (.mv (.t 1))⟩,
  ⟨(some 7), none, (.call 39 [(.t 5), (.t 6)])⟩,
  ⟨(some 8), none, (.bin .geq (.t 7) (.c (.sc (.int .i64 (0)))))⟩,
  ⟨(some 4), none, (.mv (.t 8))⟩] none) .ret))
theorem good27 {args : List PV} {r : PV} (hl : args.length ≤ 9) (h : Run Try.prog [.code ac27] (endQ [(.t 4)] r) ⟨initT 0 args, [], 0, 9⟩) : Good Try.prog 27 args r :=
  good_run (by kernel_rfl) Hamix Try.func27 rfl (hs := []) (hs' := []) (by kernel_rfl) hl h
def ac28 : ACode :=
 (.seq (.reg [⟨(some 2), none, (.mv (.c (.sc (.bool false))))⟩] none)
 (.seq (.seq (.reg [⟨(some 3), none, (.mv (.c (.sc (.int .i64 (0)))))⟩] none) (.block 0 
 (.loop ⟨[0, 3], []⟩
 (.seq (.seq (.reg [⟨(some 4), none, (.mv (.t 3))⟩,
  ⟨(some 5), none, (.mv (.t 0))⟩,
  ⟨(some 6), none, (.len (.t 5))⟩,
  ⟨(some 7), none, (.bin .lss (.t 4) (.t 6))⟩] none)
 (.cond (.t 7) .skip (.exit 0)))
 (.seq (.block 1
 (.seq (.reg [⟨(some 10), none, (.mv (.t 0))⟩,
  ⟨(some 11), none, (.mv (.t 3))⟩,
  ⟨(some 12), none, (.iaddr 1 (.t 10) (.t 11))⟩,
  ⟨(some 13), none, (.load 1 false (.t 12))⟩,
  ⟨(some 14), none, (.bin .lss (.t 13) (.c (.sc (.int .i64 (0)))))⟩,
  ⟨(some 15), none, (.mv (.t 14))⟩,
  ⟨(some 16), (some (15, false)), (.mv (.t 0))⟩,
  ⟨(some 17), (some (15, false)), (.mv (.t 3))⟩,
  ⟨(some 18), (some (15, false)), (.iaddr 1 (.t 16) (.t 17))⟩,
  ⟨(some 19), (some (15, false)), (.load 1 false (.t 18))⟩,
  ⟨(some 20), (some (15, false)), (.bin .gtr (.t 19) (.c (.sc (.int .i64 (1000000)))))⟩,
  ⟨(some 21), none, (.pick (.t 15) (.c (.sc (.bool true))) (.t 20))⟩] none)
 (.cond (.t 21)
 (.seq (.reg [⟨(some 2), none, (.mv (.c (.sc (.bool false))))⟩] none) .ret) .skip))) (.reg [⟨(some 8), none, (.mv (.t 3))⟩,
  ⟨(some 9), none, (.bin .add (.t 8) (.c (.sc (.int .i64 (1)))))⟩,
  ⟨(some 3), none, (.mv (.t 9))⟩] none))))))
 (.seq (.reg [⟨(some 2), none, (.mv (.c (.sc (.bool true))))⟩] none) .ret)))
theorem good28 {args : List PV} {r : PV} (hl : args.length ≤ 22) (h : Run Try.prog [.code ac28] (endQ [(.t 2)] r) ⟨initT 0 args, [], 0, 22⟩) : Good Try.prog 28 args r :=
  good_run (by kernel_rfl) Hamix Try.func28 rfl (hs := [⟨[0, 3], []⟩]) (hs' := []) (by kernel_rfl) hl h
def ac30 : ACode :=
 (.seq (.reg [⟨(some 8), none, (.mv (.c (.sc (.int .i64 (0)))))⟩] none)
 (.seq (.seq (.reg [⟨(some 11), none, (.mv (.t 2))⟩,
  ⟨(some 12), none, (.bin .lss (.t 11) (.c (.sc (.int .i64 (0)))))⟩,
  ⟨(some 13), none, (.mv (.t 12))⟩,
  ⟨(some 14), (some (13, false)), (.mv (.t 2))⟩,
  ⟨(some 15), (some (13, false)), (.bin .quo (.t 14) (.c (.sc (.int .i64 (32)))))⟩,
  ⟨(some 16), (some (13, false)), (.mv (.t 1))⟩,
  ⟨(some 17), (some (13, false)), (.bin .geq (.t 15) (.t 16))⟩,
  ⟨(some 18), none, (.pick (.t 13) (.c (.sc (.bool true))) (.t 17))⟩] none)
 (.cond (.t 18)
 (.seq (.reg [⟨(some 8), none, (.mv (.c (.sc (.int .i64 (7)))))⟩] none) .ret) .skip))
 (.seq (.reg [⟨(some 20), none, (.mv (.t 3))⟩,
  ⟨(some 21), none, (.call 43 [(.t 20)])⟩,
  ⟨(some 19), none, (.mv (.t 21))⟩,
  ⟨(some 22), none, (.ext 0 (.t 19))⟩,
  ⟨(some 23), none, (.ext 1 (.t 19))⟩,
  ⟨(some 9), none, (.mv (.t 22))⟩,
  ⟨(some 10), none, (.mv (.t 23))⟩] none)
 (.seq (.seq (.reg [⟨(some 24), none, (.mv (.t 10))⟩,
  ⟨(some 25), none, (.bin .neq (.t 24) (.c (.sc (.int .i64 (0)))))⟩] none)
 (.cond (.t 25)
 (.seq (.reg [⟨(some 26), none, (.mv (.t 10))⟩,
  ⟨(some 8), none, (.mv (.t 26))⟩] none) .ret) .skip))
 (.seq (.reg [⟨(some 27), none, (.mv (.t 0))⟩,
  ⟨(some 28), none, (.mv (.t 2))⟩,
  ⟨(some 29), none, (.bin .quo (.t 28) (.c (.sc (.int .i64 (32)))))⟩,
  ⟨(some 30), none, (.call 35 [(.t 27), (.t 29)])⟩,
  ⟨(some 31), none, (.mv (.t 9))⟩,
  ⟨(some 32), none, (.iaddr 1 (.t 30) (.t 31))⟩,
  ⟨(some 33), none, (.load 1 false (.t 32))⟩,
  ⟨(some 34), none, (.bin .add (.t 33) (.c (.sc (.int .i64 (1)))))⟩,
  ⟨(some 35), none, (.iaddr 1 (.t 30) (.t 31))⟩,
  ⟨none, none, (.store 1 (.t 35) (.t 34))⟩] none)
 (.seq (.reg [⟨(some 8), none, (.mv (.c (.sc (.int .i64 (0)))))⟩] none) .ret))))))
theorem good30 {args : List PV} {r : PV} (hl : args.length ≤ 36) (h : Run Try.prog [.code ac30] (endQ [(.t 8)] r) ⟨initT 0 args, [], 0, 36⟩) : Good Try.prog 30 args r :=
  good_run (by kernel_rfl) Hamix Try.func30 rfl (hs := []) (hs' := []) (by kernel_rfl) hl h
def ac31 : ACode :=
 (.seq (.reg [⟨(some 4), none, (.mv (.c (.sc (.bool false))))⟩] none)
 (.seq (.reg [⟨(some 5), none, (.mv (.t 1))⟩,
  ⟨(some 6), none, (.bin .geq (.t 5) (.c (.sc (.int .i64 (0)))))⟩,
  ⟨(some 7), none, (.mv (.t 6))⟩,
  ⟨(some 8), (some (7, true)), (.mv (.t 1))⟩,
  ⟨(some 9), (some (7, true)), (.bin .quo (.t 8) (.c (.sc (.int .i64 (32)))))⟩,
  ⟨(some 10), (some (7, true)), (.mv (.t 0))⟩,
  ⟨(some 11), (some (7, true)), (.bin .lss (.t 9) (.t 10))⟩,
  ⟨(some 12), none, (.pick (.t 7) (.t 11) (.c (.sc (.bool false))))⟩,
  ⟨(some 4), none, (.mv (.t 12))⟩] none) .ret))
theorem good31 {args : List PV} {r : PV} (hl : args.length ≤ 13) (h : Run Try.prog [.code ac31] (endQ [(.t 4)] r) ⟨initT 0 args, [], 0, 13⟩) : Good Try.prog 31 args r :=
  good_run (by kernel_rfl) Hamix Try.func31 rfl (hs := []) (hs' := []) (by kernel_rfl) hl h
def ac32 : ACode :=
 (.seq (.reg [⟨(some 2), none, (.mv (.c (.sc (.int .i64 (0)))))⟩,
  ⟨(some 3), none, (.mv (.c (.sc (.int .i64 (0)))))⟩] none)
 (.seq (.seq (.reg [⟨(some 4), none, (.mv (.t 0))⟩,
  ⟨(some 5), none, (.bin .lss (.t 4) (.c (.sc (.int .i64 (0)))))⟩,
  ⟨(some 6), none, (.mv (.t 5))⟩,
  ⟨(some 7), (some (6, false)), (.mv (.t 0))⟩,
  ⟨(some 8), (some (6, false)), (.bin .gtr (.t 7) (.c (.sc (.int .i64 (4294943999)))))⟩,
  ⟨(some 9), none, (.pick (.t 6) (.c (.sc (.bool true))) (.t 8))⟩] none)
 (.cond (.t 9)
 (.seq (.reg [⟨(some 2), none, (.mv (.c (.sc (.int .i64 (0)))))⟩,
  ⟨(some 3), none, (.mv (.c (.sc (.int .i64 (1)))))⟩] none) .ret) .skip))
 (.seq (.reg [⟨(some 10), none, (.mv (.t 0))⟩,
  ⟨(some 11), none, (.bin .quo (.t 10) (.c (.sc (.int .i64 (86400)))))⟩,
  ⟨(some 12), none, (.bin .rem (.t 11) (.c (.sc (.int .i64 (7)))))⟩,
  ⟨(some 13), none, (.bin .mul (.t 12) (.c (.sc (.int .i64 (24)))))⟩,
  ⟨(some 14), none, (.mv (.t 0))⟩,
  ⟨(some 15), none, (.bin .rem (.t 14) (.c (.sc (.int .i64 (86400)))))⟩,
  ⟨(some 16), none, (.bin .quo (.t 15) (.c (.sc (.int .i64 (3600)))))⟩,
  ⟨(some 17), none, (.bin .add (.t 13) (.t 16))⟩,
  ⟨(some 2), none, (.mv (.t 17))⟩,
  ⟨(some 3), none, (.mv (.c (.sc (.int .i64 (0)))))⟩] none) .ret)))
theorem good32 {args : List PV} {r : PV} (hl : args.length ≤ 18) (h : Run Try.prog [.code ac32] (endQ [(.t 2), (.t 3)] r) ⟨initT 0 args, [], 0, 18⟩) : Good Try.prog 32 args r :=
  good_run (by kernel_rfl) Hamix Try.func32 rfl (hs := []) (hs' := []) (by kernel_rfl) hl h
def ac33 : ACode :=
 (.seq (.reg [⟨(some 4), none, (.mv (.c (.sc (.bool false))))⟩] none)
 (.seq (.seq (.reg [⟨(some 6), none, (.mv (.t 0))⟩,
  ⟨(some 7), none, (.len (.t 6))⟩,
  ⟨(some 8), none, (.mv (.t 1))⟩,
  ⟨(some 9), none, (.len (.t 8))⟩,
  ⟨(some 10), none, (.bin .neq (.t 7) (.t 9))⟩] none)
 (.cond (.t 10)
 (.seq (.reg [⟨(some 4), none, (.mv (.c (.sc (.bool false))))⟩] none) .ret) .skip))
 (.seq (.seq (.reg [⟨(some 5), none, (.mv (.c (.sc (.int .i64 (0)))))⟩] none) (.block 0 
 (.loop ⟨[0, 1, 5], []⟩
 (.seq (.seq (.reg [⟨(some 11), none, (.mv (.t 5))⟩,
  ⟨(some 12), none, (.mv (.t 0))⟩,
  ⟨(some 13), none, (.len (.t 12))⟩,
  ⟨(some 14), none, (.bin .lss (.t 11) (.t 13))⟩] none)
 (.cond (.t 14) .skip (.exit 0)))
 (.seq (.block 1
 (.seq (.reg [⟨(some 17), none, (.mv (.t 0))⟩,
  ⟨(some 18), none, (.mv (.t 5))⟩,
  ⟨(some 19), none, (.iaddr 1 (.t 17) (.t 18))⟩,
  ⟨(some 20), none, (.load 1 false (.t 19))⟩,
  ⟨(some 21), none, (.mv (.t 1))⟩,
  ⟨(some 22), none, (.mv (.t 5))⟩,
  ⟨(some 23), none, (.iaddr 1 (.t 21) (.t 22))⟩,
  ⟨(some 24), none, (.load 1 false (.t 23))⟩,
  ⟨(some 25), none, (.bin .neq (.t 20) (.t 24))⟩] (some [[], [], [0, 1], [2, 0, 1], [], [], [4, 5], [6, 4, 5], [3, 7, 2, 0, 1, 6, 4, 5]]))
 (.cond (.t 25)
 (.seq (.reg [⟨(some 4), none, (.mv (.c (.sc (.bool false))))⟩] none) .ret) .skip))) (.reg [⟨(some 15), none, (.mv (.t 5))⟩,
  ⟨(some 16), none, (.bin .add (.t 15) (.c (.sc (.int .i64 (1)))))⟩,
  ⟨(some 5), none, (.mv (.t 16))⟩] none))))))
 (.seq (.reg [⟨(some 4), none, (.mv (.c (.sc (.bool true))))⟩] none) .ret))))
theorem good33 {args : List PV} {r : PV} (hl : args.length ≤ 26) (h : Run Try.prog [.code ac33] (endQ [(.t 4)] r) ⟨initT 0 args, [], 0, 26⟩) : Good Try.prog 33 args r :=
  good_run (by kernel_rfl) Hamix Try.func33 rfl (hs := [⟨[0, 1, 5], []⟩]) (hs' := []) (by kernel_rfl) hl h
def ac34 : ACode :=
 (.seq (.reg [⟨(some 4), none, (.mv (.c (.sc (.slice none 0 0))))⟩,
  ⟨(some 5), none, (.mv (.c (.sc (.int .i64 (0)))))⟩] none)
 (.seq (.reg [⟨(some 9), none, (.mv (.t 0))⟩,
  ⟨(some 10), none, (.call 44 [(.t 9)])⟩,
  ⟨(some 6), none, (.mv (.t 10))⟩] none)
 (.seq (.seq (.reg [⟨(some 11), none, (.mv (.t 1))⟩,
  ⟨(some 12), none, (.len (.t 11))⟩,
  ⟨(some 13), none, (.mv (.c (.sc (.int .i64 (0)))))⟩] none) (.block 0 
 (.loop ⟨[6, 11, 12, 13], []⟩
 (.seq (.reg [⟨(some 14), none, (.bin .lss (.t 13) (.t 12))⟩] none)
 (.seq
 (.cond (.t 14) .skip (.exit 0))
 (.seq (.block 1
 (.seq (.reg [⟨(some 15), none, (.mv (.t 13))⟩,
  ⟨(some 16), none, (.iaddr 1 (.t 11) (.t 13))⟩,
  ⟨(some 17), none, (.load 1 false (.t 16))⟩,
  ⟨(some 7), none, (.mv (.t 15))⟩,
  ⟨(some 8), none, (.mv (.t 17))⟩] none)
 (.seq (.reg [⟨(some 18), none, (.mv (.t 6))⟩,
  ⟨(some 19), none, (.mv (.t 7))⟩,
  ⟨(some 20), none, (.iaddr 1 (.t 18) (.t 19))⟩,
  ⟨(some 21), none, (.load 1 false (.t 20))⟩,
  ⟨(some 22), none, (.mv (.t 8))⟩,
  ⟨(some 23), none, (.bin .add (.t 21) (.t 22))⟩,
  ⟨(some 24), none, (.iaddr 1 (.t 18) (.t 19))⟩,
  ⟨none, none, (.store 1 (.t 24) (.t 23))⟩] none)
 (.seq (.reg [⟨(some 25), none, (.mv (.t 6))⟩,
  ⟨(some 26), none, (.mv (.t 7))⟩,
  ⟨(some 27), none, (.iaddr 1 (.t 25) (.t 26))⟩,
  ⟨(some 28), none, (.load 1 false (.t 27))⟩,
  ⟨(some 29), none, (.bin .gtr (.t 28) (.c (.sc (.int .i64 (1000000)))))⟩] none)
 (.cond (.t 29)
 (.seq (.reg [⟨(some 4), none, (.mv (.c (.sc (.slice none 0 0))))⟩,
  ⟨(some 5), none, (.mv (.c (.sc (.int .i64 (2)))))⟩] none) .ret) .skip))))) (.reg [⟨(some 30), none, (.bin .add (.t 13) (.c (.sc (.int .i64 (1)))))⟩,
  ⟨(some 13), none, (.mv (.t 30))⟩] none)))))))
 (.seq (.reg [⟨(some 31), none, (.mv (.t 6))⟩,
  ⟨(some 4), none, (.mv (.t 31))⟩,
  ⟨(some 5), none, (.mv (.c (.sc (.int .i64 (0)))))⟩] none) .ret))))
theorem good34 {args : List PV} {r : PV} (hl : args.length ≤ 32) (h : Run Try.prog [.code ac34] (endQ [(.t 4), (.t 5)] r) ⟨initT 0 args, [], 0, 32⟩) : Good Try.prog 34 args r :=
  good_run (by kernel_rfl) Hamix Try.func34 rfl (hs := [⟨[6, 11, 12, 13], []⟩]) (hs' := []) (by kernel_rfl) hl h
def ac35 : ACode :=
 (.seq (.reg [⟨(some 4), none, (.mv (.c (.sc (.slice none 0 0))))⟩] none)
 (.seq (.reg [⟨(some 7), none, (.mv (.t 1))⟩,
  ⟨(some 8), none, (.bin .mul (.t 7) (.c (.sc (.int .i64 (168)))))⟩,
  ⟨(some 9), none, (.mv (.t 1))⟩,
  ⟨(some 10), none, (.bin .add (.t 9) (.c (.sc (.int .i64 (1)))))⟩,
  ⟨(some 11), none, (.bin .mul (.t 10) (.c (.sc (.int .i64 (168)))))⟩,
  ⟨(some 5), none, (.mv (.t 8))⟩,
  ⟨(some 6), none, (.mv (.t 11))⟩] none)
 (.seq (.reg [⟨(some 12), none, (.mv (.t 0))⟩,
  ⟨(some 13), none, (.mv (.t 5))⟩,
  ⟨(some 14), none, (.mv (.t 6))⟩,
  ⟨(some 15), none, (.mv (.t 6))⟩,
  ⟨(some 16), none, (.slice 1 (.t 12) (some (.t 13)) (some (.t 14)) (some (.t 15)))⟩,
  ⟨(some 4), none, (.mv (.t 16))⟩] none) .ret)))
theorem good35 {args : List PV} {r : PV} (hl : args.length ≤ 17) (h : Run Try.prog [.code ac35] (endQ [(.t 4)] r) ⟨initT 0 args, [], 0, 17⟩) : Good Try.prog 35 args r :=
  good_run (by kernel_rfl) Hamix Try.func35 rfl (hs := []) (hs' := []) (by kernel_rfl) hl h
def ac39 : ACode :=
 (.seq (.reg [⟨(some 4), none, (.mv (.c (.sc (.int .i64 (0)))))⟩] none)
 (.seq (.seq (.reg [⟨(some 6), none, (.mv (.t 0))⟩,
  ⟨(some 7), none, (.len (.t 6))⟩,
  ⟨(some 8), none, (.mv (.c (.sc (.int .i64 (0)))))⟩] none) (.block 0 
 (.loop ⟨[0, 1, 7, 8], []⟩
 (.seq (.reg [⟨(some 9), none, (.bin .lss (.t 8) (.t 7))⟩] none)
 (.seq
 (.cond (.t 9) .skip (.exit 0))
 (.seq (.block 1
 (.seq (.reg [⟨(some 10), none, (.mv (.t 8))⟩,
  ⟨(some 5), none, (.mv (.t 10))⟩] none)
 (.seq (.reg [⟨(some 11), none, (.mv (.t 1))⟩,
  ⟨(some 12), none, (.mv (.t 0))⟩,
  ⟨(some 13), none, (.mv (.t 5))⟩,
  ⟨(some 14), none, (.iaddr 1 (.t 12) (.t 13))⟩,
  ⟨(some 15), none, (.load 1 false (.t 14))⟩,
  ⟨(some 16), none, (.callv (.t 11) [(.t 15)])⟩] none)
 (.cond (.t 16)
 (.seq (.reg [⟨(some 17), none, (.mv (.t 5))⟩,
  ⟨(some 4), none, (.mv (.t 17))⟩] none) .ret) .skip)))) (.reg [⟨(some 18), none, (.bin .add (.t 8) (.c (.sc (.int .i64 (1)))))⟩,
  ⟨(some 8), none, (.mv (.t 18))⟩] none)))))))
 (.seq (.reg [⟨(some 4), none, (.mv (.c (.sc (.int .i64 (-1)))))⟩] none) .ret)))
theorem good39 {args : List PV} {r : PV} (hl : args.length ≤ 19) (h : Run Try.prog [.code ac39] (endQ [(.t 4)] r) ⟨initT 0 args, [], 0, 19⟩) : Good Try.prog 39 args r :=
  good_run (by kernel_rfl) Hamix Try.func39 rfl (hs := [⟨[0, 1, 7, 8], []⟩]) (hs' := []) (by kernel_rfl) hl h
def ac43 : ACode :=
 (.seq (.reg [⟨(some 2), none, (.mv (.c (.sc (.int .i64 (0)))))⟩,
  ⟨(some 3), none, (.mv (.c (.sc (.int .i64 (0)))))⟩] none)
 (.seq (.seq (.reg [⟨(some 4), none, (.mv (.t 0))⟩,
  ⟨(some 5), none, (.call 48 [(.t 4)])⟩,
  ⟨(some 6), none, (.un .not (.t 5))⟩] none)
 (.cond (.t 6)
 (.seq (.reg [⟨(some 2), none, (.mv (.c (.sc (.int .i64 (0)))))⟩,
  ⟨(some 3), none, (.mv (.c (.sc (.int .i64 (1)))))⟩] none) .ret) .skip))
 (.seq (.reg [⟨(some 7), none, (.mv (.t 0))⟩,
  ⟨(some 8), none, (.bin .quo (.t 7) (.c (.sc (.int .i64 (3600)))))⟩,
  ⟨(some 9), none, (.bin .rem (.t 8) (.c (.sc (.int .i64 (168)))))⟩,
  ⟨(some 2), none, (.mv (.t 9))⟩,
  ⟨(some 3), none, (.mv (.c (.sc (.int .i64 (0)))))⟩] none) .ret)))
theorem good43 {args : List PV} {r : PV} (hl : args.length ≤ 10) (h : Run Try.prog [.code ac43] (endQ [(.t 2), (.t 3)] r) ⟨initT 0 args, [], 0, 10⟩) : Good Try.prog 43 args r :=
  good_run (by kernel_rfl) Hamix Try.func43 rfl (hs := []) (hs' := []) (by kernel_rfl) hl h
def ac44 : ACode :=
 (.seq (.reg [⟨(some 2), none, (.mv (.c (.sc (.slice none 0 0))))⟩] none)
 (.seq (.seq (.reg [⟨(some 3), none, (.mv (.t 0))⟩,
  ⟨(some 4), none, (.bin .eql (.t 3) (.c (.sc (.slice none 0 0))))⟩] none)
 (.cond (.t 4)
 (.seq (.reg [⟨(some 2), none, (.mv (.c (.sc (.slice none 0 0))))⟩] none) .ret) .skip))
 (.seq (.reg [⟨(some 5), none, (.bslice 3 1 [])⟩,
  ⟨(some 6), none, (.mv (.t 0))⟩,
  ⟨(some 7), none, (.append 3 1 8 (.t 5) (.t 6))⟩,
  ⟨(some 2), none, (.mv (.t 7))⟩] none) .ret)))
theorem good44 {args : List PV} {r : PV} (hl : args.length ≤ 8) (h : Run Try.prog [.code ac44] (endQ [(.t 2)] r) ⟨initT 0 args, [], 0, 8⟩) : Good Try.prog 44 args r :=
  good_run (by kernel_rfl) Hamix Try.func44 rfl (hs := []) (hs' := []) (by kernel_rfl) hl h
def ac48 : ACode :=
 (.seq (.reg [⟨(some 2), none, (.mv (.c (.sc (.bool false))))⟩] none)
 (.seq (.reg [⟨(some 3), none, (.mv (.t 0))⟩,
  ⟨(some 4), none, (.bin .leq (.c (.sc (.int .i64 (0)))) (.t 3))⟩,
  ⟨(some 5), none, (.mv (.t 4))⟩,
  ⟨(some 6), (some (5, true)), (.mv (.t 0))⟩,
  ⟨(some 7), (some (5, true)), (.bin .leq (.t 6) (.c (.sc (.int .i64 (4294943999)))))⟩,
  ⟨(some 8), none, (.pick (.t 5) (.t 7) (.c (.sc (.bool false))))⟩,
  ⟨(some 2), none, (.mv (.t 8))⟩] none) .ret))
theorem good48 {args : List PV} {r : PV} (hl : args.length ≤ 9) (h : Run Try.prog [.code ac48] (endQ [(.t 2)] r) ⟨initT 0 args, [], 0, 9⟩) : Good Try.prog 48 args r :=
  good_run (by kernel_rfl) Hamix Try.func48 rfl (hs := []) (hs' := []) (by kernel_rfl) hl h
end Go.Proofs.Ytjobpjhmdbmdgaa
