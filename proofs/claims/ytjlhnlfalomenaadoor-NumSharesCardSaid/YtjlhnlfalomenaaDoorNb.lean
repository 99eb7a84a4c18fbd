/-
  The translated codes of functions, checked by the kernel.
-/
import Derived.Test.YtjlhnlfalomenaaDoorKc
import Derived.KernelRfl
namespace Go.Proofs.YtjlhnlfalomenaaDoor
set_option linter.unusedVariables false
set_option linter.unusedSimpArgs false
set_option linter.unnecessarySimpa false
theorem Nbmix : Tryd.prog.follows .mixedOrders = true := by kernel_rfl
def ac17 : ACode :=
 (.seq (.reg [⟨(some 0), none, (.mv (.c (.sc (.bool false))))⟩] none)
 (.seq (.reg [⟨(some 20), none, (.call 13 [(.c (.sc (.int .i64 (3)))), (.c (.sc (.int .i64 (-5))))])⟩,
  ⟨(some 19), none, (.mv (.t 20))⟩,
  ⟨(some 21), none, (.ext 0 (.t 19))⟩,
  ⟨(some 22), none, (.ext 1 (.t 19))⟩,
  ⟨(some 1), none, (.mv (.t 21))⟩,
  ⟨(some 2), none, (.mv (.t 22))⟩] none)
 (.seq (.reg [⟨(some 24), none, (.call 13 [(.c (.sc (.int .i64 (1125899906842624)))), (.c (.sc (.int .i64 (1))))])⟩,
  ⟨(some 23), none, (.mv (.t 24))⟩,
  ⟨(some 25), none, (.ext 0 (.t 23))⟩,
  ⟨(some 26), none, (.ext 1 (.t 23))⟩,
  ⟨(some 3), none, (.mv (.t 25))⟩,
  ⟨(some 4), none, (.mv (.t 26))⟩] none)
 (.seq (.reg [⟨(some 28), none, (.call 15 [(.c (.sc (.int .i64 (6)))), (.c (.sc (.int .i64 (-7))))])⟩,
  ⟨(some 27), none, (.mv (.t 28))⟩,
  ⟨(some 29), none, (.ext 0 (.t 27))⟩,
  ⟨(some 30), none, (.ext 1 (.t 27))⟩,
  ⟨(some 5), none, (.mv (.t 29))⟩,
  ⟨(some 6), none, (.mv (.t 30))⟩] none)
 (.seq (.reg [⟨(some 32), none, (.call 20 [(.c (.sc (.int .i64 (7)))), (.c (.sc (.int .i64 (3)))), (.c (.sc (.int .i64 (2))))])⟩,
  ⟨(some 31), none, (.mv (.t 32))⟩,
  ⟨(some 33), none, (.ext 0 (.t 31))⟩,
  ⟨(some 34), none, (.ext 1 (.t 31))⟩,
  ⟨(some 7), none, (.mv (.t 33))⟩,
  ⟨(some 8), none, (.mv (.t 34))⟩] none)
 (.seq (.reg [⟨(some 36), none, (.call 22 [(.c (.sc (.int .i64 (-5)))), (.c (.sc (.int .i64 (2))))])⟩,
  ⟨(some 35), none, (.mv (.t 36))⟩,
  ⟨(some 37), none, (.ext 0 (.t 35))⟩,
  ⟨(some 38), none, (.ext 1 (.t 35))⟩,
  ⟨(some 9), none, (.mv (.t 37))⟩,
  ⟨(some 10), none, (.mv (.t 38))⟩] none)
 (.seq (.reg [⟨(some 40), none, (.bslice 3 1 [(.c (.sc (.int .i64 (5)))), (.c (.sc (.int .i64 (0)))), (.c (.sc (.int .i64 (2)))), (.c (.sc (.int .i64 (3))))])⟩,
  ⟨(some 41), none, (.call 26 [(.c (.sc (.int .i64 (7)))), (.t 40)])⟩,
  ⟨(some 39), none, (.mv (.t 41))⟩,
  ⟨(some 42), none, (.ext 0 (.t 39))⟩,
  ⟨(some 43), none, (.ext 1 (.t 39))⟩,
  ⟨(some 11), none, (.mv (.t 42))⟩,
  ⟨(some 12), none, (.mv (.t 43))⟩] none)
 (.seq (.reg [⟨(some 45), none, (.call 31 [(.c (.sc (.int .i64 (-5)))), (.c (.sc (.int .i64 (2))))])⟩,
  ⟨(some 44), none, (.mv (.t 45))⟩,
  ⟨(some 46), none, (.ext 0 (.t 44))⟩,
  ⟨(some 47), none, (.ext 1 (.t 44))⟩,
  ⟨(some 13), none, (.mv (.t 46))⟩,
  ⟨(some 14), none, (.mv (.t 47))⟩] none)
 (.seq (.reg [⟨(some 49), none, (.call 33 [(.c (.sc (.string ⟨#[49, 50, 46, 51, 52]⟩))), (.c (.sc (.int .i64 (2))))])⟩,
  ⟨(some 48), none, (.mv (.t 49))⟩,
  ⟨(some 50), none, (.ext 0 (.t 48))⟩,
  ⟨(some 51), none, (.ext 1 (.t 48))⟩,
  ⟨(some 15), none, (.mv (.t 50))⟩,
  ⟨(some 16), none, (.mv (.t 51))⟩] none)
 (.seq (.reg [⟨(some 53), none, (.bslice 3 1 [(.c (.sc (.int .i64 (1125899906842624)))), (.c (.sc (.int .i64 (1)))), (.c (.sc (.int .i64 (-1))))])⟩,
  ⟨(some 54), none, (.call 18 [(.t 53)])⟩,
  ⟨(some 52), none, (.mv (.t 54))⟩,
  ⟨(some 55), none, (.ext 0 (.t 52))⟩,
  ⟨(some 56), none, (.ext 1 (.t 52))⟩,
  ⟨(some 17), none, (.mv (.t 55))⟩,
  ⟨(some 18), none, (.mv (.t 56))⟩] none)
 (.seq (.seq (.reg [⟨(some 57), none, (.mv (.t 2))⟩,
  ⟨(some 58), none, (.bin .neq (.t 57) (.c (.sc (.int .i64 (0)))))⟩,
  ⟨(some 59), none, (.mv (.t 58))⟩,
  ⟨(some 60), (some (59, false)), (.mv (.t 4))⟩,
  ⟨(some 61), (some (59, false)), (.bin .neq (.t 60) (.c (.sc (.int .i64 (2)))))⟩,
  ⟨(some 62), none, (.pick (.t 59) (.c (.sc (.bool true))) (.t 61))⟩,
  ⟨(some 63), none, (.mv (.t 62))⟩,
  ⟨(some 64), (some (63, false)), (.mv (.t 6))⟩,
  ⟨(some 65), (some (63, false)), (.bin .neq (.t 64) (.c (.sc (.int .i64 (0)))))⟩,
  ⟨(some 66), none, (.pick (.t 63) (.c (.sc (.bool true))) (.t 65))⟩,
  ⟨(some 67), none, (.mv (.t 66))⟩,
  ⟨(some 68), (some (67, false)), (.mv (.t 8))⟩,
  ⟨(some 69), (some (67, false)), (.bin .neq (.t 68) (.c (.sc (.int .i64 (0)))))⟩,
  ⟨(some 70), none, (.pick (.t 67) (.c (.sc (.bool true))) (.t 69))⟩,
  ⟨(some 71), none, (.mv (.t 70))⟩,
  ⟨(some 72), (some (71, false)), (.mv (.t 10))⟩,
  ⟨(some 73), (some (71, false)), (.bin .neq (.t 72) (.c (.sc (.int .i64 (0)))))⟩,
  ⟨(some 74), none, (.pick (.t 71) (.c (.sc (.bool true))) (.t 73))⟩,
  ⟨(some 75), none, (.mv (.t 74))⟩,
  ⟨(some 76), (some (75, false)), (.mv (.t 12))⟩,
  ⟨(some 77), (some (75, false)), (.bin .neq (.t 76) (.c (.sc (.int .i64 (0)))))⟩,
  ⟨(some 78), none, (.pick (.t 75) (.c (.sc (.bool true))) (.t 77))⟩,
  ⟨(some 79), none, (.mv (.t 78))⟩,
  ⟨(some 80), (some (79, false)), (.mv (.t 14))⟩,
  ⟨(some 81), (some (79, false)), (.bin .neq (.t 80) (.c (.sc (.int .i64 (0)))))⟩,
  ⟨(some 82), none, (.pick (.t 79) (.c (.sc (.bool true))) (.t 81))⟩,
  ⟨(some 83), none, (.mv (.t 82))⟩,
  ⟨(some 84), (some (83, false)), (.mv (.t 16))⟩,
  ⟨(some 85), (some (83, false)), (.bin .neq (.t 84) (.c (.sc (.int .i64 (0)))))⟩,
  ⟨(some 86), none, (.pick (.t 83) (.c (.sc (.bool true))) (.t 85))⟩,
  ⟨(some 87), none, (.mv (.t 86))⟩,
  ⟨(some 88), (some (87, false)), (.mv (.t 18))⟩,
  ⟨(some 89), (some (87, false)), (.bin .neq (.t 88) (.c (.sc (.int .i64 (0)))))⟩,
  ⟨(some 90), none, (.pick (.t 87) (.c (.sc (.bool true))) (.t 89))⟩] none)
 (.cond (.t 90)
 (.seq (.reg [⟨(some 0), none, (.mv (.c (.sc (.bool false))))⟩] none) .ret) .skip))
 (.seq (.reg [⟨(some 91), none, (.mv (.t 1))⟩,
  ⟨(some 92), none, (.bin .eql (.t 91) (.c (.sc (.int .i64 (-2)))))⟩,
  ⟨(some 93), none, (.mv (.t 92))⟩,
  ⟨(some 94), (some (93, true)), (.mv (.t 5))⟩,
  ⟨(some 95), (some (93, true)), (.bin .eql (.t 94) (.c (.sc (.int .i64 (-42)))))⟩,
  ⟨(some 96), none, (.pick (.t 93) (.t 95) (.c (.sc (.bool false))))⟩,
  ⟨(some 97), none, (.mv (.t 96))⟩,
  ⟨(some 98), (some (97, true)), (.mv (.t 7))⟩,
  ⟨(some 99), (some (97, true)), (.bin .eql (.t 98) (.c (.sc (.int .i64 (10)))))⟩,
  ⟨(some 100), none, (.pick (.t 97) (.t 99) (.c (.sc (.bool false))))⟩,
  ⟨(some 101), none, (.mv (.t 100))⟩,
  ⟨(some 102), (some (101, true)), (.mv (.t 9))⟩,
  ⟨(some 103), (some (101, true)), (.bin .eql (.t 102) (.c (.sc (.int .i64 (-2)))))⟩,
  ⟨(some 104), none, (.pick (.t 101) (.t 103) (.c (.sc (.bool false))))⟩,
  ⟨(some 105), none, (.mv (.t 104))⟩,
  ⟨(some 106), (some (105, true)), (.mv (.t 11))⟩,
  ⟨(some 107), (some (105, true)), (.bslice 3 1 [(.c (.sc (.int .i64 (4)))), (.c (.sc (.int .i64 (0)))), (.c (.sc (.int .i64 (1)))), (.c (.sc (.int .i64 (2))))])⟩,
  ⟨(some 108), (some (105, true)), (.call 28 [(.t 106), (.t 107)])⟩,
  ⟨(some 109), none, (.pick (.t 105) (.t 108) (.c (.sc (.bool false))))⟩,
  ⟨(some 110), none, (.mv (.t 109))⟩,
  ⟨(some 111), (some (110, true)), (.mv (.t 13))⟩,
  ⟨(some 112), (some (110, true)), (.bin .eql (.t 111) (.c (.sc (.string ⟨#[45, 48, 46, 48, 53]⟩))))⟩,
  ⟨(some 113), none, (.pick (.t 110) (.t 112) (.c (.sc (.bool false))))⟩,
  ⟨(some 114), none, (.mv (.t 113))⟩,
  ⟨(some 115), (some (114, true)), (.mv (.t 15))⟩,
  ⟨(some 116), (some (114, true)), (.bin .eql (.t 115) (.c (.sc (.int .i64 (1234)))))⟩,
  ⟨(some 117), none, (.pick (.t 114) (.t 116) (.c (.sc (.bool false))))⟩,
  ⟨(some 118), none, (.mv (.t 117))⟩,
  ⟨(some 119), (some (118, true)), (.mv (.t 17))⟩,
  ⟨(some 120), (some (118, true)), (.bin .eql (.t 119) (.c (.sc (.int .i64 (1125899906842624)))))⟩,
  ⟨(some 121), none, (.pick (.t 118) (.t 120) (.c (.sc (.bool false))))⟩,
  ⟨(some 0), none, (.mv (.t 121))⟩] none) .ret))))))))))))
theorem good17 {args : List PV} {r : PV} (hl : args.length ≤ 122) (h : Run Tryd.prog [.code ac17] (endQ [(.t 0)] r) ⟨initT 0 args, [], 0, 122⟩) : Good Tryd.prog 17 args r :=
  good_run (by kernel_rfl) Nbmix Tryd.func17 rfl (hs := []) (hs' := []) (by kernel_rfl) hl h
def ac31 : ACode :=
 (.seq (.reg [⟨(some 4), none, (.mv (.c (.sc (.string ⟨#[]⟩))))⟩,
  ⟨(some 5), none, (.mv (.c (.sc (.int .i64 (0)))))⟩] none)
 (.seq (.seq (.reg [⟨(some 6), none, (.mv (.t 0))⟩,
  ⟨(some 7), none, (.call 35 [(.t 6)])⟩,
  ⟨(some 8), none, (.un .not (.t 7))⟩,
  ⟨(some 9), none, (.mv (.t 8))⟩,
  ⟨(some 10), (some (9, false)), (.mv (.t 1))⟩,
  ⟨(some 11), (some (9, false)), (.call 39 [(.t 10), (.c (.sc (.int .i64 (0)))), (.c (.sc (.int .i64 (6))))])⟩,
  ⟨(some 12), (some (9, false)), (.un .not (.t 11))⟩,
  ⟨(some 13), none, (.pick (.t 9) (.c (.sc (.bool true))) (.t 12))⟩] none)
 (.cond (.t 13)
 (.seq (.reg [⟨(some 4), none, (.mv (.c (.sc (.string ⟨#[]⟩))))⟩,
  ⟨(some 5), none, (.mv (.c (.sc (.int .i64 (1)))))⟩] none) .ret) .skip))
 (.seq (.reg [⟨(some 14), none, (.mv (.t 0))⟩,
  ⟨(some 15), none, (.mv (.t 1))⟩,
  ⟨(some 16), none, (.call 44 [(.t 14), (.t 15)])⟩,
  ⟨(some 4), none, (.mv (.t 16))⟩,
  ⟨(some 5), none, (.mv (.c (.sc (.int .i64 (0)))))⟩] none) .ret)))
theorem good31 {args : List PV} {r : PV} (hl : args.length ≤ 17) (h : Run Tryd.prog [.code ac31] (endQ [(.t 4), (.t 5)] r) ⟨initT 0 args, [], 0, 17⟩) : Good Tryd.prog 31 args r :=
  good_run (by kernel_rfl) Nbmix Tryd.func31 rfl (hs := []) (hs' := []) (by kernel_rfl) hl h
def ac32 : ACode :=
 (.seq (.reg [⟨(some 4), none, (.mv (.c (.sc (.string ⟨#[]⟩))))⟩,
  ⟨(some 5), none, (.mv (.c (.sc (.int .i64 (0)))))⟩] none)
 (.seq (.seq (.reg [⟨(some 8), none, (.mv (.t 0))⟩,
  ⟨(some 9), none, (.call 25 [(.t 8)])⟩,
  ⟨(some 10), none, (.un .not (.t 9))⟩,
  ⟨(some 11), none, (.mv (.t 10))⟩,
  ⟨(some 12), (some (11, false)), (.mv (.t 1))⟩,
  ⟨(some 13), (some (11, false)), (.bin .lss (.t 12) (.c (.sc (.int .i64 (0)))))⟩,
  ⟨(some 14), none, (.pick (.t 11) (.c (.sc (.bool true))) (.t 13))⟩,
  ⟨(some 15), none, (.mv (.t 14))⟩,
  ⟨(some 16), (some (15, false)), (.mv (.t 1))⟩,
  ⟨(some 17), (some (15, false)), (.bin .gtr (.t 16) (.c (.sc (.int .i64 (6)))))⟩,
  ⟨(some 18), none, (.pick (.t 15) (.c (.sc (.bool true))) (.t 17))⟩] none)
 (.cond (.t 18)
 (.seq (.reg [⟨(some 4), none, (.mv (.c (.sc (.string ⟨#[]⟩))))⟩,
  ⟨(some 5), none, (.mv (.c (.sc (.int .i64 (1)))))⟩] none) .ret) .skip))
 (.seq (.reg [⟨(some 6), none, (.mv (.c (.sc (.string ⟨#[]⟩))))⟩] none)
 (.seq (.seq (.reg [⟨(some 19), none, (.mv (.t 0))⟩,
  ⟨(some 20), none, (.bin .lss (.t 19) (.c (.sc (.int .i64 (0)))))⟩] none)
 (.cond (.t 20) (.reg [⟨(some 6), none, (.mv (.c (.sc (.string ⟨#[45]⟩))))⟩] none) .skip))
 (.seq (.reg [⟨(some 21), none, (.mv (.t 0))⟩,
  ⟨(some 22), none, (.mv (.t 0))⟩,
  ⟨(some 23), none, (.un .neg (.t 22))⟩,
  ⟨(some 24), none, (.mx (.t 21) (.t 23))⟩,
  ⟨(some 25), none, (.mv (.t 1))⟩,
  ⟨(some 26), none, (.bin .add (.t 25) (.c (.sc (.int .i64 (1)))))⟩,
  ⟨(some 27), none, (.call 45 [(.t 24), (.t 26)])⟩,
  ⟨(some 7), none, (.mv (.t 27))⟩] none)
 (.seq (.seq (.reg [⟨(some 28), none, (.mv (.t 1))⟩,
  ⟨(some 29), none, (.bin .eql (.t 28) (.c (.sc (.int .i64 (0)))))⟩] none)
 (.cond (.t 29)
 (.seq (.reg [⟨(some 30), none, (.mv (.t 6))⟩,
  ⟨(some 31), none, (.mv (.t 7))⟩,
  ⟨(some 32), none, (.bin .add (.t 30) (.t 31))⟩,
  ⟨(some 4), none, (.mv (.t 32))⟩,
  ⟨(some 5), none, (.mv (.c (.sc (.int .i64 (0)))))⟩] none) .ret) .skip))
 (.seq (.reg [⟨(some 33), none, (.mv (.t 6))⟩,
  ⟨(some 34), none, (.mv (.t 7))⟩,
  ⟨(some 35), none, (.mv (.t 7))⟩,
  ⟨(some 36), none, (.slen (.t 35))⟩,
  ⟨(some 37), none, (.mv (.t 1))⟩,
  ⟨(some 38), none, (.bin .sub (.t 36) (.t 37))⟩,
  ⟨(some 39), none, (.sslice (.t 34) none (some (.t 38)))⟩,
  ⟨(some 40), none, (.bin .add (.t 33) (.t 39))⟩,
  ⟨(some 41), none, (.bin .add (.t 40) (.c (.sc (.string ⟨#[46]⟩))))⟩,
  ⟨(some 42), none, (.mv (.t 7))⟩,
  ⟨(some 43), none, (.mv (.t 7))⟩,
  ⟨(some 44), none, (.slen (.t 43))⟩,
  ⟨(some 45), none, (.mv (.t 1))⟩,
  ⟨(some 46), none, (.bin .sub (.t 44) (.t 45))⟩,
  ⟨(some 47), none, (.sslice (.t 42) (some (.t 46)) none)⟩,
  ⟨(some 48), none, (.bin .add (.t 41) (.t 47))⟩,
  ⟨(some 4), none, (.mv (.t 48))⟩,
  ⟨(some 5), none, (.mv (.c (.sc (.int .i64 (0)))))⟩] (some [[], [], [], [2], [], [3, 4, 2], [1, 5, 3, 4, 2], [0, 6, 1, 5, 3, 4, 2], [7, 0, 6, 1, 5, 3, 4, 2], [], [], [10], [], [11, 12, 10], [9, 13, 11, 12, 10], [8, 14, 7, 0, 6, 1, 5, 3, 4, 2, 9, 13, 11, 12, 10], [15, 0, 1, 2, 3, 4, 5, 6, 7, 8, 9, 10, 11, 12, 13, 14], [16, 0, 1, 2, 3, 4, 5, 6, 7, 8, 9, 10, 11, 12, 13, 14, 15]])) .ret)))))))
theorem good32 {args : List PV} {r : PV} (hl : args.length ≤ 49) (h : Run Tryd.prog [.code ac32] (endQ [(.t 4), (.t 5)] r) ⟨initT 0 args, [], 0, 49⟩) : Good Tryd.prog 32 args r :=
  good_run (by kernel_rfl) Nbmix Tryd.func32 rfl (hs := []) (hs' := []) (by kernel_rfl) hl h
def ac33 : ACode :=
 (.seq (.reg [⟨(some 4), none, (.mv (.c (.sc (.int .i64 (0)))))⟩,
  ⟨(some 5), none, (.mv (.c (.sc (.int .i64 (0)))))⟩] none)
 (.seq (.seq (.reg [⟨(some 10), none, (.mv (.t 1))⟩,
  ⟨(some 11), none, (.call 39 [(.t 10), (.c (.sc (.int .i64 (0)))), (.c (.sc (.int .i64 (6))))])⟩,
  ⟨(some 12), none, (.un .not (.t 11))⟩] none)
 (.cond (.t 12)
 (.seq (.reg [⟨(some 4), none, (.mv (.c (.sc (.int .i64 (0)))))⟩,
  ⟨(some 5), none, (.mv (.c (.sc (.int .i64 (1)))))⟩] none) .ret) .skip))
 (.seq (.reg [⟨(some 13), none, (.mv (.t 0))⟩,
  ⟨(some 6), none, (.mv (.t 13))⟩] none)
 (.seq (.seq (.reg [⟨(some 14), none, (.mv (.t 0))⟩,
  ⟨(some 15), none, (.slen (.t 14))⟩,
  ⟨(some 16), none, (.mv (.t 1))⟩,
  ⟨(some 17), none, (.bin .sub (.t 15) (.t 16))⟩,
  ⟨(some 18), none, (.bin .sub (.t 17) (.c (.sc (.int .i64 (1)))))⟩,
  ⟨(some 7), none, (.mv (.t 18))⟩] none)
 (.seq (.reg [⟨(some 19), none, (.mv (.t 1))⟩,
  ⟨(some 20), none, (.bin .gtr (.t 19) (.c (.sc (.int .i64 (0)))))⟩,
  ⟨(some 21), none, (.mv (.t 20))⟩,
  ⟨(some 22), (some (21, true)), (.mv (.t 7))⟩,
  ⟨(some 23), (some (21, true)), (.bin .geq (.t 22) (.c (.sc (.int .i64 (0)))))⟩,
  ⟨(some 24), none, (.pick (.t 21) (.t 23) (.c (.sc (.bool false))))⟩] none)
 (.cond (.t 24) (.reg [⟨(some 25), none, (.mv (.t 0))⟩,
  ⟨(some 26), none, (.mv (.t 7))⟩,
  ⟨(some 27), none, (.sslice (.t 25) none (some (.t 26)))⟩,
  ⟨(some 28), none, (.mv (.t 0))⟩,
  ⟨(some 29), none, (.mv (.t 7))⟩,
  ⟨(some 30), none, (.bin .add (.t 29) (.c (.sc (.int .i64 (1)))))⟩,
  ⟨(some 31), none, (.sslice (.t 28) (some (.t 30)) none)⟩,
  ⟨(some 32), none, (.bin .add (.t 27) (.t 31))⟩,
  ⟨(some 6), none, (.mv (.t 32))⟩] (some [[], [], [0, 1], [], [], [4], [3, 5, 4], [2, 6, 0, 1, 3, 5, 4], [7, 0, 1, 2, 3, 4, 5, 6]])) .skip)))
 (.seq (.reg [⟨(some 34), none, (.mv (.t 6))⟩,
  ⟨(some 35), none, (.call 46 [(.t 34)])⟩,
  ⟨(some 33), none, (.mv (.t 35))⟩,
  ⟨(some 36), none, (.ext 0 (.t 33))⟩,
  ⟨(some 37), none, (.ext 1 (.t 33))⟩,
  ⟨(some 8), none, (.mv (.t 36))⟩,
  ⟨(some 9), none, (.mv (.t 37))⟩] none)
 (.seq (.seq (.reg [⟨(some 38), none, (.mv (.t 9))⟩,
  ⟨(some 39), none, (.inil true (.t 38))⟩,
  ⟨(some 40), none, (.mv (.t 39))⟩,
  ⟨(some 41), (some (40, false)), (.mv (.t 8))⟩,
  ⟨(some 42), (some (40, false)), (.call 35 [(.t 41)])⟩,
  ⟨(some 43), (some (40, false)), (.un .not (.t 42))⟩,
  ⟨(some 44), none, (.pick (.t 40) (.c (.sc (.bool true))) (.t 43))⟩,
  ⟨(some 45), none, (.mv (.t 44))⟩,
  ⟨(some 46), (some (45, false)), (.mv (.t 8))⟩,
  ⟨(some 47), (some (45, false)), (.mv (.t 1))⟩,
  ⟨(some 48), (some (45, false)), (.call 44 [(.t 46), (.t 47)])⟩,
  ⟨(some 49), (some (45, false)), (.mv (.t 0))⟩,
  ⟨(some 50), (some (45, false)), (.bin .neq (.t 48) (.t 49))⟩,
  ⟨(some 51), none, (.pick (.t 45) (.c (.sc (.bool true))) (.t 50))⟩] none)
 (.cond (.t 51)
 (.seq (.reg [⟨(some 4), none, (.mv (.c (.sc (.int .i64 (0)))))⟩,
  ⟨(some 5), none, (.mv (.c (.sc (.int .i64 (3)))))⟩] none) .ret) .skip))
 (.seq (.reg [⟨(some 52), none, (.mv (.t 8))⟩,
  ⟨(some 4), none, (.mv (.t 52))⟩,
  ⟨(some 5), none, (.mv (.c (.sc (.int .i64 (0)))))⟩] none) .ret)))))))
theorem good33 {args : List PV} {r : PV} (hl : args.length ≤ 53) (h : Run Tryd.prog [.code ac33] (endQ [(.t 4), (.t 5)] r) ⟨initT 0 args, [], 0, 53⟩) : Good Tryd.prog 33 args r :=
  good_run (by kernel_rfl) Nbmix Tryd.func33 rfl (hs := []) (hs' := []) (by kernel_rfl) hl h
def ac34 : ACode :=
 (.seq (.reg [⟨(some 4), none, (.mv (.c (.sc (.int .i64 (0)))))⟩,
  ⟨(some 5), none, (.mv (.c (.sc (.int .i64 (0)))))⟩] none)
 (.seq (.seq (.reg [⟨(some 10), none, (.mv (.t 1))⟩,
  ⟨(some 11), none, (.bin .lss (.t 10) (.c (.sc (.int .i64 (0)))))⟩,
  ⟨(some 12), none, (.mv (.t 11))⟩,
  ⟨(some 13), (some (12, false)), (.mv (.t 1))⟩,
  ⟨(some 14), (some (12, false)), (.bin .gtr (.t 13) (.c (.sc (.int .i64 (6)))))⟩,
  ⟨(some 15), none, (.pick (.t 12) (.c (.sc (.bool true))) (.t 14))⟩] none)
 (.cond (.t 15)
 (.seq (.reg [⟨(some 4), none, (.mv (.c (.sc (.int .i64 (0)))))⟩,
  ⟨(some 5), none, (.mv (.c (.sc (.int .i64 (1)))))⟩] none) .ret) .skip))
 (.seq (.seq (.reg [⟨(some 16), none, (.mv (.t 0))⟩,
  ⟨(some 17), none, (.slen (.t 16))⟩,
  ⟨(some 18), none, (.bin .gtr (.t 17) (.c (.sc (.int .i64 (18)))))⟩] none)
 (.cond (.t 18)
 (.seq (.reg [⟨(some 4), none, (.mv (.c (.sc (.int .i64 (0)))))⟩,
  ⟨(some 5), none, (.mv (.c (.sc (.int .i64 (3)))))⟩] none) .ret) .skip))
 (.seq (.reg [⟨(some 6), none, (.mv (.c (.sc (.int .i64 (0)))))⟩] none)
 (.seq (.seq (.reg [⟨(some 7), none, (.mv (.c (.sc (.int .i64 (0)))))⟩] none) (.block 0 
 (.loop ⟨[0, 1, 6, 7], []⟩
 (.seq (.seq (.reg [⟨(some 19), none, (.mv (.t 7))⟩,
  ⟨(some 20), none, (.mv (.t 0))⟩,
  ⟨(some 21), none, (.slen (.t 20))⟩,
  ⟨(some 22), none, (.bin .lss (.t 19) (.t 21))⟩] none)
 (.cond (.t 22) .skip (.exit 0)))
 (.seq (.block 1
 (.seq (.reg [⟨(some 25), none, (.mv (.t 0))⟩,
  ⟨(some 26), none, (.mv (.t 7))⟩,
  ⟨(some 27), none, (.sidx (.t 25) (.t 26))⟩,
  ⟨(some 28), none, (.bin .geq (.t 27) (.c (.sc (.int .u8 (48)))))⟩,
  ⟨(some 29), none, (.mv (.t 28))⟩,
  ⟨(some 30), (some (29, true)), (.mv (.t 0))⟩,
  ⟨(some 31), (some (29, true)), (.mv (.t 7))⟩,
  ⟨(some 32), (some (29, true)), (.sidx (.t 30) (.t 31))⟩,
  ⟨(some 33), (some (29, true)), (.bin .leq (.t 32) (.c (.sc (.int .u8 (57)))))⟩,
  ⟨(some 34), none, (.pick (.t 29) (.t 33) (.c (.sc (.bool false))))⟩] none)
 (.cond (.t 34) (.reg [⟨(some 35), none, (.mv (.t 6))⟩,
  ⟨(some 36), none, (.bin .mul (.c (.sc (.int .i64 (10)))) (.t 35))⟩,
  ⟨(some 37), none, (.mv (.t 0))⟩,
  ⟨(some 38), none, (.mv (.t 7))⟩,
  ⟨(some 39), none, (.sidx (.t 37) (.t 38))⟩,
  ⟨(some 40), none, (.bin .sub (.t 39) (.c (.sc (.int .u8 (48)))))⟩,
  ⟨(some 41), none, (.conv .i64 (.t 40))⟩,
  ⟨(some 42), none, (.bin .add (.t 36) (.t 41))⟩,
  ⟨(some 6), none, (.mv (.t 42))⟩] none) .skip))) (.reg [⟨(some 23), none, (.mv (.t 7))⟩,
  ⟨(some 24), none, (.bin .add (.t 23) (.c (.sc (.int .i64 (1)))))⟩,
  ⟨(some 7), none, (.mv (.t 24))⟩] none))))))
 (.seq (.seq (.reg [⟨(some 43), none, (.mv (.t 0))⟩,
  ⟨(some 44), none, (.slen (.t 43))⟩,
  ⟨(some 45), none, (.bin .gtr (.t 44) (.c (.sc (.int .i64 (0)))))⟩,
  ⟨(some 46), none, (.mv (.t 45))⟩,
  ⟨(some 47), (some (46, true)), (.mv (.t 0))⟩,
  ⟨(some 48), (some (46, true)), (.sidx (.t 47) (.c (.sc (.int .i64 (0)))))⟩,
  ⟨(some 49), (some (46, true)), (.bin .eql (.t 48) (.c (.sc (.int .u8 (45)))))⟩,
  ⟨(some 50), none, (.pick (.t 46) (.t 49) (.c (.sc (.bool false))))⟩] none)
 (.cond (.t 50) (.reg [⟨(some 51), none, (.mv (.t 6))⟩,
  ⟨(some 52), none, (.un .neg (.t 51))⟩,
  ⟨(some 6), none, (.mv (.t 52))⟩] none) .skip))
 (.seq (.seq (.reg [⟨(some 54), none, (.mv (.t 6))⟩,
  ⟨(some 55), none, (.mv (.t 1))⟩,
  ⟨(some 56), none, (.call 32 [(.t 54), (.t 55)])⟩,
  ⟨(some 53), none, (.mv (.t 56))⟩,
  ⟨(some 57), none, (.ext 0 (.t 53))⟩,
  ⟨(some 58), none, (.ext 1 (.t 53))⟩,
  ⟨(some 8), none, (.mv (.t 57))⟩,
  ⟨(some 9), none, (.mv (.t 58))⟩] none)
 (.seq (.reg [⟨(some 59), none, (.mv (.t 9))⟩,
  ⟨(some 60), none, (.bin .neq (.t 59) (.c (.sc (.int .i64 (0)))))⟩,
  ⟨(some 61), none, (.mv (.t 60))⟩,
  ⟨(some 62), (some (61, false)), (.mv (.t 8))⟩,
  ⟨(some 63), (some (61, false)), (.mv (.t 0))⟩,
  ⟨(some 64), (some (61, false)), (.bin .neq (.t 62) (.t 63))⟩,
  ⟨(some 65), none, (.pick (.t 61) (.c (.sc (.bool true))) (.t 64))⟩] none)
 (.cond (.t 65)
 (.seq (.reg [⟨(some 4), none, (.mv (.c (.sc (.int .i64 (0)))))⟩,
  ⟨(some 5), none, (.mv (.c (.sc (.int .i64 (3)))))⟩] none) .ret) .skip)))
 (.seq (.reg [⟨(some 66), none, (.mv (.t 6))⟩,
  ⟨(some 4), none, (.mv (.t 66))⟩,
  ⟨(some 5), none, (.mv (.c (.sc (.int .i64 (0)))))⟩] none) .ret))))))))
theorem good34 {args : List PV} {r : PV} (hl : args.length ≤ 67) (h : Run Tryd.prog [.code ac34] (endQ [(.t 4), (.t 5)] r) ⟨initT 0 args, [], 0, 67⟩) : Good Tryd.prog 34 args r :=
  good_run (by kernel_rfl) Nbmix Tryd.func34 rfl (hs := [⟨[0, 1, 6, 7], []⟩]) (hs' := []) (by kernel_rfl) hl h
def ac44 : ACode :=
 (.seq (.reg [⟨(some 4), none, (.mv (.c (.sc (.string ⟨#[]⟩))))⟩] none)
 (.seq (.reg [⟨(some 7), none, (.mv (.t 0))⟩,
  ⟨(some 8), none, (.mv (.t 0))⟩,
  ⟨(some 9), none, (.un .neg (.t 8))⟩,
  ⟨(some 10), none, (.mx (.t 7) (.t 9))⟩,
  ⟨(some 11), none, (.call 49 [(.t 10)])⟩,
  ⟨(some 5), none, (.mv (.t 11))⟩] none)
 (.seq (.seq (.reg [⟨(some 12), none, (.mv (.t 1))⟩,
  ⟨(some 13), none, (.bin .add (.t 12) (.c (.sc (.int .i64 (1)))))⟩,
  ⟨(some 14), none, (.mv (.t 5))⟩,
  ⟨(some 15), none, (.slen (.t 14))⟩,
  ⟨(some 16), none, (.bin .sub (.t 13) (.t 15))⟩,
  ⟨(some 6), none, (.mv (.t 16))⟩] none)
 (.seq (.reg [⟨(some 17), none, (.mv (.t 6))⟩,
  ⟨(some 18), none, (.bin .gtr (.t 17) (.c (.sc (.int .i64 (0)))))⟩] none)
 (.cond (.t 18) (.reg [⟨(some 19), none, (.mv (.t 6))⟩,
  ⟨(some 20), none, (.call 50 [(.c (.sc (.string ⟨#[48]⟩))), (.t 19)])⟩,
  ⟨(some 21), none, (.mv (.t 5))⟩,
  ⟨(some 22), none, (.bin .add (.t 20) (.t 21))⟩,
  ⟨(some 5), none, (.mv (.t 22))⟩] none) .skip)))
 (.seq (.seq (.reg [⟨(some 23), none, (.mv (.t 1))⟩,
  ⟨(some 24), none, (.bin .gtr (.t 23) (.c (.sc (.int .i64 (0)))))⟩] none)
 (.cond (.t 24) (.reg [⟨(some 25), none, (.mv (.t 5))⟩,
  ⟨(some 26), none, (.mv (.t 5))⟩,
  ⟨(some 27), none, (.slen (.t 26))⟩,
  ⟨(some 28), none, (.mv (.t 1))⟩,
  ⟨(some 29), none, (.bin .sub (.t 27) (.t 28))⟩,
  ⟨(some 30), none, (.sslice (.t 25) none (some (.t 29)))⟩,
  ⟨(some 31), none, (.bin .add (.t 30) (.c (.sc (.string ⟨#[46]⟩))))⟩,
  ⟨(some 32), none, (.mv (.t 5))⟩,
  ⟨(some 33), none, (.mv (.t 5))⟩,
  ⟨(some 34), none, (.slen (.t 33))⟩,
  ⟨(some 35), none, (.mv (.t 1))⟩,
  ⟨(some 36), none, (.bin .sub (.t 34) (.t 35))⟩,
  ⟨(some 37), none, (.sslice (.t 32) (some (.t 36)) none)⟩,
  ⟨(some 38), none, (.bin .add (.t 31) (.t 37))⟩,
  ⟨(some 5), none, (.mv (.t 38))⟩] (some [[], [], [1], [], [2, 3, 1], [0, 4, 2, 3, 1], [5, 0, 4, 2, 3, 1], [], [], [8], [], [9, 10, 8], [7, 11, 9, 10, 8], [6, 12, 5, 0, 4, 2, 3, 1, 7, 11, 9, 10, 8], [13, 0, 1, 2, 3, 4, 5, 6, 7, 8, 9, 10, 11, 12]])) .skip))
 (.seq (.seq (.reg [⟨(some 39), none, (.mv (.t 0))⟩,
  ⟨(some 40), none, (.bin .lss (.t 39) (.c (.sc (.int .i64 (0)))))⟩] none)
 (.cond (.t 40)
 (.seq (.reg [⟨(some 41), none, (.mv (.t 5))⟩,
  ⟨(some 42), none, (.bin .add (.c (.sc (.string ⟨#[45]⟩))) (.t 41))⟩,
  ⟨(some 4), none, (.mv (.t 42))⟩] none) .ret) .skip))
 (.seq (.reg [⟨(some 43), none, (.mv (.t 5))⟩,
  ⟨(some 4), none, (.mv (.t 43))⟩] none) .ret))))))
theorem good44 {args : List PV} {r : PV} (hl : args.length ≤ 44) (h : Run Tryd.prog [.code ac44] (endQ [(.t 4)] r) ⟨initT 0 args, [], 0, 44⟩) : Good Tryd.prog 44 args r :=
  good_run (by kernel_rfl) Nbmix Tryd.func44 rfl (hs := []) (hs' := []) (by kernel_rfl) hl h
def ac45 : ACode :=
 (.seq (.reg [⟨(some 4), none, (.mv (.c (.sc (.string ⟨#[]⟩))))⟩] none)
 (.seq (.reg [⟨(some 5), none, (.mv (.c (.sc (.string ⟨#[]⟩))))⟩] none)
 (.seq (.block 0 
 (.loop ⟨[0, 1, 5], []⟩
 (.seq (.seq (.reg [⟨(some 6), none, (.mv (.t 0))⟩,
  ⟨(some 7), none, (.bin .gtr (.t 6) (.c (.sc (.int .i64 (0)))))⟩,
  ⟨(some 8), none, (.mv (.t 7))⟩,
  ⟨(some 9), (some (8, false)), (.mv (.t 5))⟩,
  ⟨(some 10), (some (8, false)), (.slen (.t 9))⟩,
  ⟨(some 11), (some (8, false)), (.mv (.t 1))⟩,
  ⟨(some 12), (some (8, false)), (.bin .lss (.t 10) (.t 11))⟩,
  ⟨(some 13), none, (.pick (.t 8) (.c (.sc (.bool true))) (.t 12))⟩] none)
 (.cond (.t 13) .skip (.exit 0))) (.block 1
 (.seq (.reg [⟨(some 14), none, (.mv (.t 0))⟩,
  ⟨(some 15), none, (.bin .rem (.t 14) (.c (.sc (.int .i64 (10)))))⟩,
  ⟨(some 16), none, (.bin .add (.c (.sc (.int .i64 (48)))) (.t 15))⟩,
  ⟨(some 17), none, (.conv .u8 (.t 16))⟩,
  ⟨(some 18), none, (.bslice 5 1 [(.t 17)])⟩,
  ⟨(some 19), none, (.bstr (.t 18))⟩,
  ⟨(some 20), none, (.mv (.t 5))⟩,
  ⟨(some 21), none, (.bin .add (.t 19) (.t 20))⟩,
  ⟨(some 5), none, (.mv (.t 21))⟩] none) (.reg [⟨(some 22), none, (.mv (.t 0))⟩,
  ⟨(some 23), none, (.bin .quo (.t 22) (.c (.sc (.int .i64 (10)))))⟩,
  ⟨(some 0), none, (.mv (.t 23))⟩] none))))))
 (.seq (.reg [⟨(some 24), none, (.mv (.t 5))⟩,
  ⟨(some 4), none, (.mv (.t 24))⟩] none) .ret))))
theorem good45 {args : List PV} {r : PV} (hl : args.length ≤ 25) (h : Run Tryd.prog [.code ac45] (endQ [(.t 4)] r) ⟨initT 0 args, [], 0, 25⟩) : Good Tryd.prog 45 args r :=
  good_run (by kernel_rfl) Nbmix Tryd.func45 rfl (hs := [⟨[0, 1, 5], []⟩]) (hs' := []) (by kernel_rfl) hl h
end Go.Proofs.YtjlhnlfalomenaaDoor
