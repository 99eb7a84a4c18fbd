/-
  The translated codes of functions, checked by the kernel.
-/
import Derived.Test.YtjlhnlfalomenaaDoorKc
import Derived.KernelRfl
namespace Go.Proofs.YtjlhnlfalomenaaDoor
set_option linter.unusedVariables false
set_option linter.unusedSimpArgs false
set_option linter.unnecessarySimpa false
theorem Jamix : Tryd.prog.follows .mixedOrders = true := by kernel_rfl
def ac26 : ACode :=
 (.seq (.reg [⟨(some 4), none, (.mv (.c (.sc (.slice none 0 0))))⟩,
  ⟨(some 5), none, (.mv (.c (.sc (.int .i64 (0)))))⟩] none)
 (.seq (.seq (.reg [⟨(some 16), none, (.mv (.t 0))⟩,
  ⟨(some 17), none, (.call 39 [(.t 16), (.c (.sc (.int .i64 (0)))), (.c (.sc (.int .i64 (1125899906842624))))])⟩,
  ⟨(some 18), none, (.un .not (.t 17))⟩,
  ⟨(some 19), none, (.mv (.t 18))⟩,
  ⟨(some 20), (some (19, false)), (.mv (.t 1))⟩,
  ⟨(some 21), (some (19, false)), (.len (.t 20))⟩,
  ⟨(some 22), (some (19, false)), (.call 39 [(.t 21), (.c (.sc (.int .i64 (1)))), (.c (.sc (.int .i64 (512))))])⟩,
  ⟨(some 23), (some (19, false)), (.un .not (.t 22))⟩,
  ⟨(some 24), none, (.pick (.t 19) (.c (.sc (.bool true))) (.t 23))⟩] none)
 (.cond (.t 24)
 (.seq (.reg [⟨(some 4), none, (.mv (.c (.sc (.slice none 0 0))))⟩,
  ⟨(some 5), none, (.mv (.c (.sc (.int .i64 (1)))))⟩] none) .ret) .skip))
 (.seq (.reg [⟨(some 6), none, (.mv (.c (.sc (.int .i64 (0)))))⟩] none)
 (.seq (.seq (.reg [⟨(some 25), none, (.mv (.t 1))⟩,
  ⟨(some 26), none, (.len (.t 25))⟩,
  ⟨(some 27), none, (.mv (.c (.sc (.int .i64 (0)))))⟩] none) (.block 0 
 (.loop ⟨[0, 1, 6, 25, 26, 27], []⟩
 (.seq (.reg [⟨(some 28), none, (.bin .lss (.t 27) (.t 26))⟩] none)
 (.seq
 (.cond (.t 28) .skip (.exit 0))
 (.seq (.block 1
 (.seq (.reg [⟨(some 29), none, (.iaddr 1 (.t 25) (.t 27))⟩,
  ⟨(some 30), none, (.load 1 false (.t 29))⟩,
  ⟨(some 8), none, (.mv (.t 30))⟩] none)
 (.seq (.seq (.reg [⟨(some 31), none, (.mv (.t 8))⟩,
  ⟨(some 32), none, (.call 39 [(.t 31), (.c (.sc (.int .i64 (0)))), (.c (.sc (.int .i64 (1125899906842624))))])⟩,
  ⟨(some 33), none, (.un .not (.t 32))⟩] none)
 (.cond (.t 33)
 (.seq (.reg [⟨(some 4), none, (.mv (.c (.sc (.slice none 0 0))))⟩,
  ⟨(some 5), none, (.mv (.c (.sc (.int .i64 (1)))))⟩] none) .ret) .skip)) (.reg [⟨(some 34), none, (.mv (.t 6))⟩,
  ⟨(some 35), none, (.mv (.t 8))⟩,
  ⟨(some 36), none, (.bin .add (.t 34) (.t 35))⟩,
  ⟨(some 6), none, (.mv (.t 36))⟩] none)))) (.reg [⟨(some 37), none, (.bin .add (.t 27) (.c (.sc (.int .i64 (1)))))⟩,
  ⟨(some 27), none, (.mv (.t 37))⟩] none)))))))
 (.seq (.block 2
 (.seq (.reg [⟨(some 39), none, (.mv (.t 6))⟩,
  ⟨(some 40), none, (.bin .gtr (.t 39) (.c (.sc (.int .i64 (1125899906842624)))))⟩,
  ⟨(some 38), none, (.mv (.t 40))⟩] none)
 (.cond (.t 38)
 (.seq (.reg [⟨(some 4), none, (.mv (.c (.sc (.slice none 0 0))))⟩,
  ⟨(some 5), none, (.mv (.c (.sc (.int .i64 (2)))))⟩] none) .ret)
 (.seq (.reg [⟨(some 42), none, (.mv (.t 6))⟩,
  ⟨(some 43), none, (.bin .eql (.t 42) (.c (.sc (.int .i64 (0)))))⟩,
  ⟨(some 44), none, (.mv (.t 43))⟩,
  ⟨(some 45), (some (44, true)), (.mv (.t 0))⟩,
  ⟨(some 46), (some (44, true)), (.bin .gtr (.t 45) (.c (.sc (.int .i64 (0)))))⟩,
  ⟨(some 47), none, (.pick (.t 44) (.t 46) (.c (.sc (.bool false))))⟩,
  ⟨(some 41), none, (.mv (.t 47))⟩] none)
 (.cond (.t 41)
 (.seq (.reg [⟨(some 4), none, (.mv (.c (.sc (.slice none 0 0))))⟩,
  ⟨(some 5), none, (.mv (.c (.sc (.int .i64 (10)))))⟩] none) .ret) .skip)))))
 (.seq (.reg [⟨(some 48), none, (.mv (.t 1))⟩,
  ⟨(some 49), none, (.len (.t 48))⟩,
  ⟨(some 50), none, (.mk 3 1 8 [(.sc (.int .i64 (0)))] (.t 49) (.t 49))⟩,
  ⟨(some 51), none, (.mv (.t 1))⟩,
  ⟨(some 52), none, (.len (.t 51))⟩,
  ⟨(some 53), none, (.mk 3 1 8 [(.sc (.int .i64 (0)))] (.t 52) (.t 52))⟩,
  ⟨(some 54), none, (.mv (.t 1))⟩,
  ⟨(some 55), none, (.len (.t 54))⟩,
  ⟨(some 56), none, (.mk 3 1 8 [(.sc (.int .i64 (0)))] (.t 55) (.t 55))⟩,
  ⟨(some 10), none, (.new [(.sc (.slice none 0 0))])⟩,
  ⟨(some 9), none, (.mv (.t 50))⟩,
  ⟨none, none, (.store 1 (.t 10) (.t 53))⟩,
  ⟨(some 11), none, (.mv (.t 56))⟩] (some [[], [0], [1, 0], [], [3], [4, 3], [], [6], [7, 6], [], [2, 0, 1, 9], [9, 5, 10, 0, 1, 2, 3, 4], [8, 11, 0, 1, 2, 3, 4, 5, 6, 7, 9, 10]]))
 (.seq (.reg [⟨(some 57), none, (.mv (.t 0))⟩,
  ⟨(some 12), none, (.mv (.t 57))⟩] none)
 (.seq (.seq (.reg [⟨(some 58), none, (.mv (.t 1))⟩,
  ⟨(some 59), none, (.len (.t 58))⟩,
  ⟨(some 60), none, (.mv (.c (.sc (.int .i64 (0)))))⟩] none) (.block 3 
 (.loop ⟨[0, 6, 9, 10, 11, 12, 58, 59, 60], []⟩
 (.seq (.reg [⟨(some 61), none, (.bin .lss (.t 60) (.t 59))⟩] none)
 (.seq
 (.cond (.t 61) .skip (.exit 3))
 (.seq (.block 4
 (.seq (.reg [⟨(some 62), none, (.mv (.t 60))⟩,
  ⟨(some 63), none, (.iaddr 1 (.t 58) (.t 60))⟩,
  ⟨(some 64), none, (.load 1 false (.t 63))⟩,
  ⟨(some 13), none, (.mv (.t 62))⟩,
  ⟨(some 14), none, (.mv (.t 64))⟩] none)
 (.seq (.reg [⟨(some 65), none, (.mv (.t 11))⟩,
  ⟨(some 66), none, (.mv (.t 13))⟩,
  ⟨(some 67), none, (.mv (.t 13))⟩,
  ⟨(some 68), none, (.iaddr 1 (.t 65) (.t 66))⟩,
  ⟨none, none, (.store 1 (.t 68) (.t 67))⟩] none)
 (.seq (.seq (.reg [⟨(some 69), none, (.mv (.t 6))⟩,
  ⟨(some 70), none, (.bin .gtr (.t 69) (.c (.sc (.int .i64 (0)))))⟩] none)
 (.cond (.t 70) (.reg [⟨(some 72), none, (.mv (.t 9))⟩,
  ⟨(some 73), none, (.mv (.t 13))⟩,
  ⟨(some 74), none, (.load 1 false (.t 10))⟩,
  ⟨(some 75), none, (.mv (.t 13))⟩,
  ⟨(some 76), none, (.mv (.t 0))⟩,
  ⟨(some 77), none, (.mv (.t 14))⟩,
  ⟨(some 78), none, (.mv (.t 6))⟩,
  ⟨(some 79), none, (.call 41 [(.t 76), (.t 77), (.t 78)])⟩,
  ⟨(some 71), none, (.mv (.t 79))⟩,
  ⟨(some 80), none, (.ext 0 (.t 71))⟩,
  ⟨(some 81), none, (.ext 1 (.t 71))⟩,
  ⟨(some 82), none, (.iaddr 1 (.t 72) (.t 73))⟩,
  ⟨none, none, (.store 1 (.t 82) (.t 80))⟩,
  ⟨(some 83), none, (.iaddr 1 (.t 74) (.t 75))⟩,
  ⟨none, none, (.store 1 (.t 83) (.t 81))⟩] (some [[], [], [], [], [], [], [], [4, 5, 6], [7, 4, 5, 6], [8, 7, 4, 5, 6], [8, 7, 4, 5, 6], [0, 1, 4, 5, 6, 7, 8, 9], [11, 9, 7, 0, 1, 4, 5, 6, 8], [2, 3, 0, 1, 4, 5, 6, 7, 8, 9, 10, 11, 12], [13, 10, 12, 0, 1, 2, 3, 4, 5, 6, 7, 8, 9, 11]])) .skip)) (.reg [⟨(some 84), none, (.mv (.t 12))⟩,
  ⟨(some 85), none, (.mv (.t 9))⟩,
  ⟨(some 86), none, (.mv (.t 13))⟩,
  ⟨(some 87), none, (.iaddr 1 (.t 85) (.t 86))⟩,
  ⟨(some 88), none, (.load 1 false (.t 87))⟩,
  ⟨(some 89), none, (.bin .sub (.t 84) (.t 88))⟩,
  ⟨(some 12), none, (.mv (.t 89))⟩] none))))) (.reg [⟨(some 90), none, (.bin .add (.t 60) (.c (.sc (.int .i64 (1)))))⟩,
  ⟨(some 60), none, (.mv (.t 90))⟩] none)))))))
 (.seq (.reg [⟨(some 91), none, (.mv (.t 11))⟩,
  ⟨(some 92), none, (.mkclo 43 (.t 10))⟩,
  ⟨(some 93), none, (.call 42 [(.t 91), (.t 92)])⟩] none)
 (.seq (.seq (.reg [⟨(some 94), none, (.mv (.t 12))⟩,
  ⟨(some 95), none, (.mv (.c (.sc (.int .i64 (0)))))⟩] none) (.block 5 
 (.loop ⟨[9, 11, 94, 95], []⟩
 (.seq (.reg [⟨(some 96), none, (.bin .lss (.t 95) (.t 94))⟩] none)
 (.seq
 (.cond (.t 96) .skip (.exit 5))
 (.seq (.block 6
 (.seq (.reg [⟨(some 97), none, (.mv (.t 95))⟩,
  ⟨(some 15), none, (.mv (.t 97))⟩] none) (.reg [⟨(some 98), none, (.mv (.t 9))⟩,
  ⟨(some 99), none, (.mv (.t 11))⟩,
  ⟨(some 100), none, (.mv (.t 15))⟩,
  ⟨(some 101), none, (.iaddr 1 (.t 99) (.t 100))⟩,
  ⟨(some 102), none, (.load 1 false (.t 101))⟩,
  ⟨(some 103), none, (.iaddr 1 (.t 98) (.t 102))⟩,
  ⟨(some 104), none, (.load 1 false (.t 103))⟩,
  ⟨(some 105), none, (.bin .add (.t 104) (.c (.sc (.int .i64 (1)))))⟩,
  ⟨(some 106), none, (.iaddr 1 (.t 98) (.t 102))⟩,
  ⟨none, none, (.store 1 (.t 106) (.t 105))⟩] none))) (.reg [⟨(some 107), none, (.bin .add (.t 95) (.c (.sc (.int .i64 (1)))))⟩,
  ⟨(some 95), none, (.mv (.t 107))⟩] none)))))))
 (.seq (.reg [⟨(some 108), none, (.mv (.t 9))⟩,
  ⟨(some 4), none, (.mv (.t 108))⟩,
  ⟨(some 5), none, (.mv (.c (.sc (.int .i64 (0)))))⟩] none) .ret)))))))))))
theorem good26 {args : List PV} {r : PV} (hl : args.length ≤ 109) (h : Run Tryd.prog [.code ac26] (endQ [(.t 4), (.t 5)] r) ⟨initT 0 args, [], 0, 109⟩) : Good Tryd.prog 26 args r :=
  good_run (by kernel_rfl) Jamix Tryd.func26 rfl (hs := [⟨[0, 1, 6, 25, 26, 27], []⟩, ⟨[0, 6, 9, 10, 11, 12, 58, 59, 60], []⟩, ⟨[9, 11, 94, 95], []⟩]) (hs' := []) (by kernel_rfl) hl h
def ac39 : ACode :=
 (.seq (.reg [⟨(some 6), none, (.mv (.c (.sc (.bool false))))⟩] none)
 (.seq (.reg [⟨(some 7), none, (.mv (.t 1))⟩,
  ⟨(some 8), none, (.mv (.t 0))⟩,
  ⟨(some 9), none, (.bin .leq (.t 7) (.t 8))⟩,
  ⟨(some 10), none, (.mv (.t 9))⟩,
  ⟨(some 11), (some (10, true)), (.mv (.t 0))⟩,
  ⟨(some 12), (some (10, true)), (.mv (.t 2))⟩,
  ⟨(some 13), (some (10, true)), (.bin .leq (.t 11) (.t 12))⟩,
  ⟨(some 14), none, (.pick (.t 10) (.t 13) (.c (.sc (.bool false))))⟩,
  ⟨(some 6), none, (.mv (.t 14))⟩] none) .ret))
theorem good39 {args : List PV} {r : PV} (hl : args.length ≤ 15) (h : Run Tryd.prog [.code ac39] (endQ [(.t 6)] r) ⟨initT 0 args, [], 0, 15⟩) : Good Tryd.prog 39 args r :=
  good_run (by kernel_rfl) Jamix Tryd.func39 rfl (hs := []) (hs' := []) (by kernel_rfl) hl h
def ac41 : ACode :=
 (.seq (.reg [⟨(some 6), none, (.mv (.c (.sc (.int .i64 (0)))))⟩,
  ⟨(some 7), none, (.mv (.c (.sc (.int .i64 (0)))))⟩] none)
 (.seq (.reg [⟨(some 13), none, (.mv (.t 0))⟩,
  ⟨(some 14), none, (.conv .u64 (.t 13))⟩,
  ⟨(some 15), none, (.mv (.t 1))⟩,
  ⟨(some 16), none, (.conv .u64 (.t 15))⟩,
  ⟨(some 17), none, (.call 37 [(.t 14), (.t 16)])⟩,
  ⟨(some 12), none, (.mv (.t 17))⟩,
  ⟨(some 18), none, (.ext 0 (.t 12))⟩,
  ⟨(some 19), none, (.ext 1 (.t 12))⟩,
  ⟨(some 8), none, (.mv (.t 18))⟩,
  ⟨(some 9), none, (.mv (.t 19))⟩] none)
 (.seq (.reg [⟨(some 21), none, (.mv (.t 8))⟩,
  ⟨(some 22), none, (.mv (.t 9))⟩,
  ⟨(some 23), none, (.mv (.t 2))⟩,
  ⟨(some 24), none, (.conv .u64 (.t 23))⟩,
  ⟨(some 25), none, (.call 40 [(.t 21), (.t 22), (.t 24)])⟩,
  ⟨(some 20), none, (.mv (.t 25))⟩,
  ⟨(some 26), none, (.ext 0 (.t 20))⟩,
  ⟨(some 27), none, (.ext 1 (.t 20))⟩,
  ⟨(some 10), none, (.mv (.t 26))⟩,
  ⟨(some 11), none, (.mv (.t 27))⟩] none)
 (.seq (.reg [⟨(some 28), none, (.mv (.t 10))⟩,
  ⟨(some 29), none, (.conv .i64 (.t 28))⟩,
  ⟨(some 30), none, (.mv (.t 11))⟩,
  ⟨(some 31), none, (.conv .i64 (.t 30))⟩,
  ⟨(some 6), none, (.mv (.t 29))⟩,
  ⟨(some 7), none, (.mv (.t 31))⟩] none) .ret))))
theorem good41 {args : List PV} {r : PV} (hl : args.length ≤ 32) (h : Run Tryd.prog [.code ac41] (endQ [(.t 6), (.t 7)] r) ⟨initT 0 args, [], 0, 32⟩) : Good Tryd.prog 41 args r :=
  good_run (by kernel_rfl) Jamix Tryd.func41 rfl (hs := []) (hs' := []) (by kernel_rfl) hl h
def ac42 : ACode :=
 (.reg [⟨(some 4), none, (.mv (.t 0))⟩,
  ⟨(some 5), none, (.mv (.t 0))⟩,
  ⟨(some 6), none, (.len (.t 5))⟩,
  ⟨(some 7), none, (.mv (.t 1))⟩,
  ⟨(some 8), none, (.call 48 [(.t 4), (.t 6), (.t 7)])⟩] none)
theorem good42 {args : List PV} {r : PV} (hl : args.length ≤ 9) (h : Run Tryd.prog [.code ac42] (endQ [] r) ⟨initT 0 args, [], 0, 9⟩) : Good Tryd.prog 42 args r :=
  good_run (by kernel_rfl) Jamix Tryd.func42 rfl (hs := []) (hs' := []) (by kernel_rfl) hl h
theorem goodM42 {pre post : List PV} {e : TypeId} {sz : Nat} {es es2 : List PV} {r : PV} (hl : pre.length + 1 + post.length ≤ 9) (hfr : flatR r = true) (hfe : (flatL es2).all PV.isSc = true) (h : Run Tryd.prog [.code ac42] (endM [] r e sz es2) ⟨initT 0 (pre ++ .own 0 0 :: post), [(0, .row e sz 0 es)], 1, 9⟩) : GoodM Tryd.prog 42 pre post e sz es r es2 :=
  goodM_run (by kernel_rfl) Jamix Tryd.func42 rfl (hs := []) (hs' := []) (by kernel_rfl) hl hfr hfe h
def ac43 : ACode :=
 (.seq (.reg [⟨(some 5), none, (.mv (.c (.sc (.int .i64 (0)))))⟩] none)
 (.seq (.reg [⟨(some 6), none, (.load 1 false (.t 2))⟩,
  ⟨(some 7), none, (.mv (.t 1))⟩,
  ⟨(some 8), none, (.iaddr 1 (.t 6) (.t 7))⟩,
  ⟨(some 9), none, (.load 1 false (.t 8))⟩,
  ⟨(some 10), none, (.load 1 false (.t 2))⟩,
  ⟨(some 11), none, (.mv (.t 0))⟩,
  ⟨(some 12), none, (.iaddr 1 (.t 10) (.t 11))⟩,
  ⟨(some 13), none, (.load 1 false (.t 12))⟩,
  ⟨(some 14), none, (.bin .sub (.t 9) (.t 13))⟩,
  ⟨(some 5), none, (.mv (.t 14))⟩] (some [[], [], [0, 1], [2, 0, 1], [], [], [4, 5], [6, 4, 5], [3, 7, 2, 0, 1, 6, 4, 5], [8, 0, 1, 2, 3, 4, 5, 6, 7]])) .ret))
theorem good43 {args : List PV} {r : PV} (hl : args.length ≤ 15) (h : Run Tryd.prog [.code ac43] (endQ [(.t 5)] r) ⟨initT 0 args, [], 0, 15⟩) : Good Tryd.prog 43 args r :=
  good_run (by kernel_rfl) Jamix Tryd.func43 rfl (hs := []) (hs' := []) (by kernel_rfl) hl h
def ac30 : ACode :=
 (.seq (.reg [⟨(some 6), none, (.mv (.c (.sc (.int .i64 (0)))))⟩,
  ⟨(some 7), none, (.mv (.c (.sc (.int .i64 (0)))))⟩] none)
 (.seq (.reg [⟨(some 8), none, (.mv (.c (.sc (.int .i64 (0)))))⟩,
  ⟨(some 9), none, (.mv (.c (.sc (.int .i64 (0)))))⟩] none)
 (.seq (.seq (.reg [⟨(some 10), none, (.mv (.c (.sc (.int .i64 (1125899906842624)))))⟩] none) (.block 0 
 (.loop ⟨[0, 1, 2, 8, 9, 10], []⟩
 (.seq (.seq (.reg [⟨(some 11), none, (.mv (.t 10))⟩,
  ⟨(some 12), none, (.bin .gtr (.t 11) (.c (.sc (.int .i64 (0)))))⟩] none)
 (.cond (.t 12) .skip (.exit 0)))
 (.seq (.block 1
 (.seq (.reg [⟨(some 15), none, (.mv (.t 8))⟩,
  ⟨(some 16), none, (.bin .mul (.c (.sc (.int .i64 (2)))) (.t 15))⟩,
  ⟨(some 17), none, (.mv (.t 9))⟩,
  ⟨(some 18), none, (.bin .mul (.c (.sc (.int .i64 (2)))) (.t 17))⟩,
  ⟨(some 8), none, (.mv (.t 16))⟩,
  ⟨(some 9), none, (.mv (.t 18))⟩] none)
 (.seq (.seq (.reg [⟨(some 19), none, (.mv (.t 0))⟩,
  ⟨(some 20), none, (.mv (.t 10))⟩,
  ⟨(some 21), none, (.bin .quo (.t 19) (.t 20))⟩,
  ⟨(some 22), none, (.bin .rem (.t 21) (.c (.sc (.int .i64 (2)))))⟩,
  ⟨(some 23), none, (.bin .eql (.t 22) (.c (.sc (.int .i64 (1)))))⟩] none)
 (.cond (.t 23) (.reg [⟨(some 24), none, (.mv (.t 8))⟩,
  ⟨(some 25), none, (.mv (.t 1))⟩,
  ⟨(some 26), none, (.mv (.t 2))⟩,
  ⟨(some 27), none, (.bin .quo (.t 25) (.t 26))⟩,
  ⟨(some 28), none, (.bin .add (.t 24) (.t 27))⟩,
  ⟨(some 29), none, (.mv (.t 9))⟩,
  ⟨(some 30), none, (.mv (.t 1))⟩,
  ⟨(some 31), none, (.mv (.t 2))⟩,
  ⟨(some 32), none, (.bin .rem (.t 30) (.t 31))⟩,
  ⟨(some 33), none, (.bin .add (.t 29) (.t 32))⟩,
  ⟨(some 8), none, (.mv (.t 28))⟩,
  ⟨(some 9), none, (.mv (.t 33))⟩] (some [[], [], [], [1, 2], [0, 3, 1, 2], [], [], [], [6, 7], [5, 8, 6, 7], [4, 0, 1, 2, 3], [9, 10, 0, 1, 2, 3, 4, 5, 6, 7, 8]])) .skip)) (.reg [⟨(some 34), none, (.mv (.t 8))⟩,
  ⟨(some 35), none, (.mv (.t 9))⟩,
  ⟨(some 36), none, (.mv (.t 2))⟩,
  ⟨(some 37), none, (.bin .quo (.t 35) (.t 36))⟩,
  ⟨(some 38), none, (.bin .add (.t 34) (.t 37))⟩,
  ⟨(some 39), none, (.mn (.t 38) (.c (.sc (.int .i64 (1125899906842625)))))⟩,
  ⟨(some 40), none, (.mv (.t 9))⟩,
  ⟨(some 41), none, (.mv (.t 2))⟩,
  ⟨(some 42), none, (.bin .rem (.t 40) (.t 41))⟩,
  ⟨(some 8), none, (.mv (.t 39))⟩,
  ⟨(some 9), none, (.mv (.t 42))⟩] (some [[], [], [], [1, 2], [0, 3, 1, 2], [4, 0, 3, 1, 2], [], [], [6, 7], [5, 0, 1, 2, 3, 4], [8, 9, 0, 1, 2, 3, 4, 5, 6, 7]]))))) (.reg [⟨(some 13), none, (.mv (.t 10))⟩,
  ⟨(some 14), none, (.bin .quo (.t 13) (.c (.sc (.int .i64 (2)))))⟩,
  ⟨(some 10), none, (.mv (.t 14))⟩] none))))))
 (.seq (.reg [⟨(some 43), none, (.mv (.t 8))⟩,
  ⟨(some 44), none, (.mv (.t 9))⟩,
  ⟨(some 6), none, (.mv (.t 43))⟩,
  ⟨(some 7), none, (.mv (.t 44))⟩] none) .ret))))
theorem good30 {args : List PV} {r : PV} (hl : args.length ≤ 45) (h : Run Tryd.prog [.code ac30] (endQ [(.t 6), (.t 7)] r) ⟨initT 0 args, [], 0, 45⟩) : Good Tryd.prog 30 args r :=
  good_run (by kernel_rfl) Jamix Tryd.func30 rfl (hs := [⟨[0, 1, 2, 8, 9, 10], []⟩]) (hs' := []) (by kernel_rfl) hl h
def ac27 : ACode :=
 (.seq (.reg [⟨(some 4), none, (.mv (.c (.sc (.slice none 0 0))))⟩,
  ⟨(some 5), none, (.mv (.c (.sc (.int .i64 (0)))))⟩] none)
 (.seq (.seq (.reg [⟨(some 16), none, (.mv (.t 0))⟩,
  ⟨(some 17), none, (.bin .lss (.t 16) (.c (.sc (.int .i64 (0)))))⟩,
  ⟨(some 18), none, (.mv (.t 17))⟩,
  ⟨(some 19), (some (18, false)), (.mv (.t 0))⟩,
  ⟨(some 20), (some (18, false)), (.bin .gtr (.t 19) (.c (.sc (.int .i64 (1125899906842624)))))⟩,
  ⟨(some 21), none, (.pick (.t 18) (.c (.sc (.bool true))) (.t 20))⟩,
  ⟨(some 22), none, (.mv (.t 21))⟩,
  ⟨(some 23), (some (22, false)), (.mv (.t 1))⟩,
  ⟨(some 24), (some (22, false)), (.len (.t 23))⟩,
  ⟨(some 25), (some (22, false)), (.bin .lss (.t 24) (.c (.sc (.int .i64 (1)))))⟩,
  ⟨(some 26), none, (.pick (.t 22) (.c (.sc (.bool true))) (.t 25))⟩,
  ⟨(some 27), none, (.mv (.t 26))⟩,
  ⟨(some 28), (some (27, false)), (.mv (.t 1))⟩,
  ⟨(some 29), (some (27, false)), (.len (.t 28))⟩,
  ⟨(some 30), (some (27, false)), (.bin .gtr (.t 29) (.c (.sc (.int .i64 (512)))))⟩,
  ⟨(some 31), none, (.pick (.t 27) (.c (.sc (.bool true))) (.t 30))⟩] none)
 (.cond (.t 31)
 (.seq (.reg [⟨(some 4), none, (.mv (.c (.sc (.slice none 0 0))))⟩,
  ⟨(some 5), none, (.mv (.c (.sc (.int .i64 (1)))))⟩] none) .ret) .skip))
 (.seq (.reg [⟨(some 6), none, (.mv (.c (.sc (.int .i64 (0)))))⟩] none)
 (.seq (.seq (.reg [⟨(some 7), none, (.mv (.c (.sc (.int .i64 (0)))))⟩] none) (.block 0 
 (.loop ⟨[0, 1, 6, 7], []⟩
 (.seq (.seq (.reg [⟨(some 32), none, (.mv (.t 7))⟩,
  ⟨(some 33), none, (.mv (.t 1))⟩,
  ⟨(some 34), none, (.len (.t 33))⟩,
  ⟨(some 35), none, (.bin .lss (.t 32) (.t 34))⟩] none)
 (.cond (.t 35) .skip (.exit 0)))
 (.seq (.block 1
 (.seq (.seq (.reg [⟨(some 38), none, (.mv (.t 1))⟩,
  ⟨(some 39), none, (.mv (.t 7))⟩,
  ⟨(some 40), none, (.iaddr 1 (.t 38) (.t 39))⟩,
  ⟨(some 41), none, (.load 1 false (.t 40))⟩,
  ⟨(some 42), none, (.bin .lss (.t 41) (.c (.sc (.int .i64 (0)))))⟩,
  ⟨(some 43), none, (.mv (.t 42))⟩,
  ⟨(some 44), (some (43, false)), (.mv (.t 1))⟩,
  ⟨(some 45), (some (43, false)), (.mv (.t 7))⟩,
  ⟨(some 46), (some (43, false)), (.iaddr 1 (.t 44) (.t 45))⟩,
  ⟨(some 47), (some (43, false)), (.load 1 false (.t 46))⟩,
  ⟨(some 48), (some (43, false)), (.bin .gtr (.t 47) (.c (.sc (.int .i64 (1125899906842624)))))⟩,
  ⟨(some 49), none, (.pick (.t 43) (.c (.sc (.bool true))) (.t 48))⟩] none)
 (.cond (.t 49)
 (.seq (.reg [⟨(some 4), none, (.mv (.c (.sc (.slice none 0 0))))⟩,
  ⟨(some 5), none, (.mv (.c (.sc (.int .i64 (1)))))⟩] none) .ret) .skip)) (.reg [⟨(some 50), none, (.mv (.t 6))⟩,
  ⟨(some 51), none, (.mv (.t 1))⟩,
  ⟨(some 52), none, (.mv (.t 7))⟩,
  ⟨(some 53), none, (.iaddr 1 (.t 51) (.t 52))⟩,
  ⟨(some 54), none, (.load 1 false (.t 53))⟩,
  ⟨(some 55), none, (.bin .add (.t 50) (.t 54))⟩,
  ⟨(some 6), none, (.mv (.t 55))⟩] none))) (.reg [⟨(some 36), none, (.mv (.t 7))⟩,
  ⟨(some 37), none, (.bin .add (.t 36) (.c (.sc (.int .i64 (1)))))⟩,
  ⟨(some 7), none, (.mv (.t 37))⟩] none))))))
 (.seq (.seq (.reg [⟨(some 56), none, (.mv (.t 6))⟩,
  ⟨(some 57), none, (.bin .gtr (.t 56) (.c (.sc (.int .i64 (1125899906842624)))))⟩] none)
 (.cond (.t 57)
 (.seq (.reg [⟨(some 4), none, (.mv (.c (.sc (.slice none 0 0))))⟩,
  ⟨(some 5), none, (.mv (.c (.sc (.int .i64 (2)))))⟩] none) .ret) .skip))
 (.seq (.seq (.reg [⟨(some 58), none, (.mv (.t 6))⟩,
  ⟨(some 59), none, (.bin .eql (.t 58) (.c (.sc (.int .i64 (0)))))⟩,
  ⟨(some 60), none, (.mv (.t 59))⟩,
  ⟨(some 61), (some (60, true)), (.mv (.t 0))⟩,
  ⟨(some 62), (some (60, true)), (.bin .gtr (.t 61) (.c (.sc (.int .i64 (0)))))⟩,
  ⟨(some 63), none, (.pick (.t 60) (.t 62) (.c (.sc (.bool false))))⟩] none)
 (.cond (.t 63)
 (.seq (.reg [⟨(some 4), none, (.mv (.c (.sc (.slice none 0 0))))⟩,
  ⟨(some 5), none, (.mv (.c (.sc (.int .i64 (10)))))⟩] none) .ret) .skip))
 (.seq (.seq (.reg [⟨(some 64), none, (.mv (.t 6))⟩,
  ⟨(some 65), none, (.bin .eql (.t 64) (.c (.sc (.int .i64 (0)))))⟩] none)
 (.cond (.t 65)
 (.seq (.reg [⟨(some 66), none, (.mv (.t 1))⟩,
  ⟨(some 67), none, (.len (.t 66))⟩,
  ⟨(some 68), none, (.mk 3 1 8 [(.sc (.int .i64 (0)))] (.t 67) (.t 67))⟩,
  ⟨(some 4), none, (.mv (.t 68))⟩,
  ⟨(some 5), none, (.mv (.c (.sc (.int .i64 (0)))))⟩] none) .ret) .skip))
 (.seq (.reg [⟨(some 8), none, (.mv (.c (.sc (.slice none 0 0))))⟩,
  ⟨(some 9), none, (.mv (.c (.sc (.slice none 0 0))))⟩] none)
 (.seq (.reg [⟨(some 69), none, (.mv (.t 0))⟩,
  ⟨(some 10), none, (.mv (.t 69))⟩] none)
 (.seq (.seq (.reg [⟨(some 11), none, (.mv (.c (.sc (.int .i64 (0)))))⟩] none) (.block 2 
 (.loop ⟨[0, 1, 6, 8, 9, 10, 11], [(8, (3, 1)), (9, (3, 1))]⟩
 (.seq (.seq (.reg [⟨(some 70), none, (.mv (.t 11))⟩,
  ⟨(some 71), none, (.mv (.t 1))⟩,
  ⟨(some 72), none, (.len (.t 71))⟩,
  ⟨(some 73), none, (.bin .lss (.t 70) (.t 72))⟩] none)
 (.cond (.t 73) .skip (.exit 2)))
 (.seq (.block 3
 (.seq (.reg [⟨(some 77), none, (.mv (.t 0))⟩,
  ⟨(some 78), none, (.mv (.t 1))⟩,
  ⟨(some 79), none, (.mv (.t 11))⟩,
  ⟨(some 80), none, (.iaddr 1 (.t 78) (.t 79))⟩,
  ⟨(some 81), none, (.load 1 false (.t 80))⟩,
  ⟨(some 82), none, (.mv (.t 6))⟩,
  ⟨(some 83), none, (.call 30 [(.t 77), (.t 81), (.t 82)])⟩,
  ⟨(some 76), none, (.mv (.t 83))⟩,
  ⟨(some 84), none, (.ext 0 (.t 76))⟩,
  ⟨(some 85), none, (.ext 1 (.t 76))⟩,
  ⟨(some 12), none, (.mv (.t 84))⟩,
  ⟨(some 13), none, (.mv (.t 85))⟩] none)
 (.seq (.reg [⟨(some 86), none, (.mv (.t 8))⟩,
  ⟨(some 87), none, (.mv (.t 12))⟩,
  ⟨(some 88), none, (.bslice 3 1 [(.t 87)])⟩,
  ⟨(some 89), none, (.append 3 1 8 (.t 86) (.t 88))⟩,
  ⟨(some 8), none, (.mv (.t 89))⟩] none)
 (.seq (.reg [⟨(some 90), none, (.mv (.t 9))⟩,
  ⟨(some 91), none, (.mv (.t 13))⟩,
  ⟨(some 92), none, (.bslice 3 1 [(.t 91)])⟩,
  ⟨(some 93), none, (.append 3 1 8 (.t 90) (.t 92))⟩,
  ⟨(some 9), none, (.mv (.t 93))⟩] none) (.reg [⟨(some 94), none, (.mv (.t 10))⟩,
  ⟨(some 95), none, (.mv (.t 12))⟩,
  ⟨(some 96), none, (.bin .sub (.t 94) (.t 95))⟩,
  ⟨(some 10), none, (.mv (.t 96))⟩] none))))) (.reg [⟨(some 74), none, (.mv (.t 11))⟩,
  ⟨(some 75), none, (.bin .add (.t 74) (.c (.sc (.int .i64 (1)))))⟩,
  ⟨(some 11), none, (.mv (.t 75))⟩] none))))))
 (.seq (.block 4 
 (.loop ⟨[8, 9, 10], []⟩
 (.seq (.seq (.reg [⟨(some 97), none, (.mv (.t 10))⟩,
  ⟨(some 98), none, (.bin .gtr (.t 97) (.c (.sc (.int .i64 (0)))))⟩] none)
 (.cond (.t 98) .skip (.exit 4)))
 (.seq (.block 5
 (.seq (.reg [⟨(some 14), none, (.mv (.c (.sc (.int .i64 (0)))))⟩] none)
 (.seq (.seq (.reg [⟨(some 15), none, (.mv (.c (.sc (.int .i64 (1)))))⟩] none) (.block 6 
 (.loop ⟨[8, 9, 10, 14, 15], []⟩
 (.seq (.seq (.reg [⟨(some 101), none, (.mv (.t 15))⟩,
  ⟨(some 102), none, (.mv (.t 9))⟩,
  ⟨(some 103), none, (.len (.t 102))⟩,
  ⟨(some 104), none, (.bin .lss (.t 101) (.t 103))⟩] none)
 (.cond (.t 104) .skip (.exit 6)))
 (.seq (.block 7
 (.seq (.reg [⟨(some 107), none, (.mv (.t 9))⟩,
  ⟨(some 108), none, (.mv (.t 15))⟩,
  ⟨(some 109), none, (.iaddr 1 (.t 107) (.t 108))⟩,
  ⟨(some 110), none, (.load 1 false (.t 109))⟩,
  ⟨(some 111), none, (.mv (.t 9))⟩,
  ⟨(some 112), none, (.mv (.t 14))⟩,
  ⟨(some 113), none, (.iaddr 1 (.t 111) (.t 112))⟩,
  ⟨(some 114), none, (.load 1 false (.t 113))⟩,
  ⟨(some 115), none, (.bin .gtr (.t 110) (.t 114))⟩] (some [[], [], [0, 1], [2, 0, 1], [], [], [4, 5], [6, 4, 5], [3, 7, 2, 0, 1, 6, 4, 5]]))
 (.cond (.t 115) (.reg [⟨(some 116), none, (.mv (.t 15))⟩,
  ⟨(some 14), none, (.mv (.t 116))⟩] none) .skip))) (.reg [⟨(some 105), none, (.mv (.t 15))⟩,
  ⟨(some 106), none, (.bin .add (.t 105) (.c (.sc (.int .i64 (1)))))⟩,
  ⟨(some 15), none, (.mv (.t 106))⟩] none))))))
 (.seq (.reg [⟨(some 117), none, (.mv (.t 8))⟩,
  ⟨(some 118), none, (.mv (.t 14))⟩,
  ⟨(some 119), none, (.mv (.t 8))⟩,
  ⟨(some 120), none, (.mv (.t 14))⟩,
  ⟨(some 121), none, (.iaddr 1 (.t 119) (.t 120))⟩,
  ⟨(some 122), none, (.load 1 false (.t 121))⟩,
  ⟨(some 123), none, (.bin .add (.t 122) (.c (.sc (.int .i64 (1)))))⟩,
  ⟨(some 124), none, (.iaddr 1 (.t 117) (.t 118))⟩,
  ⟨none, none, (.store 1 (.t 124) (.t 123))⟩] none) (.reg [⟨(some 125), none, (.mv (.t 9))⟩,
  ⟨(some 126), none, (.mv (.t 14))⟩,
  ⟨(some 127), none, (.iaddr 1 (.t 125) (.t 126))⟩,
  ⟨none, none, (.store 1 (.t 127) (.c (.sc (.int .i64 (-1)))))⟩] none))))) (.reg [⟨(some 99), none, (.mv (.t 10))⟩,
  ⟨(some 100), none, (.bin .sub (.t 99) (.c (.sc (.int .i64 (1)))))⟩,
  ⟨(some 10), none, (.mv (.t 100))⟩] none)))))
 (.seq (.reg [⟨(some 128), none, (.mv (.t 8))⟩,
  ⟨(some 4), none, (.mv (.t 128))⟩,
  ⟨(some 5), none, (.mv (.c (.sc (.int .i64 (0)))))⟩] none) .ret))))))))))))
theorem good27 {args : List PV} {r : PV} (hl : args.length ≤ 129) (h : Run Tryd.prog [.code ac27] (endQ [(.t 4), (.t 5)] r) ⟨initT 0 args, [], 0, 129⟩) : Good Tryd.prog 27 args r :=
  good_run (by kernel_rfl) Jamix Tryd.func27 rfl (hs := [⟨[0, 1, 6, 7], []⟩, ⟨[0, 1, 6, 8, 9, 10, 11], [(8, 3, 1), (9, 3, 1)]⟩, ⟨[8, 9, 10], []⟩, ⟨[8, 9, 10, 14, 15], []⟩]) (hs' := []) (by kernel_rfl) hl h
def ac40 : ACode :=
 (.seq (.reg [⟨(some 6), none, (.mv (.c (.sc (.int .u64 (0)))))⟩,
  ⟨(some 7), none, (.mv (.c (.sc (.int .u64 (0)))))⟩] none)
 (.seq (.seq (.reg [⟨(some 19), none, (.mv (.t 2))⟩,
  ⟨(some 20), none, (.bin .eql (.t 19) (.c (.sc (.int .u64 (0)))))⟩] none)
 (.cond (.t 20) .dead .skip))
 (.seq (.seq (.reg [⟨(some 22), none, (.mv (.t 2))⟩,
  ⟨(some 23), none, (.mv (.t 0))⟩,
  ⟨(some 24), none, (.bin .leq (.t 22) (.t 23))⟩] none)
 (.cond (.t 24) .dead .skip))
 (.seq (.seq (.reg [⟨(some 26), none, (.mv (.t 0))⟩,
  ⟨(some 27), none, (.bin .eql (.t 26) (.c (.sc (.int .u64 (0)))))⟩] none)
 (.cond (.t 27)
 (.seq (.reg [⟨(some 28), none, (.mv (.t 1))⟩,
  ⟨(some 29), none, (.mv (.t 2))⟩,
  ⟨(some 30), none, (.bin .quo (.t 28) (.t 29))⟩,
  ⟨(some 31), none, (.mv (.t 1))⟩,
  ⟨(some 32), none, (.mv (.t 2))⟩,
  ⟨(some 33), none, (.bin .rem (.t 31) (.t 32))⟩,
  ⟨(some 6), none, (.mv (.t 30))⟩,
  ⟨(some 7), none, (.mv (.t 33))⟩] (some [[], [], [0, 1], [], [], [3, 4], [2, 0, 1], [5, 6, 0, 1, 2, 3, 4]])) .ret) .skip))
 (.seq (.reg [⟨(some 34), none, (.mv (.t 2))⟩,
  ⟨(some 35), none, (.call 47 [(.t 34)])⟩,
  ⟨(some 36), none, (.conv .u64 (.t 35))⟩,
  ⟨(some 8), none, (.mv (.t 36))⟩] none)
 (.seq (.reg [⟨(some 37), none, (.mv (.t 2))⟩,
  ⟨(some 38), none, (.mv (.t 8))⟩,
  ⟨(some 39), none, (.bin .shl (.t 37) (.t 38))⟩,
  ⟨(some 2), none, (.mv (.t 39))⟩] none)
 (.seq (.reg [⟨(some 40), none, (.mv (.t 2))⟩,
  ⟨(some 41), none, (.bin .shr (.t 40) (.c (.sc (.int .u64 (32)))))⟩,
  ⟨(some 9), none, (.mv (.t 41))⟩] none)
 (.seq (.reg [⟨(some 42), none, (.mv (.t 2))⟩,
  ⟨(some 43), none, (.bin .and (.t 42) (.c (.sc (.int .u64 (4294967295)))))⟩,
  ⟨(some 10), none, (.mv (.t 43))⟩] none)
 (.seq (.reg [⟨(some 44), none, (.mv (.t 0))⟩,
  ⟨(some 45), none, (.mv (.t 8))⟩,
  ⟨(some 46), none, (.bin .shl (.t 44) (.t 45))⟩,
  ⟨(some 47), none, (.mv (.t 1))⟩,
  ⟨(some 48), none, (.mv (.t 8))⟩,
  ⟨(some 49), none, (.bin .sub (.c (.sc (.int .u64 (64)))) (.t 48))⟩,
  ⟨(some 50), none, (.bin .shr (.t 47) (.t 49))⟩,
  ⟨(some 51), none, (.bin .or (.t 46) (.t 50))⟩,
  ⟨(some 11), none, (.mv (.t 51))⟩] none)
 (.seq (.reg [⟨(some 52), none, (.mv (.t 1))⟩,
  ⟨(some 53), none, (.mv (.t 8))⟩,
  ⟨(some 54), none, (.bin .shl (.t 52) (.t 53))⟩,
  ⟨(some 12), none, (.mv (.t 54))⟩] none)
 (.seq (.reg [⟨(some 55), none, (.mv (.t 12))⟩,
  ⟨(some 56), none, (.bin .shr (.t 55) (.c (.sc (.int .u64 (32)))))⟩,
  ⟨(some 13), none, (.mv (.t 56))⟩] none)
 (.seq (.reg [⟨(some 57), none, (.mv (.t 12))⟩,
  ⟨(some 58), none, (.bin .and (.t 57) (.c (.sc (.int .u64 (4294967295)))))⟩,
  ⟨(some 14), none, (.mv (.t 58))⟩] none)
 (.seq (.reg [⟨(some 59), none, (.mv (.t 11))⟩,
  ⟨(some 60), none, (.mv (.t 9))⟩,
  ⟨(some 61), none, (.bin .quo (.t 59) (.t 60))⟩,
  ⟨(some 15), none, (.mv (.t 61))⟩] none)
 (.seq (.reg [⟨(some 62), none, (.mv (.t 11))⟩,
  ⟨(some 63), none, (.mv (.t 15))⟩,
  ⟨(some 64), none, (.mv (.t 9))⟩,
  ⟨(some 65), none, (.bin .mul (.t 63) (.t 64))⟩,
  ⟨(some 66), none, (.bin .sub (.t 62) (.t 65))⟩,
  ⟨(some 16), none, (.mv (.t 66))⟩] none)
 (.seq (.block 0 
 (.loop ⟨[2, 8, 9, 10, 11, 13, 14, 15, 16], []⟩
 (.seq (.seq (.reg [⟨(some 67), none, (.mv (.t 15))⟩,
  ⟨(some 68), none, (.bin .geq (.t 67) (.c (.sc (.int .u64 (4294967296)))))⟩,
  ⟨(some 69), none, (.mv (.t 68))⟩,
  ⟨(some 70), (some (69, false)), (.mv (.t 15))⟩,
  ⟨(some 71), (some (69, false)), (.mv (.t 10))⟩,
  ⟨(some 72), (some (69, false)), (.bin .mul (.t 70) (.t 71))⟩,
  ⟨(some 73), (some (69, false)), (.mv (.t 16))⟩,
  ⟨(some 74), (some (69, false)), (.bin .mul (.c (.sc (.int .u64 (4294967296)))) (.t 73))⟩,
  ⟨(some 75), (some (69, false)), (.mv (.t 13))⟩,
  ⟨(some 76), (some (69, false)), (.bin .add (.t 74) (.t 75))⟩,
  ⟨(some 77), (some (69, false)), (.bin .gtr (.t 72) (.t 76))⟩,
  ⟨(some 78), none, (.pick (.t 69) (.c (.sc (.bool true))) (.t 77))⟩] none)
 (.cond (.t 78) .skip (.exit 0))) (.block 1
 (.seq (.reg [⟨(some 79), none, (.mv (.t 15))⟩,
  ⟨(some 80), none, (.bin .sub (.t 79) (.c (.sc (.int .u64 (1)))))⟩,
  ⟨(some 15), none, (.mv (.t 80))⟩] none)
 (.seq (.reg [⟨(some 81), none, (.mv (.t 16))⟩,
  ⟨(some 82), none, (.mv (.t 9))⟩,
  ⟨(some 83), none, (.bin .add (.t 81) (.t 82))⟩,
  ⟨(some 16), none, (.mv (.t 83))⟩] none)
 (.seq (.reg [⟨(some 84), none, (.mv (.t 16))⟩,
  ⟨(some 85), none, (.bin .geq (.t 84) (.c (.sc (.int .u64 (4294967296)))))⟩] none)
 (.cond (.t 85) (.exit 0) .skip))))))))
 (.seq (.reg [⟨(some 86), none, (.mv (.t 11))⟩,
  ⟨(some 87), none, (.bin .mul (.t 86) (.c (.sc (.int .u64 (4294967296)))))⟩,
  ⟨(some 88), none, (.mv (.t 13))⟩,
  ⟨(some 89), none, (.bin .add (.t 87) (.t 88))⟩,
  ⟨(some 90), none, (.mv (.t 15))⟩,
  ⟨(some 91), none, (.mv (.t 2))⟩,
  ⟨(some 92), none, (.bin .mul (.t 90) (.t 91))⟩,
  ⟨(some 93), none, (.bin .sub (.t 89) (.t 92))⟩,
  ⟨(some 17), none, (.mv (.t 93))⟩] none)
 (.seq (.reg [⟨(some 94), none, (.mv (.t 17))⟩,
  ⟨(some 95), none, (.mv (.t 9))⟩,
  ⟨(some 96), none, (.bin .quo (.t 94) (.t 95))⟩,
  ⟨(some 18), none, (.mv (.t 96))⟩] none)
 (.seq (.reg [⟨(some 97), none, (.mv (.t 17))⟩,
  ⟨(some 98), none, (.mv (.t 18))⟩,
  ⟨(some 99), none, (.mv (.t 9))⟩,
  ⟨(some 100), none, (.bin .mul (.t 98) (.t 99))⟩,
  ⟨(some 101), none, (.bin .sub (.t 97) (.t 100))⟩,
  ⟨(some 16), none, (.mv (.t 101))⟩] none)
 (.seq (.block 2 
 (.loop ⟨[2, 8, 9, 10, 14, 15, 16, 17, 18], []⟩
 (.seq (.seq (.reg [⟨(some 102), none, (.mv (.t 18))⟩,
  ⟨(some 103), none, (.bin .geq (.t 102) (.c (.sc (.int .u64 (4294967296)))))⟩,
  ⟨(some 104), none, (.mv (.t 103))⟩,
  ⟨(some 105), (some (104, false)), (.mv (.t 18))⟩,
  ⟨(some 106), (some (104, false)), (.mv (.t 10))⟩,
  ⟨(some 107), (some (104, false)), (.bin .mul (.t 105) (.t 106))⟩,
  ⟨(some 108), (some (104, false)), (.mv (.t 16))⟩,
  ⟨(some 109), (some (104, false)), (.bin .mul (.c (.sc (.int .u64 (4294967296)))) (.t 108))⟩,
  ⟨(some 110), (some (104, false)), (.mv (.t 14))⟩,
  ⟨(some 111), (some (104, false)), (.bin .add (.t 109) (.t 110))⟩,
  ⟨(some 112), (some (104, false)), (.bin .gtr (.t 107) (.t 111))⟩,
  ⟨(some 113), none, (.pick (.t 104) (.c (.sc (.bool true))) (.t 112))⟩] none)
 (.cond (.t 113) .skip (.exit 2))) (.block 3
 (.seq (.reg [⟨(some 114), none, (.mv (.t 18))⟩,
  ⟨(some 115), none, (.bin .sub (.t 114) (.c (.sc (.int .u64 (1)))))⟩,
  ⟨(some 18), none, (.mv (.t 115))⟩] none)
 (.seq (.reg [⟨(some 116), none, (.mv (.t 16))⟩,
  ⟨(some 117), none, (.mv (.t 9))⟩,
  ⟨(some 118), none, (.bin .add (.t 116) (.t 117))⟩,
  ⟨(some 16), none, (.mv (.t 118))⟩] none)
 (.seq (.reg [⟨(some 119), none, (.mv (.t 16))⟩,
  ⟨(some 120), none, (.bin .geq (.t 119) (.c (.sc (.int .u64 (4294967296)))))⟩] none)
 (.cond (.t 120) (.exit 2) .skip))))))))
 (.seq (.reg [⟨(some 121), none, (.mv (.t 15))⟩,
  ⟨(some 122), none, (.bin .mul (.t 121) (.c (.sc (.int .u64 (4294967296)))))⟩,
  ⟨(some 123), none, (.mv (.t 18))⟩,
  ⟨(some 124), none, (.bin .add (.t 122) (.t 123))⟩,
  ⟨(some 125), none, (.mv (.t 17))⟩,
  ⟨(some 126), none, (.bin .mul (.t 125) (.c (.sc (.int .u64 (4294967296)))))⟩,
  ⟨(some 127), none, (.mv (.t 14))⟩,
  ⟨(some 128), none, (.bin .add (.t 126) (.t 127))⟩,
  ⟨(some 129), none, (.mv (.t 18))⟩,
  ⟨(some 130), none, (.mv (.t 2))⟩,
  ⟨(some 131), none, (.bin .mul (.t 129) (.t 130))⟩,
  ⟨(some 132), none, (.bin .sub (.t 128) (.t 131))⟩,
  ⟨(some 133), none, (.mv (.t 8))⟩,
  ⟨(some 134), none, (.bin .shr (.t 132) (.t 133))⟩,
  ⟨(some 6), none, (.mv (.t 124))⟩,
  ⟨(some 7), none, (.mv (.t 134))⟩] none) .ret))))))))))))))))))))
theorem good40 {args : List PV} {r : PV} (hl : args.length ≤ 135) (h : Run Tryd.prog [.code ac40] (endQ [(.t 6), (.t 7)] r) ⟨initT 0 args, [], 0, 135⟩) : Good Tryd.prog 40 args r :=
  good_run (by kernel_rfl) Jamix Tryd.func40 rfl (hs := [⟨[2, 8, 9, 10, 11, 13, 14, 15, 16], []⟩, ⟨[2, 8, 9, 10, 14, 15, 16, 17, 18], []⟩]) (hs' := []) (by kernel_rfl) hl h
def ac48 : ACode :=
 (.seq (.reg [⟨(some 6), none, (.mv (.c (.sc (.int .i64 (20)))))⟩] none)
 (.seq (.reg [⟨(some 10), none, (.mv (.t 6))⟩,
  ⟨(some 7), none, (.mv (.c (.sc (.int .i64 (0)))))⟩,
  ⟨(some 8), none, (.mv (.t 10))⟩] none)
 (.seq (.block 0 
 (.loop ⟨[0, 1, 2, 6, 7, 8], []⟩
 (.seq (.seq (.reg [⟨(some 11), none, (.mv (.t 8))⟩,
  ⟨(some 12), none, (.mv (.t 1))⟩,
  ⟨(some 13), none, (.bin .leq (.t 11) (.t 12))⟩] none)
 (.cond (.t 13) .skip (.exit 0))) (.block 1
 (.seq (.reg [⟨(some 14), none, (.mv (.t 0))⟩,
  ⟨(some 15), none, (.mv (.t 7))⟩,
  ⟨(some 16), none, (.mv (.t 8))⟩,
  ⟨(some 17), none, (.mv (.t 2))⟩,
  ⟨(some 18), none, (.call 54 [(.t 14), (.t 15), (.t 16), (.t 17)])⟩] none)
 (.seq (.reg [⟨(some 19), none, (.mv (.t 8))⟩,
  ⟨(some 7), none, (.mv (.t 19))⟩] none) (.reg [⟨(some 20), none, (.mv (.t 8))⟩,
  ⟨(some 21), none, (.mv (.t 6))⟩,
  ⟨(some 22), none, (.bin .add (.t 20) (.t 21))⟩,
  ⟨(some 8), none, (.mv (.t 22))⟩] none)))))))
 (.seq (.reg [⟨(some 23), none, (.mv (.t 0))⟩,
  ⟨(some 24), none, (.mv (.t 7))⟩,
  ⟨(some 25), none, (.mv (.t 1))⟩,
  ⟨(some 26), none, (.mv (.t 2))⟩,
  ⟨(some 27), none, (.call 54 [(.t 23), (.t 24), (.t 25), (.t 26)])⟩] none) (.block 2 
 (.loop ⟨[0, 1, 2, 6], []⟩
 (.seq (.seq (.reg [⟨(some 28), none, (.mv (.t 6))⟩,
  ⟨(some 29), none, (.mv (.t 1))⟩,
  ⟨(some 30), none, (.bin .lss (.t 28) (.t 29))⟩] none)
 (.cond (.t 30) .skip (.exit 2))) (.block 3
 (.seq (.reg [⟨(some 31), none, (.mv (.t 6))⟩,
  ⟨(some 32), none, (.bin .mul (.c (.sc (.int .i64 (2)))) (.t 31))⟩,
  ⟨(some 7), none, (.mv (.c (.sc (.int .i64 (0)))))⟩,
  ⟨(some 8), none, (.mv (.t 32))⟩] none)
 (.seq (.block 4 
 (.loop ⟨[0, 1, 2, 6, 7, 8], []⟩
 (.seq (.seq (.reg [⟨(some 33), none, (.mv (.t 8))⟩,
  ⟨(some 34), none, (.mv (.t 1))⟩,
  ⟨(some 35), none, (.bin .leq (.t 33) (.t 34))⟩] none)
 (.cond (.t 35) .skip (.exit 4))) (.block 5
 (.seq (.reg [⟨(some 36), none, (.mv (.t 0))⟩,
  ⟨(some 37), none, (.mv (.t 7))⟩,
  ⟨(some 38), none, (.mv (.t 7))⟩,
  ⟨(some 39), none, (.mv (.t 6))⟩,
  ⟨(some 40), none, (.bin .add (.t 38) (.t 39))⟩,
  ⟨(some 41), none, (.mv (.t 8))⟩,
  ⟨(some 42), none, (.mv (.t 2))⟩,
  ⟨(some 43), none, (.call 55 [(.t 36), (.t 37), (.t 40), (.t 41), (.t 42)])⟩] none)
 (.seq (.reg [⟨(some 44), none, (.mv (.t 8))⟩,
  ⟨(some 7), none, (.mv (.t 44))⟩] none) (.reg [⟨(some 45), none, (.mv (.t 8))⟩,
  ⟨(some 46), none, (.mv (.t 6))⟩,
  ⟨(some 47), none, (.bin .mul (.c (.sc (.int .i64 (2)))) (.t 46))⟩,
  ⟨(some 48), none, (.bin .add (.t 45) (.t 47))⟩,
  ⟨(some 8), none, (.mv (.t 48))⟩] none)))))))
 (.seq (.seq (.reg [⟨(some 49), none, (.mv (.t 7))⟩,
  ⟨(some 50), none, (.mv (.t 6))⟩,
  ⟨(some 51), none, (.bin .add (.t 49) (.t 50))⟩,
  ⟨(some 9), none, (.mv (.t 51))⟩] none)
 (.seq (.reg [⟨(some 52), none, (.mv (.t 9))⟩,
  ⟨(some 53), none, (.mv (.t 1))⟩,
  ⟨(some 54), none, (.bin .lss (.t 52) (.t 53))⟩] none)
 (.cond (.t 54) (.reg [⟨(some 55), none, (.mv (.t 0))⟩,
  ⟨(some 56), none, (.mv (.t 7))⟩,
  ⟨(some 57), none, (.mv (.t 9))⟩,
  ⟨(some 58), none, (.mv (.t 1))⟩,
  ⟨(some 59), none, (.mv (.t 2))⟩,
  ⟨(some 60), none, (.call 55 [(.t 55), (.t 56), (.t 57), (.t 58), (.t 59)])⟩] none) .skip))) (.reg [⟨(some 61), none, (.mv (.t 6))⟩,
  ⟨(some 62), none, (.bin .mul (.t 61) (.c (.sc (.int .i64 (2)))))⟩,
  ⟨(some 6), none, (.mv (.t 62))⟩] none))))))))))))
theorem good48 {args : List PV} {r : PV} (hl : args.length ≤ 63) (h : Run Tryd.prog [.code ac48] (endQ [] r) ⟨initT 0 args, [], 0, 63⟩) : Good Tryd.prog 48 args r :=
  good_run (by kernel_rfl) Jamix Tryd.func48 rfl (hs := [⟨[0, 1, 2, 6, 7, 8], []⟩, ⟨[0, 1, 2, 6], []⟩, ⟨[0, 1, 2, 6, 7, 8], []⟩]) (hs' := []) (by kernel_rfl) hl h
theorem goodM48 {pre post : List PV} {e : TypeId} {sz : Nat} {es es2 : List PV} {r : PV} (hl : pre.length + 1 + post.length ≤ 63) (hfr : flatR r = true) (hfe : (flatL es2).all PV.isSc = true) (h : Run Tryd.prog [.code ac48] (endM [] r e sz es2) ⟨initT 0 (pre ++ .own 0 0 :: post), [(0, .row e sz 0 es)], 1, 63⟩) : GoodM Tryd.prog 48 pre post e sz es r es2 :=
  goodM_run (by kernel_rfl) Jamix Tryd.func48 rfl (hs := [⟨[0, 1, 2, 6, 7, 8], []⟩, ⟨[0, 1, 2, 6], []⟩, ⟨[0, 1, 2, 6, 7, 8], []⟩]) (hs' := []) (by kernel_rfl) hl hfr hfe h
def ac54 : ACode :=
 (.seq (.reg [⟨(some 10), none, (.mv (.t 1))⟩,
  ⟨(some 11), none, (.bin .add (.t 10) (.c (.sc (.int .i64 (1)))))⟩,
  ⟨(some 8), none, (.mv (.t 11))⟩] none) (.block 0 
 (.loop ⟨[0, 1, 2, 3, 8], []⟩
 (.seq (.seq (.reg [⟨(some 12), none, (.mv (.t 8))⟩,
  ⟨(some 13), none, (.mv (.t 2))⟩,
  ⟨(some 14), none, (.bin .lss (.t 12) (.t 13))⟩] none)
 (.cond (.t 14) .skip (.exit 0)))
 (.seq (.block 1
 (.seq (.reg [⟨(some 17), none, (.mv (.t 8))⟩,
  ⟨(some 9), none, (.mv (.t 17))⟩] none) (.block 2 
 (.loop ⟨[0, 1, 2, 3, 8, 9], []⟩
 (.seq (.seq (.reg [⟨(some 18), none, (.mv (.t 9))⟩,
  ⟨(some 19), none, (.mv (.t 1))⟩,
  ⟨(some 20), none, (.bin .gtr (.t 18) (.t 19))⟩,
  ⟨(some 21), none, (.mv (.t 20))⟩,
  ⟨(some 22), (some (21, true)), (.mv (.t 3))⟩,
  ⟨(some 23), (some (21, true)), (.mv (.t 0))⟩,
  ⟨(some 24), (some (21, true)), (.mv (.t 9))⟩,
  ⟨(some 25), (some (21, true)), (.iaddr 1 (.t 23) (.t 24))⟩,
  ⟨(some 26), (some (21, true)), (.load 1 false (.t 25))⟩,
  ⟨(some 27), (some (21, true)), (.mv (.t 0))⟩,
  ⟨(some 28), (some (21, true)), (.mv (.t 9))⟩,
  ⟨(some 29), (some (21, true)), (.bin .sub (.t 28) (.c (.sc (.int .i64 (1)))))⟩,
  ⟨(some 30), (some (21, true)), (.iaddr 1 (.t 27) (.t 29))⟩,
  ⟨(some 31), (some (21, true)), (.load 1 false (.t 30))⟩,
  ⟨(some 32), (some (21, true)), (.callv (.t 22) [(.t 26), (.t 31)])⟩,
  ⟨(some 33), (some (21, true)), (.bin .lss (.t 32) (.c (.sc (.int .i64 (0)))))⟩,
  ⟨(some 34), none, (.pick (.t 21) (.t 33) (.c (.sc (.bool false))))⟩] (some [[], [], [0, 1], [2, 0, 1], [3, 2, 0, 1], [3, 2, 0, 1], [3, 2, 0, 1], [5, 6, 3, 2, 0, 1], [7, 3, 5, 6, 2, 0, 1], [3, 2, 0, 1], [3, 2, 0, 1], [10, 3, 2, 0, 1], [9, 11, 3, 2, 0, 1, 10], [12, 3, 9, 11, 2, 0, 1, 10], [4, 8, 13, 3, 2, 0, 1, 7, 5, 6, 12, 9, 11, 10], [14, 3, 4, 8, 13, 2, 0, 1, 7, 5, 6, 12, 9, 11, 10], [3, 15, 2, 0, 1, 14, 4, 8, 13, 7, 5, 6, 12, 9, 11, 10]]))
 (.cond (.t 34) .skip (.exit 2)))
 (.seq (.block 3 (.reg [⟨(some 37), none, (.mv (.t 0))⟩,
  ⟨(some 38), none, (.mv (.t 9))⟩,
  ⟨(some 39), none, (.mv (.t 0))⟩,
  ⟨(some 40), none, (.mv (.t 9))⟩,
  ⟨(some 41), none, (.bin .sub (.t 40) (.c (.sc (.int .i64 (1)))))⟩,
  ⟨(some 42), none, (.mv (.t 0))⟩,
  ⟨(some 43), none, (.mv (.t 9))⟩,
  ⟨(some 44), none, (.bin .sub (.t 43) (.c (.sc (.int .i64 (1)))))⟩,
  ⟨(some 45), none, (.iaddr 1 (.t 42) (.t 44))⟩,
  ⟨(some 46), none, (.load 1 false (.t 45))⟩,
  ⟨(some 47), none, (.mv (.t 0))⟩,
  ⟨(some 48), none, (.mv (.t 9))⟩,
  ⟨(some 49), none, (.iaddr 1 (.t 47) (.t 48))⟩,
  ⟨(some 50), none, (.load 1 false (.t 49))⟩,
  ⟨(some 51), none, (.iaddr 1 (.t 37) (.t 38))⟩,
  ⟨none, none, (.store 1 (.t 51) (.t 46))⟩,
  ⟨(some 52), none, (.iaddr 1 (.t 39) (.t 41))⟩,
  ⟨none, none, (.store 1 (.t 52) (.t 50))⟩] (some [[], [], [], [], [3], [], [], [6], [5, 7, 6], [8, 5, 7, 6], [], [], [10, 11], [12, 10, 11], [0, 1, 5, 6, 7, 8, 9, 13, 12, 10, 11], [14, 9, 0, 1, 5, 6, 7, 8, 13, 12, 10, 11], [2, 4, 0, 1, 3, 5, 6, 7, 8, 9, 10, 11, 12, 13, 14, 15], [16, 13, 15, 0, 1, 2, 3, 4, 5, 6, 7, 8, 9, 10, 11, 12, 14]]))) (.reg [⟨(some 35), none, (.mv (.t 9))⟩,
  ⟨(some 36), none, (.bin .sub (.t 35) (.c (.sc (.int .i64 (1)))))⟩,
  ⟨(some 9), none, (.mv (.t 36))⟩] none))))))) (.reg [⟨(some 15), none, (.mv (.t 8))⟩,
  ⟨(some 16), none, (.bin .add (.t 15) (.c (.sc (.int .i64 (1)))))⟩,
  ⟨(some 8), none, (.mv (.t 16))⟩] none))))))
theorem good54 {args : List PV} {r : PV} (hl : args.length ≤ 53) (h : Run Tryd.prog [.code ac54] (endQ [] r) ⟨initT 0 args, [], 0, 53⟩) : Good Tryd.prog 54 args r :=
  good_run (by kernel_rfl) Jamix Tryd.func54 rfl (hs := [⟨[0, 1, 2, 3, 8], []⟩, ⟨[0, 1, 2, 3, 8, 9], []⟩]) (hs' := []) (by kernel_rfl) hl h
theorem goodM54 {pre post : List PV} {e : TypeId} {sz : Nat} {es es2 : List PV} {r : PV} (hl : pre.length + 1 + post.length ≤ 53) (hfr : flatR r = true) (hfe : (flatL es2).all PV.isSc = true) (h : Run Tryd.prog [.code ac54] (endM [] r e sz es2) ⟨initT 0 (pre ++ .own 0 0 :: post), [(0, .row e sz 0 es)], 1, 53⟩) : GoodM Tryd.prog 54 pre post e sz es r es2 :=
  goodM_run (by kernel_rfl) Jamix Tryd.func54 rfl (hs := [⟨[0, 1, 2, 3, 8], []⟩, ⟨[0, 1, 2, 3, 8, 9], []⟩]) (hs' := []) (by kernel_rfl) hl hfr hfe h
def ac55 : ACode :=
 (.seq
 (.seq (.reg [⟨(some 25), none, (.mv (.t 2))⟩,
  ⟨(some 26), none, (.mv (.t 1))⟩,
  ⟨(some 27), none, (.bin .sub (.t 25) (.t 26))⟩,
  ⟨(some 28), none, (.bin .eql (.t 27) (.c (.sc (.int .i64 (1)))))⟩] none)
 (.cond (.t 28)
 (.seq (.reg [⟨(some 29), none, (.mv (.t 2))⟩,
  ⟨(some 10), none, (.mv (.t 29))⟩] none)
 (.seq (.reg [⟨(some 30), none, (.mv (.t 3))⟩,
  ⟨(some 11), none, (.mv (.t 30))⟩] none)
 (.seq (.block 0 
 (.loop ⟨[0, 1, 4, 10, 11], []⟩
 (.seq (.seq (.reg [⟨(some 31), none, (.mv (.t 10))⟩,
  ⟨(some 32), none, (.mv (.t 11))⟩,
  ⟨(some 33), none, (.bin .lss (.t 31) (.t 32))⟩] none)
 (.cond (.t 33) .skip (.exit 0))) (.block 1
 (.seq (.reg [⟨(some 34), none, (.mv (.t 10))⟩,
  ⟨(some 35), none, (.mv (.t 11))⟩,
  ⟨(some 36), none, (.bin .add (.t 34) (.t 35))⟩,
  ⟨(some 37), none, (.conv .u64 (.t 36))⟩,
  ⟨(some 38), none, (.bin .shr (.t 37) (.c (.sc (.int .u64 (1)))))⟩,
  ⟨(some 39), none, (.conv .i64 (.t 38))⟩,
  ⟨(some 12), none, (.mv (.t 39))⟩] none)
 (.seq (.reg [⟨(some 40), none, (.mv (.t 4))⟩,
  ⟨(some 41), none, (.mv (.t 0))⟩,
  ⟨(some 42), none, (.mv (.t 12))⟩,
  ⟨(some 43), none, (.iaddr 1 (.t 41) (.t 42))⟩,
  ⟨(some 44), none, (.load 1 false (.t 43))⟩,
  ⟨(some 45), none, (.mv (.t 0))⟩,
  ⟨(some 46), none, (.mv (.t 1))⟩,
  ⟨(some 47), none, (.iaddr 1 (.t 45) (.t 46))⟩,
  ⟨(some 48), none, (.load 1 false (.t 47))⟩,
  ⟨(some 49), none, (.callv (.t 40) [(.t 44), (.t 48)])⟩,
  ⟨(some 50), none, (.bin .lss (.t 49) (.c (.sc (.int .i64 (0)))))⟩] (some [[], [], [], [1, 2], [3, 1, 2], [], [], [5, 6], [7, 5, 6], [0, 4, 8, 3, 1, 2, 7, 5, 6], [9, 0, 4, 8, 3, 1, 2, 7, 5, 6]]))
 (.cond (.t 50) (.reg [⟨(some 51), none, (.mv (.t 12))⟩,
  ⟨(some 52), none, (.bin .add (.t 51) (.c (.sc (.int .i64 (1)))))⟩,
  ⟨(some 10), none, (.mv (.t 52))⟩] none) (.reg [⟨(some 53), none, (.mv (.t 12))⟩,
  ⟨(some 11), none, (.mv (.t 53))⟩] none))))))))
 (.seq (.seq (.reg [⟨(some 54), none, (.mv (.t 1))⟩,
  ⟨(some 13), none, (.mv (.t 54))⟩] none) (.block 2 
 (.loop ⟨[0, 10, 13], []⟩
 (.seq (.seq (.reg [⟨(some 55), none, (.mv (.t 13))⟩,
  ⟨(some 56), none, (.mv (.t 10))⟩,
  ⟨(some 57), none, (.bin .sub (.t 56) (.c (.sc (.int .i64 (1)))))⟩,
  ⟨(some 58), none, (.bin .lss (.t 55) (.t 57))⟩] none)
 (.cond (.t 58) .skip (.exit 2)))
 (.seq (.block 3 (.reg [⟨(some 61), none, (.mv (.t 0))⟩,
  ⟨(some 62), none, (.mv (.t 13))⟩,
  ⟨(some 63), none, (.mv (.t 0))⟩,
  ⟨(some 64), none, (.mv (.t 13))⟩,
  ⟨(some 65), none, (.bin .add (.t 64) (.c (.sc (.int .i64 (1)))))⟩,
  ⟨(some 66), none, (.mv (.t 0))⟩,
  ⟨(some 67), none, (.mv (.t 13))⟩,
  ⟨(some 68), none, (.bin .add (.t 67) (.c (.sc (.int .i64 (1)))))⟩,
  ⟨(some 69), none, (.iaddr 1 (.t 66) (.t 68))⟩,
  ⟨(some 70), none, (.load 1 false (.t 69))⟩,
  ⟨(some 71), none, (.mv (.t 0))⟩,
  ⟨(some 72), none, (.mv (.t 13))⟩,
  ⟨(some 73), none, (.iaddr 1 (.t 71) (.t 72))⟩,
  ⟨(some 74), none, (.load 1 false (.t 73))⟩,
  ⟨(some 75), none, (.iaddr 1 (.t 61) (.t 62))⟩,
  ⟨none, none, (.store 1 (.t 75) (.t 70))⟩,
  ⟨(some 76), none, (.iaddr 1 (.t 63) (.t 65))⟩,
  ⟨none, none, (.store 1 (.t 76) (.t 74))⟩] (some [[], [], [], [], [3], [], [], [6], [5, 7, 6], [8, 5, 7, 6], [], [], [10, 11], [12, 10, 11], [0, 1, 5, 6, 7, 8, 9, 13, 12, 10, 11], [14, 9, 0, 1, 5, 6, 7, 8, 13, 12, 10, 11], [2, 4, 0, 1, 3, 5, 6, 7, 8, 9, 10, 11, 12, 13, 14, 15], [16, 13, 15, 0, 1, 2, 3, 4, 5, 6, 7, 8, 9, 10, 11, 12, 14]]))) (.reg [⟨(some 59), none, (.mv (.t 13))⟩,
  ⟨(some 60), none, (.bin .add (.t 59) (.c (.sc (.int .i64 (1)))))⟩,
  ⟨(some 13), none, (.mv (.t 60))⟩] none)))))) .ret)))) .skip))
 (.seq (.seq (.reg [⟨(some 77), none, (.mv (.t 3))⟩,
  ⟨(some 78), none, (.mv (.t 2))⟩,
  ⟨(some 79), none, (.bin .sub (.t 77) (.t 78))⟩,
  ⟨(some 80), none, (.bin .eql (.t 79) (.c (.sc (.int .i64 (1)))))⟩] none)
 (.cond (.t 80)
 (.seq (.reg [⟨(some 81), none, (.mv (.t 1))⟩,
  ⟨(some 14), none, (.mv (.t 81))⟩] none)
 (.seq (.reg [⟨(some 82), none, (.mv (.t 2))⟩,
  ⟨(some 15), none, (.mv (.t 82))⟩] none)
 (.seq (.block 4 
 (.loop ⟨[0, 2, 4, 14, 15], []⟩
 (.seq (.seq (.reg [⟨(some 83), none, (.mv (.t 14))⟩,
  ⟨(some 84), none, (.mv (.t 15))⟩,
  ⟨(some 85), none, (.bin .lss (.t 83) (.t 84))⟩] none)
 (.cond (.t 85) .skip (.exit 4))) (.block 5
 (.seq (.reg [⟨(some 86), none, (.mv (.t 14))⟩,
  ⟨(some 87), none, (.mv (.t 15))⟩,
  ⟨(some 88), none, (.bin .add (.t 86) (.t 87))⟩,
  ⟨(some 89), none, (.conv .u64 (.t 88))⟩,
  ⟨(some 90), none, (.bin .shr (.t 89) (.c (.sc (.int .u64 (1)))))⟩,
  ⟨(some 91), none, (.conv .i64 (.t 90))⟩,
  ⟨(some 16), none, (.mv (.t 91))⟩] none)
 (.seq (.reg [⟨(some 92), none, (.mv (.t 4))⟩,
  ⟨(some 93), none, (.mv (.t 0))⟩,
  ⟨(some 94), none, (.mv (.t 2))⟩,
  ⟨(some 95), none, (.iaddr 1 (.t 93) (.t 94))⟩,
  ⟨(some 96), none, (.load 1 false (.t 95))⟩,
  ⟨(some 97), none, (.mv (.t 0))⟩,
  ⟨(some 98), none, (.mv (.t 16))⟩,
  ⟨(some 99), none, (.iaddr 1 (.t 97) (.t 98))⟩,
  ⟨(some 100), none, (.load 1 false (.t 99))⟩,
  ⟨(some 101), none, (.callv (.t 92) [(.t 96), (.t 100)])⟩,
  ⟨(some 102), none, (.bin .lss (.t 101) (.c (.sc (.int .i64 (0)))))⟩,
  ⟨(some 103), none, (.un .not (.t 102))⟩] (some [[], [], [], [1, 2], [3, 1, 2], [], [], [5, 6], [7, 5, 6], [0, 4, 8, 3, 1, 2, 7, 5, 6], [9, 0, 4, 8, 3, 1, 2, 7, 5, 6], [10, 9, 0, 4, 8, 3, 1, 2, 7, 5, 6]]))
 (.cond (.t 103) (.reg [⟨(some 104), none, (.mv (.t 16))⟩,
  ⟨(some 105), none, (.bin .add (.t 104) (.c (.sc (.int .i64 (1)))))⟩,
  ⟨(some 14), none, (.mv (.t 105))⟩] none) (.reg [⟨(some 106), none, (.mv (.t 16))⟩,
  ⟨(some 15), none, (.mv (.t 106))⟩] none))))))))
 (.seq (.seq (.reg [⟨(some 107), none, (.mv (.t 2))⟩,
  ⟨(some 17), none, (.mv (.t 107))⟩] none) (.block 6 
 (.loop ⟨[0, 14, 17], []⟩
 (.seq (.seq (.reg [⟨(some 108), none, (.mv (.t 17))⟩,
  ⟨(some 109), none, (.mv (.t 14))⟩,
  ⟨(some 110), none, (.bin .gtr (.t 108) (.t 109))⟩] none)
 (.cond (.t 110) .skip (.exit 6)))
 (.seq (.block 7 (.reg [⟨(some 113), none, (.mv (.t 0))⟩,
  ⟨(some 114), none, (.mv (.t 17))⟩,
  ⟨(some 115), none, (.mv (.t 0))⟩,
  ⟨(some 116), none, (.mv (.t 17))⟩,
  ⟨(some 117), none, (.bin .sub (.t 116) (.c (.sc (.int .i64 (1)))))⟩,
  ⟨(some 118), none, (.mv (.t 0))⟩,
  ⟨(some 119), none, (.mv (.t 17))⟩,
  ⟨(some 120), none, (.bin .sub (.t 119) (.c (.sc (.int .i64 (1)))))⟩,
  ⟨(some 121), none, (.iaddr 1 (.t 118) (.t 120))⟩,
  ⟨(some 122), none, (.load 1 false (.t 121))⟩,
  ⟨(some 123), none, (.mv (.t 0))⟩,
  ⟨(some 124), none, (.mv (.t 17))⟩,
  ⟨(some 125), none, (.iaddr 1 (.t 123) (.t 124))⟩,
  ⟨(some 126), none, (.load 1 false (.t 125))⟩,
  ⟨(some 127), none, (.iaddr 1 (.t 113) (.t 114))⟩,
  ⟨none, none, (.store 1 (.t 127) (.t 122))⟩,
  ⟨(some 128), none, (.iaddr 1 (.t 115) (.t 117))⟩,
  ⟨none, none, (.store 1 (.t 128) (.t 126))⟩] (some [[], [], [], [], [3], [], [], [6], [5, 7, 6], [8, 5, 7, 6], [], [], [10, 11], [12, 10, 11], [0, 1, 5, 6, 7, 8, 9, 13, 12, 10, 11], [14, 9, 0, 1, 5, 6, 7, 8, 13, 12, 10, 11], [2, 4, 0, 1, 3, 5, 6, 7, 8, 9, 10, 11, 12, 13, 14, 15], [16, 13, 15, 0, 1, 2, 3, 4, 5, 6, 7, 8, 9, 10, 11, 12, 14]]))) (.reg [⟨(some 111), none, (.mv (.t 17))⟩,
  ⟨(some 112), none, (.bin .sub (.t 111) (.c (.sc (.int .i64 (1)))))⟩,
  ⟨(some 17), none, (.mv (.t 112))⟩] none)))))) .ret)))) .skip))
 (.seq (.reg [⟨(some 129), none, (.mv (.t 1))⟩,
  ⟨(some 130), none, (.mv (.t 3))⟩,
  ⟨(some 131), none, (.bin .add (.t 129) (.t 130))⟩,
  ⟨(some 132), none, (.conv .u64 (.t 131))⟩,
  ⟨(some 133), none, (.bin .shr (.t 132) (.c (.sc (.int .u64 (1)))))⟩,
  ⟨(some 134), none, (.conv .i64 (.t 133))⟩,
  ⟨(some 18), none, (.mv (.t 134))⟩] none)
 (.seq (.reg [⟨(some 135), none, (.mv (.t 18))⟩,
  ⟨(some 136), none, (.mv (.t 2))⟩,
  ⟨(some 137), none, (.bin .add (.t 135) (.t 136))⟩,
  ⟨(some 19), none, (.mv (.t 137))⟩] none)
 (.seq (.reg [⟨(some 20), none, (.mv (.c (.sc (.int .i64 (0)))))⟩,
  ⟨(some 21), none, (.mv (.c (.sc (.int .i64 (0)))))⟩] none)
 (.seq (.seq (.reg [⟨(some 138), none, (.mv (.t 2))⟩,
  ⟨(some 139), none, (.mv (.t 18))⟩,
  ⟨(some 140), none, (.bin .gtr (.t 138) (.t 139))⟩] none)
 (.cond (.t 140)
 (.seq (.reg [⟨(some 141), none, (.mv (.t 19))⟩,
  ⟨(some 142), none, (.mv (.t 3))⟩,
  ⟨(some 143), none, (.bin .sub (.t 141) (.t 142))⟩,
  ⟨(some 20), none, (.mv (.t 143))⟩] none) (.reg [⟨(some 144), none, (.mv (.t 18))⟩,
  ⟨(some 21), none, (.mv (.t 144))⟩] none))
 (.seq (.reg [⟨(some 145), none, (.mv (.t 1))⟩,
  ⟨(some 20), none, (.mv (.t 145))⟩] none) (.reg [⟨(some 146), none, (.mv (.t 2))⟩,
  ⟨(some 21), none, (.mv (.t 146))⟩] none))))
 (.seq (.reg [⟨(some 147), none, (.mv (.t 19))⟩,
  ⟨(some 148), none, (.bin .sub (.t 147) (.c (.sc (.int .i64 (1)))))⟩,
  ⟨(some 22), none, (.mv (.t 148))⟩] none)
 (.seq (.block 8 
 (.loop ⟨[0, 1, 2, 3, 4, 18, 19, 20, 21, 22], []⟩
 (.seq (.seq (.reg [⟨(some 149), none, (.mv (.t 20))⟩,
  ⟨(some 150), none, (.mv (.t 21))⟩,
  ⟨(some 151), none, (.bin .lss (.t 149) (.t 150))⟩] none)
 (.cond (.t 151) .skip (.exit 8))) (.block 9
 (.seq (.reg [⟨(some 152), none, (.mv (.t 20))⟩,
  ⟨(some 153), none, (.mv (.t 21))⟩,
  ⟨(some 154), none, (.bin .add (.t 152) (.t 153))⟩,
  ⟨(some 155), none, (.conv .u64 (.t 154))⟩,
  ⟨(some 156), none, (.bin .shr (.t 155) (.c (.sc (.int .u64 (1)))))⟩,
  ⟨(some 157), none, (.conv .i64 (.t 156))⟩,
  ⟨(some 23), none, (.mv (.t 157))⟩] none)
 (.seq (.reg [⟨(some 158), none, (.mv (.t 4))⟩,
  ⟨(some 159), none, (.mv (.t 0))⟩,
  ⟨(some 160), none, (.mv (.t 22))⟩,
  ⟨(some 161), none, (.mv (.t 23))⟩,
  ⟨(some 162), none, (.bin .sub (.t 160) (.t 161))⟩,
  ⟨(some 163), none, (.iaddr 1 (.t 159) (.t 162))⟩,
  ⟨(some 164), none, (.load 1 false (.t 163))⟩,
  ⟨(some 165), none, (.mv (.t 0))⟩,
  ⟨(some 166), none, (.mv (.t 23))⟩,
  ⟨(some 167), none, (.iaddr 1 (.t 165) (.t 166))⟩,
  ⟨(some 168), none, (.load 1 false (.t 167))⟩,
  ⟨(some 169), none, (.callv (.t 158) [(.t 164), (.t 168)])⟩,
  ⟨(some 170), none, (.bin .lss (.t 169) (.c (.sc (.int .i64 (0)))))⟩,
  ⟨(some 171), none, (.un .not (.t 170))⟩] (some [[], [], [], [], [2, 3], [1, 4, 2, 3], [5, 1, 4, 2, 3], [], [], [7, 8], [9, 7, 8], [0, 6, 10, 5, 1, 4, 2, 3, 9, 7, 8], [11, 0, 6, 10, 5, 1, 4, 2, 3, 9, 7, 8], [12, 11, 0, 6, 10, 5, 1, 4, 2, 3, 9, 7, 8]]))
 (.cond (.t 171) (.reg [⟨(some 172), none, (.mv (.t 23))⟩,
  ⟨(some 173), none, (.bin .add (.t 172) (.c (.sc (.int .i64 (1)))))⟩,
  ⟨(some 20), none, (.mv (.t 173))⟩] none) (.reg [⟨(some 174), none, (.mv (.t 23))⟩,
  ⟨(some 21), none, (.mv (.t 174))⟩] none))))))))
 (.seq (.reg [⟨(some 175), none, (.mv (.t 19))⟩,
  ⟨(some 176), none, (.mv (.t 20))⟩,
  ⟨(some 177), none, (.bin .sub (.t 175) (.t 176))⟩,
  ⟨(some 24), none, (.mv (.t 177))⟩] none)
 (.seq (.seq (.reg [⟨(some 178), none, (.mv (.t 20))⟩,
  ⟨(some 179), none, (.mv (.t 2))⟩,
  ⟨(some 180), none, (.bin .lss (.t 178) (.t 179))⟩,
  ⟨(some 181), none, (.mv (.t 180))⟩,
  ⟨(some 182), (some (181, true)), (.mv (.t 2))⟩,
  ⟨(some 183), (some (181, true)), (.mv (.t 24))⟩,
  ⟨(some 184), (some (181, true)), (.bin .lss (.t 182) (.t 183))⟩,
  ⟨(some 185), none, (.pick (.t 181) (.t 184) (.c (.sc (.bool false))))⟩] none)
 (.cond (.t 185) (.reg [⟨(some 186), none, (.mv (.t 0))⟩,
  ⟨(some 187), none, (.mv (.t 20))⟩,
  ⟨(some 188), none, (.mv (.t 2))⟩,
  ⟨(some 189), none, (.mv (.t 24))⟩,
  ⟨(some 190), none, (.mv (.t 4))⟩,
  ⟨(some 191), none, (.call 68 [(.t 186), (.t 187), (.t 188), (.t 189), (.t 190)])⟩] none) .skip))
 (.seq (.seq (.reg [⟨(some 192), none, (.mv (.t 1))⟩,
  ⟨(some 193), none, (.mv (.t 20))⟩,
  ⟨(some 194), none, (.bin .lss (.t 192) (.t 193))⟩,
  ⟨(some 195), none, (.mv (.t 194))⟩,
  ⟨(some 196), (some (195, true)), (.mv (.t 20))⟩,
  ⟨(some 197), (some (195, true)), (.mv (.t 18))⟩,
  ⟨(some 198), (some (195, true)), (.bin .lss (.t 196) (.t 197))⟩,
  ⟨(some 199), none, (.pick (.t 195) (.t 198) (.c (.sc (.bool false))))⟩] none)
 (.cond (.t 199) (.reg [⟨(some 200), none, (.mv (.t 0))⟩,
  ⟨(some 201), none, (.mv (.t 1))⟩,
  ⟨(some 202), none, (.mv (.t 20))⟩,
  ⟨(some 203), none, (.mv (.t 18))⟩,
  ⟨(some 204), none, (.mv (.t 4))⟩,
  ⟨(some 205), none, (.call 55 [(.t 200), (.t 201), (.t 202), (.t 203), (.t 204)])⟩] none) .skip))
 (.seq (.reg [⟨(some 206), none, (.mv (.t 18))⟩,
  ⟨(some 207), none, (.mv (.t 24))⟩,
  ⟨(some 208), none, (.bin .lss (.t 206) (.t 207))⟩,
  ⟨(some 209), none, (.mv (.t 208))⟩,
  ⟨(some 210), (some (209, true)), (.mv (.t 24))⟩,
  ⟨(some 211), (some (209, true)), (.mv (.t 3))⟩,
  ⟨(some 212), (some (209, true)), (.bin .lss (.t 210) (.t 211))⟩,
  ⟨(some 213), none, (.pick (.t 209) (.t 212) (.c (.sc (.bool false))))⟩] none)
 (.cond (.t 213) (.reg [⟨(some 214), none, (.mv (.t 0))⟩,
  ⟨(some 215), none, (.mv (.t 18))⟩,
  ⟨(some 216), none, (.mv (.t 24))⟩,
  ⟨(some 217), none, (.mv (.t 3))⟩,
  ⟨(some 218), none, (.mv (.t 4))⟩,
  ⟨(some 219), none, (.call 55 [(.t 214), (.t 215), (.t 216), (.t 217), (.t 218)])⟩] none) .skip)))))))))))))
theorem good55 {args : List PV} {r : PV} (hl : args.length ≤ 220) (h : Run Tryd.prog [.code ac55] (endQ [] r) ⟨initT 0 args, [], 0, 220⟩) : Good Tryd.prog 55 args r :=
  good_run (by kernel_rfl) Jamix Tryd.func55 rfl (hs := [⟨[0, 1, 4, 10, 11], []⟩, ⟨[0, 10, 13], []⟩, ⟨[0, 2, 4, 14, 15], []⟩, ⟨[0, 14, 17], []⟩, ⟨[0, 1, 2, 3, 4, 18, 19, 20, 21, 22], []⟩]) (hs' := []) (by kernel_rfl) hl h
theorem goodM55 {pre post : List PV} {e : TypeId} {sz : Nat} {es es2 : List PV} {r : PV} (hl : pre.length + 1 + post.length ≤ 220) (hfr : flatR r = true) (hfe : (flatL es2).all PV.isSc = true) (h : Run Tryd.prog [.code ac55] (endM [] r e sz es2) ⟨initT 0 (pre ++ .own 0 0 :: post), [(0, .row e sz 0 es)], 1, 220⟩) : GoodM Tryd.prog 55 pre post e sz es r es2 :=
  goodM_run (by kernel_rfl) Jamix Tryd.func55 rfl (hs := [⟨[0, 1, 4, 10, 11], []⟩, ⟨[0, 10, 13], []⟩, ⟨[0, 2, 4, 14, 15], []⟩, ⟨[0, 14, 17], []⟩, ⟨[0, 1, 2, 3, 4, 18, 19, 20, 21, 22], []⟩]) (hs' := []) (by kernel_rfl) hl hfr hfe h
def ac68 : ACode :=
 (.seq (.reg [⟨(some 12), none, (.mv (.t 2))⟩,
  ⟨(some 13), none, (.mv (.t 1))⟩,
  ⟨(some 14), none, (.bin .sub (.t 12) (.t 13))⟩,
  ⟨(some 10), none, (.mv (.t 14))⟩] none)
 (.seq (.reg [⟨(some 15), none, (.mv (.t 3))⟩,
  ⟨(some 16), none, (.mv (.t 2))⟩,
  ⟨(some 17), none, (.bin .sub (.t 15) (.t 16))⟩,
  ⟨(some 11), none, (.mv (.t 17))⟩] none)
 (.seq (.block 0 
 (.loop ⟨[0, 2, 4, 10, 11], []⟩
 (.seq (.seq (.reg [⟨(some 18), none, (.mv (.t 10))⟩,
  ⟨(some 19), none, (.mv (.t 11))⟩,
  ⟨(some 20), none, (.bin .neq (.t 18) (.t 19))⟩] none)
 (.cond (.t 20) .skip (.exit 0))) (.block 1
 (.seq (.reg [⟨(some 21), none, (.mv (.t 10))⟩,
  ⟨(some 22), none, (.mv (.t 11))⟩,
  ⟨(some 23), none, (.bin .gtr (.t 21) (.t 22))⟩] none)
 (.cond (.t 23)
 (.seq (.reg [⟨(some 24), none, (.mv (.t 0))⟩,
  ⟨(some 25), none, (.mv (.t 2))⟩,
  ⟨(some 26), none, (.mv (.t 10))⟩,
  ⟨(some 27), none, (.bin .sub (.t 25) (.t 26))⟩,
  ⟨(some 28), none, (.mv (.t 2))⟩,
  ⟨(some 29), none, (.mv (.t 11))⟩,
  ⟨(some 30), none, (.mv (.t 4))⟩,
  ⟨(some 31), none, (.call 77 [(.t 24), (.t 27), (.t 28), (.t 29), (.t 30)])⟩] none) (.reg [⟨(some 32), none, (.mv (.t 10))⟩,
  ⟨(some 33), none, (.mv (.t 11))⟩,
  ⟨(some 34), none, (.bin .sub (.t 32) (.t 33))⟩,
  ⟨(some 10), none, (.mv (.t 34))⟩] none))
 (.seq (.reg [⟨(some 35), none, (.mv (.t 0))⟩,
  ⟨(some 36), none, (.mv (.t 2))⟩,
  ⟨(some 37), none, (.mv (.t 10))⟩,
  ⟨(some 38), none, (.bin .sub (.t 36) (.t 37))⟩,
  ⟨(some 39), none, (.mv (.t 2))⟩,
  ⟨(some 40), none, (.mv (.t 11))⟩,
  ⟨(some 41), none, (.bin .add (.t 39) (.t 40))⟩,
  ⟨(some 42), none, (.mv (.t 10))⟩,
  ⟨(some 43), none, (.bin .sub (.t 41) (.t 42))⟩,
  ⟨(some 44), none, (.mv (.t 10))⟩,
  ⟨(some 45), none, (.mv (.t 4))⟩,
  ⟨(some 46), none, (.call 77 [(.t 35), (.t 38), (.t 43), (.t 44), (.t 45)])⟩] none) (.reg [⟨(some 47), none, (.mv (.t 11))⟩,
  ⟨(some 48), none, (.mv (.t 10))⟩,
  ⟨(some 49), none, (.bin .sub (.t 47) (.t 48))⟩,
  ⟨(some 11), none, (.mv (.t 49))⟩] none)))))))) (.reg [⟨(some 50), none, (.mv (.t 0))⟩,
  ⟨(some 51), none, (.mv (.t 2))⟩,
  ⟨(some 52), none, (.mv (.t 10))⟩,
  ⟨(some 53), none, (.bin .sub (.t 51) (.t 52))⟩,
  ⟨(some 54), none, (.mv (.t 2))⟩,
  ⟨(some 55), none, (.mv (.t 10))⟩,
  ⟨(some 56), none, (.mv (.t 4))⟩,
  ⟨(some 57), none, (.call 77 [(.t 50), (.t 53), (.t 54), (.t 55), (.t 56)])⟩] none))))
theorem good68 {args : List PV} {r : PV} (hl : args.length ≤ 58) (h : Run Tryd.prog [.code ac68] (endQ [] r) ⟨initT 0 args, [], 0, 58⟩) : Good Tryd.prog 68 args r :=
  good_run (by kernel_rfl) Jamix Tryd.func68 rfl (hs := [⟨[0, 2, 4, 10, 11], []⟩]) (hs' := []) (by kernel_rfl) hl h
theorem goodM68 {pre post : List PV} {e : TypeId} {sz : Nat} {es es2 : List PV} {r : PV} (hl : pre.length + 1 + post.length ≤ 58) (hfr : flatR r = true) (hfe : (flatL es2).all PV.isSc = true) (h : Run Tryd.prog [.code ac68] (endM [] r e sz es2) ⟨initT 0 (pre ++ .own 0 0 :: post), [(0, .row e sz 0 es)], 1, 58⟩) : GoodM Tryd.prog 68 pre post e sz es r es2 :=
  goodM_run (by kernel_rfl) Jamix Tryd.func68 rfl (hs := [⟨[0, 2, 4, 10, 11], []⟩]) (hs' := []) (by kernel_rfl) hl hfr hfe h
def ac77 : ACode :=
 (.seq (.reg [⟨(some 10), none, (.mv (.c (.sc (.int .i64 (0)))))⟩] none) (.block 0 
 (.loop ⟨[0, 1, 2, 3, 10], []⟩
 (.seq (.seq (.reg [⟨(some 11), none, (.mv (.t 10))⟩,
  ⟨(some 12), none, (.mv (.t 3))⟩,
  ⟨(some 13), none, (.bin .lss (.t 11) (.t 12))⟩] none)
 (.cond (.t 13) .skip (.exit 0)))
 (.seq (.block 1 (.reg [⟨(some 16), none, (.mv (.t 0))⟩,
  ⟨(some 17), none, (.mv (.t 1))⟩,
  ⟨(some 18), none, (.mv (.t 10))⟩,
  ⟨(some 19), none, (.bin .add (.t 17) (.t 18))⟩,
  ⟨(some 20), none, (.mv (.t 0))⟩,
  ⟨(some 21), none, (.mv (.t 2))⟩,
  ⟨(some 22), none, (.mv (.t 10))⟩,
  ⟨(some 23), none, (.bin .add (.t 21) (.t 22))⟩,
  ⟨(some 24), none, (.mv (.t 0))⟩,
  ⟨(some 25), none, (.mv (.t 2))⟩,
  ⟨(some 26), none, (.mv (.t 10))⟩,
  ⟨(some 27), none, (.bin .add (.t 25) (.t 26))⟩,
  ⟨(some 28), none, (.iaddr 1 (.t 24) (.t 27))⟩,
  ⟨(some 29), none, (.load 1 false (.t 28))⟩,
  ⟨(some 30), none, (.mv (.t 0))⟩,
  ⟨(some 31), none, (.mv (.t 1))⟩,
  ⟨(some 32), none, (.mv (.t 10))⟩,
  ⟨(some 33), none, (.bin .add (.t 31) (.t 32))⟩,
  ⟨(some 34), none, (.iaddr 1 (.t 30) (.t 33))⟩,
  ⟨(some 35), none, (.load 1 false (.t 34))⟩,
  ⟨(some 36), none, (.iaddr 1 (.t 16) (.t 19))⟩,
  ⟨none, none, (.store 1 (.t 36) (.t 29))⟩,
  ⟨(some 37), none, (.iaddr 1 (.t 20) (.t 23))⟩,
  ⟨none, none, (.store 1 (.t 37) (.t 35))⟩] (some [[], [], [], [1, 2], [], [], [], [5, 6], [], [], [], [9, 10], [8, 11, 9, 10], [12, 8, 11, 9, 10], [], [], [], [15, 16], [14, 17, 15, 16], [18, 14, 17, 15, 16], [0, 3, 1, 2, 8, 9, 10, 11, 12, 13, 19, 18, 14, 17, 15, 16], [20, 13, 0, 1, 2, 3, 8, 9, 10, 11, 12, 19, 18, 14, 17, 15, 16], [4, 7, 0, 1, 2, 3, 5, 6, 8, 9, 10, 11, 12, 13, 14, 15, 16, 17, 18, 19, 20, 21], [22, 19, 21, 0, 1, 2, 3, 4, 5, 6, 7, 8, 9, 10, 11, 12, 13, 14, 15, 16, 17, 18, 20]]))) (.reg [⟨(some 14), none, (.mv (.t 10))⟩,
  ⟨(some 15), none, (.bin .add (.t 14) (.c (.sc (.int .i64 (1)))))⟩,
  ⟨(some 10), none, (.mv (.t 15))⟩] none))))))
theorem good77 {args : List PV} {r : PV} (hl : args.length ≤ 38) (h : Run Tryd.prog [.code ac77] (endQ [] r) ⟨initT 0 args, [], 0, 38⟩) : Good Tryd.prog 77 args r :=
  good_run (by kernel_rfl) Jamix Tryd.func77 rfl (hs := [⟨[0, 1, 2, 3, 10], []⟩]) (hs' := []) (by kernel_rfl) hl h
theorem goodM77 {pre post : List PV} {e : TypeId} {sz : Nat} {es es2 : List PV} {r : PV} (hl : pre.length + 1 + post.length ≤ 38) (hfr : flatR r = true) (hfe : (flatL es2).all PV.isSc = true) (h : Run Tryd.prog [.code ac77] (endM [] r e sz es2) ⟨initT 0 (pre ++ .own 0 0 :: post), [(0, .row e sz 0 es)], 1, 38⟩) : GoodM Tryd.prog 77 pre post e sz es r es2 :=
  goodM_run (by kernel_rfl) Jamix Tryd.func77 rfl (hs := [⟨[0, 1, 2, 3, 10], []⟩]) (hs' := []) (by kernel_rfl) hl hfr hfe h
end Go.Proofs.YtjlhnlfalomenaaDoor
