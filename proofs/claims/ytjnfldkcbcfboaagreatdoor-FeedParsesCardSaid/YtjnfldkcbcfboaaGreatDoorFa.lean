/-
  The translated codes of functions, checked by the kernel.
-/
import Derived.Test.YtjnfldkcbcfboaaGreatDoorKc
import Derived.KernelRfl
namespace Go.Proofs.YtjnfldkcbcfboaaGreatDoor
set_option linter.unusedVariables false
set_option linter.unusedSimpArgs false
set_option linter.unnecessarySimpa false
theorem Famix : Tryz.prog.follows .mixedOrders = true := by kernel_rfl
def ac14 : ACode :=
 (.seq (.reg [⟨(some 2), none, (.mv (.t 0))⟩,
  ⟨(some 3), none, (.un .not (.t 2))⟩] none)
 (.cond (.t 3) .dead .skip))
theorem good14 {args : List PV} {r : PV} (hl : args.length ≤ 6) (h : Run Tryz.prog [.code ac14] (endQ [] r) ⟨initT 0 args, [], 0, 6⟩) : Good Tryz.prog 14 args r :=
  good_run (by kernel_rfl) Famix Tryz.func14 rfl (hs := []) (hs' := []) (by kernel_rfl) hl h
theorem goodE14 {args : List PV} {r : Option PV} {c : List PanicEntry} (hl : args.length ≤ 6) (h : Run Tryz.prog [.code ac14] (endE [] r c) ⟨initT 0 args, [], 0, 6⟩) : GoodE Tryz.prog 14 args r c :=
  goodE_run (by kernel_rfl) Famix Tryz.func14 rfl (hs := []) (hs' := []) (by kernel_rfl) hl h
def ac29 : ACode :=
 (.seq (.reg [⟨(some 2), none, (.mv (.c (.sc (.int .i64 (0)))))⟩] none)
 (.seq (.reg [⟨(some 6), none, (.mv (.t 0))⟩,
  ⟨(some 7), none, (.call 47 [(.t 6)])⟩,
  ⟨(some 5), none, (.mv (.t 7))⟩,
  ⟨(some 8), none, (.ext 0 (.t 5))⟩,
  ⟨(some 9), none, (.ext 1 (.t 5))⟩,
  ⟨(some 3), none, (.mv (.t 8))⟩,
  ⟨(some 4), none, (.mv (.t 9))⟩] none)
 (.seq (.reg [⟨(some 10), none, (.mv (.t 4))⟩,
  ⟨(some 11), none, (.inil false (.t 10))⟩,
  ⟨(some 12), none, (.call 14 [(.t 11)])⟩] none)
 (.seq (.reg [⟨(some 13), none, (.mv (.t 3))⟩,
  ⟨(some 2), none, (.mv (.t 13))⟩] none) .ret))))
theorem good29 {args : List PV} {r : PV} (hl : args.length ≤ 14) (h : Run Tryz.prog [.code ac29] (endQ [(.t 2)] r) ⟨initT 0 args, [], 0, 14⟩) : Good Tryz.prog 29 args r :=
  good_run (by kernel_rfl) Famix Tryz.func29 rfl (hs := []) (hs' := []) (by kernel_rfl) hl h
theorem goodE29 {args : List PV} {r : Option PV} {c : List PanicEntry} (hl : args.length ≤ 14) (h : Run Tryz.prog [.code ac29] (endE [(.t 2)] r c) ⟨initT 0 args, [], 0, 14⟩) : GoodE Tryz.prog 29 args r c :=
  goodE_run (by kernel_rfl) Famix Tryz.func29 rfl (hs := []) (hs' := []) (by kernel_rfl) hl h
def ac25 : ACode :=
 (.seq (.reg [⟨(some 2), none, (.mv (.c (.sc (.slice none 0 0))))⟩] none)
 (.seq (.reg [⟨(some 3), none, (.mv (.c (.sc (.slice none 0 0))))⟩] none)
 (.seq (.seq (.reg [⟨(some 6), none, (.mv (.t 0))⟩,
  ⟨(some 7), none, (.len (.t 6))⟩,
  ⟨(some 8), none, (.mv (.c (.sc (.int .i64 (0)))))⟩] none) (.block 0 
 (.loop ⟨[3, 6, 7, 8], [(3, (3, 1))]⟩
 (.seq (.reg [⟨(some 9), none, (.bin .lss (.t 8) (.t 7))⟩] none)
 (.seq
 (.cond (.t 9) .skip (.exit 0))
 (.seq (.block 1
 (.seq (.reg [⟨(some 10), none, (.iaddr 1 (.t 6) (.t 8))⟩,
  ⟨(some 11), none, (.load 1 false (.t 10))⟩,
  ⟨(some 5), none, (.mv (.t 11))⟩] none) (.reg [⟨(some 12), none, (.mv (.t 3))⟩,
  ⟨(some 13), none, (.mv (.t 5))⟩,
  ⟨(some 14), none, (.call 29 [(.t 13)])⟩,
  ⟨(some 15), none, (.bslice 3 1 [(.t 14)])⟩,
  ⟨(some 16), none, (.append 3 1 8 (.t 12) (.t 15))⟩,
  ⟨(some 3), none, (.mv (.t 16))⟩] none))) (.reg [⟨(some 17), none, (.bin .add (.t 8) (.c (.sc (.int .i64 (1)))))⟩,
  ⟨(some 8), none, (.mv (.t 17))⟩] none)))))))
 (.seq (.reg [⟨(some 18), none, (.mv (.t 3))⟩,
  ⟨(some 2), none, (.mv (.t 18))⟩] none) .ret))))
theorem good25 {args : List PV} {r : PV} (hl : args.length ≤ 19) (h : Run Tryz.prog [.code ac25] (endQ [(.t 2)] r) ⟨initT 0 args, [], 0, 19⟩) : Good Tryz.prog 25 args r :=
  good_run (by kernel_rfl) Famix Tryz.func25 rfl (hs := [⟨[3, 6, 7, 8], [(3, 3, 1)]⟩]) (hs' := []) (by kernel_rfl) hl h
theorem goodE25 {args : List PV} {r : Option PV} {c : List PanicEntry} (hl : args.length ≤ 19) (h : Run Tryz.prog [.code ac25] (endE [(.t 2)] r c) ⟨initT 0 args, [], 0, 19⟩) : GoodE Tryz.prog 25 args r c :=
  goodE_run (by kernel_rfl) Famix Tryz.func25 rfl (hs := [⟨[3, 6, 7, 8], [(3, 3, 1)]⟩]) (hs' := []) (by kernel_rfl) hl h
def ac26 : ACode :=
 (.seq (.reg [⟨(some 4), none, (.mv (.c (.sc (.slice none 0 0))))⟩] none)
 (.seq (.reg [⟨(some 6), none, (.mv (.t 0))⟩,
  ⟨(some 7), none, (.call 45 [(.t 6), (.c (.sc (.string ⟨#[32]⟩)))])⟩,
  ⟨(some 5), none, (.mv (.t 7))⟩] none)
 (.seq (.reg [⟨(some 8), none, (.mv (.t 5))⟩,
  ⟨(some 9), none, (.iaddr 1 (.t 8) (.c (.sc (.int .i64 (0)))))⟩,
  ⟨(some 10), none, (.load 1 false (.t 9))⟩,
  ⟨(some 11), none, (.mv (.t 1))⟩,
  ⟨(some 12), none, (.bin .eql (.t 10) (.t 11))⟩,
  ⟨(some 13), none, (.call 14 [(.t 12)])⟩] none)
 (.seq (.reg [⟨(some 14), none, (.mv (.t 5))⟩,
  ⟨(some 15), none, (.slice 1 (.t 14) (some (.c (.sc (.int .i64 (1))))) none none)⟩,
  ⟨(some 4), none, (.mv (.t 15))⟩] none) .ret))))
theorem good26 {args : List PV} {r : PV} (hl : args.length ≤ 16) (h : Run Tryz.prog [.code ac26] (endQ [(.t 4)] r) ⟨initT 0 args, [], 0, 16⟩) : Good Tryz.prog 26 args r :=
  good_run (by kernel_rfl) Famix Tryz.func26 rfl (hs := []) (hs' := []) (by kernel_rfl) hl h
theorem goodE26 {args : List PV} {r : Option PV} {c : List PanicEntry} (hl : args.length ≤ 16) (h : Run Tryz.prog [.code ac26] (endE [(.t 4)] r c) ⟨initT 0 args, [], 0, 16⟩) : GoodE Tryz.prog 26 args r c :=
  goodE_run (by kernel_rfl) Famix Tryz.func26 rfl (hs := []) (hs' := []) (by kernel_rfl) hl h
def ac13 : ACode :=
 (.seq (.reg [⟨(some 2), none, (.new [(.sc (.int .i64 (0))), (.sc (.int .i64 (0))), (.sc (.int .i64 (0))), (.sc (.int .i64 (0))), (.sc (.int .i64 (0))), (.sc (.slice none 0 0)), (.sc (.slice none 0 0)), (.sc (.slice none 0 0)), (.sc (.slice none 0 0)), (.sc (.slice none 0 0))])⟩] none)
 (.seq (.reg [⟨(some 13), none, (.mv (.t 0))⟩,
  ⟨(some 14), none, (.len (.t 13))⟩,
  ⟨(some 15), none, (.bin .gtr (.t 14) (.c (.sc (.int .i64 (2)))))⟩,
  ⟨(some 16), none, (.call 14 [(.t 15)])⟩] none)
 (.seq (.reg [⟨(some 17), none, (.mv (.t 0))⟩,
  ⟨(some 18), none, (.iaddr 1 (.t 17) (.c (.sc (.int .i64 (0)))))⟩,
  ⟨(some 19), none, (.load 1 false (.t 18))⟩,
  ⟨(some 20), none, (.call 26 [(.t 19), (.c (.sc (.string ⟨#[116, 114, 105, 112, 115]⟩)))])⟩,
  ⟨(some 21), none, (.call 25 [(.t 20)])⟩,
  ⟨(some 3), none, (.mv (.t 21))⟩] none)
 (.seq (.reg [⟨(some 22), none, (.mv (.t 3))⟩,
  ⟨(some 23), none, (.len (.t 22))⟩,
  ⟨(some 24), none, (.bin .eql (.t 23) (.c (.sc (.int .i64 (5)))))⟩,
  ⟨(some 25), none, (.call 14 [(.t 24)])⟩] none)
 (.seq (.reg [⟨(some 26), none, (.mv (.t 3))⟩,
  ⟨(some 27), none, (.iaddr 1 (.t 26) (.c (.sc (.int .i64 (0)))))⟩,
  ⟨(some 28), none, (.load 1 false (.t 27))⟩,
  ⟨(some 29), none, (.mv (.t 3))⟩,
  ⟨(some 30), none, (.iaddr 1 (.t 29) (.c (.sc (.int .i64 (1)))))⟩,
  ⟨(some 31), none, (.load 1 false (.t 30))⟩,
  ⟨(some 32), none, (.build [(.sc (.int .i64 (0))), (.sc (.int .i64 (0)))] [(0, (1, (.t 28))), (1, (1, (.t 31)))])⟩,
  ⟨(some 33), none, (.mv (.t 3))⟩,
  ⟨(some 34), none, (.iaddr 1 (.t 33) (.c (.sc (.int .i64 (2)))))⟩,
  ⟨(some 35), none, (.load 1 false (.t 34))⟩,
  ⟨(some 36), none, (.mv (.t 3))⟩,
  ⟨(some 37), none, (.iaddr 1 (.t 36) (.c (.sc (.int .i64 (3)))))⟩,
  ⟨(some 38), none, (.load 1 false (.t 37))⟩,
  ⟨(some 39), none, (.mv (.t 3))⟩,
  ⟨(some 40), none, (.iaddr 1 (.t 39) (.c (.sc (.int .i64 (4)))))⟩,
  ⟨(some 41), none, (.load 1 false (.t 40))⟩,
  ⟨(some 42), none, (.build [(.sc (.int .i64 (0))), (.sc (.int .i64 (0))), (.sc (.slice none 0 0))] [(0, (1, (.t 38))), (1, (1, (.t 41)))])⟩,
  ⟨(some 43), none, (.build [(.sc (.int .i64 (0))), (.sc (.int .i64 (0))), (.sc (.int .i64 (0))), (.sc (.int .i64 (0))), (.sc (.int .i64 (0))), (.sc (.slice none 0 0)), (.sc (.slice none 0 0)), (.sc (.slice none 0 0)), (.sc (.slice none 0 0)), (.sc (.slice none 0 0))] [(0, (2, (.t 32))), (2, (1, (.t 35))), (3, (3, (.t 42)))])⟩,
  ⟨(some 4), none, (.new [(.sc (.int .i64 (0))), (.sc (.int .i64 (0))), (.sc (.int .i64 (0))), (.sc (.int .i64 (0))), (.sc (.int .i64 (0))), (.sc (.slice none 0 0)), (.sc (.slice none 0 0)), (.sc (.slice none 0 0)), (.sc (.slice none 0 0)), (.sc (.slice none 0 0))])⟩,
  ⟨none, none, (.store 10 (.t 4) (.t 43))⟩] (some [[], [0], [1, 0], [], [3], [4, 3], [2, 5, 1, 0, 4, 3], [], [7], [8, 7], [], [10], [11, 10], [], [13], [14, 13], [12, 15, 11, 10, 14, 13], [6, 9, 16, 2, 5, 1, 0, 4, 3, 8, 7, 12, 15, 11, 10, 14, 13], [], [18, 17, 0, 1, 2, 3, 4, 5, 6, 7, 8, 9, 10, 11, 12, 13, 14, 15, 16]]))
 (.seq (.reg [⟨(some 44), none, (.faddr 3 (.t 4))⟩,
  ⟨(some 45), none, (.faddr 0 (.t 44))⟩,
  ⟨(some 46), none, (.load 1 false (.t 45))⟩,
  ⟨(some 47), none, (.call 27 [(.t 46), (.c (.sc (.int .i64 (1)))), (.c (.sc (.int .i64 (8))))])⟩,
  ⟨(some 48), none, (.mv (.t 47))⟩,
  ⟨(some 49), (some (48, true)), (.faddr 3 (.t 4))⟩,
  ⟨(some 50), (some (48, true)), (.faddr 1 (.t 49))⟩,
  ⟨(some 51), (some (48, true)), (.load 1 false (.t 50))⟩,
  ⟨(some 52), (some (48, true)), (.call 27 [(.t 51), (.c (.sc (.int .i64 (1)))), (.c (.sc (.int .i64 (8))))])⟩,
  ⟨(some 53), none, (.pick (.t 48) (.t 52) (.c (.sc (.bool false))))⟩,
  ⟨(some 54), none, (.mv (.t 53))⟩,
  ⟨(some 55), (some (54, true)), (.mv (.t 0))⟩,
  ⟨(some 56), (some (54, true)), (.len (.t 55))⟩,
  ⟨(some 57), (some (54, true)), (.faddr 3 (.t 4))⟩,
  ⟨(some 58), (some (54, true)), (.faddr 0 (.t 57))⟩,
  ⟨(some 59), (some (54, true)), (.load 1 false (.t 58))⟩,
  ⟨(some 60), (some (54, true)), (.bin .add (.t 59) (.c (.sc (.int .i64 (2)))))⟩,
  ⟨(some 61), (some (54, true)), (.bin .eql (.t 56) (.t 60))⟩,
  ⟨(some 62), none, (.pick (.t 54) (.t 61) (.c (.sc (.bool false))))⟩,
  ⟨(some 63), none, (.call 14 [(.t 62)])⟩] none)
 (.seq (.reg [⟨(some 64), none, (.mv (.t 0))⟩,
  ⟨(some 65), none, (.mv (.t 0))⟩,
  ⟨(some 66), none, (.len (.t 65))⟩,
  ⟨(some 67), none, (.bin .sub (.t 66) (.c (.sc (.int .i64 (1)))))⟩,
  ⟨(some 68), none, (.iaddr 1 (.t 64) (.t 67))⟩,
  ⟨(some 69), none, (.load 1 false (.t 68))⟩,
  ⟨(some 5), none, (.mv (.t 69))⟩] none)
 (.seq (.reg [⟨(some 70), none, (.mv (.t 5))⟩,
  ⟨(some 71), none, (.call 28 [(.t 70), (.c (.sc (.string ⟨#[110, 111, 105, 115, 101]⟩)))])⟩,
  ⟨(some 6), none, (.mv (.t 71))⟩] none)
 (.seq (.seq (.reg [⟨(some 72), none, (.mv (.t 6))⟩] none)
 (.cond (.t 72) (.reg [⟨(some 73), none, (.mv (.t 5))⟩,
  ⟨(some 74), none, (.call 26 [(.t 73), (.c (.sc (.string ⟨#[110, 111, 105, 115, 101]⟩)))])⟩,
  ⟨(some 75), none, (.call 25 [(.t 74)])⟩,
  ⟨(some 76), none, (.faddr 9 (.t 4))⟩,
  ⟨(some 77), none, (.faddr 0 (.t 76))⟩,
  ⟨none, none, (.store 1 (.t 77) (.t 75))⟩] none) (.reg [⟨(some 78), none, (.mv (.t 5))⟩,
  ⟨(some 79), none, (.call 26 [(.t 78), (.c (.sc (.string ⟨#[115, 117, 109, 115]⟩)))])⟩,
  ⟨(some 80), none, (.call 25 [(.t 79)])⟩,
  ⟨(some 81), none, (.faddr 8 (.t 4))⟩,
  ⟨none, none, (.store 1 (.t 81) (.t 80))⟩] none)))
 (.seq (.seq (.reg [⟨(some 82), none, (.mv (.t 0))⟩,
  ⟨(some 83), none, (.mv (.t 0))⟩,
  ⟨(some 84), none, (.len (.t 83))⟩,
  ⟨(some 85), none, (.bin .sub (.t 84) (.c (.sc (.int .i64 (1)))))⟩,
  ⟨(some 86), none, (.slice 1 (.t 82) (some (.c (.sc (.int .i64 (1))))) (some (.t 85)) none)⟩,
  ⟨(some 87), none, (.len (.t 86))⟩,
  ⟨(some 88), none, (.mv (.c (.sc (.int .i64 (0)))))⟩] none) (.block 0 
 (.loop ⟨[2, 4, 6, 86, 87, 88], [(600004, (3, 1)), (700004, (4, 1)), (800004, (3, 1))]⟩
 (.seq (.reg [⟨(some 89), none, (.bin .lss (.t 88) (.t 87))⟩] none)
 (.seq
 (.cond (.t 89) .skip (.exit 0))
 (.seq (.block 1
 (.seq (.reg [⟨(some 90), none, (.iaddr 1 (.t 86) (.t 88))⟩,
  ⟨(some 91), none, (.load 1 false (.t 90))⟩,
  ⟨(some 8), none, (.mv (.t 91))⟩] none)
 (.seq (.reg [⟨(some 92), none, (.mv (.t 8))⟩,
  ⟨(some 93), none, (.call 26 [(.t 92), (.c (.sc (.string ⟨#[114, 111, 119]⟩)))])⟩,
  ⟨(some 9), none, (.mv (.t 93))⟩] none)
 (.seq (.seq (.reg [⟨(some 94), none, (.mv (.t 6))⟩,
  ⟨(some 95), none, (.un .not (.t 94))⟩] none)
 (.cond (.t 95)
 (.seq (.reg [⟨(some 96), none, (.mv (.t 9))⟩,
  ⟨(some 97), none, (.len (.t 96))⟩,
  ⟨(some 98), none, (.faddr 3 (.t 4))⟩,
  ⟨(some 99), none, (.faddr 1 (.t 98))⟩,
  ⟨(some 100), none, (.load 1 false (.t 99))⟩,
  ⟨(some 101), none, (.bin .add (.t 100) (.c (.sc (.int .i64 (1)))))⟩,
  ⟨(some 102), none, (.bin .eql (.t 97) (.t 101))⟩,
  ⟨(some 103), none, (.call 14 [(.t 102)])⟩] none)
 (.seq (.reg [⟨(some 104), none, (.faddr 7 (.t 4))⟩,
  ⟨(some 105), none, (.load 1 false (.t 104))⟩,
  ⟨(some 106), none, (.mv (.t 9))⟩,
  ⟨(some 107), none, (.faddr 3 (.t 4))⟩,
  ⟨(some 108), none, (.faddr 1 (.t 107))⟩,
  ⟨(some 109), none, (.load 1 false (.t 108))⟩,
  ⟨(some 110), none, (.iaddr 1 (.t 106) (.t 109))⟩,
  ⟨(some 111), none, (.load 1 false (.t 110))⟩,
  ⟨(some 112), none, (.call 29 [(.t 111)])⟩,
  ⟨(some 113), none, (.bslice 3 1 [(.t 112)])⟩,
  ⟨(some 114), none, (.append 3 1 8 (.t 105) (.t 113))⟩,
  ⟨(some 115), none, (.faddr 7 (.t 4))⟩,
  ⟨none, none, (.store 1 (.t 115) (.t 114))⟩] (some [[], [0], [], [], [3], [4, 3], [2, 5, 4, 3], [6, 2, 5, 4, 3], [7, 6, 2, 5, 4, 3], [8, 7, 6, 2, 5, 4, 3], [1, 9, 8, 0, 7, 6, 2, 5, 4, 3], [0, 1, 2, 3, 4, 5, 6, 7, 8, 9, 10], [11, 10, 0, 1, 2, 3, 4, 5, 6, 7, 8, 9]])) (.reg [⟨(some 116), none, (.mv (.t 9))⟩,
  ⟨(some 117), none, (.faddr 3 (.t 4))⟩,
  ⟨(some 118), none, (.faddr 1 (.t 117))⟩,
  ⟨(some 119), none, (.load 1 false (.t 118))⟩,
  ⟨(some 120), none, (.slice 1 (.t 116) none (some (.t 119)) none)⟩,
  ⟨(some 9), none, (.mv (.t 120))⟩] none))) .skip))
 (.seq (.reg [⟨(some 121), none, (.mv (.t 9))⟩,
  ⟨(some 122), none, (.len (.t 121))⟩,
  ⟨(some 123), none, (.faddr 3 (.t 4))⟩,
  ⟨(some 124), none, (.faddr 1 (.t 123))⟩,
  ⟨(some 125), none, (.load 1 false (.t 124))⟩,
  ⟨(some 126), none, (.bin .eql (.t 122) (.t 125))⟩,
  ⟨(some 127), none, (.call 14 [(.t 126)])⟩] none)
 (.seq (.reg [⟨(some 128), none, (.mv (.t 9))⟩,
  ⟨(some 129), none, (.len (.t 128))⟩,
  ⟨(some 130), none, (.mv (.c (.sc (.int .i64 (0)))))⟩] none) (.block 2 
 (.loop ⟨[2, 4, 6, 86, 87, 88, 128, 129, 130], [(600004, (3, 1)), (700004, (4, 1))]⟩
 (.seq (.reg [⟨(some 131), none, (.bin .lss (.t 130) (.t 129))⟩] none)
 (.seq
 (.cond (.t 131) .skip (.exit 2))
 (.seq (.block 3
 (.seq (.reg [⟨(some 132), none, (.iaddr 1 (.t 128) (.t 130))⟩,
  ⟨(some 133), none, (.load 1 false (.t 132))⟩,
  ⟨(some 11), none, (.mv (.t 133))⟩] none)
 (.seq (.reg [⟨(some 134), none, (.mv (.t 6))⟩,
  ⟨(some 135), none, (.un .not (.t 134))⟩,
  ⟨(some 136), none, (.mv (.t 135))⟩,
  ⟨(some 137), (some (136, true)), (.mv (.t 11))⟩,
  ⟨(some 138), (some (136, true)), (.bin .eql (.t 137) (.c (.sc (.string ⟨#[120]⟩))))⟩,
  ⟨(some 139), none, (.pick (.t 136) (.t 138) (.c (.sc (.bool false))))⟩,
  ⟨(some 12), none, (.mv (.t 139))⟩] none)
 (.seq (.seq (.reg [⟨(some 140), none, (.mv (.t 6))⟩,
  ⟨(some 141), none, (.un .not (.t 140))⟩] none)
 (.cond (.t 141) (.reg [⟨(some 142), none, (.faddr 6 (.t 4))⟩,
  ⟨(some 143), none, (.load 1 false (.t 142))⟩,
  ⟨(some 144), none, (.mv (.t 12))⟩,
  ⟨(some 145), none, (.bslice 4 1 [(.t 144)])⟩,
  ⟨(some 146), none, (.append 4 1 1 (.t 143) (.t 145))⟩,
  ⟨(some 147), none, (.faddr 6 (.t 4))⟩,
  ⟨none, none, (.store 1 (.t 147) (.t 146))⟩] none) .skip))
 (.seq (.seq (.reg [⟨(some 148), none, (.mv (.t 12))⟩] none)
 (.cond (.t 148) (.reg [⟨(some 11), none, (.mv (.c (.sc (.string ⟨#[48]⟩))))⟩] none) .skip)) (.reg [⟨(some 149), none, (.faddr 3 (.t 4))⟩,
  ⟨(some 150), none, (.faddr 2 (.t 149))⟩,
  ⟨(some 151), none, (.load 1 false (.t 150))⟩,
  ⟨(some 152), none, (.mv (.t 11))⟩,
  ⟨(some 153), none, (.call 29 [(.t 152)])⟩,
  ⟨(some 154), none, (.bslice 3 1 [(.t 153)])⟩,
  ⟨(some 155), none, (.append 3 1 8 (.t 151) (.t 154))⟩,
  ⟨(some 156), none, (.faddr 3 (.t 4))⟩,
  ⟨(some 157), none, (.faddr 2 (.t 156))⟩,
  ⟨none, none, (.store 1 (.t 157) (.t 155))⟩] (some [[], [0], [1, 0], [], [3], [4, 3], [2, 5, 4, 1, 0, 3], [0, 1, 2, 3, 4, 5, 6], [7, 0, 1, 2, 3, 4, 5, 6], [8, 6, 0, 1, 2, 3, 4, 5, 7]]))))))) (.reg [⟨(some 158), none, (.bin .add (.t 130) (.c (.sc (.int .i64 (1)))))⟩,
  ⟨(some 130), none, (.mv (.t 158))⟩] none)))))))))))) (.reg [⟨(some 159), none, (.bin .add (.t 88) (.c (.sc (.int .i64 (1)))))⟩,
  ⟨(some 88), none, (.mv (.t 159))⟩] none)))))))
 (.seq (.reg [⟨(some 160), none, (.load 10 true (.t 4))⟩,
  ⟨none, none, (.store 10 (.t 2) (.t 160))⟩] none) .ret)))))))))))
theorem good13 {args : List PV} {r : PV} (hl : args.length ≤ 161) (h : Run Tryz.prog [.code ac13] (endQ [(.c 2 10 true)] r) ⟨initT 0 args, [], 0, 161⟩) : Good Tryz.prog 13 args r :=
  good_run (by kernel_rfl) Famix Tryz.func13 rfl (hs := [⟨[2, 4, 6, 86, 87, 88], [(600004, 3, 1), (700004, 4, 1), (800004, 3, 1)]⟩, ⟨[2, 4, 6, 86, 87, 88, 128, 129, 130], [(600004, 3, 1), (700004, 4, 1)]⟩]) (hs' := []) (by kernel_rfl) hl h
theorem goodE13 {args : List PV} {r : Option PV} {c : List PanicEntry} (hl : args.length ≤ 161) (h : Run Tryz.prog [.code ac13] (endE [(.c 2 10 true)] r c) ⟨initT 0 args, [], 0, 161⟩) : GoodE Tryz.prog 13 args r c :=
  goodE_run (by kernel_rfl) Famix Tryz.func13 rfl (hs := [⟨[2, 4, 6, 86, 87, 88], [(600004, 3, 1), (700004, 4, 1), (800004, 3, 1)]⟩, ⟨[2, 4, 6, 86, 87, 88, 128, 129, 130], [(600004, 3, 1), (700004, 4, 1)]⟩]) (hs' := []) (by kernel_rfl) hl h
def ac27 : ACode :=
 (.seq (.reg [⟨(some 6), none, (.mv (.c (.sc (.bool false))))⟩] none)
 (.seq (.reg [⟨(some 7), none, (.mv (.t 1))⟩,
  ⟨(some 8), none, (.mv (.t 0))⟩,
  ⟨(some 9), none, (.bin .leq (.t 7) (.t 8))⟩,
  ⟨(some 10), none, (.mv (.t 9))⟩,
  ⟨(some 11), (some (10, true)), (.mv (.t 0))⟩,
  ⟨(some 12), (some (10, true)), (.mv (.t 2))⟩,
  ⟨(some 13), (some (10, true)), (.bin .leq (.t 11) (.t 12))⟩,
  ⟨(some 14), none, (.pick (.t 10) (.t 13) (.c (.sc (.bool false))))⟩,
  ⟨(some 6), none, (.mv (.t 14))⟩] none) .ret))
theorem good27 {args : List PV} {r : PV} (hl : args.length ≤ 15) (h : Run Tryz.prog [.code ac27] (endQ [(.t 6)] r) ⟨initT 0 args, [], 0, 15⟩) : Good Tryz.prog 27 args r :=
  good_run (by kernel_rfl) Famix Tryz.func27 rfl (hs := []) (hs' := []) (by kernel_rfl) hl h
def ac37 : ACode :=
 (.seq (.reg [⟨(some 4), none, (.mv (.c (.sc (.bool false))))⟩] none)
 (.seq (.reg [⟨(some 5), none, (.mv (.t 0))⟩,
  ⟨(some 6), none, (.len (.t 5))⟩,
  ⟨(some 7), none, (.mv (.t 1))⟩,
  ⟨(some 8), none, (.bin .eql (.t 6) (.t 7))⟩,
  ⟨(some 9), none, (.mv (.t 8))⟩,
  ⟨(some 10), (some (9, true)), (.mv (.t 0))⟩,
  ⟨(some 11), (some (9, true)), (.call 53 [(.t 10), (.c (.sc (.func (.func 54) #[] #[])))])⟩,
  ⟨(some 12), (some (9, true)), (.un .not (.t 11))⟩,
  ⟨(some 13), none, (.pick (.t 9) (.t 12) (.c (.sc (.bool false))))⟩,
  ⟨(some 4), none, (.mv (.t 13))⟩] none) .ret))
theorem good37 {args : List PV} {r : PV} (hl : args.length ≤ 14) (h : Run Tryz.prog [.code ac37] (endQ [(.t 4)] r) ⟨initT 0 args, [], 0, 14⟩) : Good Tryz.prog 37 args r :=
  good_run (by kernel_rfl) Famix Tryz.func37 rfl (hs := []) (hs' := []) (by kernel_rfl) hl h
def ac54 : ACode :=
 (.seq (.reg [⟨(some 2), none, (.mv (.c (.sc (.bool false))))⟩] none)
 (.seq (.reg [⟨(some 3), none, (.mv (.t 0))⟩,
  ⟨(some 4), none, (.call 27 [(.t 3), (.c (.sc (.int .i64 (0)))), (.c (.sc (.int .i64 (65536))))])⟩,
  ⟨(some 5), none, (.un .not (.t 4))⟩,
  ⟨(some 2), none, (.mv (.t 5))⟩] none) .ret))
theorem good54 {args : List PV} {r : PV} (hl : args.length ≤ 6) (h : Run Tryz.prog [.code ac54] (endQ [(.t 2)] r) ⟨initT 0 args, [], 0, 6⟩) : Good Tryz.prog 54 args r :=
  good_run (by kernel_rfl) Famix Tryz.func54 rfl (hs := []) (hs' := []) (by kernel_rfl) hl h
def ac20 : ACode :=
 (.seq (.reg [⟨(some 1), none, (.boxv (.t 0))⟩,
  ⟨(some 2), none, (.mv (.c (.sc (.int .i64 (0)))))⟩] none)
 (.seq (.seq (.reg [⟨(some 7), none, (.faddr 0 (.t 1))⟩,
  ⟨(some 8), none, (.faddr 0 (.t 7))⟩,
  ⟨(some 9), none, (.load 1 false (.t 8))⟩,
  ⟨(some 10), none, (.bin .lss (.t 9) (.c (.sc (.int .i64 (0)))))⟩,
  ⟨(some 11), none, (.mv (.t 10))⟩,
  ⟨(some 12), (some (11, false)), (.faddr 0 (.t 1))⟩,
  ⟨(some 13), (some (11, false)), (.faddr 0 (.t 12))⟩,
  ⟨(some 14), (some (11, false)), (.load 1 false (.t 13))⟩,
  ⟨(some 15), (some (11, false)), (.faddr 0 (.t 1))⟩,
  ⟨(some 16), (some (11, false)), (.faddr 1 (.t 15))⟩,
  ⟨(some 17), (some (11, false)), (.load 1 false (.t 16))⟩,
  ⟨(some 18), (some (11, false)), (.bin .gtr (.t 14) (.t 17))⟩,
  ⟨(some 19), none, (.pick (.t 11) (.c (.sc (.bool true))) (.t 18))⟩,
  ⟨(some 20), none, (.mv (.t 19))⟩,
  ⟨(some 21), (some (20, false)), (.faddr 0 (.t 1))⟩,
  ⟨(some 22), (some (20, false)), (.faddr 1 (.t 21))⟩,
  ⟨(some 23), (some (20, false)), (.load 1 false (.t 22))⟩,
  ⟨(some 24), (some (20, false)), (.bin .gtr (.t 23) (.c (.sc (.int .i64 (4294944000)))))⟩,
  ⟨(some 25), none, (.pick (.t 20) (.c (.sc (.bool true))) (.t 24))⟩,
  ⟨(some 26), none, (.mv (.t 25))⟩,
  ⟨(some 27), (some (26, false)), (.faddr 2 (.t 1))⟩,
  ⟨(some 28), (some (26, false)), (.load 1 false (.t 27))⟩,
  ⟨(some 29), (some (26, false)), (.call 27 [(.t 28), (.c (.sc (.int .i64 (1)))), (.c (.sc (.int .i64 (256))))])⟩,
  ⟨(some 30), (some (26, false)), (.un .not (.t 29))⟩,
  ⟨(some 31), none, (.pick (.t 26) (.c (.sc (.bool true))) (.t 30))⟩] none)
 (.cond (.t 31)
 (.seq (.reg [⟨(some 2), none, (.mv (.c (.sc (.int .i64 (1)))))⟩] none) .ret) .skip))
 (.seq (.seq (.reg [⟨(some 32), none, (.faddr 3 (.t 1))⟩,
  ⟨(some 33), none, (.load 3 true (.t 32))⟩,
  ⟨(some 34), none, (.call 35 [(.t 33)])⟩,
  ⟨(some 3), none, (.mv (.t 34))⟩] none)
 (.seq (.reg [⟨(some 35), none, (.mv (.t 3))⟩,
  ⟨(some 36), none, (.bin .neq (.t 35) (.c (.sc (.int .i64 (0)))))⟩] none)
 (.cond (.t 36)
 (.seq (.reg [⟨(some 37), none, (.mv (.t 3))⟩,
  ⟨(some 2), none, (.mv (.t 37))⟩] none) .ret) .skip)))
 (.seq (.seq (.reg [⟨(some 38), none, (.faddr 9 (.t 1))⟩,
  ⟨(some 39), none, (.faddr 0 (.t 38))⟩,
  ⟨(some 40), none, (.load 1 false (.t 39))⟩,
  ⟨(some 41), none, (.len (.t 40))⟩,
  ⟨(some 42), none, (.bin .gtr (.t 41) (.c (.sc (.int .i64 (0)))))⟩] none)
 (.cond (.t 42)
 (.seq (.seq (.reg [⟨(some 43), none, (.faddr 9 (.t 1))⟩,
  ⟨(some 44), none, (.load 1 true (.t 43))⟩,
  ⟨(some 45), none, (.call 36 [(.t 44)])⟩,
  ⟨(some 4), none, (.mv (.t 45))⟩] none)
 (.seq (.reg [⟨(some 46), none, (.mv (.t 4))⟩,
  ⟨(some 47), none, (.bin .neq (.t 46) (.c (.sc (.int .i64 (0)))))⟩] none)
 (.cond (.t 47)
 (.seq (.reg [⟨(some 48), none, (.mv (.t 4))⟩,
  ⟨(some 2), none, (.mv (.t 48))⟩] none) .ret) .skip)))
 (.seq (.seq (.reg [⟨(some 49), none, (.faddr 6 (.t 1))⟩,
  ⟨(some 50), none, (.load 1 false (.t 49))⟩,
  ⟨(some 51), none, (.len (.t 50))⟩,
  ⟨(some 52), none, (.faddr 7 (.t 1))⟩,
  ⟨(some 53), none, (.load 1 false (.t 52))⟩,
  ⟨(some 54), none, (.len (.t 53))⟩,
  ⟨(some 55), none, (.bin .add (.t 51) (.t 54))⟩,
  ⟨(some 56), none, (.faddr 8 (.t 1))⟩,
  ⟨(some 57), none, (.load 1 false (.t 56))⟩,
  ⟨(some 58), none, (.len (.t 57))⟩,
  ⟨(some 59), none, (.bin .add (.t 55) (.t 58))⟩,
  ⟨(some 60), none, (.bin .gtr (.t 59) (.c (.sc (.int .i64 (0)))))⟩] none)
 (.cond (.t 60)
 (.seq (.reg [⟨(some 2), none, (.mv (.c (.sc (.int .i64 (3)))))⟩] none) .ret) .skip))
 (.seq (.reg [⟨(some 2), none, (.mv (.c (.sc (.int .i64 (0)))))⟩] none) .ret))) .skip))
 (.seq (.seq (.reg [⟨(some 61), none, (.faddr 6 (.t 1))⟩,
  ⟨(some 62), none, (.load 1 false (.t 61))⟩,
  ⟨(some 63), none, (.len (.t 62))⟩,
  ⟨(some 64), none, (.faddr 3 (.t 1))⟩,
  ⟨(some 65), none, (.faddr 2 (.t 64))⟩,
  ⟨(some 66), none, (.load 1 false (.t 65))⟩,
  ⟨(some 67), none, (.len (.t 66))⟩,
  ⟨(some 68), none, (.bin .neq (.t 63) (.t 67))⟩,
  ⟨(some 69), none, (.mv (.t 68))⟩,
  ⟨(some 70), (some (69, false)), (.faddr 7 (.t 1))⟩,
  ⟨(some 71), (some (69, false)), (.load 1 false (.t 70))⟩,
  ⟨(some 72), (some (69, false)), (.faddr 3 (.t 1))⟩,
  ⟨(some 73), (some (69, false)), (.faddr 0 (.t 72))⟩,
  ⟨(some 74), (some (69, false)), (.load 1 false (.t 73))⟩,
  ⟨(some 75), (some (69, false)), (.call 37 [(.t 71), (.t 74)])⟩,
  ⟨(some 76), (some (69, false)), (.un .not (.t 75))⟩,
  ⟨(some 77), none, (.pick (.t 69) (.c (.sc (.bool true))) (.t 76))⟩,
  ⟨(some 78), none, (.mv (.t 77))⟩,
  ⟨(some 79), (some (78, false)), (.faddr 8 (.t 1))⟩,
  ⟨(some 80), (some (78, false)), (.load 1 false (.t 79))⟩,
  ⟨(some 81), (some (78, false)), (.faddr 3 (.t 1))⟩,
  ⟨(some 82), (some (78, false)), (.faddr 1 (.t 81))⟩,
  ⟨(some 83), (some (78, false)), (.load 1 false (.t 82))⟩,
  ⟨(some 84), (some (78, false)), (.call 37 [(.t 80), (.t 83)])⟩,
  ⟨(some 85), (some (78, false)), (.un .not (.t 84))⟩,
  ⟨(some 86), none, (.pick (.t 78) (.c (.sc (.bool true))) (.t 85))⟩] none)
 (.cond (.t 86)
 (.seq (.reg [⟨(some 2), none, (.mv (.c (.sc (.int .i64 (3)))))⟩] none) .ret) .skip))
 (.seq (.seq (.reg [⟨(some 87), none, (.faddr 6 (.t 1))⟩,
  ⟨(some 88), none, (.load 1 false (.t 87))⟩,
  ⟨(some 89), none, (.len (.t 88))⟩,
  ⟨(some 90), none, (.mv (.c (.sc (.int .i64 (0)))))⟩] none) (.block 0 
 (.loop ⟨[1, 88, 89, 90], []⟩
 (.seq (.reg [⟨(some 91), none, (.bin .lss (.t 90) (.t 89))⟩] none)
 (.seq
 (.cond (.t 91) .skip (.exit 0))
 (.seq (.block 1
 (.seq (.reg [⟨(some 92), none, (.mv (.t 90))⟩,
  ⟨(some 93), none, (.iaddr 1 (.t 88) (.t 90))⟩,
  ⟨(some 94), none, (.load 1 false (.t 93))⟩,
  ⟨(some 5), none, (.mv (.t 92))⟩,
  ⟨(some 6), none, (.mv (.t 94))⟩] none)
 (.seq (.reg [⟨(some 95), none, (.mv (.t 6))⟩,
  ⟨(some 96), none, (.mv (.t 95))⟩,
  ⟨(some 97), (some (96, true)), (.faddr 3 (.t 1))⟩,
  ⟨(some 98), (some (96, true)), (.faddr 2 (.t 97))⟩,
  ⟨(some 99), (some (96, true)), (.load 1 false (.t 98))⟩,
  ⟨(some 100), (some (96, true)), (.mv (.t 5))⟩,
  ⟨(some 101), (some (96, true)), (.iaddr 1 (.t 99) (.t 100))⟩,
  ⟨(some 102), (some (96, true)), (.load 1 false (.t 101))⟩,
  ⟨(some 103), (some (96, true)), (.bin .neq (.t 102) (.c (.sc (.int .i64 (0)))))⟩,
  ⟨(some 104), none, (.pick (.t 96) (.t 103) (.c (.sc (.bool false))))⟩] none)
 (.cond (.t 104)
 (.seq (.reg [⟨(some 2), none, (.mv (.c (.sc (.int .i64 (3)))))⟩] none) .ret) .skip)))) (.reg [⟨(some 105), none, (.bin .add (.t 90) (.c (.sc (.int .i64 (1)))))⟩,
  ⟨(some 90), none, (.mv (.t 105))⟩] none)))))))
 (.seq (.reg [⟨(some 2), none, (.mv (.c (.sc (.int .i64 (0)))))⟩] none) .ret)))))))
theorem good20 {args : List PV} {r : PV} (hl : args.length ≤ 106) (h : Run Tryz.prog [.code ac20] (endQ [(.t 2)] r) ⟨initT 0 args, [], 0, 106⟩) : Good Tryz.prog 20 args r :=
  good_run (by kernel_rfl) Famix Tryz.func20 rfl (hs := [⟨[1, 88, 89, 90], []⟩]) (hs' := []) (by kernel_rfl) hl h
def ac38 : ACode :=
 (.seq (.reg [⟨(some 4), none, (.mv (.c (.sc (.string ⟨#[]⟩))))⟩] none)
 (.seq (.reg [⟨(some 8), none, (.mv (.t 0))⟩,
  ⟨(some 9), none, (.bslice 9 1 [(.t 8)])⟩,
  ⟨(some 5), none, (.mv (.t 9))⟩] none)
 (.seq (.seq (.reg [⟨(some 10), none, (.mv (.t 1))⟩,
  ⟨(some 11), none, (.len (.t 10))⟩,
  ⟨(some 12), none, (.mv (.c (.sc (.int .i64 (0)))))⟩] none) (.block 0 
 (.loop ⟨[5, 10, 11, 12], [(5, (9, 1))]⟩
 (.seq (.reg [⟨(some 13), none, (.bin .lss (.t 12) (.t 11))⟩] none)
 (.seq
 (.cond (.t 13) .skip (.exit 0))
 (.seq (.block 1
 (.seq (.reg [⟨(some 14), none, (.iaddr 1 (.t 10) (.t 12))⟩,
  ⟨(some 15), none, (.load 1 false (.t 14))⟩,
  ⟨(some 7), none, (.mv (.t 15))⟩] none) (.reg [⟨(some 16), none, (.mv (.t 5))⟩,
  ⟨(some 17), none, (.mv (.t 7))⟩,
  ⟨(some 18), none, (.call 24 [(.t 17)])⟩,
  ⟨(some 19), none, (.bslice 9 1 [(.t 18)])⟩,
  ⟨(some 20), none, (.append 9 1 16 (.t 16) (.t 19))⟩,
  ⟨(some 5), none, (.mv (.t 20))⟩] none))) (.reg [⟨(some 21), none, (.bin .add (.t 12) (.c (.sc (.int .i64 (1)))))⟩,
  ⟨(some 12), none, (.mv (.t 21))⟩] none)))))))
 (.seq (.reg [⟨(some 22), none, (.mv (.t 5))⟩,
  ⟨(some 23), none, (.call 23 [(.t 22), (.c (.sc (.string ⟨#[32]⟩)))])⟩,
  ⟨(some 4), none, (.mv (.t 23))⟩] none) .ret))))
theorem good38 {args : List PV} {r : PV} (hl : args.length ≤ 24) (h : Run Tryz.prog [.code ac38] (endQ [(.t 4)] r) ⟨initT 0 args, [], 0, 24⟩) : Good Tryz.prog 38 args r :=
  good_run (by kernel_rfl) Famix Tryz.func38 rfl (hs := [⟨[5, 10, 11, 12], [(5, 9, 1)]⟩]) (hs' := []) (by kernel_rfl) hl h
def ac21 : ACode :=
 (.seq (.reg [⟨(some 1), none, (.boxv (.t 0))⟩,
  ⟨(some 2), none, (.mv (.c (.sc (.slice none 0 0))))⟩] none)
 (.seq (.reg [⟨(some 9), none, (.faddr 9 (.t 1))⟩,
  ⟨(some 10), none, (.faddr 0 (.t 9))⟩,
  ⟨(some 11), none, (.load 1 false (.t 10))⟩,
  ⟨(some 12), none, (.len (.t 11))⟩,
  ⟨(some 13), none, (.bin .gtr (.t 12) (.c (.sc (.int .i64 (0)))))⟩,
  ⟨(some 3), none, (.mv (.t 13))⟩] none)
 (.seq (.reg [⟨(some 14), none, (.faddr 3 (.t 1))⟩,
  ⟨(some 15), none, (.faddr 1 (.t 14))⟩,
  ⟨(some 16), none, (.load 1 false (.t 15))⟩,
  ⟨(some 4), none, (.mv (.t 16))⟩] none)
 (.seq (.reg [⟨(some 17), none, (.faddr 0 (.t 1))⟩,
  ⟨(some 18), none, (.faddr 0 (.t 17))⟩,
  ⟨(some 19), none, (.load 1 false (.t 18))⟩,
  ⟨(some 20), none, (.faddr 0 (.t 1))⟩,
  ⟨(some 21), none, (.faddr 1 (.t 20))⟩,
  ⟨(some 22), none, (.load 1 false (.t 21))⟩,
  ⟨(some 23), none, (.faddr 2 (.t 1))⟩,
  ⟨(some 24), none, (.load 1 false (.t 23))⟩,
  ⟨(some 25), none, (.faddr 3 (.t 1))⟩,
  ⟨(some 26), none, (.faddr 0 (.t 25))⟩,
  ⟨(some 27), none, (.load 1 false (.t 26))⟩,
  ⟨(some 28), none, (.mv (.t 4))⟩,
  ⟨(some 29), none, (.bslice 3 1 [(.t 19), (.t 22), (.t 24), (.t 27), (.t 28)])⟩,
  ⟨(some 30), none, (.call 38 [(.c (.sc (.string ⟨#[116, 114, 105, 112, 115]⟩))), (.t 29)])⟩,
  ⟨(some 31), none, (.bslice 9 1 [(.t 30)])⟩,
  ⟨(some 5), none, (.mv (.t 31))⟩] none)
 (.seq (.seq (.reg [⟨(some 32), none, (.faddr 3 (.t 1))⟩,
  ⟨(some 33), none, (.faddr 0 (.t 32))⟩,
  ⟨(some 34), none, (.load 1 false (.t 33))⟩,
  ⟨(some 35), none, (.mv (.c (.sc (.int .i64 (0)))))⟩] none) (.block 0 
 (.loop ⟨[1, 3, 4, 5, 34, 35], [(5, (9, 1))]⟩
 (.seq (.reg [⟨(some 36), none, (.bin .lss (.t 35) (.t 34))⟩] none)
 (.seq
 (.cond (.t 36) .skip (.exit 0))
 (.seq (.block 1
 (.seq (.reg [⟨(some 37), none, (.mv (.t 35))⟩,
  ⟨(some 6), none, (.mv (.t 37))⟩] none)
 (.seq (.reg [⟨(some 38), none, (.bslice 9 1 [(.c (.sc (.string ⟨#[114, 111, 119]⟩)))])⟩,
  ⟨(some 7), none, (.mv (.t 38))⟩] none)
 (.seq (.seq (.reg [⟨(some 39), none, (.mv (.t 6))⟩,
  ⟨(some 40), none, (.mv (.t 4))⟩,
  ⟨(some 41), none, (.bin .mul (.t 39) (.t 40))⟩,
  ⟨(some 8), none, (.mv (.t 41))⟩] none) (.block 2 
 (.loop ⟨[1, 3, 4, 5, 6, 7, 8, 34, 35], [(7, (9, 1))]⟩
 (.seq (.seq (.reg [⟨(some 42), none, (.mv (.t 8))⟩,
  ⟨(some 43), none, (.mv (.t 6))⟩,
  ⟨(some 44), none, (.bin .add (.t 43) (.c (.sc (.int .i64 (1)))))⟩,
  ⟨(some 45), none, (.mv (.t 4))⟩,
  ⟨(some 46), none, (.bin .mul (.t 44) (.t 45))⟩,
  ⟨(some 47), none, (.bin .lss (.t 42) (.t 46))⟩] none)
 (.cond (.t 47) .skip (.exit 2)))
 (.seq (.block 3
 (.seq (.reg [⟨(some 50), none, (.mv (.t 3))⟩,
  ⟨(some 51), none, (.un .not (.t 50))⟩,
  ⟨(some 52), none, (.mv (.t 51))⟩,
  ⟨(some 53), (some (52, true)), (.faddr 6 (.t 1))⟩,
  ⟨(some 54), (some (52, true)), (.load 1 false (.t 53))⟩,
  ⟨(some 55), (some (52, true)), (.mv (.t 8))⟩,
  ⟨(some 56), (some (52, true)), (.iaddr 1 (.t 54) (.t 55))⟩,
  ⟨(some 57), (some (52, true)), (.load 1 false (.t 56))⟩,
  ⟨(some 58), none, (.pick (.t 52) (.t 57) (.c (.sc (.bool false))))⟩] none)
 (.cond (.t 58) (.reg [⟨(some 59), none, (.mv (.t 7))⟩,
  ⟨(some 60), none, (.bslice 9 1 [(.c (.sc (.string ⟨#[120]⟩)))])⟩,
  ⟨(some 61), none, (.append 9 1 16 (.t 59) (.t 60))⟩,
  ⟨(some 7), none, (.mv (.t 61))⟩] none) (.reg [⟨(some 62), none, (.mv (.t 7))⟩,
  ⟨(some 63), none, (.faddr 3 (.t 1))⟩,
  ⟨(some 64), none, (.faddr 2 (.t 63))⟩,
  ⟨(some 65), none, (.load 1 false (.t 64))⟩,
  ⟨(some 66), none, (.mv (.t 8))⟩,
  ⟨(some 67), none, (.iaddr 1 (.t 65) (.t 66))⟩,
  ⟨(some 68), none, (.load 1 false (.t 67))⟩,
  ⟨(some 69), none, (.call 24 [(.t 68)])⟩,
  ⟨(some 70), none, (.bslice 9 1 [(.t 69)])⟩,
  ⟨(some 71), none, (.append 9 1 16 (.t 62) (.t 70))⟩,
  ⟨(some 7), none, (.mv (.t 71))⟩] none)))) (.reg [⟨(some 48), none, (.mv (.t 8))⟩,
  ⟨(some 49), none, (.bin .add (.t 48) (.c (.sc (.int .i64 (1)))))⟩,
  ⟨(some 8), none, (.mv (.t 49))⟩] none))))))
 (.seq (.seq (.reg [⟨(some 72), none, (.mv (.t 3))⟩,
  ⟨(some 73), none, (.un .not (.t 72))⟩] none)
 (.cond (.t 73) (.reg [⟨(some 74), none, (.mv (.t 7))⟩,
  ⟨(some 75), none, (.faddr 7 (.t 1))⟩,
  ⟨(some 76), none, (.load 1 false (.t 75))⟩,
  ⟨(some 77), none, (.mv (.t 6))⟩,
  ⟨(some 78), none, (.iaddr 1 (.t 76) (.t 77))⟩,
  ⟨(some 79), none, (.load 1 false (.t 78))⟩,
  ⟨(some 80), none, (.call 24 [(.t 79)])⟩,
  ⟨(some 81), none, (.bslice 9 1 [(.t 80)])⟩,
  ⟨(some 82), none, (.append 9 1 16 (.t 74) (.t 81))⟩,
  ⟨(some 7), none, (.mv (.t 82))⟩] none) .skip)) (.reg [⟨(some 83), none, (.mv (.t 5))⟩,
  ⟨(some 84), none, (.mv (.t 7))⟩,
  ⟨(some 85), none, (.call 23 [(.t 84), (.c (.sc (.string ⟨#[32]⟩)))])⟩,
  ⟨(some 86), none, (.bslice 9 1 [(.t 85)])⟩,
  ⟨(some 87), none, (.append 9 1 16 (.t 83) (.t 86))⟩,
  ⟨(some 5), none, (.mv (.t 87))⟩] none)))))) (.reg [⟨(some 88), none, (.bin .add (.t 35) (.c (.sc (.int .i64 (1)))))⟩,
  ⟨(some 35), none, (.mv (.t 88))⟩] none)))))))
 (.seq (.seq (.reg [⟨(some 89), none, (.mv (.t 3))⟩] none)
 (.cond (.t 89)
 (.seq (.reg [⟨(some 90), none, (.mv (.t 5))⟩,
  ⟨(some 91), none, (.faddr 9 (.t 1))⟩,
  ⟨(some 92), none, (.faddr 0 (.t 91))⟩,
  ⟨(some 93), none, (.load 1 false (.t 92))⟩,
  ⟨(some 94), none, (.call 38 [(.c (.sc (.string ⟨#[110, 111, 105, 115, 101]⟩))), (.t 93)])⟩,
  ⟨(some 95), none, (.bslice 9 1 [(.t 94)])⟩,
  ⟨(some 96), none, (.append 9 1 16 (.t 90) (.t 95))⟩,
  ⟨(some 2), none, (.mv (.t 96))⟩] none) .ret) .skip))
 (.seq (.reg [⟨(some 97), none, (.mv (.t 5))⟩,
  ⟨(some 98), none, (.faddr 8 (.t 1))⟩,
  ⟨(some 99), none, (.load 1 false (.t 98))⟩,
  ⟨(some 100), none, (.call 38 [(.c (.sc (.string ⟨#[115, 117, 109, 115]⟩))), (.t 99)])⟩,
  ⟨(some 101), none, (.bslice 9 1 [(.t 100)])⟩,
  ⟨(some 102), none, (.append 9 1 16 (.t 97) (.t 101))⟩,
  ⟨(some 2), none, (.mv (.t 102))⟩] none) .ret)))))))
theorem good21 {args : List PV} {r : PV} (hl : args.length ≤ 103) (h : Run Tryz.prog [.code ac21] (endQ [(.t 2)] r) ⟨initT 0 args, [], 0, 103⟩) : Good Tryz.prog 21 args r :=
  good_run (by kernel_rfl) Famix Tryz.func21 rfl (hs := [⟨[1, 3, 4, 5, 34, 35], [(5, 9, 1)]⟩, ⟨[1, 3, 4, 5, 6, 7, 8, 34, 35], [(7, 9, 1)]⟩]) (hs' := []) (by kernel_rfl) hl h
def ac9 : ACode :=
 (.seq (.reg [⟨(some 1), none, (.boxv (.t 0))⟩,
  ⟨(some 2), none, (.mv (.c (.sc (.slice none 0 0))))⟩,
  ⟨(some 3), none, (.mv (.c (.sc (.int .i64 (0)))))⟩] none)
 (.seq (.seq (.reg [⟨(some 5), none, (.load 10 true (.t 1))⟩,
  ⟨(some 6), none, (.call 20 [(.t 5)])⟩,
  ⟨(some 4), none, (.mv (.t 6))⟩] none)
 (.seq (.reg [⟨(some 7), none, (.mv (.t 4))⟩,
  ⟨(some 8), none, (.bin .neq (.t 7) (.c (.sc (.int .i64 (0)))))⟩] none)
 (.cond (.t 8)
 (.seq (.reg [⟨(some 9), none, (.mv (.t 4))⟩,
  ⟨(some 2), none, (.mv (.c (.sc (.slice none 0 0))))⟩,
  ⟨(some 3), none, (.mv (.t 9))⟩] none) .ret) .skip)))
 (.seq (.reg [⟨(some 10), none, (.load 10 true (.t 1))⟩,
  ⟨(some 11), none, (.call 21 [(.t 10)])⟩,
  ⟨(some 2), none, (.mv (.t 11))⟩,
  ⟨(some 3), none, (.mv (.c (.sc (.int .i64 (0)))))⟩] none) .ret)))
theorem good9 {args : List PV} {r : PV} (hl : args.length ≤ 12) (h : Run Tryz.prog [.code ac9] (endQ [(.t 2), (.t 3)] r) ⟨initT 0 args, [], 0, 12⟩) : Good Tryz.prog 9 args r :=
  good_run (by kernel_rfl) Famix Tryz.func9 rfl (hs := []) (hs' := []) (by kernel_rfl) hl h
def ac10 : ACode :=
 (.seq (.reg [⟨(some 2), none, (.boxv (.t 0))⟩,
  ⟨(some 4), none, (.mv (.c (.sc (.slice none 0 0))))⟩,
  ⟨(some 5), none, (.mv (.c (.sc (.int .i64 (0)))))⟩] none)
 (.seq (.seq (.reg [⟨(some 16), none, (.load 5 true (.t 2))⟩,
  ⟨(some 17), none, (.call 22 [(.t 16)])⟩,
  ⟨(some 6), none, (.mv (.t 17))⟩] none)
 (.seq (.reg [⟨(some 18), none, (.mv (.t 6))⟩,
  ⟨(some 19), none, (.bin .neq (.t 18) (.c (.sc (.int .i64 (0)))))⟩] none)
 (.cond (.t 19)
 (.seq (.reg [⟨(some 20), none, (.mv (.t 6))⟩,
  ⟨(some 4), none, (.mv (.c (.sc (.slice none 0 0))))⟩,
  ⟨(some 5), none, (.mv (.t 20))⟩] none) .ret) .skip)))
 (.seq (.seq (.reg [⟨(some 21), none, (.mv (.t 1))⟩,
  ⟨(some 22), none, (.len (.t 21))⟩,
  ⟨(some 23), none, (.faddr 0 (.t 2))⟩,
  ⟨(some 24), none, (.load 1 false (.t 23))⟩,
  ⟨(some 25), none, (.bin .neq (.t 22) (.t 24))⟩] none)
 (.cond (.t 25)
 (.seq (.reg [⟨(some 4), none, (.mv (.c (.sc (.slice none 0 0))))⟩,
  ⟨(some 5), none, (.mv (.c (.sc (.int .i64 (3)))))⟩] none) .ret) .skip))
 (.seq (.reg [⟨(some 26), none, (.mkmap 3)⟩,
  ⟨(some 7), none, (.mv (.t 26))⟩] none)
 (.seq (.reg [⟨(some 27), none, (.faddr 3 (.t 2))⟩,
  ⟨(some 28), none, (.load 1 false (.t 27))⟩,
  ⟨(some 29), none, (.len (.t 28))⟩,
  ⟨(some 30), none, (.mk 3 1 8 [(.sc (.int .i64 (0)))] (.t 29) (.t 29))⟩,
  ⟨(some 8), none, (.mv (.t 30))⟩] none)
 (.seq (.seq (.reg [⟨(some 31), none, (.mv (.t 1))⟩,
  ⟨(some 32), none, (.len (.t 31))⟩,
  ⟨(some 33), none, (.mv (.c (.sc (.int .i64 (0)))))⟩] none) (.block 0 
 (.loop ⟨[2, 7, 8, 31, 32, 33], []⟩
 (.seq (.reg [⟨(some 34), none, (.bin .lss (.t 33) (.t 32))⟩] none)
 (.seq
 (.cond (.t 34) .skip (.exit 0))
 (.seq (.block 1
 (.seq (.reg [⟨(some 35), none, (.iaddr 4 (.t 31) (.t 33))⟩,
  ⟨(some 36), none, (.load 4 true (.t 35))⟩,
  ⟨(some 10), none, (.new [(.sc (.int .i64 (0))), (.sc (.int .i64 (0))), (.sc (.int .i64 (0))), (.sc (.bool false))])⟩,
  ⟨none, none, (.store 4 (.t 10) (.t 36))⟩] none)
 (.seq (.seq (.reg [⟨(some 37), none, (.faddr 0 (.t 10))⟩,
  ⟨(some 38), none, (.load 1 false (.t 37))⟩,
  ⟨(some 39), none, (.bin .neq (.t 38) (.c (.sc (.int .i64 (1)))))⟩] none)
 (.cond (.t 39) (.exit 1) .skip))
 (.seq (.reg [⟨(some 40), none, (.faddr 1 (.t 10))⟩,
  ⟨(some 41), none, (.load 1 false (.t 40))⟩,
  ⟨(some 42), none, (.bin .quo (.t 41) (.c (.sc (.int .i64 (32)))))⟩,
  ⟨(some 43), none, (.faddr 1 (.t 10))⟩,
  ⟨(some 44), none, (.load 1 false (.t 43))⟩,
  ⟨(some 45), none, (.bin .rem (.t 44) (.c (.sc (.int .i64 (32)))))⟩,
  ⟨(some 11), none, (.mv (.t 42))⟩,
  ⟨(some 12), none, (.mv (.t 45))⟩] (some [[], [0], [1, 0], [], [3], [4, 3], [2, 0, 1], [5, 6, 0, 1, 2, 3, 4]]))
 (.seq (.seq (.reg [⟨(some 46), none, (.faddr 1 (.t 10))⟩,
  ⟨(some 47), none, (.load 1 false (.t 46))⟩,
  ⟨(some 48), none, (.bin .lss (.t 47) (.c (.sc (.int .i64 (0)))))⟩,
  ⟨(some 49), none, (.mv (.t 48))⟩,
  ⟨(some 50), (some (49, false)), (.mv (.t 11))⟩,
  ⟨(some 51), (some (49, false)), (.faddr 3 (.t 2))⟩,
  ⟨(some 52), (some (49, false)), (.load 1 false (.t 51))⟩,
  ⟨(some 53), (some (49, false)), (.len (.t 52))⟩,
  ⟨(some 54), (some (49, false)), (.bin .geq (.t 50) (.t 53))⟩,
  ⟨(some 55), none, (.pick (.t 49) (.c (.sc (.bool true))) (.t 54))⟩,
  ⟨(some 56), none, (.mv (.t 55))⟩,
  ⟨(some 57), (some (56, false)), (.mv (.t 12))⟩,
  ⟨(some 58), (some (56, false)), (.faddr 3 (.t 2))⟩,
  ⟨(some 59), (some (56, false)), (.load 1 false (.t 58))⟩,
  ⟨(some 60), (some (56, false)), (.mv (.t 11))⟩,
  ⟨(some 61), (some (56, false)), (.iaddr 1 (.t 59) (.t 60))⟩,
  ⟨(some 62), (some (56, false)), (.load 1 false (.t 61))⟩,
  ⟨(some 63), (some (56, false)), (.bin .geq (.t 57) (.t 62))⟩,
  ⟨(some 64), none, (.pick (.t 56) (.c (.sc (.bool true))) (.t 63))⟩,
  ⟨(some 65), none, (.mv (.t 64))⟩,
  ⟨(some 66), (some (65, false)), (.mv (.t 7))⟩,
  ⟨(some 67), (some (65, false)), (.faddr 1 (.t 10))⟩,
  ⟨(some 68), (some (65, false)), (.load 1 false (.t 67))⟩,
  ⟨(some 69), (some (65, false)), (.mlook false 3 (.int .i64) (.bool false) (.t 66) (.t 68))⟩,
  ⟨(some 70), none, (.pick (.t 65) (.c (.sc (.bool true))) (.t 69))⟩] none)
 (.cond (.t 70)
 (.seq (.reg [⟨(some 4), none, (.mv (.c (.sc (.slice none 0 0))))⟩,
  ⟨(some 5), none, (.mv (.c (.sc (.int .i64 (23)))))⟩] none) .ret) .skip))
 (.seq (.reg [⟨(some 71), none, (.mv (.t 7))⟩,
  ⟨(some 72), none, (.faddr 1 (.t 10))⟩,
  ⟨(some 73), none, (.load 1 false (.t 72))⟩,
  ⟨none, none, (.mupd 3 (.int .i64) (.t 71) (.t 73) (.c (.sc (.bool true))))⟩] none) (.reg [⟨(some 74), none, (.mv (.t 8))⟩,
  ⟨(some 75), none, (.mv (.t 11))⟩,
  ⟨(some 76), none, (.iaddr 1 (.t 74) (.t 75))⟩,
  ⟨(some 77), none, (.load 1 false (.t 76))⟩,
  ⟨(some 78), none, (.bin .add (.t 77) (.c (.sc (.int .i64 (1)))))⟩,
  ⟨(some 79), none, (.iaddr 1 (.t 74) (.t 75))⟩,
  ⟨none, none, (.store 1 (.t 79) (.t 78))⟩] none))))))) (.reg [⟨(some 80), none, (.bin .add (.t 33) (.c (.sc (.int .i64 (1)))))⟩,
  ⟨(some 33), none, (.mv (.t 80))⟩] none)))))))
 (.seq (.reg [⟨(some 13), none, (.mv (.c (.sc (.slice none 0 0))))⟩] none)
 (.seq (.seq (.reg [⟨(some 81), none, (.mv (.t 8))⟩,
  ⟨(some 82), none, (.len (.t 81))⟩,
  ⟨(some 83), none, (.mv (.c (.sc (.int .i64 (0)))))⟩] none) (.block 2 
 (.loop ⟨[2, 13, 81, 82, 83], [(13, (9, 1))]⟩
 (.seq (.reg [⟨(some 84), none, (.bin .lss (.t 83) (.t 82))⟩] none)
 (.seq
 (.cond (.t 84) .skip (.exit 2))
 (.seq (.block 3
 (.seq (.reg [⟨(some 85), none, (.mv (.t 83))⟩,
  ⟨(some 86), none, (.iaddr 1 (.t 81) (.t 83))⟩,
  ⟨(some 87), none, (.load 1 false (.t 86))⟩,
  ⟨(some 14), none, (.mv (.t 85))⟩,
  ⟨(some 15), none, (.mv (.t 87))⟩] none) (.reg [⟨(some 88), none, (.mv (.t 13))⟩,
  ⟨(some 89), none, (.mv (.t 14))⟩,
  ⟨(some 90), none, (.call 24 [(.t 89)])⟩,
  ⟨(some 91), none, (.mv (.t 15))⟩,
  ⟨(some 92), none, (.call 24 [(.t 91)])⟩,
  ⟨(some 93), none, (.faddr 3 (.t 2))⟩,
  ⟨(some 94), none, (.load 1 false (.t 93))⟩,
  ⟨(some 95), none, (.mv (.t 14))⟩,
  ⟨(some 96), none, (.iaddr 1 (.t 94) (.t 95))⟩,
  ⟨(some 97), none, (.load 1 false (.t 96))⟩,
  ⟨(some 98), none, (.mv (.t 15))⟩,
  ⟨(some 99), none, (.bin .sub (.t 97) (.t 98))⟩,
  ⟨(some 100), none, (.call 24 [(.t 99)])⟩,
  ⟨(some 101), none, (.bslice 9 1 [(.t 90), (.t 92), (.t 100)])⟩,
  ⟨(some 102), none, (.call 23 [(.t 101), (.c (.sc (.string ⟨#[32]⟩)))])⟩,
  ⟨(some 103), none, (.bslice 9 1 [(.t 102)])⟩,
  ⟨(some 104), none, (.append 9 1 16 (.t 88) (.t 103))⟩,
  ⟨(some 13), none, (.mv (.t 104))⟩] (some [[], [], [1], [], [3, 2, 1], [], [5], [], [6, 7, 5], [8, 6, 7, 5], [], [9, 10, 8, 6, 7, 5], [11, 4, 9, 10, 8, 6, 7, 5, 3, 2, 1], [2, 4, 12, 1, 3, 11, 9, 10, 8, 6, 7, 5], [13, 12, 2, 4, 1, 3, 11, 9, 10, 8, 6, 7, 5], [14, 13, 12, 2, 4, 1, 3, 11, 9, 10, 8, 6, 7, 5], [0, 15, 14, 13, 12, 2, 4, 1, 3, 11, 9, 10, 8, 6, 7, 5], [16, 0, 1, 2, 3, 4, 5, 6, 7, 8, 9, 10, 11, 12, 13, 14, 15]])))) (.reg [⟨(some 105), none, (.bin .add (.t 83) (.c (.sc (.int .i64 (1)))))⟩,
  ⟨(some 83), none, (.mv (.t 105))⟩] none)))))))
 (.seq (.reg [⟨(some 106), none, (.mv (.t 13))⟩,
  ⟨(some 4), none, (.mv (.t 106))⟩,
  ⟨(some 5), none, (.mv (.c (.sc (.int .i64 (0)))))⟩] none) .ret)))))))))
theorem good10 {args : List PV} {r : PV} (hl : args.length ≤ 107) (h : Run Tryz.prog [.code ac10] (endQ [(.t 4), (.t 5)] r) ⟨initT 0 args, [], 0, 107⟩) : Good Tryz.prog 10 args r :=
  good_run (by kernel_rfl) Famix Tryz.func10 rfl (hs := [⟨[2, 7, 8, 31, 32, 33], []⟩, ⟨[2, 13, 81, 82, 83], [(13, 9, 1)]⟩]) (hs' := []) (by kernel_rfl) hl h
def ac35 : ACode :=
 (.seq (.reg [⟨(some 1), none, (.boxv (.t 0))⟩,
  ⟨(some 2), none, (.mv (.c (.sc (.int .i64 (0)))))⟩] none)
 (.seq (.seq (.reg [⟨(some 5), none, (.faddr 0 (.t 1))⟩,
  ⟨(some 6), none, (.load 1 false (.t 5))⟩,
  ⟨(some 7), none, (.bin .lss (.t 6) (.c (.sc (.int .i64 (1)))))⟩,
  ⟨(some 8), none, (.mv (.t 7))⟩,
  ⟨(some 9), (some (8, false)), (.faddr 0 (.t 1))⟩,
  ⟨(some 10), (some (8, false)), (.load 1 false (.t 9))⟩,
  ⟨(some 11), (some (8, false)), (.bin .gtr (.t 10) (.c (.sc (.int .i64 (8)))))⟩,
  ⟨(some 12), none, (.pick (.t 8) (.c (.sc (.bool true))) (.t 11))⟩,
  ⟨(some 13), none, (.mv (.t 12))⟩,
  ⟨(some 14), (some (13, false)), (.faddr 1 (.t 1))⟩,
  ⟨(some 15), (some (13, false)), (.load 1 false (.t 14))⟩,
  ⟨(some 16), (some (13, false)), (.bin .lss (.t 15) (.c (.sc (.int .i64 (1)))))⟩,
  ⟨(some 17), none, (.pick (.t 13) (.c (.sc (.bool true))) (.t 16))⟩,
  ⟨(some 18), none, (.mv (.t 17))⟩,
  ⟨(some 19), (some (18, false)), (.faddr 1 (.t 1))⟩,
  ⟨(some 20), (some (18, false)), (.load 1 false (.t 19))⟩,
  ⟨(some 21), (some (18, false)), (.bin .gtr (.t 20) (.c (.sc (.int .i64 (8)))))⟩,
  ⟨(some 22), none, (.pick (.t 18) (.c (.sc (.bool true))) (.t 21))⟩] none)
 (.cond (.t 22)
 (.seq (.reg [⟨(some 2), none, (.mv (.c (.sc (.int .i64 (1)))))⟩] none) .ret) .skip))
 (.seq (.seq (.reg [⟨(some 23), none, (.faddr 2 (.t 1))⟩,
  ⟨(some 24), none, (.load 1 false (.t 23))⟩,
  ⟨(some 25), none, (.len (.t 24))⟩,
  ⟨(some 26), none, (.faddr 0 (.t 1))⟩,
  ⟨(some 27), none, (.load 1 false (.t 26))⟩,
  ⟨(some 28), none, (.faddr 1 (.t 1))⟩,
  ⟨(some 29), none, (.load 1 false (.t 28))⟩,
  ⟨(some 30), none, (.bin .mul (.t 27) (.t 29))⟩,
  ⟨(some 31), none, (.bin .neq (.t 25) (.t 30))⟩] none)
 (.cond (.t 31)
 (.seq (.reg [⟨(some 2), none, (.mv (.c (.sc (.int .i64 (3)))))⟩] none) .ret) .skip))
 (.seq (.seq (.reg [⟨(some 32), none, (.faddr 2 (.t 1))⟩,
  ⟨(some 33), none, (.load 1 false (.t 32))⟩,
  ⟨(some 34), none, (.len (.t 33))⟩,
  ⟨(some 35), none, (.mv (.c (.sc (.int .i64 (0)))))⟩] none) (.block 0 
 (.loop ⟨[33, 34, 35], []⟩
 (.seq (.reg [⟨(some 36), none, (.bin .lss (.t 35) (.t 34))⟩] none)
 (.seq
 (.cond (.t 36) .skip (.exit 0))
 (.seq (.block 1
 (.seq (.reg [⟨(some 37), none, (.iaddr 1 (.t 33) (.t 35))⟩,
  ⟨(some 38), none, (.load 1 false (.t 37))⟩,
  ⟨(some 4), none, (.mv (.t 38))⟩] none)
 (.seq (.reg [⟨(some 39), none, (.mv (.t 4))⟩,
  ⟨(some 40), none, (.bin .lss (.t 39) (.c (.sc (.int .i64 (-1000000)))))⟩,
  ⟨(some 41), none, (.mv (.t 40))⟩,
  ⟨(some 42), (some (41, false)), (.mv (.t 4))⟩,
  ⟨(some 43), (some (41, false)), (.bin .gtr (.t 42) (.c (.sc (.int .i64 (1000000)))))⟩,
  ⟨(some 44), none, (.pick (.t 41) (.c (.sc (.bool true))) (.t 43))⟩] none)
 (.cond (.t 44)
 (.seq (.reg [⟨(some 2), none, (.mv (.c (.sc (.int .i64 (1)))))⟩] none) .ret) .skip)))) (.reg [⟨(some 45), none, (.bin .add (.t 35) (.c (.sc (.int .i64 (1)))))⟩,
  ⟨(some 35), none, (.mv (.t 45))⟩] none)))))))
 (.seq (.reg [⟨(some 2), none, (.mv (.c (.sc (.int .i64 (0)))))⟩] none) .ret)))))
theorem good35 {args : List PV} {r : PV} (hl : args.length ≤ 46) (h : Run Tryz.prog [.code ac35] (endQ [(.t 2)] r) ⟨initT 0 args, [], 0, 46⟩) : Good Tryz.prog 35 args r :=
  good_run (by kernel_rfl) Famix Tryz.func35 rfl (hs := [⟨[33, 34, 35], []⟩]) (hs' := []) (by kernel_rfl) hl h
def ac36 : ACode :=
 (.seq (.reg [⟨(some 1), none, (.boxv (.t 0))⟩,
  ⟨(some 2), none, (.mv (.c (.sc (.int .i64 (0)))))⟩] none)
 (.seq (.seq (.reg [⟨(some 5), none, (.faddr 0 (.t 1))⟩,
  ⟨(some 6), none, (.load 1 false (.t 5))⟩,
  ⟨(some 7), none, (.len (.t 6))⟩,
  ⟨(some 8), none, (.bin .lss (.t 7) (.c (.sc (.int .i64 (1)))))⟩,
  ⟨(some 9), none, (.mv (.t 8))⟩,
  ⟨(some 10), (some (9, false)), (.faddr 0 (.t 1))⟩,
  ⟨(some 11), (some (9, false)), (.load 1 false (.t 10))⟩,
  ⟨(some 12), (some (9, false)), (.len (.t 11))⟩,
  ⟨(some 13), (some (9, false)), (.bin .gtr (.t 12) (.c (.sc (.int .i64 (33)))))⟩,
  ⟨(some 14), none, (.pick (.t 9) (.c (.sc (.bool true))) (.t 13))⟩] none)
 (.cond (.t 14)
 (.seq (.reg [⟨(some 2), none, (.mv (.c (.sc (.int .i64 (32)))))⟩] none) .ret) .skip))
 (.seq (.seq (.reg [⟨(some 15), none, (.faddr 0 (.t 1))⟩,
  ⟨(some 16), none, (.load 1 false (.t 15))⟩,
  ⟨(some 17), none, (.len (.t 16))⟩,
  ⟨(some 18), none, (.mv (.c (.sc (.int .i64 (0)))))⟩] none) (.block 0 
 (.loop ⟨[1, 16, 17, 18], []⟩
 (.seq (.reg [⟨(some 19), none, (.bin .lss (.t 18) (.t 17))⟩] none)
 (.seq
 (.cond (.t 19) .skip (.exit 0))
 (.seq (.block 1
 (.seq (.reg [⟨(some 20), none, (.mv (.t 18))⟩,
  ⟨(some 21), none, (.iaddr 1 (.t 16) (.t 18))⟩,
  ⟨(some 22), none, (.load 1 false (.t 21))⟩,
  ⟨(some 3), none, (.mv (.t 20))⟩,
  ⟨(some 4), none, (.mv (.t 22))⟩] none)
 (.seq (.reg [⟨(some 23), none, (.mv (.t 4))⟩,
  ⟨(some 24), none, (.bin .lss (.t 23) (.c (.sc (.int .i64 (1)))))⟩,
  ⟨(some 25), none, (.mv (.t 24))⟩,
  ⟨(some 26), (some (25, false)), (.mv (.t 4))⟩,
  ⟨(some 27), (some (25, false)), (.bin .gtr (.t 26) (.c (.sc (.int .i64 (16777216)))))⟩,
  ⟨(some 28), none, (.pick (.t 25) (.c (.sc (.bool true))) (.t 27))⟩,
  ⟨(some 29), none, (.mv (.t 28))⟩,
  ⟨(some 30), (some (29, false)), (.mv (.t 3))⟩,
  ⟨(some 31), (some (29, false)), (.bin .gtr (.t 30) (.c (.sc (.int .i64 (0)))))⟩,
  ⟨(some 32), (some (29, false)), (.mv (.t 31))⟩,
  ⟨(some 33), (some (32, true)), (.mv (.t 4))⟩,
  ⟨(some 34), (some (32, true)), (.faddr 0 (.t 1))⟩,
  ⟨(some 35), (some (32, true)), (.load 1 false (.t 34))⟩,
  ⟨(some 36), (some (32, true)), (.mv (.t 3))⟩,
  ⟨(some 37), (some (32, true)), (.bin .sub (.t 36) (.c (.sc (.int .i64 (1)))))⟩,
  ⟨(some 38), (some (32, true)), (.iaddr 1 (.t 35) (.t 37))⟩,
  ⟨(some 39), (some (32, true)), (.load 1 false (.t 38))⟩,
  ⟨(some 40), (some (32, true)), (.bin .gtr (.t 33) (.t 39))⟩,
  ⟨(some 41), (some (29, false)), (.pick (.t 32) (.t 40) (.c (.sc (.bool false))))⟩,
  ⟨(some 42), none, (.pick (.t 29) (.c (.sc (.bool true))) (.t 41))⟩] none)
 (.cond (.t 42)
 (.seq (.reg [⟨(some 2), none, (.mv (.c (.sc (.int .i64 (32)))))⟩] none) .ret) .skip)))) (.reg [⟨(some 43), none, (.bin .add (.t 18) (.c (.sc (.int .i64 (1)))))⟩,
  ⟨(some 18), none, (.mv (.t 43))⟩] none)))))))
 (.seq (.reg [⟨(some 2), none, (.mv (.c (.sc (.int .i64 (0)))))⟩] none) .ret))))
theorem good36 {args : List PV} {r : PV} (hl : args.length ≤ 44) (h : Run Tryz.prog [.code ac36] (endQ [(.t 2)] r) ⟨initT 0 args, [], 0, 44⟩) : Good Tryz.prog 36 args r :=
  good_run (by kernel_rfl) Famix Tryz.func36 rfl (hs := [⟨[1, 16, 17, 18], []⟩]) (hs' := []) (by kernel_rfl) hl h
def ac22 : ACode :=
 (.seq (.reg [⟨(some 1), none, (.boxv (.t 0))⟩,
  ⟨(some 2), none, (.mv (.c (.sc (.int .i64 (0)))))⟩] none)
 (.seq (.seq (.reg [⟨(some 3), none, (.faddr 0 (.t 1))⟩,
  ⟨(some 4), none, (.load 1 false (.t 3))⟩,
  ⟨(some 5), none, (.call 39 [(.t 4), (.c (.sc (.int .i64 (1)))), (.c (.sc (.int .i64 (128))))])⟩,
  ⟨(some 6), none, (.un .not (.t 5))⟩,
  ⟨(some 7), none, (.mv (.t 6))⟩,
  ⟨(some 8), (some (7, false)), (.faddr 1 (.t 1))⟩,
  ⟨(some 9), (some (7, false)), (.load 1 false (.t 8))⟩,
  ⟨(some 10), (some (7, false)), (.call 39 [(.t 9), (.c (.sc (.int .i64 (1)))), (.c (.sc (.int .i64 (128))))])⟩,
  ⟨(some 11), (some (7, false)), (.un .not (.t 10))⟩,
  ⟨(some 12), none, (.pick (.t 7) (.c (.sc (.bool true))) (.t 11))⟩,
  ⟨(some 13), none, (.mv (.t 12))⟩,
  ⟨(some 14), (some (13, false)), (.faddr 2 (.t 1))⟩,
  ⟨(some 15), (some (13, false)), (.load 1 false (.t 14))⟩,
  ⟨(some 16), (some (13, false)), (.call 39 [(.t 15), (.c (.sc (.int .i64 (1)))), (.c (.sc (.int .i64 (256))))])⟩,
  ⟨(some 17), (some (13, false)), (.un .not (.t 16))⟩,
  ⟨(some 18), none, (.pick (.t 13) (.c (.sc (.bool true))) (.t 17))⟩] none)
 (.cond (.t 18)
 (.seq (.reg [⟨(some 2), none, (.mv (.c (.sc (.int .i64 (1)))))⟩] none) .ret) .skip))
 (.seq (.seq (.reg [⟨(some 19), none, (.faddr 3 (.t 1))⟩,
  ⟨(some 20), none, (.load 1 false (.t 19))⟩,
  ⟨(some 21), none, (.len (.t 20))⟩,
  ⟨(some 22), none, (.bin .gtr (.t 21) (.c (.sc (.int .i64 (32)))))⟩,
  ⟨(some 23), none, (.mv (.t 22))⟩,
  ⟨(some 24), (some (23, false)), (.faddr 4 (.t 1))⟩,
  ⟨(some 25), (some (23, false)), (.load 1 false (.t 24))⟩,
  ⟨(some 26), (some (23, false)), (.len (.t 25))⟩,
  ⟨(some 27), (some (23, false)), (.bin .gtr (.t 26) (.c (.sc (.int .i64 (8)))))⟩,
  ⟨(some 28), none, (.pick (.t 23) (.c (.sc (.bool true))) (.t 27))⟩] none)
 (.cond (.t 28)
 (.seq (.reg [⟨(some 2), none, (.mv (.c (.sc (.int .i64 (8)))))⟩] none) .ret) .skip))
 (.seq (.seq (.reg [⟨(some 29), none, (.faddr 3 (.t 1))⟩,
  ⟨(some 30), none, (.load 1 false (.t 29))⟩,
  ⟨(some 31), none, (.call 40 [(.t 30), (.c (.sc (.int .i64 (32))))])⟩,
  ⟨(some 32), none, (.un .not (.t 31))⟩,
  ⟨(some 33), none, (.mv (.t 32))⟩,
  ⟨(some 34), (some (33, false)), (.faddr 4 (.t 1))⟩,
  ⟨(some 35), (some (33, false)), (.load 1 false (.t 34))⟩,
  ⟨(some 36), (some (33, false)), (.call 40 [(.t 35), (.c (.sc (.int .i64 (32))))])⟩,
  ⟨(some 37), (some (33, false)), (.un .not (.t 36))⟩,
  ⟨(some 38), none, (.pick (.t 33) (.c (.sc (.bool true))) (.t 37))⟩] none)
 (.cond (.t 38)
 (.seq (.reg [⟨(some 2), none, (.mv (.c (.sc (.int .i64 (1)))))⟩] none) .ret) .skip))
 (.seq (.reg [⟨(some 2), none, (.mv (.c (.sc (.int .i64 (0)))))⟩] none) .ret)))))
theorem good22 {args : List PV} {r : PV} (hl : args.length ≤ 39) (h : Run Tryz.prog [.code ac22] (endQ [(.t 2)] r) ⟨initT 0 args, [], 0, 39⟩) : Good Tryz.prog 22 args r :=
  good_run (by kernel_rfl) Famix Tryz.func22 rfl (hs := []) (hs' := []) (by kernel_rfl) hl h
def ac39 : ACode :=
 (.seq (.reg [⟨(some 6), none, (.mv (.c (.sc (.bool false))))⟩] none)
 (.seq (.reg [⟨(some 7), none, (.mv (.t 1))⟩,
  ⟨(some 8), none, (.mv (.t 0))⟩,
  ⟨(some 9), none, (.bin .leq (.t 7) (.t 8))⟩,
  ⟨(some 10), none, (.mv (.t 9))⟩,
  ⟨(some 11), (some (10, true)), (.mv (.t 0))⟩,
  ⟨(some 12), (some (10, true)), (.mv (.t 2))⟩,
  ⟨(some 13), (some (10, true)), (.bin .leq (.t 11) (.t 12))⟩,
  ⟨(some 14), none, (.pick (.t 10) (.t 13) (.c (.sc (.bool false))))⟩,
  ⟨(some 6), none, (.mv (.t 14))⟩] none) .ret))
theorem good39 {args : List PV} {r : PV} (hl : args.length ≤ 15) (h : Run Tryz.prog [.code ac39] (endQ [(.t 6)] r) ⟨initT 0 args, [], 0, 15⟩) : Good Tryz.prog 39 args r :=
  good_run (by kernel_rfl) Famix Tryz.func39 rfl (hs := []) (hs' := []) (by kernel_rfl) hl h
def ac40 : ACode :=
 (.seq (.reg [⟨(some 4), none, (.mv (.c (.sc (.bool false))))⟩] none)
 (.seq (.seq (.reg [⟨(some 7), none, (.mv (.t 0))⟩,
  ⟨(some 8), none, (.len (.t 7))⟩,
  ⟨(some 9), none, (.mv (.c (.sc (.int .i64 (0)))))⟩] none) (.block 0 
 (.loop ⟨[1, 7, 8, 9], []⟩
 (.seq (.reg [⟨(some 10), none, (.bin .lss (.t 9) (.t 8))⟩] none)
 (.seq
 (.cond (.t 10) .skip (.exit 0))
 (.seq (.block 1
 (.seq (.reg [⟨(some 11), none, (.iaddr 1 (.t 7) (.t 9))⟩,
  ⟨(some 12), none, (.load 1 false (.t 11))⟩,
  ⟨(some 6), none, (.mv (.t 12))⟩] none)
 (.seq (.reg [⟨(some 13), none, (.mv (.t 6))⟩,
  ⟨(some 14), none, (.mv (.t 1))⟩,
  ⟨(some 15), none, (.call 39 [(.t 13), (.c (.sc (.int .i64 (1)))), (.t 14)])⟩,
  ⟨(some 16), none, (.un .not (.t 15))⟩] none)
 (.cond (.t 16)
 (.seq (.reg [⟨(some 4), none, (.mv (.c (.sc (.bool false))))⟩] none) .ret) .skip)))) (.reg [⟨(some 17), none, (.bin .add (.t 9) (.c (.sc (.int .i64 (1)))))⟩,
  ⟨(some 9), none, (.mv (.t 17))⟩] none)))))))
 (.seq (.reg [⟨(some 4), none, (.mv (.c (.sc (.bool true))))⟩] none) .ret)))
theorem good40 {args : List PV} {r : PV} (hl : args.length ≤ 18) (h : Run Tryz.prog [.code ac40] (endQ [(.t 4)] r) ⟨initT 0 args, [], 0, 18⟩) : Good Tryz.prog 40 args r :=
  good_run (by kernel_rfl) Famix Tryz.func40 rfl (hs := [⟨[1, 7, 8, 9], []⟩]) (hs' := []) (by kernel_rfl) hl h
def ac53 : ACode :=
 (.seq (.reg [⟨(some 4), none, (.mv (.c (.sc (.bool false))))⟩] none)
 (.seq (.reg [⟨(some 5), none, (.mv (.t 0))⟩,
  ⟨(some 6), none, (.mv (.t 1))⟩,
  ⟨(some 7), none, (.call 64 [(.t 5), (.t 6)])⟩,
  ⟨(some 8), none, (.bin .geq (.t 7) (.c (.sc (.int .i64 (0)))))⟩,
  ⟨(some 4), none, (.mv (.t 8))⟩] none) .ret))
theorem good53 {args : List PV} {r : PV} (hl : args.length ≤ 9) (h : Run Tryz.prog [.code ac53] (endQ [(.t 4)] r) ⟨initT 0 args, [], 0, 9⟩) : Good Tryz.prog 53 args r :=
  good_run (by kernel_rfl) Famix Tryz.func53 rfl (hs := []) (hs' := []) (by kernel_rfl) hl h
def ac64 : ACode :=
 (.seq (.reg [⟨(some 4), none, (.mv (.c (.sc (.int .i64 (0)))))⟩] none)
 (.seq (.seq (.reg [⟨(some 6), none, (.mv (.t 0))⟩,
  ⟨(some 7), none, (.len (.t 6))⟩,
  ⟨(some 8), none, (.mv (.c (.sc (.int .i64 (0)))))⟩] none) (.block 0 
 (.loop ⟨[0, 1, 7, 8], []⟩
 (.seq (.reg [⟨(some 9), none, (.bin .lss (.t 8) (.t 7))⟩] none)
 (.seq
 (.cond (.t 9) .skip (.exit 0))
 (.seq (.block 1
 (.seq (.reg [⟨(some 10), none, (.mv (.t 8))⟩,
  ⟨(some 5), none, (.mv (.t 10))⟩] none)
 (.seq (.reg [⟨(some 11), none, (.mv (.t 1))⟩,
  ⟨(some 12), none, (.mv (.t 0))⟩,
  ⟨(some 13), none, (.mv (.t 5))⟩,
  ⟨(some 14), none, (.iaddr 1 (.t 12) (.t 13))⟩,
  ⟨(some 15), none, (.load 1 false (.t 14))⟩,
  ⟨(some 16), none, (.callv (.t 11) [(.t 15)])⟩] none)
 (.cond (.t 16)
 (.seq (.reg [⟨(some 17), none, (.mv (.t 5))⟩,
  ⟨(some 4), none, (.mv (.t 17))⟩] none) .ret) .skip)))) (.reg [⟨(some 18), none, (.bin .add (.t 8) (.c (.sc (.int .i64 (1)))))⟩,
  ⟨(some 8), none, (.mv (.t 18))⟩] none)))))))
 (.seq (.reg [⟨(some 4), none, (.mv (.c (.sc (.int .i64 (-1)))))⟩] none) .ret)))
theorem good64 {args : List PV} {r : PV} (hl : args.length ≤ 19) (h : Run Tryz.prog [.code ac64] (endQ [(.t 4)] r) ⟨initT 0 args, [], 0, 19⟩) : Good Tryz.prog 64 args r :=
  good_run (by kernel_rfl) Famix Tryz.func64 rfl (hs := [⟨[0, 1, 7, 8], []⟩]) (hs' := []) (by kernel_rfl) hl h
def ac15 : ACode :=
 (.seq (.reg [⟨(some 4), none, (.mv (.c (.sc (.bool false))))⟩] none)
 (.seq (.seq (.reg [⟨(some 6), none, (.mv (.t 0))⟩,
  ⟨(some 7), none, (.len (.t 6))⟩,
  ⟨(some 8), none, (.mv (.t 1))⟩,
  ⟨(some 9), none, (.len (.t 8))⟩,
  ⟨(some 10), none, (.bin .neq (.t 7) (.t 9))⟩] none)
 (.cond (.t 10)
 (.seq (.reg [⟨(some 4), none, (.mv (.c (.sc (.bool false))))⟩] none) .ret) .skip))
 (.seq (.seq (.reg [⟨(some 11), none, (.mv (.t 0))⟩,
  ⟨(some 12), none, (.len (.t 11))⟩,
  ⟨(some 13), none, (.mv (.c (.sc (.int .i64 (0)))))⟩] none) (.block 0 
 (.loop ⟨[0, 1, 12, 13], []⟩
 (.seq (.reg [⟨(some 14), none, (.bin .lss (.t 13) (.t 12))⟩] none)
 (.seq
 (.cond (.t 14) .skip (.exit 0))
 (.seq (.block 1
 (.seq (.reg [⟨(some 15), none, (.mv (.t 13))⟩,
  ⟨(some 5), none, (.mv (.t 15))⟩] none)
 (.seq (.reg [⟨(some 16), none, (.mv (.t 0))⟩,
  ⟨(some 17), none, (.mv (.t 5))⟩,
  ⟨(some 18), none, (.iaddr 1 (.t 16) (.t 17))⟩,
  ⟨(some 19), none, (.load 1 false (.t 18))⟩,
  ⟨(some 20), none, (.mv (.t 1))⟩,
  ⟨(some 21), none, (.mv (.t 5))⟩,
  ⟨(some 22), none, (.iaddr 1 (.t 20) (.t 21))⟩,
  ⟨(some 23), none, (.load 1 false (.t 22))⟩,
  ⟨(some 24), none, (.bin .neq (.t 19) (.t 23))⟩] (some [[], [], [0, 1], [2, 0, 1], [], [], [4, 5], [6, 4, 5], [3, 7, 2, 0, 1, 6, 4, 5]]))
 (.cond (.t 24)
 (.seq (.reg [⟨(some 4), none, (.mv (.c (.sc (.bool false))))⟩] none) .ret) .skip)))) (.reg [⟨(some 25), none, (.bin .add (.t 13) (.c (.sc (.int .i64 (1)))))⟩,
  ⟨(some 13), none, (.mv (.t 25))⟩] none)))))))
 (.seq (.reg [⟨(some 4), none, (.mv (.c (.sc (.bool true))))⟩] none) .ret))))
theorem good15 {args : List PV} {r : PV} (hl : args.length ≤ 26) (h : Run Tryz.prog [.code ac15] (endQ [(.t 4)] r) ⟨initT 0 args, [], 0, 26⟩) : Good Tryz.prog 15 args r :=
  good_run (by kernel_rfl) Famix Tryz.func15 rfl (hs := [⟨[0, 1, 12, 13], []⟩]) (hs' := []) (by kernel_rfl) hl h
def ac28 : ACode :=
 (.seq (.reg [⟨(some 4), none, (.mv (.c (.sc (.bool false))))⟩] none)
 (.seq (.reg [⟨(some 5), none, (.mv (.t 0))⟩,
  ⟨(some 6), none, (.mv (.t 1))⟩,
  ⟨(some 7), none, (.call 46 [(.t 5), (.t 6)])⟩,
  ⟨(some 4), none, (.mv (.t 7))⟩] none) .ret))
theorem good28 {args : List PV} {r : PV} (hl : args.length ≤ 8) (h : Run Tryz.prog [.code ac28] (endQ [(.t 4)] r) ⟨initT 0 args, [], 0, 8⟩) : Good Tryz.prog 28 args r :=
  good_run (by kernel_rfl) Famix Tryz.func28 rfl (hs := []) (hs' := []) (by kernel_rfl) hl h
def ac46 : ACode :=
 (.seq (.reg [⟨(some 4), none, (.mv (.c (.sc (.bool false))))⟩] none)
 (.seq (.reg [⟨(some 5), none, (.mv (.t 0))⟩,
  ⟨(some 6), none, (.slen (.t 5))⟩,
  ⟨(some 7), none, (.mv (.t 1))⟩,
  ⟨(some 8), none, (.slen (.t 7))⟩,
  ⟨(some 9), none, (.bin .geq (.t 6) (.t 8))⟩,
  ⟨(some 10), none, (.mv (.t 9))⟩,
  ⟨(some 11), (some (10, true)), (.mv (.t 0))⟩,
  ⟨(some 12), (some (10, true)), (.mv (.t 1))⟩,
  ⟨(some 13), (some (10, true)), (.slen (.t 12))⟩,
  ⟨(some 14), (some (10, true)), (.sslice (.t 11) none (some (.t 13)))⟩,
  ⟨(some 15), (some (10, true)), (.mv (.t 1))⟩,
  ⟨(some 16), (some (10, true)), (.bin .eql (.t 14) (.t 15))⟩,
  ⟨(some 17), none, (.pick (.t 10) (.t 16) (.c (.sc (.bool false))))⟩,
  ⟨(some 4), none, (.mv (.t 17))⟩] none) .ret))
theorem good46 {args : List PV} {r : PV} (hl : args.length ≤ 18) (h : Run Tryz.prog [.code ac46] (endQ [(.t 4)] r) ⟨initT 0 args, [], 0, 18⟩) : Good Tryz.prog 46 args r :=
  good_run (by kernel_rfl) Famix Tryz.func46 rfl (hs := []) (hs' := []) (by kernel_rfl) hl h
end Go.Proofs.YtjnfldkcbcfboaaGreatDoor
