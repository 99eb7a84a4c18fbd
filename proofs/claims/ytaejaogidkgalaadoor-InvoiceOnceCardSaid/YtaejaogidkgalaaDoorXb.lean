/-
  The translated codes of functions, checked by the kernel.
-/
import Derived.Test.YtaejaogidkgalaaDoorKc
import Derived.KernelRfl
namespace Go.Proofs.YtaejaogidkgalaaDoor
set_option linter.unusedVariables false
set_option linter.unusedSimpArgs false
set_option linter.unnecessarySimpa false
theorem Xbmix : Tryd.prog.follows .mixedOrders = true := by kernel_rfl
def ac37 : ACode :=
 (.seq (.reg [⟨(some 5), none, (.boxv (.t 2))⟩,
  ⟨(some 6), none, (.mv (.c (.sc (.int .i64 (0)))))⟩] none)
 (.seq (.seq (.reg [⟨(some 7), none, (.mv (.t 0))⟩,
  ⟨(some 8), none, (.bin .lss (.t 7) (.c (.sc (.int .i64 (1)))))⟩,
  ⟨(some 9), none, (.mv (.t 8))⟩,
  ⟨(some 10), (some (9, false)), (.mv (.t 0))⟩,
  ⟨(some 11), (some (9, false)), (.bin .gtr (.t 10) (.c (.sc (.int .i64 (1000000)))))⟩,
  ⟨(some 12), none, (.pick (.t 9) (.c (.sc (.bool true))) (.t 11))⟩,
  ⟨(some 13), none, (.mv (.t 12))⟩,
  ⟨(some 14), (some (13, false)), (.mv (.t 1))⟩,
  ⟨(some 15), (some (13, false)), (.bin .lss (.t 14) (.c (.sc (.int .i64 (0)))))⟩,
  ⟨(some 16), none, (.pick (.t 13) (.c (.sc (.bool true))) (.t 15))⟩,
  ⟨(some 17), none, (.mv (.t 16))⟩,
  ⟨(some 18), (some (17, false)), (.mv (.t 1))⟩,
  ⟨(some 19), (some (17, false)), (.bin .geq (.t 18) (.c (.sc (.int .i64 (128)))))⟩,
  ⟨(some 20), none, (.pick (.t 17) (.c (.sc (.bool true))) (.t 19))⟩,
  ⟨(some 21), none, (.mv (.t 20))⟩,
  ⟨(some 22), (some (21, false)), (.faddr 0 (.t 5))⟩,
  ⟨(some 23), (some (21, false)), (.load 1 false (.t 22))⟩,
  ⟨(some 24), (some (21, false)), (.bin .lss (.t 23) (.c (.sc (.int .i64 (0)))))⟩,
  ⟨(some 25), none, (.pick (.t 21) (.c (.sc (.bool true))) (.t 24))⟩,
  ⟨(some 26), none, (.mv (.t 25))⟩,
  ⟨(some 27), (some (26, false)), (.faddr 0 (.t 5))⟩,
  ⟨(some 28), (some (26, false)), (.load 1 false (.t 27))⟩,
  ⟨(some 29), (some (26, false)), (.faddr 1 (.t 5))⟩,
  ⟨(some 30), (some (26, false)), (.load 1 false (.t 29))⟩,
  ⟨(some 31), (some (26, false)), (.bin .gtr (.t 28) (.t 30))⟩,
  ⟨(some 32), none, (.pick (.t 26) (.c (.sc (.bool true))) (.t 31))⟩,
  ⟨(some 33), none, (.mv (.t 32))⟩,
  ⟨(some 34), (some (33, false)), (.faddr 1 (.t 5))⟩,
  ⟨(some 35), (some (33, false)), (.load 1 false (.t 34))⟩,
  ⟨(some 36), (some (33, false)), (.bin .gtr (.t 35) (.c (.sc (.int .i64 (4294944000)))))⟩,
  ⟨(some 37), none, (.pick (.t 33) (.c (.sc (.bool true))) (.t 36))⟩] none)
 (.cond (.t 37)
 (.seq (.reg [⟨(some 6), none, (.mv (.c (.sc (.int .i64 (1)))))⟩] none) .ret) .skip))
 (.seq (.reg [⟨(some 6), none, (.mv (.c (.sc (.int .i64 (0)))))⟩] none) .ret)))
theorem good37 {args : List PV} {r : PV} (hl : args.length ≤ 38) (h : Run Tryd.prog [.code ac37] (endQ [(.t 6)] r) ⟨initT 0 args, [], 0, 38⟩) : Good Tryd.prog 37 args r :=
  good_run (by kernel_rfl) Xbmix Tryd.func37 rfl (hs := []) (hs' := []) (by kernel_rfl) hl h
def ac24 : ACode :=
 (.seq (.reg [⟨(some 8), none, (.boxv (.t 2))⟩,
  ⟨(some 12), none, (.new [(.sc (.int .i64 (0))), (.sc (.int .i64 (0))), (.sc (.int .i64 (0))), (.sc (.int .i64 (0))), (.sc (.slice none 0 0)), (.sc (.slice none 0 0)), (.sc (.int .i64 (0)))])⟩,
  ⟨(some 13), none, (.mv (.c (.sc (.int .i64 (0)))))⟩] none)
 (.seq (.seq (.reg [⟨(some 28), none, (.mv (.t 0))⟩,
  ⟨(some 29), none, (.mv (.t 1))⟩,
  ⟨(some 30), none, (.load 2 true (.t 8))⟩,
  ⟨(some 31), none, (.call 37 [(.t 28), (.t 29), (.t 30)])⟩,
  ⟨(some 14), none, (.mv (.t 31))⟩] none)
 (.seq (.reg [⟨(some 32), none, (.mv (.t 14))⟩,
  ⟨(some 33), none, (.bin .neq (.t 32) (.c (.sc (.int .i64 (0)))))⟩] none)
 (.cond (.t 33)
 (.seq (.reg [⟨(some 34), none, (.build [(.sc (.int .i64 (0))), (.sc (.int .i64 (0))), (.sc (.int .i64 (0))), (.sc (.int .i64 (0))), (.sc (.slice none 0 0)), (.sc (.slice none 0 0)), (.sc (.int .i64 (0)))] [])⟩,
  ⟨(some 35), none, (.mv (.t 14))⟩,
  ⟨none, none, (.store 7 (.t 12) (.t 34))⟩,
  ⟨(some 13), none, (.mv (.t 35))⟩] none) .ret) .skip)))
 (.seq (.seq (.reg [⟨(some 36), none, (.mv (.t 4))⟩,
  ⟨(some 37), none, (.len (.t 36))⟩,
  ⟨(some 38), none, (.bin .gtr (.t 37) (.c (.sc (.int .i64 (256)))))⟩] none)
 (.cond (.t 38)
 (.seq (.reg [⟨(some 39), none, (.build [(.sc (.int .i64 (0))), (.sc (.int .i64 (0))), (.sc (.int .i64 (0))), (.sc (.int .i64 (0))), (.sc (.slice none 0 0)), (.sc (.slice none 0 0)), (.sc (.int .i64 (0)))] [])⟩,
  ⟨none, none, (.store 7 (.t 12) (.t 39))⟩,
  ⟨(some 13), none, (.mv (.c (.sc (.int .i64 (8)))))⟩] none) .ret) .skip))
 (.seq (.reg [⟨(some 40), none, (.mkmap 3)⟩,
  ⟨(some 15), none, (.mv (.t 40))⟩] none)
 (.seq (.seq (.reg [⟨(some 41), none, (.mv (.t 4))⟩,
  ⟨(some 42), none, (.len (.t 41))⟩,
  ⟨(some 43), none, (.mv (.c (.sc (.int .i64 (0)))))⟩] none) (.block 0 
 (.loop ⟨[0, 1, 3, 4, 5, 8, 12, 15, 41, 42, 43], []⟩
 (.seq (.reg [⟨(some 44), none, (.bin .lss (.t 43) (.t 42))⟩] none)
 (.seq
 (.cond (.t 44) .skip (.exit 0))
 (.seq (.block 1
 (.seq (.reg [⟨(some 45), none, (.iaddr 4 (.t 41) (.t 43))⟩,
  ⟨(some 46), none, (.load 4 true (.t 45))⟩,
  ⟨(some 17), none, (.new [(.sc (.int .i64 (0))), (.sc (.int .i64 (0))), (.sc (.slice none 0 0)), (.sc (.int .i64 (0)))])⟩,
  ⟨none, none, (.store 4 (.t 17) (.t 46))⟩] none)
 (.seq (.reg [⟨(some 48), none, (.mv (.t 3))⟩,
  ⟨(some 49), none, (.faddr 0 (.t 17))⟩,
  ⟨(some 50), none, (.load 1 false (.t 49))⟩,
  ⟨(some 51), none, (.call 45 [(.t 48), (.t 50)])⟩,
  ⟨(some 47), none, (.mv (.t 51))⟩,
  ⟨(some 52), none, (.ext 0 (.t 47))⟩,
  ⟨(some 53), none, (.ext 1 (.t 47))⟩,
  ⟨(some 18), none, (.new [(.sc (.int .i64 (0))), (.sc (.int .i64 (0))), (.sc (.int .i64 (0))), (.sc (.int .i64 (0))), (.sc (.int .i64 (0))), (.sc (.int .i64 (0))), (.sc (.bool false)), (.sc (.slice none 0 0)), (.sc (.slice none 0 0)), (.sc (.int .i64 (0))), (.sc (.int .i64 (0))), (.sc (.int .i64 (0))), (.sc (.int .i64 (0)))])⟩,
  ⟨none, none, (.store 13 (.t 18) (.t 52))⟩,
  ⟨(some 19), none, (.mv (.t 53))⟩] none)
 (.seq (.seq (.reg [⟨(some 54), none, (.mv (.t 19))⟩,
  ⟨(some 55), none, (.un .not (.t 54))⟩] none)
 (.cond (.t 55)
 (.seq (.reg [⟨(some 56), none, (.build [(.sc (.int .i64 (0))), (.sc (.int .i64 (0))), (.sc (.int .i64 (0))), (.sc (.int .i64 (0))), (.sc (.slice none 0 0)), (.sc (.slice none 0 0)), (.sc (.int .i64 (0)))] [])⟩,
  ⟨none, none, (.store 7 (.t 12) (.t 56))⟩,
  ⟨(some 13), none, (.mv (.c (.sc (.int .i64 (7)))))⟩] none) .ret) .skip)) (.reg [⟨(some 57), none, (.mv (.t 15))⟩,
  ⟨(some 58), none, (.faddr 0 (.t 17))⟩,
  ⟨(some 59), none, (.load 1 false (.t 58))⟩,
  ⟨(some 60), none, (.faddr 2 (.t 18))⟩,
  ⟨(some 61), none, (.faddr 0 (.t 60))⟩,
  ⟨(some 62), none, (.load 1 false (.t 61))⟩,
  ⟨none, none, (.mupd 3 (.int .i64) (.t 57) (.t 59) (.t 62))⟩] none))))) (.reg [⟨(some 63), none, (.bin .add (.t 43) (.c (.sc (.int .i64 (1)))))⟩,
  ⟨(some 43), none, (.mv (.t 63))⟩] none)))))))
 (.seq (.seq (.reg [⟨(some 64), none, (.mv (.t 4))⟩,
  ⟨(some 65), none, (.mv (.t 5))⟩,
  ⟨(some 66), none, (.call 23 [(.t 64), (.t 65)])⟩,
  ⟨(some 20), none, (.mv (.t 66))⟩] none)
 (.seq (.reg [⟨(some 67), none, (.mv (.t 20))⟩,
  ⟨(some 68), none, (.bin .neq (.t 67) (.c (.sc (.int .i64 (0)))))⟩] none)
 (.cond (.t 68)
 (.seq (.reg [⟨(some 69), none, (.build [(.sc (.int .i64 (0))), (.sc (.int .i64 (0))), (.sc (.int .i64 (0))), (.sc (.int .i64 (0))), (.sc (.slice none 0 0)), (.sc (.slice none 0 0)), (.sc (.int .i64 (0)))] [])⟩,
  ⟨(some 70), none, (.mv (.t 20))⟩,
  ⟨none, none, (.store 7 (.t 12) (.t 69))⟩,
  ⟨(some 13), none, (.mv (.t 70))⟩] none) .ret) .skip)))
 (.seq (.reg [⟨(some 71), none, (.mv (.t 0))⟩,
  ⟨(some 72), none, (.mv (.t 1))⟩,
  ⟨(some 73), none, (.load 2 true (.t 8))⟩,
  ⟨(some 74), none, (.build [(.sc (.int .i64 (0))), (.sc (.int .i64 (0))), (.sc (.int .i64 (0))), (.sc (.int .i64 (0))), (.sc (.slice none 0 0)), (.sc (.slice none 0 0)), (.sc (.int .i64 (0)))] [(0, (1, (.t 71))), (1, (1, (.t 72))), (2, (2, (.t 73)))])⟩,
  ⟨(some 21), none, (.new [(.sc (.int .i64 (0))), (.sc (.int .i64 (0))), (.sc (.int .i64 (0))), (.sc (.int .i64 (0))), (.sc (.slice none 0 0)), (.sc (.slice none 0 0)), (.sc (.int .i64 (0)))])⟩,
  ⟨none, none, (.store 7 (.t 21) (.t 74))⟩] none)
 (.seq (.reg [⟨(some 75), none, (.mkmap 3)⟩,
  ⟨(some 22), none, (.mv (.t 75))⟩] none)
 (.seq (.seq (.reg [⟨(some 76), none, (.mv (.t 4))⟩,
  ⟨(some 77), none, (.len (.t 76))⟩,
  ⟨(some 78), none, (.mv (.c (.sc (.int .i64 (0)))))⟩] none) (.block 2 
 (.loop ⟨[1, 5, 8, 12, 15, 21, 22, 76, 77, 78], [(500021, (55, 4))]⟩
 (.seq (.reg [⟨(some 79), none, (.bin .lss (.t 78) (.t 77))⟩] none)
 (.seq
 (.cond (.t 79) .skip (.exit 2))
 (.seq (.block 3
 (.seq (.reg [⟨(some 80), none, (.iaddr 4 (.t 76) (.t 78))⟩,
  ⟨(some 81), none, (.load 4 true (.t 80))⟩,
  ⟨(some 24), none, (.new [(.sc (.int .i64 (0))), (.sc (.int .i64 (0))), (.sc (.slice none 0 0)), (.sc (.int .i64 (0)))])⟩,
  ⟨none, none, (.store 4 (.t 24) (.t 81))⟩] none)
 (.seq (.seq (.reg [⟨(some 82), none, (.mv (.t 15))⟩,
  ⟨(some 83), none, (.faddr 0 (.t 24))⟩,
  ⟨(some 84), none, (.load 1 false (.t 83))⟩,
  ⟨(some 85), none, (.mlook false 3 (.int .i64) (.int .i64 (0)) (.t 82) (.t 84))⟩,
  ⟨(some 25), none, (.mv (.t 85))⟩] none)
 (.seq (.reg [⟨(some 86), none, (.faddr 1 (.t 24))⟩,
  ⟨(some 87), none, (.load 1 false (.t 86))⟩,
  ⟨(some 88), none, (.mv (.t 1))⟩,
  ⟨(some 89), none, (.bin .neq (.t 87) (.t 88))⟩,
  ⟨(some 90), none, (.mv (.t 89))⟩,
  ⟨(some 91), (some (90, false)), (.mv (.t 25))⟩,
  ⟨(some 92), (some (90, false)), (.faddr 0 (.t 8))⟩,
  ⟨(some 93), (some (90, false)), (.load 1 false (.t 92))⟩,
  ⟨(some 94), (some (90, false)), (.bin .lss (.t 91) (.t 93))⟩,
  ⟨(some 95), none, (.pick (.t 90) (.c (.sc (.bool true))) (.t 94))⟩,
  ⟨(some 96), none, (.mv (.t 95))⟩,
  ⟨(some 97), (some (96, false)), (.mv (.t 25))⟩,
  ⟨(some 98), (some (96, false)), (.faddr 1 (.t 8))⟩,
  ⟨(some 99), (some (96, false)), (.load 1 false (.t 98))⟩,
  ⟨(some 100), (some (96, false)), (.bin .geq (.t 97) (.t 99))⟩,
  ⟨(some 101), none, (.pick (.t 96) (.c (.sc (.bool true))) (.t 100))⟩] none)
 (.cond (.t 101) (.exit 3) .skip)))
 (.seq (.seq (.reg [⟨(some 102), none, (.faddr 3 (.t 24))⟩,
  ⟨(some 103), none, (.load 1 false (.t 102))⟩,
  ⟨(some 104), none, (.bin .lss (.t 103) (.c (.sc (.int .i64 (-1000000000000)))))⟩,
  ⟨(some 105), none, (.mv (.t 104))⟩,
  ⟨(some 106), (some (105, false)), (.faddr 3 (.t 24))⟩,
  ⟨(some 107), (some (105, false)), (.load 1 false (.t 106))⟩,
  ⟨(some 108), (some (105, false)), (.bin .gtr (.t 107) (.c (.sc (.int .i64 (1000000000000)))))⟩,
  ⟨(some 109), none, (.pick (.t 105) (.c (.sc (.bool true))) (.t 108))⟩] none)
 (.cond (.t 109)
 (.seq (.reg [⟨(some 110), none, (.build [(.sc (.int .i64 (0))), (.sc (.int .i64 (0))), (.sc (.int .i64 (0))), (.sc (.int .i64 (0))), (.sc (.slice none 0 0)), (.sc (.slice none 0 0)), (.sc (.int .i64 (0)))] [])⟩,
  ⟨none, none, (.store 7 (.t 12) (.t 110))⟩,
  ⟨(some 13), none, (.mv (.c (.sc (.int .i64 (2)))))⟩] none) .ret) .skip))
 (.seq (.reg [⟨(some 111), none, (.mv (.t 22))⟩,
  ⟨(some 112), none, (.faddr 0 (.t 24))⟩,
  ⟨(some 113), none, (.load 1 false (.t 112))⟩,
  ⟨none, none, (.mupd 3 (.int .i64) (.t 111) (.t 113) (.c (.sc (.bool true))))⟩] none)
 (.seq (.reg [⟨(some 114), none, (.faddr 6 (.t 21))⟩,
  ⟨(some 115), none, (.load 1 false (.t 114))⟩,
  ⟨(some 116), none, (.faddr 3 (.t 24))⟩,
  ⟨(some 117), none, (.load 1 false (.t 116))⟩,
  ⟨(some 118), none, (.bin .add (.t 115) (.t 117))⟩,
  ⟨(some 119), none, (.faddr 6 (.t 21))⟩,
  ⟨none, none, (.store 1 (.t 119) (.t 118))⟩] none)
 (.seq (.reg [⟨(some 120), none, (.faddr 2 (.t 24))⟩,
  ⟨(some 121), none, (.load 1 false (.t 120))⟩,
  ⟨(some 122), none, (.append 71 3 24 (.c (.sc (.slice none 0 0))) (.t 121))⟩,
  ⟨(some 123), none, (.faddr 2 (.t 24))⟩,
  ⟨none, none, (.store 1 (.t 123) (.t 122))⟩] none) (.reg [⟨(some 124), none, (.faddr 4 (.t 21))⟩,
  ⟨(some 125), none, (.load 1 false (.t 124))⟩,
  ⟨(some 126), none, (.load 4 true (.t 24))⟩,
  ⟨(some 127), none, (.bslice 55 4 [(.t 126)])⟩,
  ⟨(some 128), none, (.append 55 4 48 (.t 125) (.t 127))⟩,
  ⟨(some 129), none, (.faddr 4 (.t 21))⟩,
  ⟨none, none, (.store 1 (.t 129) (.t 128))⟩] none)))))))) (.reg [⟨(some 130), none, (.bin .add (.t 78) (.c (.sc (.int .i64 (1)))))⟩,
  ⟨(some 78), none, (.mv (.t 130))⟩] none)))))))
 (.seq (.seq (.reg [⟨(some 131), none, (.mv (.t 5))⟩,
  ⟨(some 132), none, (.len (.t 131))⟩,
  ⟨(some 133), none, (.mv (.c (.sc (.int .i64 (0)))))⟩] none) (.block 4 
 (.loop ⟨[12, 21, 22, 131, 132, 133], [(600021, (60, 4))]⟩
 (.seq (.reg [⟨(some 134), none, (.bin .lss (.t 133) (.t 132))⟩] none)
 (.seq
 (.cond (.t 134) .skip (.exit 4))
 (.seq (.block 5
 (.seq (.reg [⟨(some 135), none, (.iaddr 4 (.t 131) (.t 133))⟩,
  ⟨(some 136), none, (.load 4 true (.t 135))⟩,
  ⟨(some 27), none, (.new [(.sc (.int .i64 (0))), (.sc (.int .i64 (0))), (.sc (.int .i64 (0))), (.sc (.int .i64 (0)))])⟩,
  ⟨none, none, (.store 4 (.t 27) (.t 136))⟩] none)
 (.seq (.reg [⟨(some 137), none, (.mv (.t 22))⟩,
  ⟨(some 138), none, (.faddr 1 (.t 27))⟩,
  ⟨(some 139), none, (.load 1 false (.t 138))⟩,
  ⟨(some 140), none, (.mlook false 3 (.int .i64) (.bool false) (.t 137) (.t 139))⟩] none)
 (.cond (.t 140)
 (.seq (.reg [⟨(some 141), none, (.faddr 6 (.t 21))⟩,
  ⟨(some 142), none, (.load 1 false (.t 141))⟩,
  ⟨(some 143), none, (.faddr 3 (.t 27))⟩,
  ⟨(some 144), none, (.load 1 false (.t 143))⟩,
  ⟨(some 145), none, (.bin .sub (.t 142) (.t 144))⟩,
  ⟨(some 146), none, (.faddr 6 (.t 21))⟩,
  ⟨none, none, (.store 1 (.t 146) (.t 145))⟩] none) (.reg [⟨(some 147), none, (.faddr 5 (.t 21))⟩,
  ⟨(some 148), none, (.load 1 false (.t 147))⟩,
  ⟨(some 149), none, (.load 4 true (.t 27))⟩,
  ⟨(some 150), none, (.bslice 60 4 [(.t 149)])⟩,
  ⟨(some 151), none, (.append 60 4 32 (.t 148) (.t 150))⟩,
  ⟨(some 152), none, (.faddr 5 (.t 21))⟩,
  ⟨none, none, (.store 1 (.t 152) (.t 151))⟩] none)) .skip)))) (.reg [⟨(some 153), none, (.bin .add (.t 133) (.c (.sc (.int .i64 (1)))))⟩,
  ⟨(some 133), none, (.mv (.t 153))⟩] none)))))))
 (.seq (.reg [⟨(some 154), none, (.load 7 true (.t 21))⟩,
  ⟨none, none, (.store 7 (.t 12) (.t 154))⟩,
  ⟨(some 13), none, (.mv (.c (.sc (.int .i64 (0)))))⟩] none) .ret)))))))))))
theorem good24 {args : List PV} {r : PV} (hl : args.length ≤ 155) (h : Run Tryd.prog [.code ac24] (endQ [(.c 12 7 true), (.t 13)] r) ⟨initT 0 args, [], 0, 155⟩) : Good Tryd.prog 24 args r :=
  good_run (by kernel_rfl) Xbmix Tryd.func24 rfl (hs := [⟨[0, 1, 3, 4, 5, 8, 12, 15, 41, 42, 43], []⟩, ⟨[1, 5, 8, 12, 15, 21, 22, 76, 77, 78], [(500021, 55, 4)]⟩, ⟨[12, 21, 22, 131, 132, 133], [(600021, 60, 4)]⟩]) (hs' := []) (by kernel_rfl) hl h
def ac38 : ACode :=
 (.seq (.reg [⟨(some 2), none, (.mv (.c (.sc (.bool false))))⟩] none)
 (.seq (.reg [⟨(some 6), none, (.mkmap 3)⟩,
  ⟨(some 3), none, (.mv (.t 6))⟩] none)
 (.seq (.seq (.reg [⟨(some 7), none, (.mv (.t 0))⟩,
  ⟨(some 8), none, (.len (.t 7))⟩,
  ⟨(some 9), none, (.mv (.c (.sc (.int .i64 (0)))))⟩] none) (.block 0 
 (.loop ⟨[3, 7, 8, 9], []⟩
 (.seq (.reg [⟨(some 10), none, (.bin .lss (.t 9) (.t 8))⟩] none)
 (.seq
 (.cond (.t 10) .skip (.exit 0))
 (.seq (.block 1
 (.seq (.reg [⟨(some 11), none, (.iaddr 4 (.t 7) (.t 9))⟩,
  ⟨(some 12), none, (.load 4 true (.t 11))⟩,
  ⟨(some 5), none, (.new [(.sc (.int .i64 (0))), (.sc (.int .i64 (0))), (.sc (.slice none 0 0)), (.sc (.int .i64 (0)))])⟩,
  ⟨none, none, (.store 4 (.t 5) (.t 12))⟩] none)
 (.seq (.seq (.reg [⟨(some 13), none, (.mv (.t 3))⟩,
  ⟨(some 14), none, (.faddr 0 (.t 5))⟩,
  ⟨(some 15), none, (.load 1 false (.t 14))⟩,
  ⟨(some 16), none, (.mlook false 3 (.int .i64) (.bool false) (.t 13) (.t 15))⟩] none)
 (.cond (.t 16)
 (.seq (.reg [⟨(some 2), none, (.mv (.c (.sc (.bool false))))⟩] none) .ret) .skip)) (.reg [⟨(some 17), none, (.mv (.t 3))⟩,
  ⟨(some 18), none, (.faddr 0 (.t 5))⟩,
  ⟨(some 19), none, (.load 1 false (.t 18))⟩,
  ⟨none, none, (.mupd 3 (.int .i64) (.t 17) (.t 19) (.c (.sc (.bool true))))⟩] none)))) (.reg [⟨(some 20), none, (.bin .add (.t 9) (.c (.sc (.int .i64 (1)))))⟩,
  ⟨(some 9), none, (.mv (.t 20))⟩] none)))))))
 (.seq (.reg [⟨(some 2), none, (.mv (.c (.sc (.bool true))))⟩] none) .ret))))
theorem good38 {args : List PV} {r : PV} (hl : args.length ≤ 21) (h : Run Tryd.prog [.code ac38] (endQ [(.t 2)] r) ⟨initT 0 args, [], 0, 21⟩) : Good Tryd.prog 38 args r :=
  good_run (by kernel_rfl) Xbmix Tryd.func38 rfl (hs := [⟨[3, 7, 8, 9], []⟩]) (hs' := []) (by kernel_rfl) hl h
def ac17 : ACode :=
 (.seq (.reg [⟨(some 1), none, (.boxv (.t 0))⟩,
  ⟨(some 2), none, (.mv (.c (.sc (.int .i64 (0)))))⟩] none)
 (.seq (.seq (.reg [⟨(some 12), none, (.faddr 0 (.t 1))⟩,
  ⟨(some 13), none, (.load 1 false (.t 12))⟩,
  ⟨(some 14), none, (.faddr 1 (.t 1))⟩,
  ⟨(some 15), none, (.load 1 false (.t 14))⟩,
  ⟨(some 16), none, (.faddr 2 (.t 1))⟩,
  ⟨(some 17), none, (.load 2 true (.t 16))⟩,
  ⟨(some 18), none, (.call 37 [(.t 13), (.t 15), (.t 17)])⟩,
  ⟨(some 3), none, (.mv (.t 18))⟩] none)
 (.seq (.reg [⟨(some 19), none, (.mv (.t 3))⟩,
  ⟨(some 20), none, (.bin .neq (.t 19) (.c (.sc (.int .i64 (0)))))⟩] none)
 (.cond (.t 20)
 (.seq (.reg [⟨(some 21), none, (.mv (.t 3))⟩,
  ⟨(some 2), none, (.mv (.t 21))⟩] none) .ret) .skip)))
 (.seq (.seq (.reg [⟨(some 22), none, (.faddr 4 (.t 1))⟩,
  ⟨(some 23), none, (.load 1 false (.t 22))⟩,
  ⟨(some 24), none, (.len (.t 23))⟩,
  ⟨(some 25), none, (.bin .gtr (.t 24) (.c (.sc (.int .i64 (256)))))⟩] none)
 (.cond (.t 25)
 (.seq (.reg [⟨(some 2), none, (.mv (.c (.sc (.int .i64 (8)))))⟩] none) .ret) .skip))
 (.seq (.seq (.reg [⟨(some 26), none, (.faddr 4 (.t 1))⟩,
  ⟨(some 27), none, (.load 1 false (.t 26))⟩,
  ⟨(some 28), none, (.call 38 [(.t 27)])⟩,
  ⟨(some 29), none, (.un .not (.t 28))⟩] none)
 (.cond (.t 29)
 (.seq (.reg [⟨(some 2), none, (.mv (.c (.sc (.int .i64 (6)))))⟩] none) .ret) .skip))
 (.seq (.reg [⟨(some 4), none, (.mv (.c (.sc (.int .i64 (0)))))⟩] none)
 (.seq (.seq (.reg [⟨(some 30), none, (.faddr 4 (.t 1))⟩,
  ⟨(some 31), none, (.load 1 false (.t 30))⟩,
  ⟨(some 32), none, (.len (.t 31))⟩,
  ⟨(some 33), none, (.mv (.c (.sc (.int .i64 (0)))))⟩] none) (.block 0 
 (.loop ⟨[1, 4, 31, 32, 33], []⟩
 (.seq (.reg [⟨(some 34), none, (.bin .lss (.t 33) (.t 32))⟩] none)
 (.seq
 (.cond (.t 34) .skip (.exit 0))
 (.seq (.block 1
 (.seq (.reg [⟨(some 35), none, (.iaddr 4 (.t 31) (.t 33))⟩,
  ⟨(some 36), none, (.load 4 true (.t 35))⟩,
  ⟨(some 6), none, (.new [(.sc (.int .i64 (0))), (.sc (.int .i64 (0))), (.sc (.slice none 0 0)), (.sc (.int .i64 (0)))])⟩,
  ⟨none, none, (.store 4 (.t 6) (.t 36))⟩] none)
 (.seq (.seq (.reg [⟨(some 38), none, (.faddr 2 (.t 6))⟩,
  ⟨(some 39), none, (.load 1 false (.t 38))⟩,
  ⟨(some 40), none, (.call 39 [(.t 39)])⟩,
  ⟨(some 37), none, (.mv (.t 40))⟩,
  ⟨(some 41), none, (.ext 0 (.t 37))⟩,
  ⟨(some 42), none, (.ext 1 (.t 37))⟩,
  ⟨(some 7), none, (.mv (.t 41))⟩,
  ⟨(some 8), none, (.mv (.t 42))⟩] none)
 (.seq (.reg [⟨(some 43), none, (.faddr 1 (.t 6))⟩,
  ⟨(some 44), none, (.load 1 false (.t 43))⟩,
  ⟨(some 45), none, (.faddr 1 (.t 1))⟩,
  ⟨(some 46), none, (.load 1 false (.t 45))⟩,
  ⟨(some 47), none, (.bin .neq (.t 44) (.t 46))⟩,
  ⟨(some 48), none, (.mv (.t 47))⟩,
  ⟨(some 49), (some (48, false)), (.mv (.t 8))⟩,
  ⟨(some 50), (some (48, false)), (.bin .neq (.t 49) (.c (.sc (.int .i64 (0)))))⟩,
  ⟨(some 51), none, (.pick (.t 48) (.c (.sc (.bool true))) (.t 50))⟩,
  ⟨(some 52), none, (.mv (.t 51))⟩,
  ⟨(some 53), (some (52, false)), (.mv (.t 7))⟩,
  ⟨(some 54), (some (52, false)), (.faddr 3 (.t 6))⟩,
  ⟨(some 55), (some (52, false)), (.load 1 false (.t 54))⟩,
  ⟨(some 56), (some (52, false)), (.bin .neq (.t 53) (.t 55))⟩,
  ⟨(some 57), none, (.pick (.t 52) (.c (.sc (.bool true))) (.t 56))⟩] none)
 (.cond (.t 57)
 (.seq (.reg [⟨(some 2), none, (.mv (.c (.sc (.int .i64 (3)))))⟩] none) .ret) .skip))) (.reg [⟨(some 58), none, (.mv (.t 4))⟩,
  ⟨(some 59), none, (.faddr 3 (.t 6))⟩,
  ⟨(some 60), none, (.load 1 false (.t 59))⟩,
  ⟨(some 61), none, (.bin .add (.t 58) (.t 60))⟩,
  ⟨(some 4), none, (.mv (.t 61))⟩] none)))) (.reg [⟨(some 62), none, (.bin .add (.t 33) (.c (.sc (.int .i64 (1)))))⟩,
  ⟨(some 33), none, (.mv (.t 62))⟩] none)))))))
 (.seq (.seq (.reg [⟨(some 63), none, (.faddr 4 (.t 1))⟩,
  ⟨(some 64), none, (.load 1 false (.t 63))⟩,
  ⟨(some 65), none, (.faddr 5 (.t 1))⟩,
  ⟨(some 66), none, (.load 1 false (.t 65))⟩,
  ⟨(some 67), none, (.call 23 [(.t 64), (.t 66)])⟩,
  ⟨(some 9), none, (.mv (.t 67))⟩] none)
 (.seq (.reg [⟨(some 68), none, (.mv (.t 9))⟩,
  ⟨(some 69), none, (.bin .neq (.t 68) (.c (.sc (.int .i64 (0)))))⟩] none)
 (.cond (.t 69)
 (.seq (.reg [⟨(some 70), none, (.mv (.t 9))⟩,
  ⟨(some 2), none, (.mv (.t 70))⟩] none) .ret) .skip)))
 (.seq (.seq (.reg [⟨(some 71), none, (.faddr 5 (.t 1))⟩,
  ⟨(some 72), none, (.load 1 false (.t 71))⟩,
  ⟨(some 73), none, (.len (.t 72))⟩,
  ⟨(some 74), none, (.mv (.c (.sc (.int .i64 (0)))))⟩] none) (.block 2 
 (.loop ⟨[1, 4, 72, 73, 74], []⟩
 (.seq (.reg [⟨(some 75), none, (.bin .lss (.t 74) (.t 73))⟩] none)
 (.seq
 (.cond (.t 75) .skip (.exit 2))
 (.seq (.block 3
 (.seq (.reg [⟨(some 76), none, (.iaddr 4 (.t 72) (.t 74))⟩,
  ⟨(some 77), none, (.load 4 true (.t 76))⟩,
  ⟨(some 11), none, (.new [(.sc (.int .i64 (0))), (.sc (.int .i64 (0))), (.sc (.int .i64 (0))), (.sc (.int .i64 (0)))])⟩,
  ⟨none, none, (.store 4 (.t 11) (.t 77))⟩] none) (.reg [⟨(some 78), none, (.mv (.t 4))⟩,
  ⟨(some 79), none, (.faddr 3 (.t 11))⟩,
  ⟨(some 80), none, (.load 1 false (.t 79))⟩,
  ⟨(some 81), none, (.bin .sub (.t 78) (.t 80))⟩,
  ⟨(some 4), none, (.mv (.t 81))⟩] none))) (.reg [⟨(some 82), none, (.bin .add (.t 74) (.c (.sc (.int .i64 (1)))))⟩,
  ⟨(some 74), none, (.mv (.t 82))⟩] none)))))))
 (.seq (.seq (.reg [⟨(some 83), none, (.mv (.t 4))⟩,
  ⟨(some 84), none, (.faddr 6 (.t 1))⟩,
  ⟨(some 85), none, (.load 1 false (.t 84))⟩,
  ⟨(some 86), none, (.bin .neq (.t 83) (.t 85))⟩] none)
 (.cond (.t 86)
 (.seq (.reg [⟨(some 2), none, (.mv (.c (.sc (.int .i64 (27)))))⟩] none) .ret) .skip))
 (.seq (.reg [⟨(some 2), none, (.mv (.c (.sc (.int .i64 (0)))))⟩] none) .ret))))))))))
theorem good17 {args : List PV} {r : PV} (hl : args.length ≤ 87) (h : Run Tryd.prog [.code ac17] (endQ [(.t 2)] r) ⟨initT 0 args, [], 0, 87⟩) : Good Tryd.prog 17 args r :=
  good_run (by kernel_rfl) Xbmix Tryd.func17 rfl (hs := [⟨[1, 4, 31, 32, 33], []⟩, ⟨[1, 4, 72, 73, 74], []⟩]) (hs' := []) (by kernel_rfl) hl h
def ac33 : ACode :=
 (.seq (.reg [⟨(some 2), none, (.mv (.c (.sc (.string ⟨#[]⟩))))⟩] none)
 (.seq (.reg [⟨(some 3), none, (.mv (.t 0))⟩,
  ⟨(some 4), none, (.call 51 [(.t 3), (.c (.sc (.string ⟨#[32]⟩)))])⟩,
  ⟨(some 2), none, (.mv (.t 4))⟩] none) .ret))
theorem good33 {args : List PV} {r : PV} (hl : args.length ≤ 5) (h : Run Tryd.prog [.code ac33] (endQ [(.t 2)] r) ⟨initT 0 args, [], 0, 5⟩) : Good Tryd.prog 33 args r :=
  good_run (by kernel_rfl) Xbmix Tryd.func33 rfl (hs := []) (hs' := []) (by kernel_rfl) hl h
def ac34 : ACode :=
 (.seq (.reg [⟨(some 2), none, (.mv (.c (.sc (.string ⟨#[]⟩))))⟩] none)
 (.seq (.reg [⟨(some 3), none, (.mv (.c (.sc (.string ⟨#[]⟩))))⟩] none)
 (.seq (.seq (.reg [⟨(some 5), none, (.mv (.t 0))⟩,
  ⟨(some 6), none, (.bin .lss (.t 5) (.c (.sc (.int .i64 (0)))))⟩] none)
 (.cond (.t 6) (.reg [⟨(some 7), none, (.mv (.t 0))⟩,
  ⟨(some 8), none, (.un .neg (.t 7))⟩,
  ⟨(some 3), none, (.mv (.c (.sc (.string ⟨#[45]⟩))))⟩,
  ⟨(some 0), none, (.mv (.t 8))⟩] none) .skip))
 (.seq (.reg [⟨(some 9), none, (.mv (.t 0))⟩,
  ⟨(some 10), none, (.bin .rem (.t 9) (.c (.sc (.int .i64 (100)))))⟩,
  ⟨(some 11), none, (.call 32 [(.t 10)])⟩,
  ⟨(some 4), none, (.mv (.t 11))⟩] none)
 (.seq (.reg [⟨(some 12), none, (.mv (.t 3))⟩,
  ⟨(some 13), none, (.mv (.t 0))⟩,
  ⟨(some 14), none, (.bin .quo (.t 13) (.c (.sc (.int .i64 (100)))))⟩,
  ⟨(some 15), none, (.call 32 [(.t 14)])⟩,
  ⟨(some 16), none, (.bin .add (.t 12) (.t 15))⟩,
  ⟨(some 17), none, (.bin .add (.t 16) (.c (.sc (.string ⟨#[46]⟩))))⟩,
  ⟨(some 18), none, (.mv (.t 4))⟩,
  ⟨(some 19), none, (.slen (.t 18))⟩,
  ⟨(some 20), none, (.bin .sub (.c (.sc (.int .i64 (2)))) (.t 19))⟩,
  ⟨(some 21), none, (.call 52 [(.c (.sc (.string ⟨#[48]⟩))), (.t 20)])⟩,
  ⟨(some 22), none, (.bin .add (.t 17) (.t 21))⟩,
  ⟨(some 23), none, (.mv (.t 4))⟩,
  ⟨(some 24), none, (.bin .add (.t 22) (.t 23))⟩,
  ⟨(some 2), none, (.mv (.t 24))⟩] none) .ret)))))
theorem good34 {args : List PV} {r : PV} (hl : args.length ≤ 25) (h : Run Tryd.prog [.code ac34] (endQ [(.t 2)] r) ⟨initT 0 args, [], 0, 25⟩) : Good Tryd.prog 34 args r :=
  good_run (by kernel_rfl) Xbmix Tryd.func34 rfl (hs := []) (hs' := []) (by kernel_rfl) hl h
def ac15 : ACode :=
 (.seq (.reg [⟨(some 1), none, (.boxv (.t 0))⟩,
  ⟨(some 2), none, (.mv (.c (.sc (.slice none 0 0))))⟩,
  ⟨(some 3), none, (.mv (.c (.sc (.int .i64 (0)))))⟩] none)
 (.seq (.seq (.reg [⟨(some 13), none, (.load 7 true (.t 1))⟩,
  ⟨(some 14), none, (.call 17 [(.t 13)])⟩,
  ⟨(some 4), none, (.mv (.t 14))⟩] none)
 (.seq (.reg [⟨(some 15), none, (.mv (.t 4))⟩,
  ⟨(some 16), none, (.bin .neq (.t 15) (.c (.sc (.int .i64 (0)))))⟩] none)
 (.cond (.t 16)
 (.seq (.reg [⟨(some 17), none, (.mv (.t 4))⟩,
  ⟨(some 2), none, (.mv (.c (.sc (.slice none 0 0))))⟩,
  ⟨(some 3), none, (.mv (.t 17))⟩] none) .ret) .skip)))
 (.seq (.reg [⟨(some 5), none, (.mv (.c (.sc (.func (.func 32) #[] #[]))))⟩] none)
 (.seq (.reg [⟨(some 18), none, (.mv (.t 5))⟩,
  ⟨(some 19), none, (.faddr 0 (.t 1))⟩,
  ⟨(some 20), none, (.load 1 false (.t 19))⟩,
  ⟨(some 21), none, (.callv (.t 18) [(.t 20)])⟩,
  ⟨(some 22), none, (.mv (.t 5))⟩,
  ⟨(some 23), none, (.faddr 1 (.t 1))⟩,
  ⟨(some 24), none, (.load 1 false (.t 23))⟩,
  ⟨(some 25), none, (.callv (.t 22) [(.t 24)])⟩,
  ⟨(some 26), none, (.mv (.t 5))⟩,
  ⟨(some 27), none, (.faddr 2 (.t 1))⟩,
  ⟨(some 28), none, (.faddr 0 (.t 27))⟩,
  ⟨(some 29), none, (.load 1 false (.t 28))⟩,
  ⟨(some 30), none, (.callv (.t 26) [(.t 29)])⟩,
  ⟨(some 31), none, (.mv (.t 5))⟩,
  ⟨(some 32), none, (.faddr 2 (.t 1))⟩,
  ⟨(some 33), none, (.faddr 1 (.t 32))⟩,
  ⟨(some 34), none, (.load 1 false (.t 33))⟩,
  ⟨(some 35), none, (.callv (.t 31) [(.t 34)])⟩,
  ⟨(some 36), none, (.bslice 9 1 [(.c (.sc (.string ⟨#[105, 110, 118, 111, 105, 99, 101]⟩))), (.t 21), (.c (.sc (.string ⟨#[114, 105, 100, 101, 114]⟩))), (.t 25), (.c (.sc (.string ⟨#[102, 114, 111, 109]⟩))), (.t 30), (.c (.sc (.string ⟨#[116, 111]⟩))), (.t 35)])⟩,
  ⟨(some 37), none, (.call 33 [(.t 36)])⟩,
  ⟨(some 38), none, (.bslice 9 1 [(.t 37)])⟩,
  ⟨(some 6), none, (.mv (.t 38))⟩] (some [[], [], [1], [0, 2, 1], [], [], [5], [4, 6, 3, 5, 0, 2, 1], [], [], [9], [10, 9], [8, 11, 7, 10, 9, 4, 6, 3, 5, 0, 2, 1], [], [], [14], [15, 14], [13, 16, 12, 15, 14, 8, 11, 7, 10, 9, 4, 6, 3, 5, 0, 2, 1], [3, 7, 12, 17, 0, 2, 1, 4, 6, 5, 8, 11, 10, 9, 13, 16, 15, 14], [18, 17, 3, 7, 12, 0, 2, 1, 4, 6, 5, 8, 11, 10, 9, 13, 16, 15, 14], [19, 18, 17, 3, 7, 12, 0, 2, 1, 4, 6, 5, 8, 11, 10, 9, 13, 16, 15, 14], [20, 19, 0, 1, 2, 3, 4, 5, 6, 7, 8, 9, 10, 11, 12, 13, 14, 15, 16, 17, 18]]))
 (.seq (.seq (.reg [⟨(some 39), none, (.faddr 4 (.t 1))⟩,
  ⟨(some 40), none, (.load 1 false (.t 39))⟩,
  ⟨(some 41), none, (.len (.t 40))⟩,
  ⟨(some 42), none, (.mv (.c (.sc (.int .i64 (0)))))⟩] none) (.block 0 
 (.loop ⟨[1, 5, 6, 40, 41, 42], [(6, (9, 1))]⟩
 (.seq (.reg [⟨(some 43), none, (.bin .lss (.t 42) (.t 41))⟩] none)
 (.seq
 (.cond (.t 43) .skip (.exit 0))
 (.seq (.block 1
 (.seq (.reg [⟨(some 44), none, (.iaddr 4 (.t 40) (.t 42))⟩,
  ⟨(some 45), none, (.load 4 true (.t 44))⟩,
  ⟨(some 8), none, (.new [(.sc (.int .i64 (0))), (.sc (.int .i64 (0))), (.sc (.slice none 0 0)), (.sc (.int .i64 (0)))])⟩,
  ⟨none, none, (.store 4 (.t 8) (.t 45))⟩] none)
 (.seq (.reg [⟨(some 46), none, (.mv (.t 6))⟩,
  ⟨(some 47), none, (.mv (.t 5))⟩,
  ⟨(some 48), none, (.faddr 0 (.t 8))⟩,
  ⟨(some 49), none, (.load 1 false (.t 48))⟩,
  ⟨(some 50), none, (.callv (.t 47) [(.t 49)])⟩,
  ⟨(some 51), none, (.faddr 3 (.t 8))⟩,
  ⟨(some 52), none, (.load 1 false (.t 51))⟩,
  ⟨(some 53), none, (.call 34 [(.t 52)])⟩,
  ⟨(some 54), none, (.bslice 9 1 [(.c (.sc (.string ⟨#[114, 105, 100, 101]⟩))), (.t 50), (.c (.sc (.string ⟨#[116, 111, 116, 97, 108]⟩))), (.t 53)])⟩,
  ⟨(some 55), none, (.call 33 [(.t 54)])⟩,
  ⟨(some 56), none, (.bslice 9 1 [(.t 55)])⟩,
  ⟨(some 57), none, (.append 9 1 16 (.t 46) (.t 56))⟩,
  ⟨(some 6), none, (.mv (.t 57))⟩] (some [[], [], [], [2], [1, 3, 2], [], [5], [6, 4, 5, 1, 3, 2], [4, 7, 1, 3, 2, 6, 5], [8, 7, 4, 1, 3, 2, 6, 5], [9, 8, 7, 4, 1, 3, 2, 6, 5], [0, 10, 9, 8, 7, 4, 1, 3, 2, 6, 5], [11, 0, 1, 2, 3, 4, 5, 6, 7, 8, 9, 10]]))
 (.seq (.reg [⟨(some 58), none, (.faddr 2 (.t 8))⟩,
  ⟨(some 59), none, (.load 1 false (.t 58))⟩,
  ⟨(some 60), none, (.len (.t 59))⟩,
  ⟨(some 61), none, (.mv (.c (.sc (.int .i64 (0)))))⟩] none) (.block 2 
 (.loop ⟨[1, 5, 6, 40, 41, 42, 59, 60, 61], [(6, (9, 1))]⟩
 (.seq (.reg [⟨(some 62), none, (.bin .lss (.t 61) (.t 60))⟩] none)
 (.seq
 (.cond (.t 62) .skip (.exit 2))
 (.seq (.block 3
 (.seq (.reg [⟨(some 63), none, (.mv (.t 61))⟩,
  ⟨(some 64), none, (.iaddr 3 (.t 59) (.t 61))⟩,
  ⟨(some 65), none, (.load 3 true (.t 64))⟩,
  ⟨(some 10), none, (.new [(.sc (.int .i64 (0))), (.sc (.int .i64 (0))), (.sc (.int .i64 (0)))])⟩,
  ⟨(some 9), none, (.mv (.t 63))⟩,
  ⟨none, none, (.store 3 (.t 10) (.t 65))⟩] none) (.reg [⟨(some 66), none, (.mv (.t 6))⟩,
  ⟨(some 67), none, (.mv (.t 5))⟩,
  ⟨(some 68), none, (.mv (.t 9))⟩,
  ⟨(some 69), none, (.callv (.t 67) [(.t 68)])⟩,
  ⟨(some 70), none, (.mv (.t 5))⟩,
  ⟨(some 71), none, (.faddr 0 (.t 10))⟩,
  ⟨(some 72), none, (.load 1 false (.t 71))⟩,
  ⟨(some 73), none, (.callv (.t 70) [(.t 72)])⟩,
  ⟨(some 74), none, (.mv (.t 5))⟩,
  ⟨(some 75), none, (.faddr 1 (.t 10))⟩,
  ⟨(some 76), none, (.load 1 false (.t 75))⟩,
  ⟨(some 77), none, (.callv (.t 74) [(.t 76)])⟩,
  ⟨(some 78), none, (.faddr 2 (.t 10))⟩,
  ⟨(some 79), none, (.load 1 false (.t 78))⟩,
  ⟨(some 80), none, (.call 34 [(.t 79)])⟩,
  ⟨(some 81), none, (.bslice 9 1 [(.c (.sc (.string ⟨#[105, 116, 101, 109]⟩))), (.t 69), (.c (.sc (.string ⟨#[107, 105, 110, 100]⟩))), (.t 73), (.c (.sc (.string ⟨#[114, 101, 102]⟩))), (.t 77), (.c (.sc (.string ⟨#[97, 109, 111, 117, 110, 116]⟩))), (.t 80)])⟩,
  ⟨(some 82), none, (.call 33 [(.t 81)])⟩,
  ⟨(some 83), none, (.bslice 9 1 [(.t 82)])⟩,
  ⟨(some 84), none, (.append 9 1 16 (.t 66) (.t 83))⟩,
  ⟨(some 6), none, (.mv (.t 84))⟩] (some [[], [], [], [1, 2], [], [], [5], [4, 6, 3, 5, 1, 2], [], [], [9], [8, 10, 7, 9, 4, 6, 3, 5, 1, 2], [], [12], [13, 11, 12, 8, 10, 7, 9, 4, 6, 3, 5, 1, 2], [3, 7, 11, 14, 1, 2, 4, 6, 5, 8, 10, 9, 13, 12], [15, 14, 3, 7, 11, 1, 2, 4, 6, 5, 8, 10, 9, 13, 12], [16, 15, 14, 3, 7, 11, 1, 2, 4, 6, 5, 8, 10, 9, 13, 12], [0, 17, 16, 15, 14, 3, 7, 11, 1, 2, 4, 6, 5, 8, 10, 9, 13, 12], [18, 0, 1, 2, 3, 4, 5, 6, 7, 8, 9, 10, 11, 12, 13, 14, 15, 16, 17]])))) (.reg [⟨(some 85), none, (.bin .add (.t 61) (.c (.sc (.int .i64 (1)))))⟩,
  ⟨(some 61), none, (.mv (.t 85))⟩] none)))))))))) (.reg [⟨(some 86), none, (.bin .add (.t 42) (.c (.sc (.int .i64 (1)))))⟩,
  ⟨(some 42), none, (.mv (.t 86))⟩] none)))))))
 (.seq (.seq (.reg [⟨(some 87), none, (.faddr 5 (.t 1))⟩,
  ⟨(some 88), none, (.load 1 false (.t 87))⟩,
  ⟨(some 89), none, (.len (.t 88))⟩,
  ⟨(some 90), none, (.mv (.c (.sc (.int .i64 (0)))))⟩] none) (.block 4 
 (.loop ⟨[1, 5, 6, 88, 89, 90], [(6, (9, 1))]⟩
 (.seq (.reg [⟨(some 91), none, (.bin .lss (.t 90) (.t 89))⟩] none)
 (.seq
 (.cond (.t 91) .skip (.exit 4))
 (.seq (.block 5
 (.seq (.reg [⟨(some 92), none, (.iaddr 4 (.t 88) (.t 90))⟩,
  ⟨(some 93), none, (.load 4 true (.t 92))⟩,
  ⟨(some 12), none, (.new [(.sc (.int .i64 (0))), (.sc (.int .i64 (0))), (.sc (.int .i64 (0))), (.sc (.int .i64 (0)))])⟩,
  ⟨none, none, (.store 4 (.t 12) (.t 93))⟩] none) (.reg [⟨(some 94), none, (.mv (.t 6))⟩,
  ⟨(some 95), none, (.mv (.t 5))⟩,
  ⟨(some 96), none, (.faddr 0 (.t 12))⟩,
  ⟨(some 97), none, (.load 1 false (.t 96))⟩,
  ⟨(some 98), none, (.callv (.t 95) [(.t 97)])⟩,
  ⟨(some 99), none, (.mv (.t 5))⟩,
  ⟨(some 100), none, (.faddr 1 (.t 12))⟩,
  ⟨(some 101), none, (.load 1 false (.t 100))⟩,
  ⟨(some 102), none, (.callv (.t 99) [(.t 101)])⟩,
  ⟨(some 103), none, (.mv (.t 5))⟩,
  ⟨(some 104), none, (.faddr 2 (.t 12))⟩,
  ⟨(some 105), none, (.load 1 false (.t 104))⟩,
  ⟨(some 106), none, (.callv (.t 103) [(.t 105)])⟩,
  ⟨(some 107), none, (.faddr 3 (.t 12))⟩,
  ⟨(some 108), none, (.load 1 false (.t 107))⟩,
  ⟨(some 109), none, (.call 34 [(.t 108)])⟩,
  ⟨(some 110), none, (.bslice 9 1 [(.c (.sc (.string ⟨#[114, 101, 102, 117, 110, 100]⟩))), (.t 98), (.c (.sc (.string ⟨#[114, 105, 100, 101]⟩))), (.t 102), (.c (.sc (.string ⟨#[105, 116, 101, 109]⟩))), (.t 106), (.c (.sc (.string ⟨#[97, 109, 111, 117, 110, 116]⟩))), (.t 109)])⟩,
  ⟨(some 111), none, (.call 33 [(.t 110)])⟩,
  ⟨(some 112), none, (.bslice 9 1 [(.t 111)])⟩,
  ⟨(some 113), none, (.append 9 1 16 (.t 94) (.t 112))⟩,
  ⟨(some 6), none, (.mv (.t 113))⟩] (some [[], [], [], [2], [1, 3, 2], [], [], [6], [5, 7, 4, 6, 1, 3, 2], [], [], [10], [9, 11, 8, 10, 5, 7, 4, 6, 1, 3, 2], [], [13], [14, 12, 13, 9, 11, 8, 10, 5, 7, 4, 6, 1, 3, 2], [4, 8, 12, 15, 1, 3, 2, 5, 7, 6, 9, 11, 10, 14, 13], [16, 15, 4, 8, 12, 1, 3, 2, 5, 7, 6, 9, 11, 10, 14, 13], [17, 16, 15, 4, 8, 12, 1, 3, 2, 5, 7, 6, 9, 11, 10, 14, 13], [0, 18, 17, 16, 15, 4, 8, 12, 1, 3, 2, 5, 7, 6, 9, 11, 10, 14, 13], [19, 0, 1, 2, 3, 4, 5, 6, 7, 8, 9, 10, 11, 12, 13, 14, 15, 16, 17, 18]])))) (.reg [⟨(some 114), none, (.bin .add (.t 90) (.c (.sc (.int .i64 (1)))))⟩,
  ⟨(some 90), none, (.mv (.t 114))⟩] none)))))))
 (.seq (.reg [⟨(some 115), none, (.mv (.t 6))⟩,
  ⟨(some 116), none, (.faddr 6 (.t 1))⟩,
  ⟨(some 117), none, (.load 1 false (.t 116))⟩,
  ⟨(some 118), none, (.call 34 [(.t 117)])⟩,
  ⟨(some 119), none, (.bslice 9 1 [(.c (.sc (.string ⟨#[116, 111, 116, 97, 108]⟩))), (.t 118)])⟩,
  ⟨(some 120), none, (.call 33 [(.t 119)])⟩,
  ⟨(some 121), none, (.bslice 9 1 [(.t 120)])⟩,
  ⟨(some 122), none, (.append 9 1 16 (.t 115) (.t 121))⟩,
  ⟨(some 2), none, (.mv (.t 122))⟩,
  ⟨(some 3), none, (.mv (.c (.sc (.int .i64 (0)))))⟩] none) .ret)))))))
theorem good15 {args : List PV} {r : PV} (hl : args.length ≤ 123) (h : Run Tryd.prog [.code ac15] (endQ [(.t 2), (.t 3)] r) ⟨initT 0 args, [], 0, 123⟩) : Good Tryd.prog 15 args r :=
  good_run (by kernel_rfl) Xbmix Tryd.func15 rfl (hs := [⟨[1, 5, 6, 40, 41, 42], [(6, 9, 1)]⟩, ⟨[1, 5, 6, 40, 41, 42, 59, 60, 61], [(6, 9, 1)]⟩, ⟨[1, 5, 6, 88, 89, 90], [(6, 9, 1)]⟩]) (hs' := []) (by kernel_rfl) hl h
def ac28 : ACode :=
 (.seq (.reg [⟨(some 5), none, (.boxv (.t 2))⟩,
  ⟨(some 6), none, (.mv (.c (.sc (.bool false))))⟩] none)
 (.seq (.reg [⟨(some 7), none, (.mv (.t 0))⟩,
  ⟨(some 8), none, (.bin .geq (.t 7) (.c (.sc (.int .i64 (1)))))⟩,
  ⟨(some 9), none, (.mv (.t 8))⟩,
  ⟨(some 10), (some (9, true)), (.mv (.t 0))⟩,
  ⟨(some 11), (some (9, true)), (.bin .leq (.t 10) (.c (.sc (.int .i64 (1000000)))))⟩,
  ⟨(some 12), none, (.pick (.t 9) (.t 11) (.c (.sc (.bool false))))⟩,
  ⟨(some 13), none, (.mv (.t 12))⟩,
  ⟨(some 14), (some (13, true)), (.mv (.t 1))⟩,
  ⟨(some 15), (some (13, true)), (.bin .geq (.t 14) (.c (.sc (.int .i64 (0)))))⟩,
  ⟨(some 16), none, (.pick (.t 13) (.t 15) (.c (.sc (.bool false))))⟩,
  ⟨(some 17), none, (.mv (.t 16))⟩,
  ⟨(some 18), (some (17, true)), (.mv (.t 1))⟩,
  ⟨(some 19), (some (17, true)), (.bin .lss (.t 18) (.c (.sc (.int .i64 (128)))))⟩,
  ⟨(some 20), none, (.pick (.t 17) (.t 19) (.c (.sc (.bool false))))⟩,
  ⟨(some 21), none, (.mv (.t 20))⟩,
  ⟨(some 22), (some (21, true)), (.faddr 0 (.t 5))⟩,
  ⟨(some 23), (some (21, true)), (.load 1 false (.t 22))⟩,
  ⟨(some 24), (some (21, true)), (.bin .geq (.t 23) (.c (.sc (.int .i64 (0)))))⟩,
  ⟨(some 25), none, (.pick (.t 21) (.t 24) (.c (.sc (.bool false))))⟩,
  ⟨(some 26), none, (.mv (.t 25))⟩,
  ⟨(some 27), (some (26, true)), (.faddr 0 (.t 5))⟩,
  ⟨(some 28), (some (26, true)), (.load 1 false (.t 27))⟩,
  ⟨(some 29), (some (26, true)), (.faddr 1 (.t 5))⟩,
  ⟨(some 30), (some (26, true)), (.load 1 false (.t 29))⟩,
  ⟨(some 31), (some (26, true)), (.bin .leq (.t 28) (.t 30))⟩,
  ⟨(some 32), none, (.pick (.t 26) (.t 31) (.c (.sc (.bool false))))⟩,
  ⟨(some 33), none, (.mv (.t 32))⟩,
  ⟨(some 34), (some (33, true)), (.faddr 1 (.t 5))⟩,
  ⟨(some 35), (some (33, true)), (.load 1 false (.t 34))⟩,
  ⟨(some 36), (some (33, true)), (.bin .leq (.t 35) (.c (.sc (.int .i64 (4294944000)))))⟩,
  ⟨(some 37), none, (.pick (.t 33) (.t 36) (.c (.sc (.bool false))))⟩,
  ⟨(some 6), none, (.mv (.t 37))⟩] none) .ret))
theorem good28 {args : List PV} {r : PV} (hl : args.length ≤ 38) (h : Run Tryd.prog [.code ac28] (endQ [(.t 6)] r) ⟨initT 0 args, [], 0, 38⟩) : Good Tryd.prog 28 args r :=
  good_run (by kernel_rfl) Xbmix Tryd.func28 rfl (hs := []) (hs' := []) (by kernel_rfl) hl h
def ac30 : ACode :=
 (.seq (.reg [⟨(some 4), none, (.mv (.c (.sc (.bool false))))⟩] none)
 (.seq (.seq (.reg [⟨(some 5), none, (.mv (.c (.sc (.int .i64 (0)))))⟩] none) (.block 0 
 (.loop ⟨[0, 1, 5], []⟩
 (.seq (.seq (.reg [⟨(some 6), none, (.mv (.t 5))⟩,
  ⟨(some 7), none, (.mv (.t 0))⟩,
  ⟨(some 8), none, (.len (.t 7))⟩,
  ⟨(some 9), none, (.bin .lss (.t 6) (.t 8))⟩] none)
 (.cond (.t 9) .skip (.exit 0)))
 (.seq (.block 1
 (.seq (.reg [⟨(some 12), none, (.mv (.t 0))⟩,
  ⟨(some 13), none, (.mv (.t 5))⟩,
  ⟨(some 14), none, (.iaddr 4 (.t 12) (.t 13))⟩,
  ⟨(some 15), none, (.faddr 0 (.t 14))⟩,
  ⟨(some 16), none, (.load 1 false (.t 15))⟩,
  ⟨(some 17), none, (.mv (.t 1))⟩,
  ⟨(some 18), none, (.bin .eql (.t 16) (.t 17))⟩] none)
 (.cond (.t 18)
 (.seq (.reg [⟨(some 4), none, (.mv (.c (.sc (.bool true))))⟩] none) .ret) .skip))) (.reg [⟨(some 10), none, (.mv (.t 5))⟩,
  ⟨(some 11), none, (.bin .add (.t 10) (.c (.sc (.int .i64 (1)))))⟩,
  ⟨(some 5), none, (.mv (.t 11))⟩] none))))))
 (.seq (.reg [⟨(some 4), none, (.mv (.c (.sc (.bool false))))⟩] none) .ret)))
theorem good30 {args : List PV} {r : PV} (hl : args.length ≤ 19) (h : Run Tryd.prog [.code ac30] (endQ [(.t 4)] r) ⟨initT 0 args, [], 0, 19⟩) : Good Tryd.prog 30 args r :=
  good_run (by kernel_rfl) Xbmix Tryd.func30 rfl (hs := [⟨[0, 1, 5], []⟩]) (hs' := []) (by kernel_rfl) hl h
def ac12 : ACode :=
 (.seq (.reg [⟨(some 8), none, (.boxv (.t 2))⟩,
  ⟨(some 12), none, (.new [(.sc (.int .i64 (0))), (.sc (.int .i64 (0))), (.sc (.int .i64 (0))), (.sc (.int .i64 (0))), (.sc (.slice none 0 0)), (.sc (.slice none 0 0)), (.sc (.int .i64 (0)))])⟩,
  ⟨(some 13), none, (.mv (.c (.sc (.int .i64 (0)))))⟩] none)
 (.seq (.seq (.reg [⟨(some 23), none, (.mv (.t 0))⟩,
  ⟨(some 24), none, (.mv (.t 1))⟩,
  ⟨(some 25), none, (.load 2 true (.t 8))⟩,
  ⟨(some 26), none, (.call 28 [(.t 23), (.t 24), (.t 25)])⟩,
  ⟨(some 27), none, (.un .not (.t 26))⟩] none)
 (.cond (.t 27)
 (.seq (.reg [⟨(some 28), none, (.build [(.sc (.int .i64 (0))), (.sc (.int .i64 (0))), (.sc (.int .i64 (0))), (.sc (.int .i64 (0))), (.sc (.slice none 0 0)), (.sc (.slice none 0 0)), (.sc (.int .i64 (0)))] [])⟩,
  ⟨none, none, (.store 7 (.t 12) (.t 28))⟩,
  ⟨(some 13), none, (.mv (.c (.sc (.int .i64 (1)))))⟩] none) .ret) .skip))
 (.seq (.seq (.reg [⟨(some 29), none, (.mv (.t 4))⟩,
  ⟨(some 30), none, (.len (.t 29))⟩,
  ⟨(some 31), none, (.bin .gtr (.t 30) (.c (.sc (.int .i64 (256)))))⟩] none)
 (.cond (.t 31)
 (.seq (.reg [⟨(some 32), none, (.build [(.sc (.int .i64 (0))), (.sc (.int .i64 (0))), (.sc (.int .i64 (0))), (.sc (.int .i64 (0))), (.sc (.slice none 0 0)), (.sc (.slice none 0 0)), (.sc (.int .i64 (0)))] [])⟩,
  ⟨none, none, (.store 7 (.t 12) (.t 32))⟩,
  ⟨(some 13), none, (.mv (.c (.sc (.int .i64 (8)))))⟩] none) .ret) .skip))
 (.seq (.seq (.reg [⟨(some 14), none, (.mv (.c (.sc (.int .i64 (0)))))⟩] none) (.block 0 
 (.loop ⟨[0, 1, 3, 4, 5, 8, 12, 14], []⟩
 (.seq (.seq (.reg [⟨(some 33), none, (.mv (.t 14))⟩,
  ⟨(some 34), none, (.mv (.t 4))⟩,
  ⟨(some 35), none, (.len (.t 34))⟩,
  ⟨(some 36), none, (.bin .lss (.t 33) (.t 35))⟩] none)
 (.cond (.t 36) .skip (.exit 0)))
 (.seq (.block 1
 (.seq (.reg [⟨(some 40), none, (.mv (.t 3))⟩,
  ⟨(some 41), none, (.mv (.t 4))⟩,
  ⟨(some 42), none, (.mv (.t 14))⟩,
  ⟨(some 43), none, (.iaddr 4 (.t 41) (.t 42))⟩,
  ⟨(some 44), none, (.faddr 0 (.t 43))⟩,
  ⟨(some 45), none, (.load 1 false (.t 44))⟩,
  ⟨(some 46), none, (.call 20 [(.t 40), (.t 45)])⟩,
  ⟨(some 39), none, (.mv (.t 46))⟩,
  ⟨(some 47), none, (.ext 0 (.t 39))⟩,
  ⟨(some 48), none, (.ext 1 (.t 39))⟩,
  ⟨(some 15), none, (.new [(.sc (.int .i64 (0))), (.sc (.int .i64 (0))), (.sc (.int .i64 (0))), (.sc (.int .i64 (0))), (.sc (.int .i64 (0))), (.sc (.int .i64 (0))), (.sc (.bool false)), (.sc (.slice none 0 0)), (.sc (.slice none 0 0)), (.sc (.int .i64 (0))), (.sc (.int .i64 (0))), (.sc (.int .i64 (0))), (.sc (.int .i64 (0)))])⟩,
  ⟨none, none, (.store 13 (.t 15) (.t 47))⟩,
  ⟨(some 16), none, (.mv (.t 48))⟩] none)
 (.seq (.reg [⟨(some 49), none, (.mv (.t 16))⟩,
  ⟨(some 50), none, (.un .not (.t 49))⟩] none)
 (.cond (.t 50)
 (.seq (.reg [⟨(some 51), none, (.build [(.sc (.int .i64 (0))), (.sc (.int .i64 (0))), (.sc (.int .i64 (0))), (.sc (.int .i64 (0))), (.sc (.slice none 0 0)), (.sc (.slice none 0 0)), (.sc (.int .i64 (0)))] [])⟩,
  ⟨none, none, (.store 7 (.t 12) (.t 51))⟩,
  ⟨(some 13), none, (.mv (.c (.sc (.int .i64 (7)))))⟩] none) .ret) .skip)))) (.reg [⟨(some 37), none, (.mv (.t 14))⟩,
  ⟨(some 38), none, (.bin .add (.t 37) (.c (.sc (.int .i64 (1)))))⟩,
  ⟨(some 14), none, (.mv (.t 38))⟩] none))))))
 (.seq (.seq (.reg [⟨(some 52), none, (.mv (.t 4))⟩,
  ⟨(some 53), none, (.mv (.t 5))⟩,
  ⟨(some 54), none, (.call 29 [(.t 52), (.t 53)])⟩,
  ⟨(some 17), none, (.mv (.t 54))⟩] none)
 (.seq (.reg [⟨(some 55), none, (.mv (.t 17))⟩,
  ⟨(some 56), none, (.bin .neq (.t 55) (.c (.sc (.int .i64 (0)))))⟩] none)
 (.cond (.t 56)
 (.seq (.reg [⟨(some 57), none, (.build [(.sc (.int .i64 (0))), (.sc (.int .i64 (0))), (.sc (.int .i64 (0))), (.sc (.int .i64 (0))), (.sc (.slice none 0 0)), (.sc (.slice none 0 0)), (.sc (.int .i64 (0)))] [])⟩,
  ⟨(some 58), none, (.mv (.t 17))⟩,
  ⟨none, none, (.store 7 (.t 12) (.t 57))⟩,
  ⟨(some 13), none, (.mv (.t 58))⟩] none) .ret) .skip)))
 (.seq (.reg [⟨(some 59), none, (.mv (.t 0))⟩,
  ⟨(some 60), none, (.mv (.t 1))⟩,
  ⟨(some 61), none, (.load 2 true (.t 8))⟩,
  ⟨(some 62), none, (.build [(.sc (.int .i64 (0))), (.sc (.int .i64 (0))), (.sc (.int .i64 (0))), (.sc (.int .i64 (0))), (.sc (.slice none 0 0)), (.sc (.slice none 0 0)), (.sc (.int .i64 (0)))] [(0, (1, (.t 59))), (1, (1, (.t 60))), (2, (2, (.t 61)))])⟩,
  ⟨(some 18), none, (.new [(.sc (.int .i64 (0))), (.sc (.int .i64 (0))), (.sc (.int .i64 (0))), (.sc (.int .i64 (0))), (.sc (.slice none 0 0)), (.sc (.slice none 0 0)), (.sc (.int .i64 (0)))])⟩,
  ⟨none, none, (.store 7 (.t 18) (.t 62))⟩] none)
 (.seq (.seq (.reg [⟨(some 19), none, (.mv (.c (.sc (.int .i64 (0)))))⟩] none) (.block 2 
 (.loop ⟨[1, 3, 4, 5, 8, 12, 18, 19], [(500018, (55, 4))]⟩
 (.seq (.seq (.reg [⟨(some 63), none, (.mv (.t 19))⟩,
  ⟨(some 64), none, (.mv (.t 4))⟩,
  ⟨(some 65), none, (.len (.t 64))⟩,
  ⟨(some 66), none, (.bin .lss (.t 63) (.t 65))⟩] none)
 (.cond (.t 66) .skip (.exit 2)))
 (.seq (.block 3
 (.seq (.reg [⟨(some 70), none, (.mv (.t 3))⟩,
  ⟨(some 71), none, (.mv (.t 4))⟩,
  ⟨(some 72), none, (.mv (.t 19))⟩,
  ⟨(some 73), none, (.iaddr 4 (.t 71) (.t 72))⟩,
  ⟨(some 74), none, (.faddr 0 (.t 73))⟩,
  ⟨(some 75), none, (.load 1 false (.t 74))⟩,
  ⟨(some 76), none, (.call 20 [(.t 70), (.t 75)])⟩,
  ⟨(some 69), none, (.mv (.t 76))⟩,
  ⟨(some 77), none, (.ext 0 (.t 69))⟩,
  ⟨(some 78), none, (.ext 1 (.t 69))⟩,
  ⟨(some 20), none, (.new [(.sc (.int .i64 (0))), (.sc (.int .i64 (0))), (.sc (.int .i64 (0))), (.sc (.int .i64 (0))), (.sc (.int .i64 (0))), (.sc (.int .i64 (0))), (.sc (.bool false)), (.sc (.slice none 0 0)), (.sc (.slice none 0 0)), (.sc (.int .i64 (0))), (.sc (.int .i64 (0))), (.sc (.int .i64 (0))), (.sc (.int .i64 (0)))])⟩,
  ⟨none, none, (.store 13 (.t 20) (.t 77))⟩,
  ⟨(some 21), none, (.mv (.t 78))⟩] none)
 (.seq (.reg [⟨(some 79), none, (.mv (.t 4))⟩,
  ⟨(some 80), none, (.mv (.t 19))⟩,
  ⟨(some 81), none, (.iaddr 4 (.t 79) (.t 80))⟩,
  ⟨(some 82), none, (.faddr 1 (.t 81))⟩,
  ⟨(some 83), none, (.load 1 false (.t 82))⟩,
  ⟨(some 84), none, (.mv (.t 1))⟩,
  ⟨(some 85), none, (.bin .eql (.t 83) (.t 84))⟩,
  ⟨(some 86), none, (.mv (.t 85))⟩,
  ⟨(some 87), (some (86, true)), (.faddr 0 (.t 8))⟩,
  ⟨(some 88), (some (86, true)), (.load 1 false (.t 87))⟩,
  ⟨(some 89), (some (86, true)), (.faddr 2 (.t 20))⟩,
  ⟨(some 90), (some (86, true)), (.faddr 0 (.t 89))⟩,
  ⟨(some 91), (some (86, true)), (.load 1 false (.t 90))⟩,
  ⟨(some 92), (some (86, true)), (.bin .leq (.t 88) (.t 91))⟩,
  ⟨(some 93), none, (.pick (.t 86) (.t 92) (.c (.sc (.bool false))))⟩,
  ⟨(some 94), none, (.mv (.t 93))⟩,
  ⟨(some 95), (some (94, true)), (.faddr 2 (.t 20))⟩,
  ⟨(some 96), (some (94, true)), (.faddr 0 (.t 95))⟩,
  ⟨(some 97), (some (94, true)), (.load 1 false (.t 96))⟩,
  ⟨(some 98), (some (94, true)), (.faddr 1 (.t 8))⟩,
  ⟨(some 99), (some (94, true)), (.load 1 false (.t 98))⟩,
  ⟨(some 100), (some (94, true)), (.bin .lss (.t 97) (.t 99))⟩,
  ⟨(some 101), none, (.pick (.t 94) (.t 100) (.c (.sc (.bool false))))⟩] none)
 (.cond (.t 101)
 (.seq (.seq (.reg [⟨(some 102), none, (.mv (.t 4))⟩,
  ⟨(some 103), none, (.mv (.t 19))⟩,
  ⟨(some 104), none, (.iaddr 4 (.t 102) (.t 103))⟩,
  ⟨(some 105), none, (.faddr 3 (.t 104))⟩,
  ⟨(some 106), none, (.load 1 false (.t 105))⟩,
  ⟨(some 107), none, (.bin .lss (.t 106) (.c (.sc (.int .i64 (-1000000000000)))))⟩,
  ⟨(some 108), none, (.mv (.t 107))⟩,
  ⟨(some 109), (some (108, false)), (.mv (.t 4))⟩,
  ⟨(some 110), (some (108, false)), (.mv (.t 19))⟩,
  ⟨(some 111), (some (108, false)), (.iaddr 4 (.t 109) (.t 110))⟩,
  ⟨(some 112), (some (108, false)), (.faddr 3 (.t 111))⟩,
  ⟨(some 113), (some (108, false)), (.load 1 false (.t 112))⟩,
  ⟨(some 114), (some (108, false)), (.bin .gtr (.t 113) (.c (.sc (.int .i64 (1000000000000)))))⟩,
  ⟨(some 115), none, (.pick (.t 108) (.c (.sc (.bool true))) (.t 114))⟩] none)
 (.cond (.t 115)
 (.seq (.reg [⟨(some 116), none, (.build [(.sc (.int .i64 (0))), (.sc (.int .i64 (0))), (.sc (.int .i64 (0))), (.sc (.int .i64 (0))), (.sc (.slice none 0 0)), (.sc (.slice none 0 0)), (.sc (.int .i64 (0)))] [])⟩,
  ⟨none, none, (.store 7 (.t 12) (.t 116))⟩,
  ⟨(some 13), none, (.mv (.c (.sc (.int .i64 (2)))))⟩] none) .ret) .skip))
 (.seq (.reg [⟨(some 117), none, (.faddr 4 (.t 18))⟩,
  ⟨(some 118), none, (.load 1 false (.t 117))⟩,
  ⟨(some 119), none, (.mv (.t 4))⟩,
  ⟨(some 120), none, (.mv (.t 19))⟩,
  ⟨(some 121), none, (.iaddr 4 (.t 119) (.t 120))⟩,
  ⟨(some 122), none, (.load 4 true (.t 121))⟩,
  ⟨(some 123), none, (.bslice 55 4 [(.t 122)])⟩,
  ⟨(some 124), none, (.append 55 4 48 (.t 118) (.t 123))⟩,
  ⟨(some 125), none, (.faddr 4 (.t 18))⟩,
  ⟨none, none, (.store 1 (.t 125) (.t 124))⟩] (some [[], [0], [], [], [2, 3], [4, 2, 3], [5, 4, 2, 3], [1, 6, 0, 5, 4, 2, 3], [0, 1, 2, 3, 4, 5, 6, 7], [8, 7, 0, 1, 2, 3, 4, 5, 6]])) (.reg [⟨(some 126), none, (.faddr 6 (.t 18))⟩,
  ⟨(some 127), none, (.load 1 false (.t 126))⟩,
  ⟨(some 128), none, (.mv (.t 4))⟩,
  ⟨(some 129), none, (.mv (.t 19))⟩,
  ⟨(some 130), none, (.iaddr 4 (.t 128) (.t 129))⟩,
  ⟨(some 131), none, (.faddr 3 (.t 130))⟩,
  ⟨(some 132), none, (.load 1 false (.t 131))⟩,
  ⟨(some 133), none, (.bin .add (.t 127) (.t 132))⟩,
  ⟨(some 134), none, (.faddr 6 (.t 18))⟩,
  ⟨none, none, (.store 1 (.t 134) (.t 133))⟩] (some [[], [0], [], [], [2, 3], [4, 2, 3], [5, 4, 2, 3], [1, 6, 0, 5, 4, 2, 3], [0, 1, 2, 3, 4, 5, 6, 7], [8, 7, 0, 1, 2, 3, 4, 5, 6]])))) .skip)))) (.reg [⟨(some 67), none, (.mv (.t 19))⟩,
  ⟨(some 68), none, (.bin .add (.t 67) (.c (.sc (.int .i64 (1)))))⟩,
  ⟨(some 19), none, (.mv (.t 68))⟩] none))))))
 (.seq (.seq (.reg [⟨(some 22), none, (.mv (.c (.sc (.int .i64 (0)))))⟩] none) (.block 4 
 (.loop ⟨[5, 12, 18, 22], [(600018, (60, 4))]⟩
 (.seq (.seq (.reg [⟨(some 135), none, (.mv (.t 22))⟩,
  ⟨(some 136), none, (.mv (.t 5))⟩,
  ⟨(some 137), none, (.len (.t 136))⟩,
  ⟨(some 138), none, (.bin .lss (.t 135) (.t 137))⟩] none)
 (.cond (.t 138) .skip (.exit 4)))
 (.seq (.block 5
 (.seq (.reg [⟨(some 141), none, (.faddr 4 (.t 18))⟩,
  ⟨(some 142), none, (.load 1 false (.t 141))⟩,
  ⟨(some 143), none, (.mv (.t 5))⟩,
  ⟨(some 144), none, (.mv (.t 22))⟩,
  ⟨(some 145), none, (.iaddr 4 (.t 143) (.t 144))⟩,
  ⟨(some 146), none, (.faddr 1 (.t 145))⟩,
  ⟨(some 147), none, (.load 1 false (.t 146))⟩,
  ⟨(some 148), none, (.call 30 [(.t 142), (.t 147)])⟩] (some [[], [0], [], [], [2, 3], [4, 2, 3], [5, 4, 2, 3], [1, 6, 0, 5, 4, 2, 3]]))
 (.cond (.t 148)
 (.seq (.reg [⟨(some 149), none, (.faddr 5 (.t 18))⟩,
  ⟨(some 150), none, (.load 1 false (.t 149))⟩,
  ⟨(some 151), none, (.mv (.t 5))⟩,
  ⟨(some 152), none, (.mv (.t 22))⟩,
  ⟨(some 153), none, (.iaddr 4 (.t 151) (.t 152))⟩,
  ⟨(some 154), none, (.load 4 true (.t 153))⟩,
  ⟨(some 155), none, (.bslice 60 4 [(.t 154)])⟩,
  ⟨(some 156), none, (.append 60 4 32 (.t 150) (.t 155))⟩,
  ⟨(some 157), none, (.faddr 5 (.t 18))⟩,
  ⟨none, none, (.store 1 (.t 157) (.t 156))⟩] (some [[], [0], [], [], [2, 3], [4, 2, 3], [5, 4, 2, 3], [1, 6, 0, 5, 4, 2, 3], [0, 1, 2, 3, 4, 5, 6, 7], [8, 7, 0, 1, 2, 3, 4, 5, 6]])) (.reg [⟨(some 158), none, (.faddr 6 (.t 18))⟩,
  ⟨(some 159), none, (.load 1 false (.t 158))⟩,
  ⟨(some 160), none, (.mv (.t 5))⟩,
  ⟨(some 161), none, (.mv (.t 22))⟩,
  ⟨(some 162), none, (.iaddr 4 (.t 160) (.t 161))⟩,
  ⟨(some 163), none, (.faddr 3 (.t 162))⟩,
  ⟨(some 164), none, (.load 1 false (.t 163))⟩,
  ⟨(some 165), none, (.bin .sub (.t 159) (.t 164))⟩,
  ⟨(some 166), none, (.faddr 6 (.t 18))⟩,
  ⟨none, none, (.store 1 (.t 166) (.t 165))⟩] (some [[], [0], [], [], [2, 3], [4, 2, 3], [5, 4, 2, 3], [1, 6, 0, 5, 4, 2, 3], [0, 1, 2, 3, 4, 5, 6, 7], [8, 7, 0, 1, 2, 3, 4, 5, 6]]))) .skip))) (.reg [⟨(some 139), none, (.mv (.t 22))⟩,
  ⟨(some 140), none, (.bin .add (.t 139) (.c (.sc (.int .i64 (1)))))⟩,
  ⟨(some 22), none, (.mv (.t 140))⟩] none))))))
 (.seq (.reg [⟨(some 167), none, (.load 7 true (.t 18))⟩,
  ⟨none, none, (.store 7 (.t 12) (.t 167))⟩,
  ⟨(some 13), none, (.mv (.c (.sc (.int .i64 (0)))))⟩] none) .ret)))))))))
theorem good12 {args : List PV} {r : PV} (hl : args.length ≤ 168) (h : Run Tryd.prog [.code ac12] (endQ [(.c 12 7 true), (.t 13)] r) ⟨initT 0 args, [], 0, 168⟩) : Good Tryd.prog 12 args r :=
  good_run (by kernel_rfl) Xbmix Tryd.func12 rfl (hs := [⟨[0, 1, 3, 4, 5, 8, 12, 14], []⟩, ⟨[1, 3, 4, 5, 8, 12, 18, 19], [(500018, 55, 4)]⟩, ⟨[5, 12, 18, 22], [(600018, 60, 4)]⟩]) (hs' := []) (by kernel_rfl) hl h
def ac40 : ACode :=
 (.seq (.reg [⟨(some 1), none, (.boxv (.t 0))⟩,
  ⟨(some 2), none, (.mv (.c (.sc (.bool false))))⟩] none)
 (.seq (.reg [⟨(some 3), none, (.mv (.c (.sc (.int .i64 (0)))))⟩] none)
 (.seq (.seq (.reg [⟨(some 4), none, (.mv (.c (.sc (.int .i64 (0)))))⟩] none) (.block 0 
 (.loop ⟨[1, 3, 4], []⟩
 (.seq (.seq (.reg [⟨(some 6), none, (.mv (.t 4))⟩,
  ⟨(some 7), none, (.faddr 2 (.t 1))⟩,
  ⟨(some 8), none, (.load 1 false (.t 7))⟩,
  ⟨(some 9), none, (.len (.t 8))⟩,
  ⟨(some 10), none, (.bin .lss (.t 6) (.t 9))⟩,
  ⟨(some 11), none, (.mv (.t 10))⟩,
  ⟨(some 12), (some (11, true)), (.mv (.t 4))⟩,
  ⟨(some 13), (some (11, true)), (.bin .lss (.t 12) (.c (.sc (.int .i64 (16)))))⟩,
  ⟨(some 14), none, (.pick (.t 11) (.t 13) (.c (.sc (.bool false))))⟩] none)
 (.cond (.t 14) .skip (.exit 0)))
 (.seq (.block 1
 (.seq (.reg [⟨(some 17), none, (.faddr 2 (.t 1))⟩,
  ⟨(some 18), none, (.load 1 false (.t 17))⟩,
  ⟨(some 19), none, (.mv (.t 4))⟩,
  ⟨(some 20), none, (.iaddr 3 (.t 18) (.t 19))⟩,
  ⟨(some 21), none, (.faddr 2 (.t 20))⟩,
  ⟨(some 22), none, (.load 1 false (.t 21))⟩,
  ⟨(some 5), none, (.mv (.t 22))⟩] none)
 (.seq (.seq (.reg [⟨(some 23), none, (.mv (.t 5))⟩,
  ⟨(some 24), none, (.bin .lss (.t 23) (.c (.sc (.int .i64 (-1000000000000)))))⟩,
  ⟨(some 25), none, (.mv (.t 24))⟩,
  ⟨(some 26), (some (25, false)), (.mv (.t 5))⟩,
  ⟨(some 27), (some (25, false)), (.bin .gtr (.t 26) (.c (.sc (.int .i64 (1000000000000)))))⟩,
  ⟨(some 28), none, (.pick (.t 25) (.c (.sc (.bool true))) (.t 27))⟩] none)
 (.cond (.t 28)
 (.seq (.reg [⟨(some 2), none, (.mv (.c (.sc (.bool false))))⟩] none) .ret) .skip)) (.reg [⟨(some 29), none, (.mv (.t 3))⟩,
  ⟨(some 30), none, (.mv (.t 5))⟩,
  ⟨(some 31), none, (.bin .add (.t 29) (.t 30))⟩,
  ⟨(some 3), none, (.mv (.t 31))⟩] none)))) (.reg [⟨(some 15), none, (.mv (.t 4))⟩,
  ⟨(some 16), none, (.bin .add (.t 15) (.c (.sc (.int .i64 (1)))))⟩,
  ⟨(some 4), none, (.mv (.t 16))⟩] none))))))
 (.seq (.reg [⟨(some 32), none, (.faddr 2 (.t 1))⟩,
  ⟨(some 33), none, (.load 1 false (.t 32))⟩,
  ⟨(some 34), none, (.len (.t 33))⟩,
  ⟨(some 35), none, (.bin .leq (.t 34) (.c (.sc (.int .i64 (16)))))⟩,
  ⟨(some 36), none, (.mv (.t 35))⟩,
  ⟨(some 37), (some (36, true)), (.mv (.t 3))⟩,
  ⟨(some 38), (some (36, true)), (.faddr 3 (.t 1))⟩,
  ⟨(some 39), (some (36, true)), (.load 1 false (.t 38))⟩,
  ⟨(some 40), (some (36, true)), (.bin .eql (.t 37) (.t 39))⟩,
  ⟨(some 41), none, (.pick (.t 36) (.t 40) (.c (.sc (.bool false))))⟩,
  ⟨(some 2), none, (.mv (.t 41))⟩] none) .ret))))
theorem good40 {args : List PV} {r : PV} (hl : args.length ≤ 42) (h : Run Tryd.prog [.code ac40] (endQ [(.t 2)] r) ⟨initT 0 args, [], 0, 42⟩) : Good Tryd.prog 40 args r :=
  good_run (by kernel_rfl) Xbmix Tryd.func40 rfl (hs := [⟨[1, 3, 4], []⟩]) (hs' := []) (by kernel_rfl) hl h
def ac18 : ACode :=
 (.seq (.reg [⟨(some 1), none, (.boxv (.t 0))⟩,
  ⟨(some 2), none, (.mv (.c (.sc (.int .i64 (0)))))⟩] none)
 (.seq (.seq (.reg [⟨(some 8), none, (.faddr 0 (.t 1))⟩,
  ⟨(some 9), none, (.load 1 false (.t 8))⟩,
  ⟨(some 10), none, (.faddr 1 (.t 1))⟩,
  ⟨(some 11), none, (.load 1 false (.t 10))⟩,
  ⟨(some 12), none, (.faddr 2 (.t 1))⟩,
  ⟨(some 13), none, (.load 2 true (.t 12))⟩,
  ⟨(some 14), none, (.call 28 [(.t 9), (.t 11), (.t 13)])⟩,
  ⟨(some 15), none, (.un .not (.t 14))⟩] none)
 (.cond (.t 15)
 (.seq (.reg [⟨(some 2), none, (.mv (.c (.sc (.int .i64 (1)))))⟩] none) .ret) .skip))
 (.seq (.seq (.reg [⟨(some 16), none, (.faddr 4 (.t 1))⟩,
  ⟨(some 17), none, (.load 1 false (.t 16))⟩,
  ⟨(some 18), none, (.len (.t 17))⟩,
  ⟨(some 19), none, (.bin .gtr (.t 18) (.c (.sc (.int .i64 (256)))))⟩] none)
 (.cond (.t 19)
 (.seq (.reg [⟨(some 2), none, (.mv (.c (.sc (.int .i64 (8)))))⟩] none) .ret) .skip))
 (.seq (.seq (.reg [⟨(some 3), none, (.mv (.c (.sc (.int .i64 (0)))))⟩] none) (.block 0 
 (.loop ⟨[1, 3], []⟩
 (.seq (.seq (.reg [⟨(some 20), none, (.mv (.t 3))⟩,
  ⟨(some 21), none, (.faddr 4 (.t 1))⟩,
  ⟨(some 22), none, (.load 1 false (.t 21))⟩,
  ⟨(some 23), none, (.len (.t 22))⟩,
  ⟨(some 24), none, (.bin .lss (.t 20) (.t 23))⟩] none)
 (.cond (.t 24) .skip (.exit 0)))
 (.seq (.block 1
 (.seq (.reg [⟨(some 27), none, (.faddr 4 (.t 1))⟩,
  ⟨(some 28), none, (.load 1 false (.t 27))⟩,
  ⟨(some 29), none, (.mv (.t 3))⟩,
  ⟨(some 30), none, (.slice 4 (.t 28) none (some (.t 29)) none)⟩,
  ⟨(some 31), none, (.faddr 4 (.t 1))⟩,
  ⟨(some 32), none, (.load 1 false (.t 31))⟩,
  ⟨(some 33), none, (.mv (.t 3))⟩,
  ⟨(some 34), none, (.iaddr 4 (.t 32) (.t 33))⟩,
  ⟨(some 35), none, (.faddr 0 (.t 34))⟩,
  ⟨(some 36), none, (.load 1 false (.t 35))⟩,
  ⟨(some 37), none, (.call 30 [(.t 30), (.t 36)])⟩] (some [[], [0], [], [1, 2, 0], [], [4], [], [5, 6, 4], [7, 5, 6, 4], [8, 7, 5, 6, 4], [3, 9, 1, 2, 0, 8, 7, 5, 6, 4]]))
 (.cond (.t 37)
 (.seq (.reg [⟨(some 2), none, (.mv (.c (.sc (.int .i64 (6)))))⟩] none) .ret) .skip))) (.reg [⟨(some 25), none, (.mv (.t 3))⟩,
  ⟨(some 26), none, (.bin .add (.t 25) (.c (.sc (.int .i64 (1)))))⟩,
  ⟨(some 3), none, (.mv (.t 26))⟩] none))))))
 (.seq (.reg [⟨(some 4), none, (.mv (.c (.sc (.int .i64 (0)))))⟩] none)
 (.seq (.seq (.reg [⟨(some 5), none, (.mv (.c (.sc (.int .i64 (0)))))⟩] none) (.block 2 
 (.loop ⟨[1, 4, 5], []⟩
 (.seq (.seq (.reg [⟨(some 38), none, (.mv (.t 5))⟩,
  ⟨(some 39), none, (.faddr 4 (.t 1))⟩,
  ⟨(some 40), none, (.load 1 false (.t 39))⟩,
  ⟨(some 41), none, (.len (.t 40))⟩,
  ⟨(some 42), none, (.bin .lss (.t 38) (.t 41))⟩] none)
 (.cond (.t 42) .skip (.exit 2)))
 (.seq (.block 3
 (.seq (.seq (.reg [⟨(some 45), none, (.faddr 4 (.t 1))⟩,
  ⟨(some 46), none, (.load 1 false (.t 45))⟩,
  ⟨(some 47), none, (.mv (.t 5))⟩,
  ⟨(some 48), none, (.iaddr 4 (.t 46) (.t 47))⟩,
  ⟨(some 49), none, (.faddr 1 (.t 48))⟩,
  ⟨(some 50), none, (.load 1 false (.t 49))⟩,
  ⟨(some 51), none, (.faddr 1 (.t 1))⟩,
  ⟨(some 52), none, (.load 1 false (.t 51))⟩,
  ⟨(some 53), none, (.bin .neq (.t 50) (.t 52))⟩,
  ⟨(some 54), none, (.mv (.t 53))⟩,
  ⟨(some 55), (some (54, false)), (.faddr 4 (.t 1))⟩,
  ⟨(some 56), (some (54, false)), (.load 1 false (.t 55))⟩,
  ⟨(some 57), (some (54, false)), (.mv (.t 5))⟩,
  ⟨(some 58), (some (54, false)), (.iaddr 4 (.t 56) (.t 57))⟩,
  ⟨(some 59), (some (54, false)), (.load 4 true (.t 58))⟩,
  ⟨(some 60), (some (54, false)), (.call 40 [(.t 59)])⟩,
  ⟨(some 61), (some (54, false)), (.un .not (.t 60))⟩,
  ⟨(some 62), none, (.pick (.t 54) (.c (.sc (.bool true))) (.t 61))⟩] (some [[], [0], [], [1, 2, 0], [3, 1, 2, 0], [4, 3, 1, 2, 0], [], [6], [5, 7, 4, 3, 1, 2, 0, 6], [8, 5, 7, 4, 3, 1, 2, 0, 6], [9, 8, 5, 7, 4, 3, 1, 2, 0, 6], [10, 9, 8, 5, 7, 4, 3, 1, 2, 0, 6], [9, 8, 5, 7, 4, 3, 1, 2, 0, 6], [11, 12, 9, 10, 8, 5, 7, 4, 3, 1, 2, 0, 6], [13, 9, 11, 12, 10, 8, 5, 7, 4, 3, 1, 2, 0, 6], [14, 9, 13, 11, 12, 10, 8, 5, 7, 4, 3, 1, 2, 0, 6], [15, 9, 14, 13, 11, 12, 10, 8, 5, 7, 4, 3, 1, 2, 0, 6], [9, 16, 8, 5, 7, 4, 3, 1, 2, 0, 6, 15, 14, 13, 11, 12, 10]]))
 (.cond (.t 62)
 (.seq (.reg [⟨(some 2), none, (.mv (.c (.sc (.int .i64 (3)))))⟩] none) .ret) .skip)) (.reg [⟨(some 63), none, (.mv (.t 4))⟩,
  ⟨(some 64), none, (.faddr 4 (.t 1))⟩,
  ⟨(some 65), none, (.load 1 false (.t 64))⟩,
  ⟨(some 66), none, (.mv (.t 5))⟩,
  ⟨(some 67), none, (.iaddr 4 (.t 65) (.t 66))⟩,
  ⟨(some 68), none, (.faddr 3 (.t 67))⟩,
  ⟨(some 69), none, (.load 1 false (.t 68))⟩,
  ⟨(some 70), none, (.bin .add (.t 63) (.t 69))⟩,
  ⟨(some 4), none, (.mv (.t 70))⟩] none))) (.reg [⟨(some 43), none, (.mv (.t 5))⟩,
  ⟨(some 44), none, (.bin .add (.t 43) (.c (.sc (.int .i64 (1)))))⟩,
  ⟨(some 5), none, (.mv (.t 44))⟩] none))))))
 (.seq (.seq (.reg [⟨(some 71), none, (.faddr 4 (.t 1))⟩,
  ⟨(some 72), none, (.load 1 false (.t 71))⟩,
  ⟨(some 73), none, (.faddr 5 (.t 1))⟩,
  ⟨(some 74), none, (.load 1 false (.t 73))⟩,
  ⟨(some 75), none, (.call 29 [(.t 72), (.t 74)])⟩,
  ⟨(some 6), none, (.mv (.t 75))⟩] none)
 (.seq (.reg [⟨(some 76), none, (.mv (.t 6))⟩,
  ⟨(some 77), none, (.bin .neq (.t 76) (.c (.sc (.int .i64 (0)))))⟩] none)
 (.cond (.t 77)
 (.seq (.reg [⟨(some 78), none, (.mv (.t 6))⟩,
  ⟨(some 2), none, (.mv (.t 78))⟩] none) .ret) .skip)))
 (.seq (.seq (.reg [⟨(some 7), none, (.mv (.c (.sc (.int .i64 (0)))))⟩] none) (.block 4 
 (.loop ⟨[1, 4, 7], []⟩
 (.seq (.seq (.reg [⟨(some 79), none, (.mv (.t 7))⟩,
  ⟨(some 80), none, (.faddr 5 (.t 1))⟩,
  ⟨(some 81), none, (.load 1 false (.t 80))⟩,
  ⟨(some 82), none, (.len (.t 81))⟩,
  ⟨(some 83), none, (.bin .lss (.t 79) (.t 82))⟩] none)
 (.cond (.t 83) .skip (.exit 4)))
 (.seq (.block 5 (.reg [⟨(some 86), none, (.mv (.t 4))⟩,
  ⟨(some 87), none, (.faddr 5 (.t 1))⟩,
  ⟨(some 88), none, (.load 1 false (.t 87))⟩,
  ⟨(some 89), none, (.mv (.t 7))⟩,
  ⟨(some 90), none, (.iaddr 4 (.t 88) (.t 89))⟩,
  ⟨(some 91), none, (.faddr 3 (.t 90))⟩,
  ⟨(some 92), none, (.load 1 false (.t 91))⟩,
  ⟨(some 93), none, (.bin .sub (.t 86) (.t 92))⟩,
  ⟨(some 4), none, (.mv (.t 93))⟩] none)) (.reg [⟨(some 84), none, (.mv (.t 7))⟩,
  ⟨(some 85), none, (.bin .add (.t 84) (.c (.sc (.int .i64 (1)))))⟩,
  ⟨(some 7), none, (.mv (.t 85))⟩] none))))))
 (.seq (.seq (.reg [⟨(some 94), none, (.mv (.t 4))⟩,
  ⟨(some 95), none, (.faddr 6 (.t 1))⟩,
  ⟨(some 96), none, (.load 1 false (.t 95))⟩,
  ⟨(some 97), none, (.bin .neq (.t 94) (.t 96))⟩] none)
 (.cond (.t 97)
 (.seq (.reg [⟨(some 2), none, (.mv (.c (.sc (.int .i64 (27)))))⟩] none) .ret) .skip))
 (.seq (.reg [⟨(some 2), none, (.mv (.c (.sc (.int .i64 (0)))))⟩] none) .ret))))))))))
theorem good18 {args : List PV} {r : PV} (hl : args.length ≤ 98) (h : Run Tryd.prog [.code ac18] (endQ [(.t 2)] r) ⟨initT 0 args, [], 0, 98⟩) : Good Tryd.prog 18 args r :=
  good_run (by kernel_rfl) Xbmix Tryd.func18 rfl (hs := [⟨[1, 3], []⟩, ⟨[1, 4, 5], []⟩, ⟨[1, 4, 7], []⟩]) (hs' := []) (by kernel_rfl) hl h
def ac35 : ACode :=
 (.seq (.reg [⟨(some 2), none, (.mv (.c (.sc (.string ⟨#[]⟩))))⟩] none)
 (.seq (.reg [⟨(some 3), none, (.mv (.c (.sc (.string ⟨#[]⟩))))⟩] none)
 (.seq (.seq (.reg [⟨(some 7), none, (.mv (.t 0))⟩,
  ⟨(some 4), none, (.mv (.t 7))⟩,
  ⟨(some 5), none, (.mv (.c (.sc (.int .i64 (0)))))⟩] none) (.block 0 
 (.loop ⟨[0, 3, 4, 5], []⟩
 (.seq (.seq (.reg [⟨(some 8), none, (.mv (.t 5))⟩,
  ⟨(some 9), none, (.bin .eql (.t 8) (.c (.sc (.int .i64 (0)))))⟩,
  ⟨(some 10), none, (.mv (.t 9))⟩,
  ⟨(some 11), (some (10, false)), (.mv (.t 4))⟩,
  ⟨(some 12), (some (10, false)), (.bin .neq (.t 11) (.c (.sc (.int .i64 (0)))))⟩,
  ⟨(some 13), none, (.pick (.t 10) (.c (.sc (.bool true))) (.t 12))⟩] none)
 (.cond (.t 13) .skip (.exit 0)))
 (.seq (.block 1
 (.seq (.reg [⟨(some 16), none, (.mv (.t 4))⟩,
  ⟨(some 17), none, (.bin .rem (.t 16) (.c (.sc (.int .i64 (10)))))⟩,
  ⟨(some 18), none, (.mv (.t 4))⟩,
  ⟨(some 19), none, (.bin .rem (.t 18) (.c (.sc (.int .i64 (10)))))⟩,
  ⟨(some 20), none, (.un .neg (.t 19))⟩,
  ⟨(some 21), none, (.mx (.t 17) (.t 20))⟩,
  ⟨(some 6), none, (.mv (.t 21))⟩] none)
 (.seq (.reg [⟨(some 22), none, (.mv (.t 6))⟩,
  ⟨(some 23), none, (.bin .add (.c (.sc (.int .i64 (48)))) (.t 22))⟩,
  ⟨(some 24), none, (.conv .u8 (.t 23))⟩,
  ⟨(some 25), none, (.bslice 5 1 [(.t 24)])⟩,
  ⟨(some 26), none, (.bstr (.t 25))⟩,
  ⟨(some 27), none, (.mv (.t 3))⟩,
  ⟨(some 28), none, (.bin .add (.t 26) (.t 27))⟩,
  ⟨(some 3), none, (.mv (.t 28))⟩] none) (.reg [⟨(some 29), none, (.mv (.t 4))⟩,
  ⟨(some 30), none, (.bin .quo (.t 29) (.c (.sc (.int .i64 (10)))))⟩,
  ⟨(some 4), none, (.mv (.t 30))⟩] none)))) (.reg [⟨(some 14), none, (.mv (.t 5))⟩,
  ⟨(some 15), none, (.bin .add (.t 14) (.c (.sc (.int .i64 (1)))))⟩,
  ⟨(some 5), none, (.mv (.t 15))⟩] none))))))
 (.seq (.seq (.reg [⟨(some 31), none, (.mv (.t 0))⟩,
  ⟨(some 32), none, (.bin .lss (.t 31) (.c (.sc (.int .i64 (0)))))⟩] none)
 (.cond (.t 32)
 (.seq (.reg [⟨(some 33), none, (.mv (.t 3))⟩,
  ⟨(some 34), none, (.bin .add (.c (.sc (.string ⟨#[45]⟩))) (.t 33))⟩,
  ⟨(some 2), none, (.mv (.t 34))⟩] none) .ret) .skip))
 (.seq (.reg [⟨(some 35), none, (.mv (.t 3))⟩,
  ⟨(some 2), none, (.mv (.t 35))⟩] none) .ret)))))
theorem good35 {args : List PV} {r : PV} (hl : args.length ≤ 36) (h : Run Tryd.prog [.code ac35] (endQ [(.t 2)] r) ⟨initT 0 args, [], 0, 36⟩) : Good Tryd.prog 35 args r :=
  good_run (by kernel_rfl) Xbmix Tryd.func35 rfl (hs := [⟨[0, 3, 4, 5], []⟩]) (hs' := []) (by kernel_rfl) hl h
def ac36 : ACode :=
 (.seq (.reg [⟨(some 2), none, (.mv (.c (.sc (.string ⟨#[]⟩))))⟩] none)
 (.seq (.seq (.reg [⟨(some 3), none, (.mv (.t 0))⟩,
  ⟨(some 4), none, (.bin .lss (.t 3) (.c (.sc (.int .i64 (0)))))⟩] none)
 (.cond (.t 4)
 (.seq (.reg [⟨(some 5), none, (.mv (.t 0))⟩,
  ⟨(some 6), none, (.un .neg (.t 5))⟩,
  ⟨(some 7), none, (.call 36 [(.t 6)])⟩,
  ⟨(some 8), none, (.bin .add (.c (.sc (.string ⟨#[45]⟩))) (.t 7))⟩,
  ⟨(some 2), none, (.mv (.t 8))⟩] none) .ret) .skip))
 (.seq (.reg [⟨(some 9), none, (.mv (.t 0))⟩,
  ⟨(some 10), none, (.bin .quo (.t 9) (.c (.sc (.int .i64 (100)))))⟩,
  ⟨(some 11), none, (.call 35 [(.t 10)])⟩,
  ⟨(some 12), none, (.bin .add (.t 11) (.c (.sc (.string ⟨#[46]⟩))))⟩,
  ⟨(some 13), none, (.mv (.t 0))⟩,
  ⟨(some 14), none, (.bin .quo (.t 13) (.c (.sc (.int .i64 (10)))))⟩,
  ⟨(some 15), none, (.bin .rem (.t 14) (.c (.sc (.int .i64 (10)))))⟩,
  ⟨(some 16), none, (.call 35 [(.t 15)])⟩,
  ⟨(some 17), none, (.bin .add (.t 12) (.t 16))⟩,
  ⟨(some 18), none, (.mv (.t 0))⟩,
  ⟨(some 19), none, (.bin .rem (.t 18) (.c (.sc (.int .i64 (10)))))⟩,
  ⟨(some 20), none, (.call 35 [(.t 19)])⟩,
  ⟨(some 21), none, (.bin .add (.t 17) (.t 20))⟩,
  ⟨(some 2), none, (.mv (.t 21))⟩] none) .ret)))
theorem good36 {args : List PV} {r : PV} (hl : args.length ≤ 22) (h : Run Tryd.prog [.code ac36] (endQ [(.t 2)] r) ⟨initT 0 args, [], 0, 22⟩) : Good Tryd.prog 36 args r :=
  good_run (by kernel_rfl) Xbmix Tryd.func36 rfl (hs := []) (hs' := []) (by kernel_rfl) hl h
def ac16 : ACode :=
 (.seq (.reg [⟨(some 1), none, (.boxv (.t 0))⟩,
  ⟨(some 2), none, (.mv (.c (.sc (.slice none 0 0))))⟩,
  ⟨(some 3), none, (.mv (.c (.sc (.int .i64 (0)))))⟩] none)
 (.seq (.seq (.reg [⟨(some 12), none, (.load 7 true (.t 1))⟩,
  ⟨(some 13), none, (.call 18 [(.t 12)])⟩,
  ⟨(some 4), none, (.mv (.t 13))⟩] none)
 (.seq (.reg [⟨(some 14), none, (.mv (.t 4))⟩,
  ⟨(some 15), none, (.bin .neq (.t 14) (.c (.sc (.int .i64 (0)))))⟩] none)
 (.cond (.t 15)
 (.seq (.reg [⟨(some 16), none, (.mv (.t 4))⟩,
  ⟨(some 2), none, (.mv (.c (.sc (.slice none 0 0))))⟩,
  ⟨(some 3), none, (.mv (.t 16))⟩] none) .ret) .skip)))
 (.seq (.reg [⟨(some 17), none, (.faddr 0 (.t 1))⟩,
  ⟨(some 18), none, (.load 1 false (.t 17))⟩,
  ⟨(some 19), none, (.call 35 [(.t 18)])⟩,
  ⟨(some 20), none, (.bin .add (.c (.sc (.string ⟨#[105, 110, 118, 111, 105, 99, 101, 32]⟩))) (.t 19))⟩,
  ⟨(some 21), none, (.bin .add (.t 20) (.c (.sc (.string ⟨#[32, 114, 105, 100, 101, 114, 32]⟩))))⟩,
  ⟨(some 22), none, (.faddr 1 (.t 1))⟩,
  ⟨(some 23), none, (.load 1 false (.t 22))⟩,
  ⟨(some 24), none, (.call 35 [(.t 23)])⟩,
  ⟨(some 25), none, (.bin .add (.t 21) (.t 24))⟩,
  ⟨(some 26), none, (.bin .add (.t 25) (.c (.sc (.string ⟨#[32, 102, 114, 111, 109, 32]⟩))))⟩,
  ⟨(some 27), none, (.faddr 2 (.t 1))⟩,
  ⟨(some 28), none, (.faddr 0 (.t 27))⟩,
  ⟨(some 29), none, (.load 1 false (.t 28))⟩,
  ⟨(some 30), none, (.call 35 [(.t 29)])⟩,
  ⟨(some 31), none, (.bin .add (.t 26) (.t 30))⟩,
  ⟨(some 32), none, (.bin .add (.t 31) (.c (.sc (.string ⟨#[32, 116, 111, 32]⟩))))⟩,
  ⟨(some 33), none, (.faddr 2 (.t 1))⟩,
  ⟨(some 34), none, (.faddr 1 (.t 33))⟩,
  ⟨(some 35), none, (.load 1 false (.t 34))⟩,
  ⟨(some 36), none, (.call 35 [(.t 35)])⟩,
  ⟨(some 37), none, (.bin .add (.t 32) (.t 36))⟩,
  ⟨(some 38), none, (.bslice 9 1 [(.t 37)])⟩,
  ⟨(some 5), none, (.mv (.t 38))⟩] (some [[], [0], [1, 0], [2, 1, 0], [3, 2, 1, 0], [], [5], [6, 2, 5, 1, 0], [4, 7, 3, 2, 1, 0, 6, 5], [8, 4, 7, 3, 2, 1, 0, 6, 5], [], [10], [11, 10], [12, 7, 11, 10, 6, 2, 5, 1, 0], [9, 13, 8, 4, 7, 3, 2, 1, 0, 6, 5, 12, 11, 10], [14, 9, 13, 8, 4, 7, 3, 2, 1, 0, 6, 5, 12, 11, 10], [], [16], [17, 16], [18, 13, 17, 16, 12, 7, 11, 10, 6, 2, 5, 1, 0], [15, 19, 14, 9, 13, 8, 4, 7, 3, 2, 1, 0, 6, 5, 12, 11, 10, 18, 17, 16], [20, 15, 19, 14, 9, 13, 8, 4, 7, 3, 2, 1, 0, 6, 5, 12, 11, 10, 18, 17, 16], [21, 19, 0, 1, 2, 3, 4, 5, 6, 7, 8, 9, 10, 11, 12, 13, 14, 15, 16, 17, 18, 20]]))
 (.seq (.seq (.reg [⟨(some 6), none, (.mv (.c (.sc (.int .i64 (0)))))⟩] none) (.block 0 
 (.loop ⟨[1, 5, 6], [(5, (9, 1))]⟩
 (.seq (.seq (.reg [⟨(some 39), none, (.mv (.t 6))⟩,
  ⟨(some 40), none, (.faddr 4 (.t 1))⟩,
  ⟨(some 41), none, (.load 1 false (.t 40))⟩,
  ⟨(some 42), none, (.len (.t 41))⟩,
  ⟨(some 43), none, (.bin .lss (.t 39) (.t 42))⟩] none)
 (.cond (.t 43) .skip (.exit 0)))
 (.seq (.block 1
 (.seq (.reg [⟨(some 46), none, (.faddr 4 (.t 1))⟩,
  ⟨(some 47), none, (.load 1 false (.t 46))⟩,
  ⟨(some 48), none, (.mv (.t 6))⟩,
  ⟨(some 49), none, (.iaddr 4 (.t 47) (.t 48))⟩,
  ⟨(some 50), none, (.load 4 true (.t 49))⟩,
  ⟨(some 7), none, (.new [(.sc (.int .i64 (0))), (.sc (.int .i64 (0))), (.sc (.slice none 0 0)), (.sc (.int .i64 (0)))])⟩,
  ⟨none, none, (.store 4 (.t 7) (.t 50))⟩] none)
 (.seq (.reg [⟨(some 51), none, (.mv (.t 5))⟩,
  ⟨(some 52), none, (.faddr 0 (.t 7))⟩,
  ⟨(some 53), none, (.load 1 false (.t 52))⟩,
  ⟨(some 54), none, (.call 35 [(.t 53)])⟩,
  ⟨(some 55), none, (.bin .add (.c (.sc (.string ⟨#[114, 105, 100, 101, 32]⟩))) (.t 54))⟩,
  ⟨(some 56), none, (.bin .add (.t 55) (.c (.sc (.string ⟨#[32, 116, 111, 116, 97, 108, 32]⟩))))⟩,
  ⟨(some 57), none, (.faddr 3 (.t 7))⟩,
  ⟨(some 58), none, (.load 1 false (.t 57))⟩,
  ⟨(some 59), none, (.call 36 [(.t 58)])⟩,
  ⟨(some 60), none, (.bin .add (.t 56) (.t 59))⟩,
  ⟨(some 61), none, (.bslice 9 1 [(.t 60)])⟩,
  ⟨(some 62), none, (.append 9 1 16 (.t 51) (.t 61))⟩,
  ⟨(some 5), none, (.mv (.t 62))⟩] (some [[], [], [1], [2, 1], [3, 2, 1], [4, 3, 2, 1], [], [6], [7, 3, 6, 2, 1], [5, 8, 4, 3, 2, 1, 7, 6], [9, 5, 8, 4, 3, 2, 1, 7, 6], [0, 10, 8, 9, 5, 4, 3, 2, 1, 7, 6], [11, 0, 1, 2, 3, 4, 5, 6, 7, 8, 9, 10]]))
 (.seq (.reg [⟨(some 8), none, (.mv (.c (.sc (.int .i64 (0)))))⟩] none) (.block 2 
 (.loop ⟨[1, 5, 6, 7, 8], [(5, (9, 1))]⟩
 (.seq (.seq (.reg [⟨(some 63), none, (.mv (.t 8))⟩,
  ⟨(some 64), none, (.faddr 2 (.t 7))⟩,
  ⟨(some 65), none, (.load 1 false (.t 64))⟩,
  ⟨(some 66), none, (.len (.t 65))⟩,
  ⟨(some 67), none, (.bin .lss (.t 63) (.t 66))⟩] none)
 (.cond (.t 67) .skip (.exit 2)))
 (.seq (.block 3
 (.seq (.reg [⟨(some 70), none, (.faddr 2 (.t 7))⟩,
  ⟨(some 71), none, (.load 1 false (.t 70))⟩,
  ⟨(some 72), none, (.mv (.t 8))⟩,
  ⟨(some 73), none, (.iaddr 3 (.t 71) (.t 72))⟩,
  ⟨(some 74), none, (.load 3 true (.t 73))⟩,
  ⟨(some 9), none, (.new [(.sc (.int .i64 (0))), (.sc (.int .i64 (0))), (.sc (.int .i64 (0)))])⟩,
  ⟨none, none, (.store 3 (.t 9) (.t 74))⟩] none) (.reg [⟨(some 75), none, (.mv (.t 5))⟩,
  ⟨(some 76), none, (.mv (.t 8))⟩,
  ⟨(some 77), none, (.call 35 [(.t 76)])⟩,
  ⟨(some 78), none, (.bin .add (.c (.sc (.string ⟨#[105, 116, 101, 109, 32]⟩))) (.t 77))⟩,
  ⟨(some 79), none, (.bin .add (.t 78) (.c (.sc (.string ⟨#[32, 107, 105, 110, 100, 32]⟩))))⟩,
  ⟨(some 80), none, (.faddr 0 (.t 9))⟩,
  ⟨(some 81), none, (.load 1 false (.t 80))⟩,
  ⟨(some 82), none, (.call 35 [(.t 81)])⟩,
  ⟨(some 83), none, (.bin .add (.t 79) (.t 82))⟩,
  ⟨(some 84), none, (.bin .add (.t 83) (.c (.sc (.string ⟨#[32, 114, 101, 102, 32]⟩))))⟩,
  ⟨(some 85), none, (.faddr 1 (.t 9))⟩,
  ⟨(some 86), none, (.load 1 false (.t 85))⟩,
  ⟨(some 87), none, (.call 35 [(.t 86)])⟩,
  ⟨(some 88), none, (.bin .add (.t 84) (.t 87))⟩,
  ⟨(some 89), none, (.bin .add (.t 88) (.c (.sc (.string ⟨#[32, 97, 109, 111, 117, 110, 116, 32]⟩))))⟩,
  ⟨(some 90), none, (.faddr 2 (.t 9))⟩,
  ⟨(some 91), none, (.load 1 false (.t 90))⟩,
  ⟨(some 92), none, (.call 36 [(.t 91)])⟩,
  ⟨(some 93), none, (.bin .add (.t 89) (.t 92))⟩,
  ⟨(some 94), none, (.bslice 9 1 [(.t 93)])⟩,
  ⟨(some 95), none, (.append 9 1 16 (.t 75) (.t 94))⟩,
  ⟨(some 5), none, (.mv (.t 95))⟩] (some [[], [], [1], [2, 1], [3, 2, 1], [], [5], [6, 2, 5, 1], [4, 7, 3, 2, 1, 6, 5], [8, 4, 7, 3, 2, 1, 6, 5], [], [10], [11, 7, 10, 6, 2, 5, 1], [9, 12, 8, 4, 7, 3, 2, 1, 6, 5, 11, 10], [13, 9, 12, 8, 4, 7, 3, 2, 1, 6, 5, 11, 10], [], [15], [16, 12, 15, 11, 7, 10, 6, 2, 5, 1], [14, 17, 13, 9, 12, 8, 4, 7, 3, 2, 1, 6, 5, 11, 10, 16, 15], [18, 14, 17, 13, 9, 12, 8, 4, 7, 3, 2, 1, 6, 5, 11, 10, 16, 15], [0, 19, 17, 18, 14, 13, 9, 12, 8, 4, 7, 3, 2, 1, 6, 5, 11, 10, 16, 15], [20, 0, 1, 2, 3, 4, 5, 6, 7, 8, 9, 10, 11, 12, 13, 14, 15, 16, 17, 18, 19]])))) (.reg [⟨(some 68), none, (.mv (.t 8))⟩,
  ⟨(some 69), none, (.bin .add (.t 68) (.c (.sc (.int .i64 (1)))))⟩,
  ⟨(some 8), none, (.mv (.t 69))⟩] none))))))))) (.reg [⟨(some 44), none, (.mv (.t 6))⟩,
  ⟨(some 45), none, (.bin .add (.t 44) (.c (.sc (.int .i64 (1)))))⟩,
  ⟨(some 6), none, (.mv (.t 45))⟩] none))))))
 (.seq (.seq (.reg [⟨(some 10), none, (.mv (.c (.sc (.int .i64 (0)))))⟩] none) (.block 4 
 (.loop ⟨[1, 5, 10], [(5, (9, 1))]⟩
 (.seq (.seq (.reg [⟨(some 96), none, (.mv (.t 10))⟩,
  ⟨(some 97), none, (.faddr 5 (.t 1))⟩,
  ⟨(some 98), none, (.load 1 false (.t 97))⟩,
  ⟨(some 99), none, (.len (.t 98))⟩,
  ⟨(some 100), none, (.bin .lss (.t 96) (.t 99))⟩] none)
 (.cond (.t 100) .skip (.exit 4)))
 (.seq (.block 5
 (.seq (.reg [⟨(some 103), none, (.faddr 5 (.t 1))⟩,
  ⟨(some 104), none, (.load 1 false (.t 103))⟩,
  ⟨(some 105), none, (.mv (.t 10))⟩,
  ⟨(some 106), none, (.iaddr 4 (.t 104) (.t 105))⟩,
  ⟨(some 107), none, (.load 4 true (.t 106))⟩,
  ⟨(some 11), none, (.new [(.sc (.int .i64 (0))), (.sc (.int .i64 (0))), (.sc (.int .i64 (0))), (.sc (.int .i64 (0)))])⟩,
  ⟨none, none, (.store 4 (.t 11) (.t 107))⟩] none) (.reg [⟨(some 108), none, (.mv (.t 5))⟩,
  ⟨(some 109), none, (.faddr 0 (.t 11))⟩,
  ⟨(some 110), none, (.load 1 false (.t 109))⟩,
  ⟨(some 111), none, (.call 35 [(.t 110)])⟩,
  ⟨(some 112), none, (.bin .add (.c (.sc (.string ⟨#[114, 101, 102, 117, 110, 100, 32]⟩))) (.t 111))⟩,
  ⟨(some 113), none, (.bin .add (.t 112) (.c (.sc (.string ⟨#[32, 114, 105, 100, 101, 32]⟩))))⟩,
  ⟨(some 114), none, (.faddr 1 (.t 11))⟩,
  ⟨(some 115), none, (.load 1 false (.t 114))⟩,
  ⟨(some 116), none, (.call 35 [(.t 115)])⟩,
  ⟨(some 117), none, (.bin .add (.t 113) (.t 116))⟩,
  ⟨(some 118), none, (.bin .add (.t 117) (.c (.sc (.string ⟨#[32, 105, 116, 101, 109, 32]⟩))))⟩,
  ⟨(some 119), none, (.faddr 2 (.t 11))⟩,
  ⟨(some 120), none, (.load 1 false (.t 119))⟩,
  ⟨(some 121), none, (.call 35 [(.t 120)])⟩,
  ⟨(some 122), none, (.bin .add (.t 118) (.t 121))⟩,
  ⟨(some 123), none, (.bin .add (.t 122) (.c (.sc (.string ⟨#[32, 97, 109, 111, 117, 110, 116, 32]⟩))))⟩,
  ⟨(some 124), none, (.faddr 3 (.t 11))⟩,
  ⟨(some 125), none, (.load 1 false (.t 124))⟩,
  ⟨(some 126), none, (.call 36 [(.t 125)])⟩,
  ⟨(some 127), none, (.bin .add (.t 123) (.t 126))⟩,
  ⟨(some 128), none, (.bslice 9 1 [(.t 127)])⟩,
  ⟨(some 129), none, (.append 9 1 16 (.t 108) (.t 128))⟩,
  ⟨(some 5), none, (.mv (.t 129))⟩] (some [[], [], [1], [2, 1], [3, 2, 1], [4, 3, 2, 1], [], [6], [7, 3, 6, 2, 1], [5, 8, 4, 3, 2, 1, 7, 6], [9, 5, 8, 4, 3, 2, 1, 7, 6], [], [11], [12, 8, 11, 7, 3, 6, 2, 1], [10, 13, 9, 5, 8, 4, 3, 2, 1, 7, 6, 12, 11], [14, 10, 13, 9, 5, 8, 4, 3, 2, 1, 7, 6, 12, 11], [], [16], [17, 13, 16, 12, 8, 11, 7, 3, 6, 2, 1], [15, 18, 14, 10, 13, 9, 5, 8, 4, 3, 2, 1, 7, 6, 12, 11, 17, 16], [19, 15, 18, 14, 10, 13, 9, 5, 8, 4, 3, 2, 1, 7, 6, 12, 11, 17, 16], [0, 20, 18, 19, 15, 14, 10, 13, 9, 5, 8, 4, 3, 2, 1, 7, 6, 12, 11, 17, 16], [21, 0, 1, 2, 3, 4, 5, 6, 7, 8, 9, 10, 11, 12, 13, 14, 15, 16, 17, 18, 19, 20]])))) (.reg [⟨(some 101), none, (.mv (.t 10))⟩,
  ⟨(some 102), none, (.bin .add (.t 101) (.c (.sc (.int .i64 (1)))))⟩,
  ⟨(some 10), none, (.mv (.t 102))⟩] none))))))
 (.seq (.reg [⟨(some 130), none, (.mv (.t 5))⟩,
  ⟨(some 131), none, (.faddr 6 (.t 1))⟩,
  ⟨(some 132), none, (.load 1 false (.t 131))⟩,
  ⟨(some 133), none, (.call 36 [(.t 132)])⟩,
  ⟨(some 134), none, (.bin .add (.c (.sc (.string ⟨#[116, 111, 116, 97, 108, 32]⟩))) (.t 133))⟩,
  ⟨(some 135), none, (.bslice 9 1 [(.t 134)])⟩,
  ⟨(some 136), none, (.append 9 1 16 (.t 130) (.t 135))⟩,
  ⟨(some 2), none, (.mv (.t 136))⟩,
  ⟨(some 3), none, (.mv (.c (.sc (.int .i64 (0)))))⟩] none) .ret))))))
theorem good16 {args : List PV} {r : PV} (hl : args.length ≤ 137) (h : Run Tryd.prog [.code ac16] (endQ [(.t 2), (.t 3)] r) ⟨initT 0 args, [], 0, 137⟩) : Good Tryd.prog 16 args r :=
  good_run (by kernel_rfl) Xbmix Tryd.func16 rfl (hs := [⟨[1, 5, 6], [(5, 9, 1)]⟩, ⟨[1, 5, 6, 7, 8], [(5, 9, 1)]⟩, ⟨[1, 5, 10], [(5, 9, 1)]⟩]) (hs' := []) (by kernel_rfl) hl h
def ac21 : ACode :=
 (.seq (.reg [⟨(some 4), none, (.mv (.c (.sc (.bool false))))⟩] none)
 (.seq (.seq (.reg [⟨(some 7), none, (.mv (.t 0))⟩,
  ⟨(some 8), none, (.len (.t 7))⟩,
  ⟨(some 9), none, (.mv (.t 1))⟩,
  ⟨(some 10), none, (.len (.t 9))⟩,
  ⟨(some 11), none, (.bin .neq (.t 8) (.t 10))⟩] none)
 (.cond (.t 11)
 (.seq (.reg [⟨(some 4), none, (.mv (.c (.sc (.bool false))))⟩] none) .ret) .skip))
 (.seq (.seq (.reg [⟨(some 5), none, (.mv (.c (.sc (.int .i64 (0)))))⟩] none) (.block 0 
 (.loop ⟨[0, 1, 5], []⟩
 (.seq (.seq (.reg [⟨(some 12), none, (.mv (.t 5))⟩,
  ⟨(some 13), none, (.mv (.t 0))⟩,
  ⟨(some 14), none, (.len (.t 13))⟩,
  ⟨(some 15), none, (.bin .lss (.t 12) (.t 14))⟩] none)
 (.cond (.t 15) .skip (.exit 0)))
 (.seq (.block 1
 (.seq (.seq (.reg [⟨(some 18), none, (.mv (.t 0))⟩,
  ⟨(some 19), none, (.mv (.t 5))⟩,
  ⟨(some 20), none, (.iaddr 4 (.t 18) (.t 19))⟩,
  ⟨(some 21), none, (.faddr 0 (.t 20))⟩,
  ⟨(some 22), none, (.load 1 false (.t 21))⟩,
  ⟨(some 23), none, (.mv (.t 1))⟩,
  ⟨(some 24), none, (.mv (.t 5))⟩,
  ⟨(some 25), none, (.iaddr 4 (.t 23) (.t 24))⟩,
  ⟨(some 26), none, (.faddr 0 (.t 25))⟩,
  ⟨(some 27), none, (.load 1 false (.t 26))⟩,
  ⟨(some 28), none, (.bin .neq (.t 22) (.t 27))⟩,
  ⟨(some 29), none, (.mv (.t 28))⟩,
  ⟨(some 30), (some (29, false)), (.mv (.t 0))⟩,
  ⟨(some 31), (some (29, false)), (.mv (.t 5))⟩,
  ⟨(some 32), (some (29, false)), (.iaddr 4 (.t 30) (.t 31))⟩,
  ⟨(some 33), (some (29, false)), (.faddr 1 (.t 32))⟩,
  ⟨(some 34), (some (29, false)), (.load 1 false (.t 33))⟩,
  ⟨(some 35), (some (29, false)), (.mv (.t 1))⟩,
  ⟨(some 36), (some (29, false)), (.mv (.t 5))⟩,
  ⟨(some 37), (some (29, false)), (.iaddr 4 (.t 35) (.t 36))⟩,
  ⟨(some 38), (some (29, false)), (.faddr 1 (.t 37))⟩,
  ⟨(some 39), (some (29, false)), (.load 1 false (.t 38))⟩,
  ⟨(some 40), (some (29, false)), (.bin .neq (.t 34) (.t 39))⟩,
  ⟨(some 41), none, (.pick (.t 29) (.c (.sc (.bool true))) (.t 40))⟩,
  ⟨(some 42), none, (.mv (.t 41))⟩,
  ⟨(some 43), (some (42, false)), (.mv (.t 0))⟩,
  ⟨(some 44), (some (42, false)), (.mv (.t 5))⟩,
  ⟨(some 45), (some (42, false)), (.iaddr 4 (.t 43) (.t 44))⟩,
  ⟨(some 46), (some (42, false)), (.faddr 3 (.t 45))⟩,
  ⟨(some 47), (some (42, false)), (.load 1 false (.t 46))⟩,
  ⟨(some 48), (some (42, false)), (.mv (.t 1))⟩,
  ⟨(some 49), (some (42, false)), (.mv (.t 5))⟩,
  ⟨(some 50), (some (42, false)), (.iaddr 4 (.t 48) (.t 49))⟩,
  ⟨(some 51), (some (42, false)), (.faddr 3 (.t 50))⟩,
  ⟨(some 52), (some (42, false)), (.load 1 false (.t 51))⟩,
  ⟨(some 53), (some (42, false)), (.bin .neq (.t 47) (.t 52))⟩,
  ⟨(some 54), none, (.pick (.t 42) (.c (.sc (.bool true))) (.t 53))⟩,
  ⟨(some 55), none, (.mv (.t 54))⟩,
  ⟨(some 56), (some (55, false)), (.mv (.t 0))⟩,
  ⟨(some 57), (some (55, false)), (.mv (.t 5))⟩,
  ⟨(some 58), (some (55, false)), (.iaddr 4 (.t 56) (.t 57))⟩,
  ⟨(some 59), (some (55, false)), (.faddr 2 (.t 58))⟩,
  ⟨(some 60), (some (55, false)), (.load 1 false (.t 59))⟩,
  ⟨(some 61), (some (55, false)), (.len (.t 60))⟩,
  ⟨(some 62), (some (55, false)), (.mv (.t 1))⟩,
  ⟨(some 63), (some (55, false)), (.mv (.t 5))⟩,
  ⟨(some 64), (some (55, false)), (.iaddr 4 (.t 62) (.t 63))⟩,
  ⟨(some 65), (some (55, false)), (.faddr 2 (.t 64))⟩,
  ⟨(some 66), (some (55, false)), (.load 1 false (.t 65))⟩,
  ⟨(some 67), (some (55, false)), (.len (.t 66))⟩,
  ⟨(some 68), (some (55, false)), (.bin .neq (.t 61) (.t 67))⟩,
  ⟨(some 69), none, (.pick (.t 55) (.c (.sc (.bool true))) (.t 68))⟩] (some [[], [], [0, 1], [2, 0, 1], [3, 2, 0, 1], [], [], [5, 6], [7, 5, 6], [8, 7, 5, 6], [4, 9, 3, 2, 0, 1, 8, 7, 5, 6], [10, 4, 9, 3, 2, 0, 1, 8, 7, 5, 6], [11, 10, 4, 9, 3, 2, 0, 1, 8, 7, 5, 6], [11, 10, 4, 9, 3, 2, 0, 1, 8, 7, 5, 6], [12, 13, 11, 10, 4, 9, 3, 2, 0, 1, 8, 7, 5, 6], [14, 11, 12, 13, 10, 4, 9, 3, 2, 0, 1, 8, 7, 5, 6], [15, 11, 14, 12, 13, 10, 4, 9, 3, 2, 0, 1, 8, 7, 5, 6], [11, 10, 4, 9, 3, 2, 0, 1, 8, 7, 5, 6], [11, 10, 4, 9, 3, 2, 0, 1, 8, 7, 5, 6], [17, 18, 11, 10, 4, 9, 3, 2, 0, 1, 8, 7, 5, 6], [19, 11, 17, 18, 10, 4, 9, 3, 2, 0, 1, 8, 7, 5, 6], [20, 11, 19, 17, 18, 10, 4, 9, 3, 2, 0, 1, 8, 7, 5, 6], [16, 21, 11, 15, 14, 12, 13, 10, 4, 9, 3, 2, 0, 1, 8, 7, 5, 6, 20, 19, 17, 18], [11, 22, 10, 4, 9, 3, 2, 0, 1, 8, 7, 5, 6, 16, 21, 15, 14, 12, 13, 20, 19, 17, 18], [23, 11, 22, 10, 4, 9, 3, 2, 0, 1, 8, 7, 5, 6, 16, 21, 15, 14, 12, 13, 20, 19, 17, 18], [24, 23, 11, 22, 10, 4, 9, 3, 2, 0, 1, 8, 7, 5, 6, 16, 21, 15, 14, 12, 13, 20, 19, 17, 18], [24, 23, 11, 22, 10, 4, 9, 3, 2, 0, 1, 8, 7, 5, 6, 16, 21, 15, 14, 12, 13, 20, 19, 17, 18], [25, 26, 24, 23, 11, 22, 10, 4, 9, 3, 2, 0, 1, 8, 7, 5, 6, 16, 21, 15, 14, 12, 13, 20, 19, 17, 18], [27, 24, 25, 26, 23, 11, 22, 10, 4, 9, 3, 2, 0, 1, 8, 7, 5, 6, 16, 21, 15, 14, 12, 13, 20, 19, 17, 18], [28, 24, 27, 25, 26, 23, 11, 22, 10, 4, 9, 3, 2, 0, 1, 8, 7, 5, 6, 16, 21, 15, 14, 12, 13, 20, 19, 17, 18], [24, 23, 11, 22, 10, 4, 9, 3, 2, 0, 1, 8, 7, 5, 6, 16, 21, 15, 14, 12, 13, 20, 19, 17, 18], [24, 23, 11, 22, 10, 4, 9, 3, 2, 0, 1, 8, 7, 5, 6, 16, 21, 15, 14, 12, 13, 20, 19, 17, 18], [30, 31, 24, 23, 11, 22, 10, 4, 9, 3, 2, 0, 1, 8, 7, 5, 6, 16, 21, 15, 14, 12, 13, 20, 19, 17, 18], [32, 24, 30, 31, 23, 11, 22, 10, 4, 9, 3, 2, 0, 1, 8, 7, 5, 6, 16, 21, 15, 14, 12, 13, 20, 19, 17, 18], [33, 24, 32, 30, 31, 23, 11, 22, 10, 4, 9, 3, 2, 0, 1, 8, 7, 5, 6, 16, 21, 15, 14, 12, 13, 20, 19, 17, 18], [29, 34, 24, 28, 27, 25, 26, 23, 11, 22, 10, 4, 9, 3, 2, 0, 1, 8, 7, 5, 6, 16, 21, 15, 14, 12, 13, 20, 19, 17, 18, 33, 32, 30, 31], [24, 35, 23, 11, 22, 10, 4, 9, 3, 2, 0, 1, 8, 7, 5, 6, 16, 21, 15, 14, 12, 13, 20, 19, 17, 18, 29, 34, 28, 27, 25, 26, 33, 32, 30, 31], [36, 24, 35, 23, 11, 22, 10, 4, 9, 3, 2, 0, 1, 8, 7, 5, 6, 16, 21, 15, 14, 12, 13, 20, 19, 17, 18, 29, 34, 28, 27, 25, 26, 33, 32, 30, 31], [37, 36, 24, 35, 23, 11, 22, 10, 4, 9, 3, 2, 0, 1, 8, 7, 5, 6, 16, 21, 15, 14, 12, 13, 20, 19, 17, 18, 29, 34, 28, 27, 25, 26, 33, 32, 30, 31], [37, 36, 24, 35, 23, 11, 22, 10, 4, 9, 3, 2, 0, 1, 8, 7, 5, 6, 16, 21, 15, 14, 12, 13, 20, 19, 17, 18, 29, 34, 28, 27, 25, 26, 33, 32, 30, 31], [38, 39, 37, 36, 24, 35, 23, 11, 22, 10, 4, 9, 3, 2, 0, 1, 8, 7, 5, 6, 16, 21, 15, 14, 12, 13, 20, 19, 17, 18, 29, 34, 28, 27, 25, 26, 33, 32, 30, 31], [40, 37, 38, 39, 36, 24, 35, 23, 11, 22, 10, 4, 9, 3, 2, 0, 1, 8, 7, 5, 6, 16, 21, 15, 14, 12, 13, 20, 19, 17, 18, 29, 34, 28, 27, 25, 26, 33, 32, 30, 31], [41, 37, 40, 38, 39, 36, 24, 35, 23, 11, 22, 10, 4, 9, 3, 2, 0, 1, 8, 7, 5, 6, 16, 21, 15, 14, 12, 13, 20, 19, 17, 18, 29, 34, 28, 27, 25, 26, 33, 32, 30, 31], [42, 37, 41, 40, 38, 39, 36, 24, 35, 23, 11, 22, 10, 4, 9, 3, 2, 0, 1, 8, 7, 5, 6, 16, 21, 15, 14, 12, 13, 20, 19, 17, 18, 29, 34, 28, 27, 25, 26, 33, 32, 30, 31], [37, 36, 24, 35, 23, 11, 22, 10, 4, 9, 3, 2, 0, 1, 8, 7, 5, 6, 16, 21, 15, 14, 12, 13, 20, 19, 17, 18, 29, 34, 28, 27, 25, 26, 33, 32, 30, 31], [37, 36, 24, 35, 23, 11, 22, 10, 4, 9, 3, 2, 0, 1, 8, 7, 5, 6, 16, 21, 15, 14, 12, 13, 20, 19, 17, 18, 29, 34, 28, 27, 25, 26, 33, 32, 30, 31], [44, 45, 37, 36, 24, 35, 23, 11, 22, 10, 4, 9, 3, 2, 0, 1, 8, 7, 5, 6, 16, 21, 15, 14, 12, 13, 20, 19, 17, 18, 29, 34, 28, 27, 25, 26, 33, 32, 30, 31], [46, 37, 44, 45, 36, 24, 35, 23, 11, 22, 10, 4, 9, 3, 2, 0, 1, 8, 7, 5, 6, 16, 21, 15, 14, 12, 13, 20, 19, 17, 18, 29, 34, 28, 27, 25, 26, 33, 32, 30, 31], [47, 37, 46, 44, 45, 36, 24, 35, 23, 11, 22, 10, 4, 9, 3, 2, 0, 1, 8, 7, 5, 6, 16, 21, 15, 14, 12, 13, 20, 19, 17, 18, 29, 34, 28, 27, 25, 26, 33, 32, 30, 31], [48, 37, 47, 46, 44, 45, 36, 24, 35, 23, 11, 22, 10, 4, 9, 3, 2, 0, 1, 8, 7, 5, 6, 16, 21, 15, 14, 12, 13, 20, 19, 17, 18, 29, 34, 28, 27, 25, 26, 33, 32, 30, 31], [43, 49, 37, 42, 41, 40, 38, 39, 36, 24, 35, 23, 11, 22, 10, 4, 9, 3, 2, 0, 1, 8, 7, 5, 6, 16, 21, 15, 14, 12, 13, 20, 19, 17, 18, 29, 34, 28, 27, 25, 26, 33, 32, 30, 31, 48, 47, 46, 44, 45], [37, 50, 36, 24, 35, 23, 11, 22, 10, 4, 9, 3, 2, 0, 1, 8, 7, 5, 6, 16, 21, 15, 14, 12, 13, 20, 19, 17, 18, 29, 34, 28, 27, 25, 26, 33, 32, 30, 31, 43, 49, 42, 41, 40, 38, 39, 48, 47, 46, 44, 45]]))
 (.cond (.t 69)
 (.seq (.reg [⟨(some 4), none, (.mv (.c (.sc (.bool false))))⟩] none) .ret) .skip))
 (.seq (.reg [⟨(some 6), none, (.mv (.c (.sc (.int .i64 (0)))))⟩] none) (.block 2 
 (.loop ⟨[0, 1, 5, 6], []⟩
 (.seq (.seq (.reg [⟨(some 70), none, (.mv (.t 6))⟩,
  ⟨(some 71), none, (.mv (.t 0))⟩,
  ⟨(some 72), none, (.mv (.t 5))⟩,
  ⟨(some 73), none, (.iaddr 4 (.t 71) (.t 72))⟩,
  ⟨(some 74), none, (.faddr 2 (.t 73))⟩,
  ⟨(some 75), none, (.load 1 false (.t 74))⟩,
  ⟨(some 76), none, (.len (.t 75))⟩,
  ⟨(some 77), none, (.bin .lss (.t 70) (.t 76))⟩] none)
 (.cond (.t 77) .skip (.exit 2)))
 (.seq (.block 3
 (.seq (.reg [⟨(some 80), none, (.mv (.t 0))⟩,
  ⟨(some 81), none, (.mv (.t 5))⟩,
  ⟨(some 82), none, (.iaddr 4 (.t 80) (.t 81))⟩,
  ⟨(some 83), none, (.faddr 2 (.t 82))⟩,
  ⟨(some 84), none, (.load 1 false (.t 83))⟩,
  ⟨(some 85), none, (.mv (.t 6))⟩,
  ⟨(some 86), none, (.iaddr 3 (.t 84) (.t 85))⟩,
  ⟨(some 87), none, (.load 3 true (.t 86))⟩,
  ⟨(some 88), none, (.mv (.t 1))⟩,
  ⟨(some 89), none, (.mv (.t 5))⟩,
  ⟨(some 90), none, (.iaddr 4 (.t 88) (.t 89))⟩,
  ⟨(some 91), none, (.faddr 2 (.t 90))⟩,
  ⟨(some 92), none, (.load 1 false (.t 91))⟩,
  ⟨(some 93), none, (.mv (.t 6))⟩,
  ⟨(some 94), none, (.iaddr 3 (.t 92) (.t 93))⟩,
  ⟨(some 95), none, (.load 3 true (.t 94))⟩,
  ⟨(some 96), none, (.eqs true [(.i .i64), (.i .i64), (.i .i64)] (.t 87) (.t 95))⟩] (some [[], [], [0, 1], [2, 0, 1], [3, 2, 0, 1], [], [4, 5, 3, 2, 0, 1], [6, 4, 5, 3, 2, 0, 1], [], [], [8, 9], [10, 8, 9], [11, 10, 8, 9], [], [12, 13, 11, 10, 8, 9], [14, 12, 13, 11, 10, 8, 9], [7, 15, 6, 4, 5, 3, 2, 0, 1, 14, 12, 13, 11, 10, 8, 9]]))
 (.cond (.t 96)
 (.seq (.reg [⟨(some 4), none, (.mv (.c (.sc (.bool false))))⟩] none) .ret) .skip))) (.reg [⟨(some 78), none, (.mv (.t 6))⟩,
  ⟨(some 79), none, (.bin .add (.t 78) (.c (.sc (.int .i64 (1)))))⟩,
  ⟨(some 6), none, (.mv (.t 79))⟩] none)))))))) (.reg [⟨(some 16), none, (.mv (.t 5))⟩,
  ⟨(some 17), none, (.bin .add (.t 16) (.c (.sc (.int .i64 (1)))))⟩,
  ⟨(some 5), none, (.mv (.t 17))⟩] none))))))
 (.seq (.reg [⟨(some 4), none, (.mv (.c (.sc (.bool true))))⟩] none) .ret))))
theorem good21 {args : List PV} {r : PV} (hl : args.length ≤ 97) (h : Run Tryd.prog [.code ac21] (endQ [(.t 4)] r) ⟨initT 0 args, [], 0, 97⟩) : Good Tryd.prog 21 args r :=
  good_run (by kernel_rfl) Xbmix Tryd.func21 rfl (hs := [⟨[0, 1, 5], []⟩, ⟨[0, 1, 5, 6], []⟩]) (hs' := []) (by kernel_rfl) hl h
def ac13 : ACode :=
 (.seq (.reg [⟨(some 2), none, (.boxv (.t 0))⟩,
  ⟨(some 3), none, (.boxv (.t 1))⟩,
  ⟨(some 4), none, (.mv (.c (.sc (.bool false))))⟩] none)
 (.seq (.reg [⟨(some 5), none, (.faddr 0 (.t 2))⟩,
  ⟨(some 6), none, (.load 1 false (.t 5))⟩,
  ⟨(some 7), none, (.faddr 0 (.t 3))⟩,
  ⟨(some 8), none, (.load 1 false (.t 7))⟩,
  ⟨(some 9), none, (.bin .eql (.t 6) (.t 8))⟩,
  ⟨(some 10), none, (.mv (.t 9))⟩,
  ⟨(some 11), (some (10, true)), (.faddr 1 (.t 2))⟩,
  ⟨(some 12), (some (10, true)), (.load 1 false (.t 11))⟩,
  ⟨(some 13), (some (10, true)), (.faddr 1 (.t 3))⟩,
  ⟨(some 14), (some (10, true)), (.load 1 false (.t 13))⟩,
  ⟨(some 15), (some (10, true)), (.bin .eql (.t 12) (.t 14))⟩,
  ⟨(some 16), none, (.pick (.t 10) (.t 15) (.c (.sc (.bool false))))⟩,
  ⟨(some 17), none, (.mv (.t 16))⟩,
  ⟨(some 18), (some (17, true)), (.faddr 2 (.t 2))⟩,
  ⟨(some 19), (some (17, true)), (.load 2 true (.t 18))⟩,
  ⟨(some 20), (some (17, true)), (.faddr 2 (.t 3))⟩,
  ⟨(some 21), (some (17, true)), (.load 2 true (.t 20))⟩,
  ⟨(some 22), (some (17, true)), (.eqs false [(.i .i64), (.i .i64)] (.t 19) (.t 21))⟩,
  ⟨(some 23), none, (.pick (.t 17) (.t 22) (.c (.sc (.bool false))))⟩,
  ⟨(some 24), none, (.mv (.t 23))⟩,
  ⟨(some 25), (some (24, true)), (.faddr 6 (.t 2))⟩,
  ⟨(some 26), (some (24, true)), (.load 1 false (.t 25))⟩,
  ⟨(some 27), (some (24, true)), (.faddr 6 (.t 3))⟩,
  ⟨(some 28), (some (24, true)), (.load 1 false (.t 27))⟩,
  ⟨(some 29), (some (24, true)), (.bin .eql (.t 26) (.t 28))⟩,
  ⟨(some 30), none, (.pick (.t 24) (.t 29) (.c (.sc (.bool false))))⟩,
  ⟨(some 31), none, (.mv (.t 30))⟩,
  ⟨(some 32), (some (31, true)), (.faddr 4 (.t 2))⟩,
  ⟨(some 33), (some (31, true)), (.load 1 false (.t 32))⟩,
  ⟨(some 34), (some (31, true)), (.faddr 4 (.t 3))⟩,
  ⟨(some 35), (some (31, true)), (.load 1 false (.t 34))⟩,
  ⟨(some 36), (some (31, true)), (.call 21 [(.t 33), (.t 35)])⟩,
  ⟨(some 37), none, (.pick (.t 31) (.t 36) (.c (.sc (.bool false))))⟩,
  ⟨(some 38), none, (.mv (.t 37))⟩,
  ⟨(some 39), (some (38, true)), (.faddr 5 (.t 2))⟩,
  ⟨(some 40), (some (38, true)), (.load 1 false (.t 39))⟩,
  ⟨(some 41), (some (38, true)), (.faddr 5 (.t 3))⟩,
  ⟨(some 42), (some (38, true)), (.load 1 false (.t 41))⟩,
  ⟨(some 43), (some (38, true)), (.call 31 [(.t 40), (.t 42)])⟩,
  ⟨(some 44), none, (.pick (.t 38) (.t 43) (.c (.sc (.bool false))))⟩,
  ⟨(some 4), none, (.mv (.t 44))⟩] none) .ret))
theorem good13 {args : List PV} {r : PV} (hl : args.length ≤ 45) (h : Run Tryd.prog [.code ac13] (endQ [(.t 4)] r) ⟨initT 0 args, [], 0, 45⟩) : Good Tryd.prog 13 args r :=
  good_run (by kernel_rfl) Xbmix Tryd.func13 rfl (hs := []) (hs' := []) (by kernel_rfl) hl h
def ac19 : ACode :=
 (.seq (.reg [⟨(some 4), none, (.mv (.c (.sc (.bool false))))⟩] none)
 (.seq (.seq (.reg [⟨(some 6), none, (.mv (.t 0))⟩,
  ⟨(some 7), none, (.len (.t 6))⟩,
  ⟨(some 8), none, (.mv (.t 1))⟩,
  ⟨(some 9), none, (.len (.t 8))⟩,
  ⟨(some 10), none, (.bin .neq (.t 7) (.t 9))⟩] none)
 (.cond (.t 10)
 (.seq (.reg [⟨(some 4), none, (.mv (.c (.sc (.bool false))))⟩] none) .ret) .skip))
 (.seq (.seq (.reg [⟨(some 5), none, (.mv (.c (.sc (.int .i64 (0)))))⟩] none) (.block 0 
 (.loop ⟨[0, 1, 5], []⟩
 (.seq (.seq (.reg [⟨(some 11), none, (.mv (.t 5))⟩,
  ⟨(some 12), none, (.mv (.t 0))⟩,
  ⟨(some 13), none, (.len (.t 12))⟩,
  ⟨(some 14), none, (.bin .lss (.t 11) (.t 13))⟩] none)
 (.cond (.t 14) .skip (.exit 0)))
 (.seq (.block 1
 (.seq (.reg [⟨(some 17), none, (.mv (.t 0))⟩,
  ⟨(some 18), none, (.mv (.t 5))⟩,
  ⟨(some 19), none, (.iaddr 1 (.t 17) (.t 18))⟩,
  ⟨(some 20), none, (.load 1 false (.t 19))⟩,
  ⟨(some 21), none, (.mv (.t 1))⟩,
  ⟨(some 22), none, (.mv (.t 5))⟩,
  ⟨(some 23), none, (.iaddr 1 (.t 21) (.t 22))⟩,
  ⟨(some 24), none, (.load 1 false (.t 23))⟩,
  ⟨(some 25), none, (.bin .neq (.t 20) (.t 24))⟩] (some [[], [], [0, 1], [2, 0, 1], [], [], [4, 5], [6, 4, 5], [3, 7, 2, 0, 1, 6, 4, 5]]))
 (.cond (.t 25)
 (.seq (.reg [⟨(some 4), none, (.mv (.c (.sc (.bool false))))⟩] none) .ret) .skip))) (.reg [⟨(some 15), none, (.mv (.t 5))⟩,
  ⟨(some 16), none, (.bin .add (.t 15) (.c (.sc (.int .i64 (1)))))⟩,
  ⟨(some 5), none, (.mv (.t 16))⟩] none))))))
 (.seq (.reg [⟨(some 4), none, (.mv (.c (.sc (.bool true))))⟩] none) .ret))))
theorem good19 {args : List PV} {r : PV} (hl : args.length ≤ 26) (h : Run Tryd.prog [.code ac19] (endQ [(.t 4)] r) ⟨initT 0 args, [], 0, 26⟩) : Good Tryd.prog 19 args r :=
  good_run (by kernel_rfl) Xbmix Tryd.func19 rfl (hs := [⟨[0, 1, 5], []⟩]) (hs' := []) (by kernel_rfl) hl h
end Go.Proofs.YtaejaogidkgalaaDoor
