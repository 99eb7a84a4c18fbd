/-
  The translated codes of functions, checked by the kernel.
-/
import Derived.Test.YthgnbkcopapbmaaKc
import Derived.KernelRfl
namespace Go.Proofs.Ythgnbkcopapbmaa
set_option linter.unusedVariables false
set_option linter.unusedSimpArgs false
set_option linter.unnecessarySimpa false
theorem Eamix : Try.prog.follows .mixedOrders = true := by kernel_rfl
def ac4 : ACode :=
 (.seq (.reg [⟨(some 4), none, (.boxv (.t 0))⟩,
  ⟨(some 7), none, (.boxv (.t 3))⟩,
  ⟨(some 8), none, (.mv (.c (.sc (.bool false))))⟩] none)
 (.seq (.seq (.reg [⟨(some 29), none, (.faddr 7 (.t 4))⟩,
  ⟨(some 30), none, (.load 1 false (.t 29))⟩,
  ⟨(some 31), none, (.len (.t 30))⟩,
  ⟨(some 32), none, (.bin .gtr (.t 31) (.c (.sc (.int .i64 (20)))))⟩,
  ⟨(some 33), none, (.mv (.t 32))⟩,
  ⟨(some 34), (some (33, false)), (.faddr 8 (.t 4))⟩,
  ⟨(some 35), (some (33, false)), (.load 1 false (.t 34))⟩,
  ⟨(some 36), (some (33, false)), (.len (.t 35))⟩,
  ⟨(some 37), (some (33, false)), (.bin .gtr (.t 36) (.c (.sc (.int .i64 (20)))))⟩,
  ⟨(some 38), none, (.pick (.t 33) (.c (.sc (.bool true))) (.t 37))⟩,
  ⟨(some 39), none, (.mv (.t 38))⟩,
  ⟨(some 40), (some (39, false)), (.mv (.t 1))⟩,
  ⟨(some 41), (some (39, false)), (.len (.t 40))⟩,
  ⟨(some 42), (some (39, false)), (.bin .gtr (.t 41) (.c (.sc (.int .i64 (10)))))⟩,
  ⟨(some 43), none, (.pick (.t 39) (.c (.sc (.bool true))) (.t 42))⟩] none)
 (.cond (.t 43)
 (.seq (.reg [⟨(some 44), none, (.call 8 [])⟩,
  ⟨(some 8), none, (.mv (.t 44))⟩] none) .ret) .skip))
 (.seq (.reg [⟨(some 46), none, (.load 13 true (.t 4))⟩,
  ⟨(some 47), none, (.mv (.t 1))⟩,
  ⟨(some 48), none, (.call 9 [(.t 46), (.t 47)])⟩,
  ⟨(some 45), none, (.mv (.t 48))⟩,
  ⟨(some 49), none, (.ext 0 (.t 45))⟩,
  ⟨(some 50), none, (.ext 1 (.t 45))⟩,
  ⟨(some 51), none, (.ext 2 (.t 45))⟩,
  ⟨(some 9), none, (.new [(.sc (.int .i64 (0))), (.sc (.int .i64 (0))), (.sc (.int .i64 (0))), (.sc (.int .i64 (0))), (.sc (.int .i64 (0))), (.sc (.int .i64 (0))), (.sc (.bool false)), (.sc (.slice none 0 0)), (.sc (.slice none 0 0)), (.sc (.int .i64 (0))), (.sc (.int .i64 (0))), (.sc (.int .i64 (0))), (.sc (.int .i64 (0)))])⟩,
  ⟨none, none, (.store 13 (.t 9) (.t 49))⟩,
  ⟨(some 10), none, (.mv (.t 50))⟩,
  ⟨(some 11), none, (.mv (.t 51))⟩] none)
 (.seq (.reg [⟨(some 53), none, (.load 13 true (.t 4))⟩,
  ⟨(some 54), none, (.call 10 [(.t 53)])⟩,
  ⟨(some 52), none, (.mv (.t 54))⟩,
  ⟨(some 55), none, (.ext 0 (.t 52))⟩,
  ⟨(some 56), none, (.ext 1 (.t 52))⟩,
  ⟨(some 12), none, (.new [(.sc (.int .i64 (0))), (.sc (.int .i64 (0)))])⟩,
  ⟨none, none, (.store 2 (.t 12) (.t 55))⟩,
  ⟨(some 13), none, (.mv (.t 56))⟩] none)
 (.seq (.reg [⟨(some 58), none, (.load 13 true (.t 4))⟩,
  ⟨(some 59), none, (.call 11 [(.t 58)])⟩,
  ⟨(some 57), none, (.mv (.t 59))⟩,
  ⟨(some 60), none, (.ext 0 (.t 57))⟩,
  ⟨(some 61), none, (.ext 1 (.t 57))⟩,
  ⟨(some 14), none, (.new [(.sc (.int .i64 (0))), (.sc (.int .i64 (0)))])⟩,
  ⟨none, none, (.store 2 (.t 14) (.t 60))⟩,
  ⟨(some 15), none, (.mv (.t 61))⟩] none)
 (.seq (.reg [⟨(some 63), none, (.load 13 true (.t 9))⟩,
  ⟨(some 64), none, (.call 10 [(.t 63)])⟩,
  ⟨(some 62), none, (.mv (.t 64))⟩,
  ⟨(some 65), none, (.ext 0 (.t 62))⟩,
  ⟨(some 66), none, (.ext 1 (.t 62))⟩,
  ⟨(some 16), none, (.new [(.sc (.int .i64 (0))), (.sc (.int .i64 (0)))])⟩,
  ⟨none, none, (.store 2 (.t 16) (.t 65))⟩,
  ⟨(some 17), none, (.mv (.t 66))⟩] none)
 (.seq (.reg [⟨(some 68), none, (.load 13 true (.t 9))⟩,
  ⟨(some 69), none, (.call 11 [(.t 68)])⟩,
  ⟨(some 67), none, (.mv (.t 69))⟩,
  ⟨(some 70), none, (.ext 0 (.t 67))⟩,
  ⟨(some 71), none, (.ext 1 (.t 67))⟩,
  ⟨(some 18), none, (.new [(.sc (.int .i64 (0))), (.sc (.int .i64 (0)))])⟩,
  ⟨none, none, (.store 2 (.t 18) (.t 70))⟩,
  ⟨(some 19), none, (.mv (.t 71))⟩] none)
 (.seq (.seq (.reg [⟨(some 72), none, (.mv (.t 11))⟩,
  ⟨(some 73), none, (.bin .neq (.t 72) (.c (.sc (.int .i64 (0)))))⟩,
  ⟨(some 74), none, (.mv (.t 73))⟩,
  ⟨(some 75), (some (74, false)), (.mv (.t 13))⟩,
  ⟨(some 76), (some (74, false)), (.bin .neq (.t 75) (.c (.sc (.int .i64 (0)))))⟩,
  ⟨(some 77), none, (.pick (.t 74) (.c (.sc (.bool true))) (.t 76))⟩] none)
 (.cond (.t 77)
 (.seq (.reg [⟨(some 78), none, (.call 8 [])⟩,
  ⟨(some 8), none, (.mv (.t 78))⟩] none) .ret) .skip))
 (.seq (.seq (.reg [⟨(some 79), none, (.mv (.t 15))⟩,
  ⟨(some 80), none, (.bin .neq (.t 79) (.c (.sc (.int .i64 (0)))))⟩,
  ⟨(some 81), none, (.mv (.t 80))⟩,
  ⟨(some 82), (some (81, false)), (.mv (.t 17))⟩,
  ⟨(some 83), (some (81, false)), (.bin .neq (.t 82) (.c (.sc (.int .i64 (0)))))⟩,
  ⟨(some 84), none, (.pick (.t 81) (.c (.sc (.bool true))) (.t 83))⟩,
  ⟨(some 85), none, (.mv (.t 84))⟩,
  ⟨(some 86), (some (85, false)), (.mv (.t 19))⟩,
  ⟨(some 87), (some (85, false)), (.bin .neq (.t 86) (.c (.sc (.int .i64 (0)))))⟩,
  ⟨(some 88), none, (.pick (.t 85) (.c (.sc (.bool true))) (.t 87))⟩] none)
 (.cond (.t 88)
 (.seq (.reg [⟨(some 8), none, (.mv (.c (.sc (.bool false))))⟩] none) .ret) .skip))
 (.seq (.seq (.reg [⟨(some 89), none, (.faddr 0 (.t 16))⟩,
  ⟨(some 90), none, (.load 1 false (.t 89))⟩,
  ⟨(some 91), none, (.faddr 0 (.t 12))⟩,
  ⟨(some 92), none, (.load 1 false (.t 91))⟩,
  ⟨(some 93), none, (.bin .neq (.t 90) (.t 92))⟩,
  ⟨(some 94), none, (.mv (.t 93))⟩,
  ⟨(some 95), (some (94, false)), (.faddr 1 (.t 16))⟩,
  ⟨(some 96), (some (94, false)), (.load 1 false (.t 95))⟩,
  ⟨(some 97), (some (94, false)), (.faddr 1 (.t 12))⟩,
  ⟨(some 98), (some (94, false)), (.load 1 false (.t 97))⟩,
  ⟨(some 99), (some (94, false)), (.bin .lss (.t 96) (.t 98))⟩,
  ⟨(some 100), none, (.pick (.t 94) (.c (.sc (.bool true))) (.t 99))⟩,
  ⟨(some 101), none, (.mv (.t 100))⟩,
  ⟨(some 102), (some (101, false)), (.faddr 0 (.t 18))⟩,
  ⟨(some 103), (some (101, false)), (.load 1 false (.t 102))⟩,
  ⟨(some 104), (some (101, false)), (.faddr 0 (.t 14))⟩,
  ⟨(some 105), (some (101, false)), (.load 1 false (.t 104))⟩,
  ⟨(some 106), (some (101, false)), (.bin .neq (.t 103) (.t 105))⟩,
  ⟨(some 107), none, (.pick (.t 101) (.c (.sc (.bool true))) (.t 106))⟩,
  ⟨(some 108), none, (.mv (.t 107))⟩,
  ⟨(some 109), (some (108, false)), (.faddr 1 (.t 18))⟩,
  ⟨(some 110), (some (108, false)), (.load 1 false (.t 109))⟩,
  ⟨(some 111), (some (108, false)), (.faddr 1 (.t 14))⟩,
  ⟨(some 112), (some (108, false)), (.load 1 false (.t 111))⟩,
  ⟨(some 113), (some (108, false)), (.bin .gtr (.t 110) (.t 112))⟩,
  ⟨(some 114), none, (.pick (.t 108) (.c (.sc (.bool true))) (.t 113))⟩,
  ⟨(some 115), none, (.mv (.t 114))⟩,
  ⟨(some 116), (some (115, false)), (.faddr 0 (.t 16))⟩,
  ⟨(some 117), (some (115, false)), (.load 1 false (.t 116))⟩,
  ⟨(some 118), (some (115, false)), (.faddr 0 (.t 18))⟩,
  ⟨(some 119), (some (115, false)), (.load 1 false (.t 118))⟩,
  ⟨(some 120), (some (115, false)), (.bin .lss (.t 117) (.t 119))⟩,
  ⟨(some 121), none, (.pick (.t 115) (.c (.sc (.bool true))) (.t 120))⟩,
  ⟨(some 122), none, (.mv (.t 121))⟩,
  ⟨(some 123), (some (122, false)), (.faddr 1 (.t 16))⟩,
  ⟨(some 124), (some (122, false)), (.load 1 false (.t 123))⟩,
  ⟨(some 125), (some (122, false)), (.faddr 0 (.t 16))⟩,
  ⟨(some 126), (some (122, false)), (.load 1 false (.t 125))⟩,
  ⟨(some 127), (some (122, false)), (.bin .gtr (.t 124) (.t 126))⟩,
  ⟨(some 128), (some (122, false)), (.mv (.t 127))⟩,
  ⟨(some 129), (some (128, true)), (.faddr 1 (.t 16))⟩,
  ⟨(some 130), (some (128, true)), (.load 1 false (.t 129))⟩,
  ⟨(some 131), (some (128, true)), (.faddr 1 (.t 18))⟩,
  ⟨(some 132), (some (128, true)), (.load 1 false (.t 131))⟩,
  ⟨(some 133), (some (128, true)), (.bin .gtr (.t 130) (.t 132))⟩,
  ⟨(some 134), (some (122, false)), (.pick (.t 128) (.t 133) (.c (.sc (.bool false))))⟩,
  ⟨(some 135), none, (.pick (.t 122) (.c (.sc (.bool true))) (.t 134))⟩] none)
 (.cond (.t 135)
 (.seq (.reg [⟨(some 8), none, (.mv (.c (.sc (.bool false))))⟩] none) .ret) .skip))
 (.seq (.reg [⟨(some 136), none, (.mv (.t 2))⟩,
  ⟨(some 137), none, (.faddr 4 (.t 4))⟩,
  ⟨(some 138), none, (.faddr 0 (.t 137))⟩,
  ⟨(some 139), none, (.load 1 false (.t 138))⟩,
  ⟨(some 140), none, (.bin .geq (.t 136) (.t 139))⟩,
  ⟨(some 141), none, (.mv (.t 140))⟩,
  ⟨(some 142), (some (141, true)), (.mv (.t 2))⟩,
  ⟨(some 143), (some (141, true)), (.faddr 4 (.t 4))⟩,
  ⟨(some 144), (some (141, true)), (.faddr 1 (.t 143))⟩,
  ⟨(some 145), (some (141, true)), (.load 1 false (.t 144))⟩,
  ⟨(some 146), (some (141, true)), (.bin .leq (.t 142) (.t 145))⟩,
  ⟨(some 147), none, (.pick (.t 141) (.t 146) (.c (.sc (.bool false))))⟩,
  ⟨(some 148), none, (.mv (.t 147))⟩,
  ⟨(some 149), (some (148, true)), (.mv (.t 10))⟩,
  ⟨(some 150), (some (148, true)), (.len (.t 149))⟩,
  ⟨(some 151), (some (148, true)), (.bin .eql (.t 150) (.c (.sc (.int .i64 (0)))))⟩,
  ⟨(some 152), none, (.pick (.t 148) (.t 151) (.c (.sc (.bool false))))⟩,
  ⟨(some 20), none, (.mv (.t 152))⟩] none)
 (.seq (.seq (.reg [⟨(some 21), none, (.mv (.c (.sc (.int .i64 (0)))))⟩] none) (.block 0 
 (.loop ⟨[1, 2, 4, 7, 9, 20, 21], []⟩
 (.seq (.seq (.reg [⟨(some 153), none, (.mv (.t 21))⟩,
  ⟨(some 154), none, (.mv (.t 1))⟩,
  ⟨(some 155), none, (.len (.t 154))⟩,
  ⟨(some 156), none, (.bin .lss (.t 153) (.t 155))⟩] none)
 (.cond (.t 156) .skip (.exit 0)))
 (.seq (.block 1 (.reg [⟨(some 159), none, (.mv (.t 20))⟩,
  ⟨(some 160), none, (.mv (.t 159))⟩,
  ⟨(some 161), (some (160, true)), (.mv (.t 1))⟩,
  ⟨(some 162), (some (160, true)), (.mv (.t 21))⟩,
  ⟨(some 163), (some (160, true)), (.iaddr 3 (.t 161) (.t 162))⟩,
  ⟨(some 164), (some (160, true)), (.faddr 0 (.t 163))⟩,
  ⟨(some 165), (some (160, true)), (.load 1 false (.t 164))⟩,
  ⟨(some 166), (some (160, true)), (.faddr 0 (.t 4))⟩,
  ⟨(some 167), (some (160, true)), (.load 1 false (.t 166))⟩,
  ⟨(some 168), (some (160, true)), (.bin .eql (.t 165) (.t 167))⟩,
  ⟨(some 169), none, (.pick (.t 160) (.t 168) (.c (.sc (.bool false))))⟩,
  ⟨(some 170), none, (.mv (.t 169))⟩,
  ⟨(some 171), (some (170, true)), (.mv (.t 1))⟩,
  ⟨(some 172), (some (170, true)), (.mv (.t 21))⟩,
  ⟨(some 173), (some (170, true)), (.iaddr 3 (.t 171) (.t 172))⟩,
  ⟨(some 174), (some (170, true)), (.faddr 1 (.t 173))⟩,
  ⟨(some 175), (some (170, true)), (.faddr 0 (.t 174))⟩,
  ⟨(some 176), (some (170, true)), (.load 1 false (.t 175))⟩,
  ⟨(some 177), (some (170, true)), (.mv (.t 2))⟩,
  ⟨(some 178), (some (170, true)), (.bin .leq (.t 176) (.t 177))⟩,
  ⟨(some 179), none, (.pick (.t 170) (.t 178) (.c (.sc (.bool false))))⟩,
  ⟨(some 180), none, (.mv (.t 179))⟩,
  ⟨(some 181), (some (180, true)), (.mv (.t 2))⟩,
  ⟨(some 182), (some (180, true)), (.mv (.t 1))⟩,
  ⟨(some 183), (some (180, true)), (.mv (.t 21))⟩,
  ⟨(some 184), (some (180, true)), (.iaddr 3 (.t 182) (.t 183))⟩,
  ⟨(some 185), (some (180, true)), (.faddr 1 (.t 184))⟩,
  ⟨(some 186), (some (180, true)), (.faddr 1 (.t 185))⟩,
  ⟨(some 187), (some (180, true)), (.load 1 false (.t 186))⟩,
  ⟨(some 188), (some (180, true)), (.bin .leq (.t 181) (.t 187))⟩,
  ⟨(some 189), none, (.pick (.t 180) (.t 188) (.c (.sc (.bool false))))⟩,
  ⟨(some 20), none, (.mv (.t 189))⟩] (some [[], [0], [1, 0], [1, 0], [2, 3, 1, 0], [4, 1, 2, 3, 0], [5, 1, 4, 2, 3, 0], [1, 0], [7, 1, 0], [6, 8, 1, 5, 4, 2, 3, 0, 7], [1, 9, 0, 6, 8, 5, 4, 2, 3, 7], [10, 1, 9, 0, 6, 8, 5, 4, 2, 3, 7], [11, 10, 1, 9, 0, 6, 8, 5, 4, 2, 3, 7], [11, 10, 1, 9, 0, 6, 8, 5, 4, 2, 3, 7], [12, 13, 11, 10, 1, 9, 0, 6, 8, 5, 4, 2, 3, 7], [14, 11, 12, 13, 10, 1, 9, 0, 6, 8, 5, 4, 2, 3, 7], [15, 11, 14, 12, 13, 10, 1, 9, 0, 6, 8, 5, 4, 2, 3, 7], [16, 11, 15, 14, 12, 13, 10, 1, 9, 0, 6, 8, 5, 4, 2, 3, 7], [11, 10, 1, 9, 0, 6, 8, 5, 4, 2, 3, 7], [17, 18, 11, 16, 15, 14, 12, 13, 10, 1, 9, 0, 6, 8, 5, 4, 2, 3, 7], [11, 19, 10, 1, 9, 0, 6, 8, 5, 4, 2, 3, 7, 17, 18, 16, 15, 14, 12, 13], [20, 11, 19, 10, 1, 9, 0, 6, 8, 5, 4, 2, 3, 7, 17, 18, 16, 15, 14, 12, 13], [21, 20, 11, 19, 10, 1, 9, 0, 6, 8, 5, 4, 2, 3, 7, 17, 18, 16, 15, 14, 12, 13], [21, 20, 11, 19, 10, 1, 9, 0, 6, 8, 5, 4, 2, 3, 7, 17, 18, 16, 15, 14, 12, 13], [21, 20, 11, 19, 10, 1, 9, 0, 6, 8, 5, 4, 2, 3, 7, 17, 18, 16, 15, 14, 12, 13], [23, 24, 21, 20, 11, 19, 10, 1, 9, 0, 6, 8, 5, 4, 2, 3, 7, 17, 18, 16, 15, 14, 12, 13], [25, 21, 23, 24, 20, 11, 19, 10, 1, 9, 0, 6, 8, 5, 4, 2, 3, 7, 17, 18, 16, 15, 14, 12, 13], [26, 21, 25, 23, 24, 20, 11, 19, 10, 1, 9, 0, 6, 8, 5, 4, 2, 3, 7, 17, 18, 16, 15, 14, 12, 13], [27, 21, 26, 25, 23, 24, 20, 11, 19, 10, 1, 9, 0, 6, 8, 5, 4, 2, 3, 7, 17, 18, 16, 15, 14, 12, 13], [22, 28, 21, 20, 11, 19, 10, 1, 9, 0, 6, 8, 5, 4, 2, 3, 7, 17, 18, 16, 15, 14, 12, 13, 27, 26, 25, 23, 24], [21, 29, 20, 11, 19, 10, 1, 9, 0, 6, 8, 5, 4, 2, 3, 7, 17, 18, 16, 15, 14, 12, 13, 22, 28, 27, 26, 25, 23, 24], [30, 21, 0, 1, 2, 3, 4, 5, 6, 7, 8, 9, 10, 11, 12, 13, 14, 15, 16, 17, 18, 19, 20, 22, 23, 24, 25, 26, 27, 28, 29]]))) (.reg [⟨(some 157), none, (.mv (.t 21))⟩,
  ⟨(some 158), none, (.bin .add (.t 157) (.c (.sc (.int .i64 (1)))))⟩,
  ⟨(some 21), none, (.mv (.t 158))⟩] none))))))
 (.seq (.seq (.reg [⟨(some 190), none, (.mv (.t 20))⟩,
  ⟨(some 191), none, (.un .not (.t 190))⟩] none)
 (.cond (.t 191)
 (.seq (.reg [⟨(some 192), none, (.call 8 [])⟩,
  ⟨(some 8), none, (.mv (.t 192))⟩] none) .ret) .skip))
 (.seq (.reg [⟨(some 194), none, (.load 13 true (.t 9))⟩,
  ⟨(some 195), none, (.call 12 [(.t 194)])⟩,
  ⟨(some 193), none, (.mv (.t 195))⟩,
  ⟨(some 196), none, (.ext 0 (.t 193))⟩,
  ⟨(some 197), none, (.ext 1 (.t 193))⟩,
  ⟨(some 198), none, (.ext 2 (.t 193))⟩,
  ⟨(some 22), none, (.mv (.t 196))⟩,
  ⟨(some 23), none, (.mv (.t 197))⟩,
  ⟨(some 24), none, (.mv (.t 198))⟩] none)
 (.seq (.seq (.reg [⟨(some 199), none, (.mv (.t 24))⟩,
  ⟨(some 200), none, (.bin .neq (.t 199) (.c (.sc (.int .i64 (0)))))⟩,
  ⟨(some 201), none, (.mv (.t 200))⟩,
  ⟨(some 202), (some (201, false)), (.mv (.t 22))⟩,
  ⟨(some 203), (some (201, false)), (.mv (.t 2))⟩,
  ⟨(some 204), (some (201, false)), (.faddr 2 (.t 4))⟩,
  ⟨(some 205), (some (201, false)), (.faddr 0 (.t 204))⟩,
  ⟨(some 206), (some (201, false)), (.load 1 false (.t 205))⟩,
  ⟨(some 207), (some (201, false)), (.bin .sub (.t 203) (.t 206))⟩,
  ⟨(some 208), (some (201, false)), (.mx (.t 207) (.c (.sc (.int .i64 (0)))))⟩,
  ⟨(some 209), (some (201, false)), (.bin .gtr (.t 202) (.t 208))⟩,
  ⟨(some 210), none, (.pick (.t 201) (.c (.sc (.bool true))) (.t 209))⟩] none)
 (.cond (.t 210)
 (.seq (.reg [⟨(some 8), none, (.mv (.c (.sc (.bool false))))⟩] none) .ret) .skip))
 (.seq (.reg [⟨(some 211), none, (.faddr 0 (.t 7))⟩,
  ⟨none, none, (.store 1 (.t 211) (.c (.sc (.int .i64 (0)))))⟩] none)
 (.seq (.reg [⟨(some 213), none, (.load 6 true (.t 7))⟩,
  ⟨(some 214), none, (.mv (.t 22))⟩,
  ⟨(some 215), none, (.call 13 [(.t 213), (.t 214)])⟩,
  ⟨(some 212), none, (.mv (.t 215))⟩,
  ⟨(some 216), none, (.ext 0 (.t 212))⟩,
  ⟨(some 217), none, (.ext 1 (.t 212))⟩,
  ⟨(some 25), none, (.mv (.t 216))⟩,
  ⟨(some 26), none, (.mv (.t 217))⟩] none)
 (.seq (.reg [⟨(some 219), none, (.load 6 true (.t 7))⟩,
  ⟨(some 220), none, (.mv (.t 2))⟩,
  ⟨(some 221), none, (.faddr 2 (.t 4))⟩,
  ⟨(some 222), none, (.faddr 0 (.t 221))⟩,
  ⟨(some 223), none, (.load 1 false (.t 222))⟩,
  ⟨(some 224), none, (.bin .sub (.t 220) (.t 223))⟩,
  ⟨(some 225), none, (.mx (.t 224) (.c (.sc (.int .i64 (0)))))⟩,
  ⟨(some 226), none, (.call 13 [(.t 219), (.t 225)])⟩,
  ⟨(some 218), none, (.mv (.t 226))⟩,
  ⟨(some 227), none, (.ext 0 (.t 218))⟩,
  ⟨(some 228), none, (.ext 1 (.t 218))⟩,
  ⟨(some 27), none, (.mv (.t 227))⟩,
  ⟨(some 28), none, (.mv (.t 228))⟩] none)
 (.seq (.seq (.reg [⟨(some 229), none, (.mv (.t 26))⟩,
  ⟨(some 230), none, (.bin .neq (.t 229) (.c (.sc (.int .i64 (0)))))⟩,
  ⟨(some 231), none, (.mv (.t 230))⟩,
  ⟨(some 232), (some (231, false)), (.mv (.t 28))⟩,
  ⟨(some 233), (some (231, false)), (.bin .neq (.t 232) (.c (.sc (.int .i64 (0)))))⟩,
  ⟨(some 234), none, (.pick (.t 231) (.c (.sc (.bool true))) (.t 233))⟩] none)
 (.cond (.t 234)
 (.seq (.reg [⟨(some 235), none, (.call 8 [])⟩,
  ⟨(some 8), none, (.mv (.t 235))⟩] none) .ret) .skip))
 (.seq (.reg [⟨(some 236), none, (.mv (.t 25))⟩,
  ⟨(some 237), none, (.mv (.t 27))⟩,
  ⟨(some 238), none, (.bin .leq (.t 236) (.t 237))⟩,
  ⟨(some 239), none, (.mv (.t 238))⟩,
  ⟨(some 240), (some (239, true)), (.call 8 [])⟩,
  ⟨(some 241), none, (.pick (.t 239) (.t 240) (.c (.sc (.bool false))))⟩,
  ⟨(some 8), none, (.mv (.t 241))⟩] none) .ret))))))))))))))))))))
theorem good4 {args : List PV} {r : PV} (hl : args.length ≤ 242) (h : Run Try.prog [.code ac4] (endQ [(.t 8)] r) ⟨initT 0 args, [], 0, 242⟩) : Good Try.prog 4 args r :=
  good_run (by kernel_rfl) Eamix Try.func4 rfl (hs := [⟨[1, 2, 4, 7, 9, 20, 21], []⟩]) (hs' := []) (by kernel_rfl) hl h
def ac8 : ACode :=
 (.seq (.reg [⟨(some 0), none, (.mv (.c (.sc (.bool false))))⟩] none)
 (.seq (.reg [⟨(some 11), none, (.build [(.sc (.int .i64 (0))), (.sc (.int .i64 (0)))] [(0, (1, (.c (.sc (.int .i64 (10)))))), (1, (1, (.c (.sc (.int .i64 (20))))))])⟩,
  ⟨(some 12), none, (.build [(.sc (.int .i64 (0))), (.sc (.int .i64 (0)))] [(0, (1, (.c (.sc (.int .i64 (100)))))), (1, (1, (.c (.sc (.int .i64 (140))))))])⟩,
  ⟨(some 1), none, (.new [(.sc (.int .i64 (0))), (.sc (.int .i64 (0)))])⟩,
  ⟨(some 2), none, (.new [(.sc (.int .i64 (0))), (.sc (.int .i64 (0)))])⟩,
  ⟨none, none, (.store 2 (.t 1) (.t 11))⟩,
  ⟨none, none, (.store 2 (.t 2) (.t 12))⟩] none)
 (.seq (.reg [⟨(some 13), none, (.load 2 true (.t 1))⟩,
  ⟨(some 14), none, (.load 2 true (.t 2))⟩,
  ⟨(some 15), none, (.load 2 true (.t 1))⟩,
  ⟨(some 16), none, (.load 2 true (.t 2))⟩,
  ⟨(some 17), none, (.build [(.sc (.int .i64 (0))), (.sc (.int .i64 (0))), (.sc (.int .i64 (0))), (.sc (.int .i64 (0))), (.sc (.int .i64 (0)))] [(1, (2, (.t 15))), (3, (2, (.t 16)))])⟩,
  ⟨(some 18), none, (.bslice 59 5 [(.t 17)])⟩,
  ⟨(some 19), none, (.build [(.sc (.int .i64 (0))), (.sc (.int .i64 (0))), (.sc (.int .i64 (0))), (.sc (.int .i64 (0))), (.sc (.int .i64 (0))), (.sc (.int .i64 (0))), (.sc (.bool false)), (.sc (.slice none 0 0)), (.sc (.slice none 0 0)), (.sc (.int .i64 (0))), (.sc (.int .i64 (0))), (.sc (.int .i64 (0))), (.sc (.int .i64 (0)))] [(0, (1, (.c (.sc (.int .i64 (1)))))), (2, (2, (.t 13))), (4, (2, (.t 14))), (7, (1, (.t 18))), (9, (1, (.c (.sc (.int .i64 (2)))))), (11, (1, (.c (.sc (.int .i64 (2))))))])⟩,
  ⟨(some 3), none, (.new [(.sc (.int .i64 (0))), (.sc (.int .i64 (0))), (.sc (.int .i64 (0))), (.sc (.int .i64 (0))), (.sc (.int .i64 (0))), (.sc (.int .i64 (0))), (.sc (.bool false)), (.sc (.slice none 0 0)), (.sc (.slice none 0 0)), (.sc (.int .i64 (0))), (.sc (.int .i64 (0))), (.sc (.int .i64 (0))), (.sc (.int .i64 (0)))])⟩,
  ⟨none, none, (.store 13 (.t 3) (.t 19))⟩] none)
 (.seq (.reg [⟨(some 21), none, (.load 13 true (.t 3))⟩,
  ⟨(some 22), none, (.build [(.sc (.int .i64 (0))), (.sc (.int .i64 (0)))] [(0, (1, (.c (.sc (.int .i64 (130)))))), (1, (1, (.c (.sc (.int .i64 (200))))))])⟩,
  ⟨(some 23), none, (.build [(.sc (.int .i64 (0))), (.sc (.int .i64 (0))), (.sc (.int .i64 (0)))] [(0, (1, (.c (.sc (.int .i64 (1)))))), (1, (2, (.t 22)))])⟩,
  ⟨(some 24), none, (.call 22 [(.t 21), (.t 23)])⟩,
  ⟨(some 20), none, (.mv (.t 24))⟩,
  ⟨(some 25), none, (.ext 0 (.t 20))⟩,
  ⟨(some 26), none, (.ext 1 (.t 20))⟩,
  ⟨(some 4), none, (.new [(.sc (.int .i64 (0))), (.sc (.int .i64 (0))), (.sc (.int .i64 (0))), (.sc (.int .i64 (0))), (.sc (.int .i64 (0))), (.sc (.int .i64 (0))), (.sc (.bool false)), (.sc (.slice none 0 0)), (.sc (.slice none 0 0)), (.sc (.int .i64 (0))), (.sc (.int .i64 (0))), (.sc (.int .i64 (0))), (.sc (.int .i64 (0)))])⟩,
  ⟨none, none, (.store 13 (.t 4) (.t 25))⟩,
  ⟨(some 5), none, (.mv (.t 26))⟩] none)
 (.seq (.reg [⟨(some 28), none, (.load 13 true (.t 4))⟩,
  ⟨(some 29), none, (.call 12 [(.t 28)])⟩,
  ⟨(some 27), none, (.mv (.t 29))⟩,
  ⟨(some 30), none, (.ext 0 (.t 27))⟩,
  ⟨(some 31), none, (.ext 1 (.t 27))⟩,
  ⟨(some 32), none, (.ext 2 (.t 27))⟩,
  ⟨(some 6), none, (.mv (.t 30))⟩,
  ⟨(some 7), none, (.mv (.t 31))⟩,
  ⟨(some 8), none, (.mv (.t 32))⟩] none)
 (.seq (.reg [⟨(some 34), none, (.build [(.sc (.int .i64 (0))), (.sc (.int .i64 (0))), (.sc (.int .i64 (0))), (.sc (.int .i64 (0))), (.sc (.int .i64 (0))), (.sc (.int .i64 (0)))] [(2, (1, (.c (.sc (.int .i64 (60)))))), (4, (1, (.c (.sc (.int .i64 (20))))))])⟩,
  ⟨(some 35), none, (.call 13 [(.t 34), (.c (.sc (.int .i64 (110))))])⟩,
  ⟨(some 33), none, (.mv (.t 35))⟩,
  ⟨(some 36), none, (.ext 0 (.t 33))⟩,
  ⟨(some 37), none, (.ext 1 (.t 33))⟩,
  ⟨(some 9), none, (.mv (.t 36))⟩,
  ⟨(some 10), none, (.mv (.t 37))⟩] none)
 (.seq (.reg [⟨(some 38), none, (.mv (.t 5))⟩,
  ⟨(some 39), none, (.bin .eql (.t 38) (.c (.sc (.int .i64 (0)))))⟩,
  ⟨(some 40), none, (.mv (.t 39))⟩,
  ⟨(some 41), (some (40, true)), (.faddr 4 (.t 4))⟩,
  ⟨(some 42), (some (40, true)), (.load 2 true (.t 41))⟩,
  ⟨(some 43), (some (40, true)), (.build [(.sc (.int .i64 (0))), (.sc (.int .i64 (0)))] [(0, (1, (.c (.sc (.int .i64 (130)))))), (1, (1, (.c (.sc (.int .i64 (140))))))])⟩,
  ⟨(some 44), (some (40, true)), (.eqs false [(.i .i64), (.i .i64)] (.t 42) (.t 43))⟩,
  ⟨(some 45), none, (.pick (.t 40) (.t 44) (.c (.sc (.bool false))))⟩,
  ⟨(some 46), none, (.mv (.t 45))⟩,
  ⟨(some 47), (some (46, true)), (.mv (.t 8))⟩,
  ⟨(some 48), (some (46, true)), (.bin .eql (.t 47) (.c (.sc (.int .i64 (0)))))⟩,
  ⟨(some 49), none, (.pick (.t 46) (.t 48) (.c (.sc (.bool false))))⟩,
  ⟨(some 50), none, (.mv (.t 49))⟩,
  ⟨(some 51), (some (50, true)), (.mv (.t 6))⟩,
  ⟨(some 52), (some (50, true)), (.bin .eql (.t 51) (.c (.sc (.int .i64 (110)))))⟩,
  ⟨(some 53), none, (.pick (.t 50) (.t 52) (.c (.sc (.bool false))))⟩,
  ⟨(some 54), none, (.mv (.t 53))⟩,
  ⟨(some 55), (some (54, true)), (.mv (.t 10))⟩,
  ⟨(some 56), (some (54, true)), (.bin .eql (.t 55) (.c (.sc (.int .i64 (0)))))⟩,
  ⟨(some 57), none, (.pick (.t 54) (.t 56) (.c (.sc (.bool false))))⟩,
  ⟨(some 58), none, (.mv (.t 57))⟩,
  ⟨(some 59), (some (58, true)), (.mv (.t 9))⟩,
  ⟨(some 60), (some (58, true)), (.bin .eql (.t 59) (.c (.sc (.int .i64 (40)))))⟩,
  ⟨(some 61), none, (.pick (.t 58) (.t 60) (.c (.sc (.bool false))))⟩,
  ⟨(some 0), none, (.mv (.t 61))⟩] none) .ret)))))))
theorem good8 {args : List PV} {r : PV} (hl : args.length ≤ 62) (h : Run Try.prog [.code ac8] (endQ [(.t 0)] r) ⟨initT 0 args, [], 0, 62⟩) : Good Try.prog 8 args r :=
  good_run (by kernel_rfl) Eamix Try.func8 rfl (hs := []) (hs' := []) (by kernel_rfl) hl h
def ac10 : ACode :=
 (.seq (.reg [⟨(some 1), none, (.boxv (.t 0))⟩,
  ⟨(some 2), none, (.new [(.sc (.int .i64 (0))), (.sc (.int .i64 (0)))])⟩,
  ⟨(some 3), none, (.mv (.c (.sc (.int .i64 (0)))))⟩] none)
 (.seq (.reg [⟨(some 5), none, (.load 13 true (.t 1))⟩,
  ⟨(some 6), none, (.call 23 [(.t 5)])⟩,
  ⟨(some 4), none, (.mv (.t 6))⟩] none)
 (.seq (.block 0
 (.seq (.reg [⟨(some 8), none, (.mv (.t 4))⟩,
  ⟨(some 9), none, (.bin .neq (.t 8) (.c (.sc (.int .i64 (0)))))⟩,
  ⟨(some 7), none, (.mv (.t 9))⟩] none)
 (.cond (.t 7)
 (.seq (.reg [⟨(some 10), none, (.build [(.sc (.int .i64 (0))), (.sc (.int .i64 (0)))] [])⟩,
  ⟨(some 11), none, (.mv (.t 4))⟩,
  ⟨none, none, (.store 2 (.t 2) (.t 10))⟩,
  ⟨(some 3), none, (.mv (.t 11))⟩] none) .ret)
 (.seq (.reg [⟨(some 13), none, (.faddr 6 (.t 1))⟩,
  ⟨(some 14), none, (.load 1 false (.t 13))⟩,
  ⟨(some 12), none, (.mv (.t 14))⟩] none)
 (.cond (.t 12)
 (.seq (.reg [⟨(some 15), none, (.build [(.sc (.int .i64 (0))), (.sc (.int .i64 (0)))] [])⟩,
  ⟨none, none, (.store 2 (.t 2) (.t 15))⟩,
  ⟨(some 3), none, (.mv (.c (.sc (.int .i64 (26)))))⟩] none) .ret) .skip)))))
 (.seq (.reg [⟨(some 16), none, (.faddr 2 (.t 1))⟩,
  ⟨(some 17), none, (.faddr 1 (.t 16))⟩,
  ⟨(some 18), none, (.load 1 false (.t 17))⟩,
  ⟨(some 19), none, (.faddr 2 (.t 1))⟩,
  ⟨(some 20), none, (.faddr 1 (.t 19))⟩,
  ⟨(some 21), none, (.load 1 false (.t 20))⟩,
  ⟨(some 22), none, (.faddr 4 (.t 1))⟩,
  ⟨(some 23), none, (.faddr 0 (.t 22))⟩,
  ⟨(some 24), none, (.load 1 false (.t 23))⟩,
  ⟨(some 25), none, (.mx (.t 21) (.t 24))⟩,
  ⟨(some 26), none, (.build [(.sc (.int .i64 (0))), (.sc (.int .i64 (0)))] [(0, (1, (.t 18))), (1, (1, (.t 25)))])⟩,
  ⟨none, none, (.store 2 (.t 2) (.t 26))⟩,
  ⟨(some 3), none, (.mv (.c (.sc (.int .i64 (0)))))⟩] none) .ret))))
theorem good10 {args : List PV} {r : PV} (hl : args.length ≤ 27) (h : Run Try.prog [.code ac10] (endQ [(.c 2 2 true), (.t 3)] r) ⟨initT 0 args, [], 0, 27⟩) : Good Try.prog 10 args r :=
  good_run (by kernel_rfl) Eamix Try.func10 rfl (hs := []) (hs' := []) (by kernel_rfl) hl h
def ac11 : ACode :=
 (.seq (.reg [⟨(some 1), none, (.boxv (.t 0))⟩,
  ⟨(some 2), none, (.new [(.sc (.int .i64 (0))), (.sc (.int .i64 (0)))])⟩,
  ⟨(some 3), none, (.mv (.c (.sc (.int .i64 (0)))))⟩] none)
 (.seq (.seq (.reg [⟨(some 7), none, (.load 13 true (.t 1))⟩,
  ⟨(some 8), none, (.call 10 [(.t 7)])⟩,
  ⟨(some 6), none, (.mv (.t 8))⟩,
  ⟨(some 9), none, (.ext 0 (.t 6))⟩,
  ⟨(some 10), none, (.ext 1 (.t 6))⟩,
  ⟨(some 4), none, (.new [(.sc (.int .i64 (0))), (.sc (.int .i64 (0)))])⟩,
  ⟨none, none, (.store 2 (.t 4) (.t 9))⟩,
  ⟨(some 5), none, (.mv (.t 10))⟩] none)
 (.seq (.reg [⟨(some 11), none, (.mv (.t 5))⟩,
  ⟨(some 12), none, (.bin .neq (.t 11) (.c (.sc (.int .i64 (0)))))⟩] none)
 (.cond (.t 12)
 (.seq (.reg [⟨(some 13), none, (.build [(.sc (.int .i64 (0))), (.sc (.int .i64 (0)))] [])⟩,
  ⟨(some 14), none, (.mv (.t 5))⟩,
  ⟨none, none, (.store 2 (.t 2) (.t 13))⟩,
  ⟨(some 3), none, (.mv (.t 14))⟩] none) .ret) .skip)))
 (.seq (.reg [⟨(some 15), none, (.faddr 2 (.t 1))⟩,
  ⟨(some 16), none, (.faddr 0 (.t 15))⟩,
  ⟨(some 17), none, (.load 1 false (.t 16))⟩,
  ⟨(some 18), none, (.faddr 4 (.t 1))⟩,
  ⟨(some 19), none, (.faddr 1 (.t 18))⟩,
  ⟨(some 20), none, (.load 1 false (.t 19))⟩,
  ⟨(some 21), none, (.build [(.sc (.int .i64 (0))), (.sc (.int .i64 (0)))] [(0, (1, (.t 17))), (1, (1, (.t 20)))])⟩,
  ⟨none, none, (.store 2 (.t 2) (.t 21))⟩,
  ⟨(some 3), none, (.mv (.c (.sc (.int .i64 (0)))))⟩] none) .ret)))
theorem good11 {args : List PV} {r : PV} (hl : args.length ≤ 22) (h : Run Try.prog [.code ac11] (endQ [(.c 2 2 true), (.t 3)] r) ⟨initT 0 args, [], 0, 22⟩) : Good Try.prog 11 args r :=
  good_run (by kernel_rfl) Eamix Try.func11 rfl (hs := []) (hs' := []) (by kernel_rfl) hl h
def ac12 : ACode :=
 (.seq (.reg [⟨(some 1), none, (.boxv (.t 0))⟩,
  ⟨(some 2), none, (.mv (.c (.sc (.int .i64 (0)))))⟩,
  ⟨(some 3), none, (.mv (.c (.sc (.int .i64 (0)))))⟩,
  ⟨(some 4), none, (.mv (.c (.sc (.int .i64 (0)))))⟩] none)
 (.seq (.reg [⟨(some 11), none, (.load 13 true (.t 1))⟩,
  ⟨(some 12), none, (.call 26 [(.t 11)])⟩,
  ⟨(some 10), none, (.mv (.t 12))⟩,
  ⟨(some 13), none, (.ext 0 (.t 10))⟩,
  ⟨(some 14), none, (.ext 1 (.t 10))⟩,
  ⟨(some 5), none, (.mv (.t 13))⟩,
  ⟨(some 6), none, (.mv (.t 14))⟩] none)
 (.seq (.seq (.reg [⟨(some 15), none, (.mv (.t 6))⟩,
  ⟨(some 16), none, (.bin .neq (.t 15) (.c (.sc (.int .i64 (0)))))⟩] none)
 (.cond (.t 16)
 (.seq (.reg [⟨(some 17), none, (.mv (.t 6))⟩,
  ⟨(some 2), none, (.mv (.c (.sc (.int .i64 (0)))))⟩,
  ⟨(some 3), none, (.mv (.c (.sc (.int .i64 (0)))))⟩,
  ⟨(some 4), none, (.mv (.t 17))⟩] none) .ret) .skip))
 (.seq (.reg [⟨(some 19), none, (.load 13 true (.t 1))⟩,
  ⟨(some 20), none, (.call 27 [(.t 19)])⟩,
  ⟨(some 18), none, (.mv (.t 20))⟩,
  ⟨(some 21), none, (.ext 0 (.t 18))⟩,
  ⟨(some 22), none, (.ext 1 (.t 18))⟩,
  ⟨(some 7), none, (.mv (.t 21))⟩,
  ⟨(some 6), none, (.mv (.t 22))⟩] none)
 (.seq (.seq (.reg [⟨(some 23), none, (.mv (.t 6))⟩,
  ⟨(some 24), none, (.bin .neq (.t 23) (.c (.sc (.int .i64 (0)))))⟩] none)
 (.cond (.t 24)
 (.seq (.reg [⟨(some 25), none, (.mv (.t 6))⟩,
  ⟨(some 2), none, (.mv (.c (.sc (.int .i64 (0)))))⟩,
  ⟨(some 3), none, (.mv (.c (.sc (.int .i64 (0)))))⟩,
  ⟨(some 4), none, (.mv (.t 25))⟩] none) .ret) .skip))
 (.seq (.reg [⟨(some 27), none, (.mv (.t 5))⟩,
  ⟨(some 28), none, (.call 28 [(.t 27)])⟩,
  ⟨(some 26), none, (.mv (.t 28))⟩,
  ⟨(some 29), none, (.ext 0 (.t 26))⟩,
  ⟨(some 30), none, (.ext 1 (.t 26))⟩,
  ⟨(some 8), none, (.mv (.t 29))⟩,
  ⟨(some 6), none, (.mv (.t 30))⟩] none)
 (.seq (.seq (.reg [⟨(some 31), none, (.mv (.t 6))⟩,
  ⟨(some 32), none, (.bin .neq (.t 31) (.c (.sc (.int .i64 (0)))))⟩] none)
 (.cond (.t 32)
 (.seq (.reg [⟨(some 33), none, (.mv (.t 6))⟩,
  ⟨(some 2), none, (.mv (.c (.sc (.int .i64 (0)))))⟩,
  ⟨(some 3), none, (.mv (.c (.sc (.int .i64 (0)))))⟩,
  ⟨(some 4), none, (.mv (.t 33))⟩] none) .ret) .skip))
 (.seq (.reg [⟨(some 35), none, (.mv (.t 7))⟩,
  ⟨(some 36), none, (.call 28 [(.t 35)])⟩,
  ⟨(some 34), none, (.mv (.t 36))⟩,
  ⟨(some 37), none, (.ext 0 (.t 34))⟩,
  ⟨(some 38), none, (.ext 1 (.t 34))⟩,
  ⟨(some 9), none, (.mv (.t 37))⟩,
  ⟨(some 6), none, (.mv (.t 38))⟩] none)
 (.seq (.seq (.reg [⟨(some 39), none, (.mv (.t 6))⟩,
  ⟨(some 40), none, (.bin .neq (.t 39) (.c (.sc (.int .i64 (0)))))⟩] none)
 (.cond (.t 40)
 (.seq (.reg [⟨(some 41), none, (.mv (.t 6))⟩,
  ⟨(some 2), none, (.mv (.c (.sc (.int .i64 (0)))))⟩,
  ⟨(some 3), none, (.mv (.c (.sc (.int .i64 (0)))))⟩,
  ⟨(some 4), none, (.mv (.t 41))⟩] none) .ret) .skip))
 (.seq (.reg [⟨(some 42), none, (.mv (.t 8))⟩,
  ⟨(some 43), none, (.mv (.t 9))⟩,
  ⟨(some 2), none, (.mv (.t 42))⟩,
  ⟨(some 3), none, (.mv (.t 43))⟩,
  ⟨(some 4), none, (.mv (.c (.sc (.int .i64 (0)))))⟩] none) .ret))))))))))
theorem good12 {args : List PV} {r : PV} (hl : args.length ≤ 44) (h : Run Try.prog [.code ac12] (endQ [(.t 2), (.t 3), (.t 4)] r) ⟨initT 0 args, [], 0, 44⟩) : Good Try.prog 12 args r :=
  good_run (by kernel_rfl) Eamix Try.func12 rfl (hs := []) (hs' := []) (by kernel_rfl) hl h
def ac13 : ACode :=
 (.seq (.reg [⟨(some 2), none, (.boxv (.t 0))⟩,
  ⟨(some 4), none, (.mv (.c (.sc (.int .i64 (0)))))⟩,
  ⟨(some 5), none, (.mv (.c (.sc (.int .i64 (0)))))⟩] none)
 (.seq (.reg [⟨(some 6), none, (.load 6 true (.t 2))⟩,
  ⟨(some 7), none, (.mv (.t 1))⟩,
  ⟨(some 8), none, (.call 29 [(.c (.sc (.func (.func 30) #[] #[]))), (.t 6), (.t 7)])⟩,
  ⟨(some 9), none, (.ext 0 (.t 8))⟩,
  ⟨(some 10), none, (.ext 1 (.t 8))⟩,
  ⟨(some 4), none, (.mv (.t 9))⟩,
  ⟨(some 5), none, (.mv (.t 10))⟩] none) .ret))
theorem good13 {args : List PV} {r : PV} (hl : args.length ≤ 11) (h : Run Try.prog [.code ac13] (endQ [(.t 4), (.t 5)] r) ⟨initT 0 args, [], 0, 11⟩) : Good Try.prog 13 args r :=
  good_run (by kernel_rfl) Eamix Try.func13 rfl (hs := []) (hs' := []) (by kernel_rfl) hl h
def ac22 : ACode :=
 (.seq (.reg [⟨(some 2), none, (.boxv (.t 0))⟩,
  ⟨(some 3), none, (.boxv (.t 1))⟩,
  ⟨(some 4), none, (.new [(.sc (.int .i64 (0))), (.sc (.int .i64 (0))), (.sc (.int .i64 (0))), (.sc (.int .i64 (0))), (.sc (.int .i64 (0))), (.sc (.int .i64 (0))), (.sc (.bool false)), (.sc (.slice none 0 0)), (.sc (.slice none 0 0)), (.sc (.int .i64 (0))), (.sc (.int .i64 (0))), (.sc (.int .i64 (0))), (.sc (.int .i64 (0)))])⟩,
  ⟨(some 5), none, (.mv (.c (.sc (.int .i64 (0)))))⟩] none)
 (.seq (.seq (.reg [⟨(some 9), none, (.load 13 true (.t 2))⟩,
  ⟨(some 10), none, (.call 23 [(.t 9)])⟩,
  ⟨(some 6), none, (.mv (.t 10))⟩] none)
 (.seq (.reg [⟨(some 11), none, (.mv (.t 6))⟩,
  ⟨(some 12), none, (.bin .neq (.t 11) (.c (.sc (.int .i64 (0)))))⟩] none)
 (.cond (.t 12)
 (.seq (.reg [⟨(some 13), none, (.build [(.sc (.int .i64 (0))), (.sc (.int .i64 (0))), (.sc (.int .i64 (0))), (.sc (.int .i64 (0))), (.sc (.int .i64 (0))), (.sc (.int .i64 (0))), (.sc (.bool false)), (.sc (.slice none 0 0)), (.sc (.slice none 0 0)), (.sc (.int .i64 (0))), (.sc (.int .i64 (0))), (.sc (.int .i64 (0))), (.sc (.int .i64 (0)))] [])⟩,
  ⟨(some 14), none, (.mv (.t 6))⟩,
  ⟨none, none, (.store 13 (.t 4) (.t 13))⟩,
  ⟨(some 5), none, (.mv (.t 14))⟩] none) .ret) .skip)))
 (.seq (.reg [⟨(some 15), none, (.faddr 4 (.t 2))⟩,
  ⟨(some 16), none, (.load 2 true (.t 15))⟩,
  ⟨(some 17), none, (.faddr 1 (.t 3))⟩,
  ⟨(some 18), none, (.load 2 true (.t 17))⟩,
  ⟨(some 19), none, (.call 37 [(.t 16), (.t 18)])⟩,
  ⟨(some 7), none, (.new [(.sc (.int .i64 (0))), (.sc (.int .i64 (0)))])⟩,
  ⟨none, none, (.store 2 (.t 7) (.t 19))⟩] none)
 (.seq (.block 0
 (.seq (.reg [⟨(some 21), none, (.faddr 0 (.t 3))⟩,
  ⟨(some 22), none, (.load 1 false (.t 21))⟩,
  ⟨(some 23), none, (.faddr 0 (.t 2))⟩,
  ⟨(some 24), none, (.load 1 false (.t 23))⟩,
  ⟨(some 25), none, (.bin .neq (.t 22) (.t 24))⟩,
  ⟨(some 20), none, (.mv (.t 25))⟩] none)
 (.cond (.t 20)
 (.seq (.reg [⟨(some 26), none, (.build [(.sc (.int .i64 (0))), (.sc (.int .i64 (0))), (.sc (.int .i64 (0))), (.sc (.int .i64 (0))), (.sc (.int .i64 (0))), (.sc (.int .i64 (0))), (.sc (.bool false)), (.sc (.slice none 0 0)), (.sc (.slice none 0 0)), (.sc (.int .i64 (0))), (.sc (.int .i64 (0))), (.sc (.int .i64 (0))), (.sc (.int .i64 (0)))] [])⟩,
  ⟨none, none, (.store 13 (.t 4) (.t 26))⟩,
  ⟨(some 5), none, (.mv (.c (.sc (.int .i64 (7)))))⟩] none) .ret)
 (.seq (.reg [⟨(some 28), none, (.faddr 6 (.t 2))⟩,
  ⟨(some 29), none, (.load 1 false (.t 28))⟩,
  ⟨(some 27), none, (.mv (.t 29))⟩] none)
 (.cond (.t 27)
 (.seq (.reg [⟨(some 30), none, (.build [(.sc (.int .i64 (0))), (.sc (.int .i64 (0))), (.sc (.int .i64 (0))), (.sc (.int .i64 (0))), (.sc (.int .i64 (0))), (.sc (.int .i64 (0))), (.sc (.bool false)), (.sc (.slice none 0 0)), (.sc (.slice none 0 0)), (.sc (.int .i64 (0))), (.sc (.int .i64 (0))), (.sc (.int .i64 (0))), (.sc (.int .i64 (0)))] [])⟩,
  ⟨none, none, (.store 13 (.t 4) (.t 30))⟩,
  ⟨(some 5), none, (.mv (.c (.sc (.int .i64 (26)))))⟩] none) .ret)
 (.seq (.reg [⟨(some 32), none, (.faddr 1 (.t 3))⟩,
  ⟨(some 33), none, (.faddr 0 (.t 32))⟩,
  ⟨(some 34), none, (.load 1 false (.t 33))⟩,
  ⟨(some 35), none, (.bin .lss (.t 34) (.c (.sc (.int .i64 (0)))))⟩,
  ⟨(some 36), none, (.mv (.t 35))⟩,
  ⟨(some 37), (some (36, false)), (.faddr 1 (.t 3))⟩,
  ⟨(some 38), (some (36, false)), (.faddr 0 (.t 37))⟩,
  ⟨(some 39), (some (36, false)), (.load 1 false (.t 38))⟩,
  ⟨(some 40), (some (36, false)), (.faddr 1 (.t 3))⟩,
  ⟨(some 41), (some (36, false)), (.faddr 1 (.t 40))⟩,
  ⟨(some 42), (some (36, false)), (.load 1 false (.t 41))⟩,
  ⟨(some 43), (some (36, false)), (.bin .gtr (.t 39) (.t 42))⟩,
  ⟨(some 44), none, (.pick (.t 36) (.c (.sc (.bool true))) (.t 43))⟩,
  ⟨(some 45), none, (.mv (.t 44))⟩,
  ⟨(some 46), (some (45, false)), (.faddr 1 (.t 3))⟩,
  ⟨(some 47), (some (45, false)), (.faddr 1 (.t 46))⟩,
  ⟨(some 48), (some (45, false)), (.load 1 false (.t 47))⟩,
  ⟨(some 49), (some (45, false)), (.bin .gtr (.t 48) (.c (.sc (.int .i64 (4294943999)))))⟩,
  ⟨(some 50), none, (.pick (.t 45) (.c (.sc (.bool true))) (.t 49))⟩,
  ⟨(some 31), none, (.mv (.t 50))⟩] none)
 (.cond (.t 31)
 (.seq (.reg [⟨(some 51), none, (.build [(.sc (.int .i64 (0))), (.sc (.int .i64 (0))), (.sc (.int .i64 (0))), (.sc (.int .i64 (0))), (.sc (.int .i64 (0))), (.sc (.int .i64 (0))), (.sc (.bool false)), (.sc (.slice none 0 0)), (.sc (.slice none 0 0)), (.sc (.int .i64 (0))), (.sc (.int .i64 (0))), (.sc (.int .i64 (0))), (.sc (.int .i64 (0)))] [])⟩,
  ⟨none, none, (.store 13 (.t 4) (.t 51))⟩,
  ⟨(some 5), none, (.mv (.c (.sc (.int .i64 (1)))))⟩] none) .ret)
 (.seq (.reg [⟨(some 53), none, (.faddr 0 (.t 7))⟩,
  ⟨(some 54), none, (.load 1 false (.t 53))⟩,
  ⟨(some 55), none, (.faddr 1 (.t 7))⟩,
  ⟨(some 56), none, (.load 1 false (.t 55))⟩,
  ⟨(some 57), none, (.bin .gtr (.t 54) (.t 56))⟩,
  ⟨(some 52), none, (.mv (.t 57))⟩] none)
 (.cond (.t 52)
 (.seq (.reg [⟨(some 58), none, (.build [(.sc (.int .i64 (0))), (.sc (.int .i64 (0))), (.sc (.int .i64 (0))), (.sc (.int .i64 (0))), (.sc (.int .i64 (0))), (.sc (.int .i64 (0))), (.sc (.bool false)), (.sc (.slice none 0 0)), (.sc (.slice none 0 0)), (.sc (.int .i64 (0))), (.sc (.int .i64 (0))), (.sc (.int .i64 (0))), (.sc (.int .i64 (0)))] [])⟩,
  ⟨none, none, (.store 13 (.t 4) (.t 58))⟩,
  ⟨(some 5), none, (.mv (.c (.sc (.int .i64 (34)))))⟩] none) .ret) .skip)))))))))
 (.seq (.reg [⟨(some 59), none, (.load 13 true (.t 2))⟩,
  ⟨(some 60), none, (.call 24 [(.t 59)])⟩,
  ⟨(some 8), none, (.new [(.sc (.int .i64 (0))), (.sc (.int .i64 (0))), (.sc (.int .i64 (0))), (.sc (.int .i64 (0))), (.sc (.int .i64 (0))), (.sc (.int .i64 (0))), (.sc (.bool false)), (.sc (.slice none 0 0)), (.sc (.slice none 0 0)), (.sc (.int .i64 (0))), (.sc (.int .i64 (0))), (.sc (.int .i64 (0))), (.sc (.int .i64 (0)))])⟩,
  ⟨none, none, (.store 13 (.t 8) (.t 60))⟩] none)
 (.seq (.reg [⟨(some 61), none, (.load 2 true (.t 7))⟩,
  ⟨(some 62), none, (.faddr 4 (.t 8))⟩,
  ⟨none, none, (.store 2 (.t 62) (.t 61))⟩] none)
 (.seq (.reg [⟨(some 63), none, (.faddr 7 (.t 8))⟩,
  ⟨(some 64), none, (.load 1 false (.t 63))⟩,
  ⟨(some 65), none, (.faddr 7 (.t 8))⟩,
  ⟨(some 66), none, (.load 1 false (.t 65))⟩,
  ⟨(some 67), none, (.len (.t 66))⟩,
  ⟨(some 68), none, (.bin .sub (.t 67) (.c (.sc (.int .i64 (1)))))⟩,
  ⟨(some 69), none, (.load 2 true (.t 7))⟩,
  ⟨(some 70), none, (.iaddr 5 (.t 64) (.t 68))⟩,
  ⟨(some 71), none, (.faddr 3 (.t 70))⟩,
  ⟨none, none, (.store 2 (.t 71) (.t 69))⟩] none)
 (.seq (.reg [⟨(some 72), none, (.load 13 true (.t 8))⟩,
  ⟨none, none, (.store 13 (.t 4) (.t 72))⟩,
  ⟨(some 5), none, (.mv (.c (.sc (.int .i64 (0)))))⟩] none) .ret))))))))
theorem good22 {args : List PV} {r : PV} (hl : args.length ≤ 73) (h : Run Try.prog [.code ac22] (endQ [(.c 4 13 true), (.t 5)] r) ⟨initT 0 args, [], 0, 73⟩) : Good Try.prog 22 args r :=
  good_run (by kernel_rfl) Eamix Try.func22 rfl (hs := []) (hs' := []) (by kernel_rfl) hl h
def ac37 : ACode :=
 (.seq (.reg [⟨(some 2), none, (.boxv (.t 0))⟩,
  ⟨(some 3), none, (.boxv (.t 1))⟩,
  ⟨(some 4), none, (.new [(.sc (.int .i64 (0))), (.sc (.int .i64 (0)))])⟩] none)
 (.seq (.reg [⟨(some 5), none, (.faddr 0 (.t 2))⟩,
  ⟨(some 6), none, (.load 1 false (.t 5))⟩,
  ⟨(some 7), none, (.faddr 0 (.t 3))⟩,
  ⟨(some 8), none, (.load 1 false (.t 7))⟩,
  ⟨(some 9), none, (.mx (.t 6) (.t 8))⟩,
  ⟨(some 10), none, (.faddr 1 (.t 2))⟩,
  ⟨(some 11), none, (.load 1 false (.t 10))⟩,
  ⟨(some 12), none, (.faddr 1 (.t 3))⟩,
  ⟨(some 13), none, (.load 1 false (.t 12))⟩,
  ⟨(some 14), none, (.mn (.t 11) (.t 13))⟩,
  ⟨(some 15), none, (.build [(.sc (.int .i64 (0))), (.sc (.int .i64 (0)))] [(0, (1, (.t 9))), (1, (1, (.t 14)))])⟩,
  ⟨none, none, (.store 2 (.t 4) (.t 15))⟩] none) .ret))
theorem good37 {args : List PV} {r : PV} (hl : args.length ≤ 16) (h : Run Try.prog [.code ac37] (endQ [(.c 4 2 true)] r) ⟨initT 0 args, [], 0, 16⟩) : Good Try.prog 37 args r :=
  good_run (by kernel_rfl) Eamix Try.func37 rfl (hs := []) (hs' := []) (by kernel_rfl) hl h
def ac28 : ACode :=
 (.seq (.reg [⟨(some 2), none, (.mv (.c (.sc (.int .i64 (0)))))⟩,
  ⟨(some 3), none, (.mv (.c (.sc (.int .i64 (0)))))⟩] none)
 (.seq (.reg [⟨(some 10), none, (.mv (.t 0))⟩,
  ⟨(some 11), none, (.call 48 [(.t 10)])⟩,
  ⟨(some 9), none, (.mv (.t 11))⟩,
  ⟨(some 12), none, (.ext 0 (.t 9))⟩,
  ⟨(some 13), none, (.ext 1 (.t 9))⟩,
  ⟨(some 4), none, (.mv (.t 12))⟩,
  ⟨(some 5), none, (.mv (.t 13))⟩] none)
 (.seq (.seq (.reg [⟨(some 14), none, (.mv (.t 5))⟩,
  ⟨(some 15), none, (.bin .neq (.t 14) (.c (.sc (.int .i64 (0)))))⟩] none)
 (.cond (.t 15)
 (.seq (.reg [⟨(some 16), none, (.mv (.t 5))⟩,
  ⟨(some 2), none, (.mv (.c (.sc (.int .i64 (0)))))⟩,
  ⟨(some 3), none, (.mv (.t 16))⟩] none) .ret) .skip))
 (.seq (.reg [⟨(some 6), none, (.mv (.c (.sc (.int .i64 (0)))))⟩] none)
 (.seq (.seq (.reg [⟨(some 17), none, (.mv (.t 4))⟩,
  ⟨(some 18), none, (.len (.t 17))⟩,
  ⟨(some 19), none, (.mv (.c (.sc (.int .i64 (0)))))⟩] none) (.block 0 
 (.loop ⟨[6, 17, 18, 19], []⟩
 (.seq (.reg [⟨(some 20), none, (.bin .lss (.t 19) (.t 18))⟩] none)
 (.seq
 (.cond (.t 20) .skip (.exit 0))
 (.seq (.block 1
 (.seq (.reg [⟨(some 21), none, (.iaddr 2 (.t 17) (.t 19))⟩,
  ⟨(some 22), none, (.load 2 true (.t 21))⟩,
  ⟨(some 8), none, (.new [(.sc (.int .i64 (0))), (.sc (.int .i64 (0)))])⟩,
  ⟨none, none, (.store 2 (.t 8) (.t 22))⟩] none) (.reg [⟨(some 23), none, (.mv (.t 6))⟩,
  ⟨(some 24), none, (.faddr 1 (.t 8))⟩,
  ⟨(some 25), none, (.load 1 false (.t 24))⟩,
  ⟨(some 26), none, (.faddr 0 (.t 8))⟩,
  ⟨(some 27), none, (.load 1 false (.t 26))⟩,
  ⟨(some 28), none, (.bin .sub (.t 25) (.t 27))⟩,
  ⟨(some 29), none, (.bin .add (.t 23) (.t 28))⟩,
  ⟨(some 6), none, (.mv (.t 29))⟩] none))) (.reg [⟨(some 30), none, (.bin .add (.t 19) (.c (.sc (.int .i64 (1)))))⟩,
  ⟨(some 19), none, (.mv (.t 30))⟩] none)))))))
 (.seq (.reg [⟨(some 31), none, (.mv (.t 6))⟩,
  ⟨(some 2), none, (.mv (.t 31))⟩,
  ⟨(some 3), none, (.mv (.c (.sc (.int .i64 (0)))))⟩] none) .ret))))))
theorem good28 {args : List PV} {r : PV} (hl : args.length ≤ 32) (h : Run Try.prog [.code ac28] (endQ [(.t 2), (.t 3)] r) ⟨initT 0 args, [], 0, 32⟩) : Good Try.prog 28 args r :=
  good_run (by kernel_rfl) Eamix Try.func28 rfl (hs := [⟨[6, 17, 18, 19], []⟩]) (hs' := []) (by kernel_rfl) hl h
def ac29 : ACode :=
 (.seq (.reg [⟨(some 4), none, (.boxv (.t 1))⟩,
  ⟨(some 6), none, (.mv (.c (.sc (.int .i64 (0)))))⟩,
  ⟨(some 7), none, (.mv (.c (.sc (.int .i64 (0)))))⟩] none)
 (.seq (.reg [⟨(some 12), none, (.load 6 true (.t 4))⟩,
  ⟨(some 13), none, (.call 49 [(.t 12)])⟩,
  ⟨(some 11), none, (.mv (.t 13))⟩,
  ⟨(some 14), none, (.ext 0 (.t 11))⟩,
  ⟨(some 15), none, (.ext 1 (.t 11))⟩,
  ⟨(some 8), none, (.new [(.sc (.int .i64 (0))), (.sc (.int .i64 (0))), (.sc (.int .i64 (0))), (.sc (.int .i64 (0))), (.sc (.int .i64 (0))), (.sc (.int .i64 (0)))])⟩,
  ⟨none, none, (.store 6 (.t 8) (.t 14))⟩,
  ⟨(some 9), none, (.mv (.t 15))⟩] none)
 (.seq (.seq (.reg [⟨(some 16), none, (.mv (.t 9))⟩,
  ⟨(some 17), none, (.bin .neq (.t 16) (.c (.sc (.int .i64 (0)))))⟩] none)
 (.cond (.t 17)
 (.seq (.reg [⟨(some 18), none, (.mv (.t 9))⟩,
  ⟨(some 6), none, (.mv (.c (.sc (.int .i64 (0)))))⟩,
  ⟨(some 7), none, (.mv (.t 18))⟩] none) .ret) .skip))
 (.seq (.seq (.reg [⟨(some 19), none, (.mv (.t 2))⟩,
  ⟨(some 20), none, (.bin .lss (.t 19) (.c (.sc (.int .i64 (0)))))⟩,
  ⟨(some 21), none, (.mv (.t 20))⟩,
  ⟨(some 22), (some (21, false)), (.mv (.t 2))⟩,
  ⟨(some 23), (some (21, false)), (.bin .gtr (.t 22) (.c (.sc (.int .i64 (4294944000)))))⟩,
  ⟨(some 24), none, (.pick (.t 21) (.c (.sc (.bool true))) (.t 23))⟩] none)
 (.cond (.t 24)
 (.seq (.reg [⟨(some 6), none, (.mv (.c (.sc (.int .i64 (0)))))⟩,
  ⟨(some 7), none, (.mv (.c (.sc (.int .i64 (1)))))⟩] none) .ret) .skip))
 (.seq (.reg [⟨(some 25), none, (.mv (.t 0))⟩,
  ⟨(some 26), none, (.load 6 true (.t 8))⟩,
  ⟨(some 27), none, (.mv (.t 2))⟩,
  ⟨(some 28), none, (.callv (.t 25) [(.t 26), (.t 27)])⟩,
  ⟨(some 10), none, (.mv (.t 28))⟩] none)
 (.seq (.seq (.reg [⟨(some 29), none, (.mv (.t 10))⟩,
  ⟨(some 30), none, (.bin .gtr (.t 29) (.c (.sc (.int .i64 (1000000000000)))))⟩] none)
 (.cond (.t 30)
 (.seq (.reg [⟨(some 6), none, (.mv (.c (.sc (.int .i64 (0)))))⟩,
  ⟨(some 7), none, (.mv (.c (.sc (.int .i64 (2)))))⟩] none) .ret) .skip))
 (.seq (.reg [⟨(some 31), none, (.mv (.t 10))⟩,
  ⟨(some 6), none, (.mv (.t 31))⟩,
  ⟨(some 7), none, (.mv (.c (.sc (.int .i64 (0)))))⟩] none) .ret)))))))
theorem good29 {args : List PV} {r : PV} (hl : args.length ≤ 32) (h : Run Try.prog [.code ac29] (endQ [(.t 6), (.t 7)] r) ⟨initT 0 args, [], 0, 32⟩) : Good Try.prog 29 args r :=
  good_run (by kernel_rfl) Eamix Try.func29 rfl (hs := []) (hs' := []) (by kernel_rfl) hl h
def ac49 : ACode :=
 (.seq (.reg [⟨(some 1), none, (.boxv (.t 0))⟩,
  ⟨(some 2), none, (.new [(.sc (.int .i64 (0))), (.sc (.int .i64 (0))), (.sc (.int .i64 (0))), (.sc (.int .i64 (0))), (.sc (.int .i64 (0))), (.sc (.int .i64 (0)))])⟩,
  ⟨(some 3), none, (.mv (.c (.sc (.int .i64 (0)))))⟩] none)
 (.seq (.reg [⟨(some 4), none, (.faddr 0 (.t 1))⟩,
  ⟨none, none, (.store 1 (.t 4) (.c (.sc (.int .i64 (0)))))⟩] none)
 (.seq (.reg [⟨(some 5), none, (.load 6 true (.t 1))⟩,
  ⟨(some 6), none, (.load 6 true (.t 1))⟩,
  ⟨(some 7), none, (.bslice 44 6 [(.t 6)])⟩,
  ⟨(some 8), none, (.call 72 [(.t 7)])⟩,
  ⟨none, none, (.store 6 (.t 2) (.t 5))⟩,
  ⟨(some 3), none, (.mv (.t 8))⟩] (some [[], [], [1], [2, 1], [0, 3, 2, 1], [3, 4, 0, 1, 2]])) .ret)))
theorem good49 {args : List PV} {r : PV} (hl : args.length ≤ 9) (h : Run Try.prog [.code ac49] (endQ [(.c 2 6 true), (.t 3)] r) ⟨initT 0 args, [], 0, 9⟩) : Good Try.prog 49 args r :=
  good_run (by kernel_rfl) Eamix Try.func49 rfl (hs := []) (hs' := []) (by kernel_rfl) hl h
def ac72 : ACode :=
 (.seq (.reg [⟨(some 2), none, (.mv (.c (.sc (.int .i64 (0)))))⟩] none)
 (.seq (.block 0
 (.seq (.reg [⟨(some 6), none, (.mv (.t 0))⟩,
  ⟨(some 7), none, (.len (.t 6))⟩,
  ⟨(some 8), none, (.bin .eql (.t 7) (.c (.sc (.int .i64 (0)))))⟩,
  ⟨(some 5), none, (.mv (.t 8))⟩] none)
 (.cond (.t 5)
 (.seq (.reg [⟨(some 2), none, (.mv (.c (.sc (.int .i64 (10)))))⟩] none) .ret)
 (.seq (.reg [⟨(some 10), none, (.mv (.t 0))⟩,
  ⟨(some 11), none, (.len (.t 10))⟩,
  ⟨(some 12), none, (.bin .gtr (.t 11) (.c (.sc (.int .i64 (8)))))⟩,
  ⟨(some 9), none, (.mv (.t 12))⟩] none)
 (.cond (.t 9)
 (.seq (.reg [⟨(some 2), none, (.mv (.c (.sc (.int .i64 (8)))))⟩] none) .ret) .skip)))))
 (.seq (.seq (.reg [⟨(some 13), none, (.mv (.t 0))⟩,
  ⟨(some 14), none, (.len (.t 13))⟩,
  ⟨(some 15), none, (.mv (.c (.sc (.int .i64 (0)))))⟩] none) (.block 1 
 (.loop ⟨[0, 13, 14, 15], []⟩
 (.seq (.reg [⟨(some 16), none, (.bin .lss (.t 15) (.t 14))⟩] none)
 (.seq
 (.cond (.t 16) .skip (.exit 1))
 (.seq (.block 2
 (.seq (.reg [⟨(some 17), none, (.mv (.t 15))⟩,
  ⟨(some 18), none, (.iaddr 6 (.t 13) (.t 15))⟩,
  ⟨(some 19), none, (.load 6 true (.t 18))⟩,
  ⟨(some 4), none, (.new [(.sc (.int .i64 (0))), (.sc (.int .i64 (0))), (.sc (.int .i64 (0))), (.sc (.int .i64 (0))), (.sc (.int .i64 (0))), (.sc (.int .i64 (0)))])⟩,
  ⟨(some 3), none, (.mv (.t 17))⟩,
  ⟨none, none, (.store 6 (.t 4) (.t 19))⟩] none)
 (.seq (.seq (.reg [⟨(some 20), none, (.load 6 true (.t 4))⟩,
  ⟨(some 21), none, (.call 82 [(.t 20)])⟩,
  ⟨(some 22), none, (.un .not (.t 21))⟩] none)
 (.cond (.t 22)
 (.seq (.reg [⟨(some 2), none, (.mv (.c (.sc (.int .i64 (1)))))⟩] none) .ret) .skip))
 (.seq (.reg [⟨(some 23), none, (.mv (.t 3))⟩,
  ⟨(some 24), none, (.bin .eql (.t 23) (.c (.sc (.int .i64 (0)))))⟩,
  ⟨(some 25), none, (.mv (.t 24))⟩,
  ⟨(some 26), (some (25, true)), (.faddr 0 (.t 4))⟩,
  ⟨(some 27), (some (25, true)), (.load 1 false (.t 26))⟩,
  ⟨(some 28), (some (25, true)), (.bin .neq (.t 27) (.c (.sc (.int .i64 (0)))))⟩,
  ⟨(some 29), none, (.pick (.t 25) (.t 28) (.c (.sc (.bool false))))⟩,
  ⟨(some 30), none, (.mv (.t 29))⟩,
  ⟨(some 31), (some (30, false)), (.mv (.t 3))⟩,
  ⟨(some 32), (some (30, false)), (.bin .gtr (.t 31) (.c (.sc (.int .i64 (0)))))⟩,
  ⟨(some 33), (some (30, false)), (.mv (.t 32))⟩,
  ⟨(some 34), (some (33, true)), (.faddr 0 (.t 4))⟩,
  ⟨(some 35), (some (33, true)), (.load 1 false (.t 34))⟩,
  ⟨(some 36), (some (33, true)), (.mv (.t 0))⟩,
  ⟨(some 37), (some (33, true)), (.mv (.t 3))⟩,
  ⟨(some 38), (some (33, true)), (.bin .sub (.t 37) (.c (.sc (.int .i64 (1)))))⟩,
  ⟨(some 39), (some (33, true)), (.iaddr 6 (.t 36) (.t 38))⟩,
  ⟨(some 40), (some (33, true)), (.faddr 0 (.t 39))⟩,
  ⟨(some 41), (some (33, true)), (.load 1 false (.t 40))⟩,
  ⟨(some 42), (some (33, true)), (.bin .leq (.t 35) (.t 41))⟩,
  ⟨(some 43), (some (30, false)), (.pick (.t 33) (.t 42) (.c (.sc (.bool false))))⟩,
  ⟨(some 44), none, (.pick (.t 30) (.c (.sc (.bool true))) (.t 43))⟩] (some [[], [0], [1, 0], [2, 1, 0], [3, 2, 1, 0], [4, 2, 3, 1, 0], [2, 5, 1, 0, 4, 3], [6, 2, 5, 1, 0, 4, 3], [7, 6, 2, 5, 1, 0, 4, 3], [8, 7, 6, 2, 5, 1, 0, 4, 3], [9, 7, 8, 6, 2, 5, 1, 0, 4, 3], [10, 9, 7, 8, 6, 2, 5, 1, 0, 4, 3], [11, 10, 9, 7, 8, 6, 2, 5, 1, 0, 4, 3], [10, 9, 7, 8, 6, 2, 5, 1, 0, 4, 3], [10, 9, 7, 8, 6, 2, 5, 1, 0, 4, 3], [14, 10, 9, 7, 8, 6, 2, 5, 1, 0, 4, 3], [13, 15, 10, 9, 7, 8, 6, 2, 5, 1, 0, 4, 3, 14], [16, 10, 13, 15, 9, 7, 8, 6, 2, 5, 1, 0, 4, 3, 14], [17, 10, 16, 13, 15, 9, 7, 8, 6, 2, 5, 1, 0, 4, 3, 14], [12, 18, 10, 11, 9, 7, 8, 6, 2, 5, 1, 0, 4, 3, 17, 16, 13, 15, 14], [10, 19, 7, 9, 8, 6, 2, 5, 1, 0, 4, 3, 12, 18, 11, 17, 16, 13, 15, 14], [7, 20, 6, 2, 5, 1, 0, 4, 3, 10, 19, 9, 8, 12, 18, 11, 17, 16, 13, 15, 14]]))
 (.cond (.t 44)
 (.seq (.reg [⟨(some 2), none, (.mv (.c (.sc (.int .i64 (9)))))⟩] none) .ret) .skip))))) (.reg [⟨(some 45), none, (.bin .add (.t 15) (.c (.sc (.int .i64 (1)))))⟩,
  ⟨(some 15), none, (.mv (.t 45))⟩] none)))))))
 (.seq (.reg [⟨(some 2), none, (.mv (.c (.sc (.int .i64 (0)))))⟩] none) .ret))))
theorem good72 {args : List PV} {r : PV} (hl : args.length ≤ 46) (h : Run Try.prog [.code ac72] (endQ [(.t 2)] r) ⟨initT 0 args, [], 0, 46⟩) : Good Try.prog 72 args r :=
  good_run (by kernel_rfl) Eamix Try.func72 rfl (hs := [⟨[0, 13, 14, 15], []⟩]) (hs' := []) (by kernel_rfl) hl h
def ac30 : ACode :=
 (.seq (.reg [⟨(some 2), none, (.boxv (.t 0))⟩,
  ⟨(some 4), none, (.mv (.c (.sc (.int .i64 (0)))))⟩] none)
 (.seq (.reg [⟨(some 5), none, (.faddr 4 (.t 2))⟩,
  ⟨(some 6), none, (.load 1 false (.t 5))⟩,
  ⟨(some 7), none, (.load 6 true (.t 2))⟩,
  ⟨(some 8), none, (.mv (.t 1))⟩,
  ⟨(some 9), none, (.faddr 3 (.t 2))⟩,
  ⟨(some 10), none, (.load 1 false (.t 9))⟩,
  ⟨(some 11), none, (.bin .sub (.t 8) (.t 10))⟩,
  ⟨(some 12), none, (.call 50 [(.t 7), (.t 11)])⟩,
  ⟨(some 13), none, (.bin .mul (.t 6) (.t 12))⟩,
  ⟨(some 4), none, (.mv (.t 13))⟩] (some [[], [0], [], [], [], [4], [3, 5, 4], [2, 6, 3, 5, 4], [1, 7, 0, 2, 6, 3, 5, 4], [8, 7, 0, 1, 2, 3, 4, 5, 6]])) .ret))
theorem good30 {args : List PV} {r : PV} (hl : args.length ≤ 14) (h : Run Try.prog [.code ac30] (endQ [(.t 4)] r) ⟨initT 0 args, [], 0, 14⟩) : Good Try.prog 30 args r :=
  good_run (by kernel_rfl) Eamix Try.func30 rfl (hs := []) (hs' := []) (by kernel_rfl) hl h
def ac50 : ACode :=
 (.seq (.reg [⟨(some 2), none, (.boxv (.t 0))⟩,
  ⟨(some 4), none, (.mv (.c (.sc (.int .i64 (0)))))⟩] none)
 (.seq (.reg [⟨(some 5), none, (.mv (.t 1))⟩,
  ⟨(some 6), none, (.mx (.t 5) (.c (.sc (.int .i64 (0)))))⟩,
  ⟨(some 7), none, (.faddr 2 (.t 2))⟩,
  ⟨(some 8), none, (.load 1 false (.t 7))⟩,
  ⟨(some 9), none, (.bin .add (.t 6) (.t 8))⟩,
  ⟨(some 10), none, (.bin .sub (.t 9) (.c (.sc (.int .i64 (1)))))⟩,
  ⟨(some 11), none, (.faddr 2 (.t 2))⟩,
  ⟨(some 12), none, (.load 1 false (.t 11))⟩,
  ⟨(some 13), none, (.bin .quo (.t 10) (.t 12))⟩,
  ⟨(some 4), none, (.mv (.t 13))⟩] none) .ret))
theorem good50 {args : List PV} {r : PV} (hl : args.length ≤ 14) (h : Run Try.prog [.code ac50] (endQ [(.t 4)] r) ⟨initT 0 args, [], 0, 14⟩) : Good Try.prog 50 args r :=
  good_run (by kernel_rfl) Eamix Try.func50 rfl (hs := []) (hs' := []) (by kernel_rfl) hl h
def ac82 : ACode :=
 (.seq (.reg [⟨(some 1), none, (.boxv (.t 0))⟩,
  ⟨(some 2), none, (.mv (.c (.sc (.bool false))))⟩] none)
 (.seq (.reg [⟨(some 3), none, (.mv (.c (.sc (.func (.func 92) #[] #[]))))⟩] none)
 (.seq (.reg [⟨(some 4), none, (.mv (.t 3))⟩,
  ⟨(some 5), none, (.faddr 0 (.t 1))⟩,
  ⟨(some 6), none, (.load 1 false (.t 5))⟩,
  ⟨(some 7), none, (.callv (.t 4) [(.t 6), (.c (.sc (.int .i64 (0)))), (.c (.sc (.int .i64 (4294943999))))])⟩,
  ⟨(some 8), none, (.mv (.t 7))⟩,
  ⟨(some 9), (some (8, true)), (.mv (.t 3))⟩,
  ⟨(some 10), (some (8, true)), (.faddr 1 (.t 1))⟩,
  ⟨(some 11), (some (8, true)), (.load 1 false (.t 10))⟩,
  ⟨(some 12), (some (8, true)), (.callv (.t 9) [(.t 11), (.c (.sc (.int .i64 (0)))), (.c (.sc (.int .i64 (1000000))))])⟩,
  ⟨(some 13), none, (.pick (.t 8) (.t 12) (.c (.sc (.bool false))))⟩,
  ⟨(some 14), none, (.mv (.t 13))⟩,
  ⟨(some 15), (some (14, true)), (.mv (.t 3))⟩,
  ⟨(some 16), (some (14, true)), (.faddr 4 (.t 1))⟩,
  ⟨(some 17), (some (14, true)), (.load 1 false (.t 16))⟩,
  ⟨(some 18), (some (14, true)), (.callv (.t 15) [(.t 17), (.c (.sc (.int .i64 (0)))), (.c (.sc (.int .i64 (1000000))))])⟩,
  ⟨(some 19), none, (.pick (.t 14) (.t 18) (.c (.sc (.bool false))))⟩,
  ⟨(some 20), none, (.mv (.t 19))⟩,
  ⟨(some 21), (some (20, true)), (.mv (.t 3))⟩,
  ⟨(some 22), (some (20, true)), (.faddr 5 (.t 1))⟩,
  ⟨(some 23), (some (20, true)), (.load 1 false (.t 22))⟩,
  ⟨(some 24), (some (20, true)), (.callv (.t 21) [(.t 23), (.c (.sc (.int .i64 (0)))), (.c (.sc (.int .i64 (1000000))))])⟩,
  ⟨(some 25), none, (.pick (.t 20) (.t 24) (.c (.sc (.bool false))))⟩,
  ⟨(some 26), none, (.mv (.t 25))⟩,
  ⟨(some 27), (some (26, true)), (.mv (.t 3))⟩,
  ⟨(some 28), (some (26, true)), (.faddr 2 (.t 1))⟩,
  ⟨(some 29), (some (26, true)), (.load 1 false (.t 28))⟩,
  ⟨(some 30), (some (26, true)), (.callv (.t 27) [(.t 29), (.c (.sc (.int .i64 (1)))), (.c (.sc (.int .i64 (86400))))])⟩,
  ⟨(some 31), none, (.pick (.t 26) (.t 30) (.c (.sc (.bool false))))⟩,
  ⟨(some 32), none, (.mv (.t 31))⟩,
  ⟨(some 33), (some (32, true)), (.mv (.t 3))⟩,
  ⟨(some 34), (some (32, true)), (.faddr 3 (.t 1))⟩,
  ⟨(some 35), (some (32, true)), (.load 1 false (.t 34))⟩,
  ⟨(some 36), (some (32, true)), (.callv (.t 33) [(.t 35), (.c (.sc (.int .i64 (0)))), (.c (.sc (.int .i64 (86400))))])⟩,
  ⟨(some 37), none, (.pick (.t 32) (.t 36) (.c (.sc (.bool false))))⟩,
  ⟨(some 2), none, (.mv (.t 37))⟩] none) .ret)))
theorem good82 {args : List PV} {r : PV} (hl : args.length ≤ 38) (h : Run Try.prog [.code ac82] (endQ [(.t 2)] r) ⟨initT 0 args, [], 0, 38⟩) : Good Try.prog 82 args r :=
  good_run (by kernel_rfl) Eamix Try.func82 rfl (hs := []) (hs' := []) (by kernel_rfl) hl h
def ac92 : ACode :=
 (.seq (.reg [⟨(some 6), none, (.mv (.c (.sc (.bool false))))⟩] none)
 (.seq (.reg [⟨(some 7), none, (.mv (.t 0))⟩,
  ⟨(some 8), none, (.mv (.t 1))⟩,
  ⟨(some 9), none, (.bin .geq (.t 7) (.t 8))⟩,
  ⟨(some 10), none, (.mv (.t 9))⟩,
  ⟨(some 11), (some (10, true)), (.mv (.t 0))⟩,
  ⟨(some 12), (some (10, true)), (.mv (.t 2))⟩,
  ⟨(some 13), (some (10, true)), (.bin .leq (.t 11) (.t 12))⟩,
  ⟨(some 14), none, (.pick (.t 10) (.t 13) (.c (.sc (.bool false))))⟩,
  ⟨(some 6), none, (.mv (.t 14))⟩] none) .ret))
theorem good92 {args : List PV} {r : PV} (hl : args.length ≤ 15) (h : Run Try.prog [.code ac92] (endQ [(.t 6)] r) ⟨initT 0 args, [], 0, 15⟩) : Good Try.prog 92 args r :=
  good_run (by kernel_rfl) Eamix Try.func92 rfl (hs := []) (hs' := []) (by kernel_rfl) hl h
def ac44 : ACode :=
 (.seq (.reg [⟨(some 4), none, (.mv (.c (.sc (.slice none 0 0))))⟩,
  ⟨(some 5), none, (.mv (.c (.sc (.int .i64 (0)))))⟩] none)
 (.seq (.reg [⟨(some 16), none, (.mv (.t 0))⟩,
  ⟨(some 17), none, (.mv (.t 1))⟩,
  ⟨(some 18), none, (.call 65 [(.t 16), (.t 17)])⟩,
  ⟨(some 15), none, (.mv (.t 18))⟩,
  ⟨(some 19), none, (.ext 0 (.t 15))⟩,
  ⟨(some 20), none, (.ext 1 (.t 15))⟩,
  ⟨(some 21), none, (.ext 2 (.t 15))⟩,
  ⟨(some 6), none, (.mv (.t 19))⟩,
  ⟨(some 7), none, (.mv (.t 20))⟩,
  ⟨(some 8), none, (.mv (.t 21))⟩] none)
 (.seq (.seq (.reg [⟨(some 22), none, (.mv (.t 8))⟩,
  ⟨(some 23), none, (.bin .neq (.t 22) (.c (.sc (.int .i64 (0)))))⟩] none)
 (.cond (.t 23)
 (.seq (.reg [⟨(some 24), none, (.mv (.t 8))⟩,
  ⟨(some 4), none, (.mv (.c (.sc (.slice none 0 0))))⟩,
  ⟨(some 5), none, (.mv (.t 24))⟩] none) .ret) .skip))
 (.seq (.reg [⟨(some 9), none, (.mv (.c (.sc (.slice none 0 0))))⟩] none)
 (.seq (.seq (.reg [⟨(some 25), none, (.mv (.t 6))⟩,
  ⟨(some 26), none, (.len (.t 25))⟩,
  ⟨(some 27), none, (.mv (.c (.sc (.int .i64 (0)))))⟩] none) (.block 0 
 (.loop ⟨[7, 9, 25, 26, 27], [(9, (48, 2))]⟩
 (.seq (.reg [⟨(some 28), none, (.bin .lss (.t 27) (.t 26))⟩] none)
 (.seq
 (.cond (.t 28) .skip (.exit 0))
 (.seq (.block 1
 (.seq (.reg [⟨(some 29), none, (.iaddr 2 (.t 25) (.t 27))⟩,
  ⟨(some 30), none, (.load 2 true (.t 29))⟩,
  ⟨(some 11), none, (.new [(.sc (.int .i64 (0))), (.sc (.int .i64 (0)))])⟩,
  ⟨none, none, (.store 2 (.t 11) (.t 30))⟩] none)
 (.seq (.block 2 
 (.loop ⟨[7, 9, 11, 25, 26, 27], []⟩
 (.seq (.seq (.reg [⟨(some 31), none, (.mv (.t 7))⟩,
  ⟨(some 32), none, (.len (.t 31))⟩,
  ⟨(some 33), none, (.bin .gtr (.t 32) (.c (.sc (.int .i64 (0)))))⟩,
  ⟨(some 34), none, (.mv (.t 33))⟩,
  ⟨(some 35), (some (34, true)), (.mv (.t 7))⟩,
  ⟨(some 36), (some (34, true)), (.iaddr 2 (.t 35) (.c (.sc (.int .i64 (0)))))⟩,
  ⟨(some 37), (some (34, true)), (.faddr 1 (.t 36))⟩,
  ⟨(some 38), (some (34, true)), (.load 1 false (.t 37))⟩,
  ⟨(some 39), (some (34, true)), (.faddr 0 (.t 11))⟩,
  ⟨(some 40), (some (34, true)), (.load 1 false (.t 39))⟩,
  ⟨(some 41), (some (34, true)), (.bin .leq (.t 38) (.t 40))⟩,
  ⟨(some 42), none, (.pick (.t 34) (.t 41) (.c (.sc (.bool false))))⟩] (some [[], [0], [1, 0], [2, 1, 0], [3, 2, 1, 0], [4, 3, 2, 1, 0], [5, 3, 4, 2, 1, 0], [6, 3, 5, 4, 2, 1, 0], [3, 2, 1, 0], [8, 3, 2, 1, 0], [7, 9, 3, 6, 5, 4, 2, 1, 0, 8], [3, 10, 2, 1, 0, 7, 9, 6, 5, 4, 8]]))
 (.cond (.t 42) .skip (.exit 2))) (.block 3 (.reg [⟨(some 43), none, (.mv (.t 7))⟩,
  ⟨(some 44), none, (.slice 2 (.t 43) (some (.c (.sc (.int .i64 (1))))) none none)⟩,
  ⟨(some 7), none, (.mv (.t 44))⟩] none)))))
 (.seq (.reg [⟨(some 45), none, (.faddr 0 (.t 11))⟩,
  ⟨(some 46), none, (.load 1 false (.t 45))⟩,
  ⟨(some 12), none, (.mv (.t 46))⟩] none)
 (.seq (.seq (.reg [⟨(some 47), none, (.mv (.t 7))⟩,
  ⟨(some 48), none, (.len (.t 47))⟩,
  ⟨(some 49), none, (.mv (.c (.sc (.int .i64 (0)))))⟩] none) (.block 4 
 (.loop ⟨[7, 9, 11, 12, 25, 26, 27, 47, 48, 49], [(9, (48, 2))]⟩
 (.seq (.reg [⟨(some 50), none, (.bin .lss (.t 49) (.t 48))⟩] none)
 (.seq
 (.cond (.t 50) .skip (.exit 4))
 (.seq (.block 5
 (.seq (.reg [⟨(some 51), none, (.iaddr 2 (.t 47) (.t 49))⟩,
  ⟨(some 52), none, (.load 2 true (.t 51))⟩,
  ⟨(some 14), none, (.new [(.sc (.int .i64 (0))), (.sc (.int .i64 (0)))])⟩,
  ⟨none, none, (.store 2 (.t 14) (.t 52))⟩] none)
 (.seq (.seq (.reg [⟨(some 53), none, (.faddr 0 (.t 14))⟩,
  ⟨(some 54), none, (.load 1 false (.t 53))⟩,
  ⟨(some 55), none, (.faddr 1 (.t 11))⟩,
  ⟨(some 56), none, (.load 1 false (.t 55))⟩,
  ⟨(some 57), none, (.bin .geq (.t 54) (.t 56))⟩] none)
 (.cond (.t 57) (.exit 4) .skip))
 (.seq (.seq (.reg [⟨(some 58), none, (.mv (.t 12))⟩,
  ⟨(some 59), none, (.faddr 0 (.t 14))⟩,
  ⟨(some 60), none, (.load 1 false (.t 59))⟩,
  ⟨(some 61), none, (.bin .lss (.t 58) (.t 60))⟩] none)
 (.cond (.t 61) (.reg [⟨(some 62), none, (.mv (.t 9))⟩,
  ⟨(some 63), none, (.mv (.t 12))⟩,
  ⟨(some 64), none, (.faddr 0 (.t 14))⟩,
  ⟨(some 65), none, (.load 1 false (.t 64))⟩,
  ⟨(some 66), none, (.build [(.sc (.int .i64 (0))), (.sc (.int .i64 (0)))] [(0, (1, (.t 63))), (1, (1, (.t 65)))])⟩,
  ⟨(some 67), none, (.bslice 48 2 [(.t 66)])⟩,
  ⟨(some 68), none, (.append 48 2 16 (.t 62) (.t 67))⟩,
  ⟨(some 9), none, (.mv (.t 68))⟩] none) .skip)) (.reg [⟨(some 69), none, (.mv (.t 12))⟩,
  ⟨(some 70), none, (.faddr 1 (.t 14))⟩,
  ⟨(some 71), none, (.load 1 false (.t 70))⟩,
  ⟨(some 72), none, (.mx (.t 69) (.t 71))⟩,
  ⟨(some 12), none, (.mv (.t 72))⟩] none))))) (.reg [⟨(some 73), none, (.bin .add (.t 49) (.c (.sc (.int .i64 (1)))))⟩,
  ⟨(some 49), none, (.mv (.t 73))⟩] none)))))))
 (.seq (.reg [⟨(some 74), none, (.mv (.t 12))⟩,
  ⟨(some 75), none, (.faddr 1 (.t 11))⟩,
  ⟨(some 76), none, (.load 1 false (.t 75))⟩,
  ⟨(some 77), none, (.bin .lss (.t 74) (.t 76))⟩] none)
 (.cond (.t 77) (.reg [⟨(some 78), none, (.mv (.t 9))⟩,
  ⟨(some 79), none, (.mv (.t 12))⟩,
  ⟨(some 80), none, (.faddr 1 (.t 11))⟩,
  ⟨(some 81), none, (.load 1 false (.t 80))⟩,
  ⟨(some 82), none, (.build [(.sc (.int .i64 (0))), (.sc (.int .i64 (0)))] [(0, (1, (.t 79))), (1, (1, (.t 81)))])⟩,
  ⟨(some 83), none, (.bslice 48 2 [(.t 82)])⟩,
  ⟨(some 84), none, (.append 48 2 16 (.t 78) (.t 83))⟩,
  ⟨(some 9), none, (.mv (.t 84))⟩] none) .skip))))))) (.reg [⟨(some 85), none, (.bin .add (.t 27) (.c (.sc (.int .i64 (1)))))⟩,
  ⟨(some 27), none, (.mv (.t 85))⟩] none)))))))
 (.seq (.reg [⟨(some 86), none, (.mv (.t 9))⟩,
  ⟨(some 4), none, (.mv (.t 86))⟩,
  ⟨(some 5), none, (.mv (.c (.sc (.int .i64 (0)))))⟩] none) .ret))))))
theorem good44 {args : List PV} {r : PV} (hl : args.length ≤ 87) (h : Run Try.prog [.code ac44] (endQ [(.t 4), (.t 5)] r) ⟨initT 0 args, [], 0, 87⟩) : Good Try.prog 44 args r :=
  good_run (by kernel_rfl) Eamix Try.func44 rfl (hs := [⟨[7, 9, 25, 26, 27], [(9, 48, 2)]⟩, ⟨[7, 9, 11, 25, 26, 27], []⟩, ⟨[7, 9, 11, 12, 25, 26, 27, 47, 48, 49], [(9, 48, 2)]⟩]) (hs' := []) (by kernel_rfl) hl h
def ac45 : ACode :=
 (.seq (.reg [⟨(some 2), none, (.mv (.c (.sc (.slice none 0 0))))⟩] none)
 (.seq (.reg [⟨(some 3), none, (.mv (.c (.sc (.slice none 0 0))))⟩] none)
 (.seq (.seq (.reg [⟨(some 6), none, (.mv (.t 0))⟩,
  ⟨(some 7), none, (.len (.t 6))⟩,
  ⟨(some 8), none, (.mv (.c (.sc (.int .i64 (0)))))⟩] none) (.block 0 
 (.loop ⟨[3, 6, 7, 8], [(3, (48, 2))]⟩
 (.seq (.reg [⟨(some 9), none, (.bin .lss (.t 8) (.t 7))⟩] none)
 (.seq
 (.cond (.t 9) .skip (.exit 0))
 (.seq (.block 1
 (.seq (.reg [⟨(some 10), none, (.iaddr 4 (.t 6) (.t 8))⟩,
  ⟨(some 11), none, (.load 4 true (.t 10))⟩,
  ⟨(some 5), none, (.new [(.sc (.int .i64 (0))), (.sc (.int .i64 (0))), (.sc (.int .i64 (0))), (.sc (.int .i64 (0)))])⟩,
  ⟨none, none, (.store 4 (.t 5) (.t 11))⟩] none) (.reg [⟨(some 12), none, (.mv (.t 3))⟩,
  ⟨(some 13), none, (.faddr 0 (.t 5))⟩,
  ⟨(some 14), none, (.faddr 0 (.t 13))⟩,
  ⟨(some 15), none, (.load 1 false (.t 14))⟩,
  ⟨(some 16), none, (.faddr 0 (.t 5))⟩,
  ⟨(some 17), none, (.faddr 0 (.t 16))⟩,
  ⟨(some 18), none, (.load 1 false (.t 17))⟩,
  ⟨(some 19), none, (.faddr 2 (.t 5))⟩,
  ⟨(some 20), none, (.faddr 1 (.t 19))⟩,
  ⟨(some 21), none, (.load 1 false (.t 20))⟩,
  ⟨(some 22), none, (.mx (.t 18) (.t 21))⟩,
  ⟨(some 23), none, (.build [(.sc (.int .i64 (0))), (.sc (.int .i64 (0)))] [(0, (1, (.t 15))), (1, (1, (.t 22)))])⟩,
  ⟨(some 24), none, (.bslice 48 2 [(.t 23)])⟩,
  ⟨(some 25), none, (.append 48 2 16 (.t 12) (.t 24))⟩,
  ⟨(some 3), none, (.mv (.t 25))⟩] none))) (.reg [⟨(some 26), none, (.bin .add (.t 8) (.c (.sc (.int .i64 (1)))))⟩,
  ⟨(some 8), none, (.mv (.t 26))⟩] none)))))))
 (.seq (.reg [⟨(some 27), none, (.mv (.t 3))⟩,
  ⟨(some 2), none, (.mv (.t 27))⟩] none) .ret))))
theorem good45 {args : List PV} {r : PV} (hl : args.length ≤ 28) (h : Run Try.prog [.code ac45] (endQ [(.t 2)] r) ⟨initT 0 args, [], 0, 28⟩) : Good Try.prog 45 args r :=
  good_run (by kernel_rfl) Eamix Try.func45 rfl (hs := [⟨[3, 6, 7, 8], [(3, 48, 2)]⟩]) (hs' := []) (by kernel_rfl) hl h
def ac46 : ACode :=
 (.seq (.reg [⟨(some 4), none, (.mv (.c (.sc (.slice none 0 0))))⟩,
  ⟨(some 5), none, (.mv (.c (.sc (.int .i64 (0)))))⟩] none)
 (.seq (.reg [⟨(some 12), none, (.mv (.t 0))⟩,
  ⟨(some 13), none, (.mv (.t 1))⟩,
  ⟨(some 14), none, (.call 65 [(.t 12), (.t 13)])⟩,
  ⟨(some 11), none, (.mv (.t 14))⟩,
  ⟨(some 15), none, (.ext 0 (.t 11))⟩,
  ⟨(some 16), none, (.ext 1 (.t 11))⟩,
  ⟨(some 17), none, (.ext 2 (.t 11))⟩,
  ⟨(some 6), none, (.mv (.t 15))⟩,
  ⟨(some 7), none, (.mv (.t 16))⟩,
  ⟨(some 8), none, (.mv (.t 17))⟩] none)
 (.seq (.seq (.reg [⟨(some 18), none, (.mv (.t 8))⟩,
  ⟨(some 19), none, (.bin .neq (.t 18) (.c (.sc (.int .i64 (0)))))⟩] none)
 (.cond (.t 19)
 (.seq (.reg [⟨(some 20), none, (.mv (.t 8))⟩,
  ⟨(some 4), none, (.mv (.c (.sc (.slice none 0 0))))⟩,
  ⟨(some 5), none, (.mv (.t 20))⟩] none) .ret) .skip))
 (.seq (.reg [⟨(some 9), none, (.mv (.c (.sc (.slice none 0 0))))⟩] none)
 (.seq (.block 0 
 (.loop ⟨[6, 7, 9], [(9, (48, 2))]⟩
 (.seq (.seq (.reg [⟨(some 21), none, (.mv (.t 6))⟩,
  ⟨(some 22), none, (.len (.t 21))⟩,
  ⟨(some 23), none, (.bin .gtr (.t 22) (.c (.sc (.int .i64 (0)))))⟩,
  ⟨(some 24), none, (.mv (.t 23))⟩,
  ⟨(some 25), (some (24, true)), (.mv (.t 7))⟩,
  ⟨(some 26), (some (24, true)), (.len (.t 25))⟩,
  ⟨(some 27), (some (24, true)), (.bin .gtr (.t 26) (.c (.sc (.int .i64 (0)))))⟩,
  ⟨(some 28), none, (.pick (.t 24) (.t 27) (.c (.sc (.bool false))))⟩] none)
 (.cond (.t 28) .skip (.exit 0))) (.block 1
 (.seq (.reg [⟨(some 29), none, (.mv (.t 6))⟩,
  ⟨(some 30), none, (.iaddr 2 (.t 29) (.c (.sc (.int .i64 (0)))))⟩,
  ⟨(some 31), none, (.faddr 0 (.t 30))⟩,
  ⟨(some 32), none, (.load 1 false (.t 31))⟩,
  ⟨(some 33), none, (.mv (.t 7))⟩,
  ⟨(some 34), none, (.iaddr 2 (.t 33) (.c (.sc (.int .i64 (0)))))⟩,
  ⟨(some 35), none, (.faddr 0 (.t 34))⟩,
  ⟨(some 36), none, (.load 1 false (.t 35))⟩,
  ⟨(some 37), none, (.mx (.t 32) (.t 36))⟩,
  ⟨(some 38), none, (.mv (.t 6))⟩,
  ⟨(some 39), none, (.iaddr 2 (.t 38) (.c (.sc (.int .i64 (0)))))⟩,
  ⟨(some 40), none, (.faddr 1 (.t 39))⟩,
  ⟨(some 41), none, (.load 1 false (.t 40))⟩,
  ⟨(some 42), none, (.mv (.t 7))⟩,
  ⟨(some 43), none, (.iaddr 2 (.t 42) (.c (.sc (.int .i64 (0)))))⟩,
  ⟨(some 44), none, (.faddr 1 (.t 43))⟩,
  ⟨(some 45), none, (.load 1 false (.t 44))⟩,
  ⟨(some 46), none, (.mn (.t 41) (.t 45))⟩,
  ⟨(some 47), none, (.build [(.sc (.int .i64 (0))), (.sc (.int .i64 (0)))] [(0, (1, (.t 37))), (1, (1, (.t 46)))])⟩,
  ⟨(some 10), none, (.new [(.sc (.int .i64 (0))), (.sc (.int .i64 (0)))])⟩,
  ⟨none, none, (.store 2 (.t 10) (.t 47))⟩] (some [[], [0], [1, 0], [2, 1, 0], [], [4], [5, 4], [6, 5, 4], [3, 7, 2, 1, 0, 6, 5, 4], [], [9], [10, 9], [11, 10, 9], [], [13], [14, 13], [15, 14, 13], [12, 16, 11, 10, 9, 15, 14, 13], [8, 17, 3, 7, 2, 1, 0, 6, 5, 4, 12, 16, 11, 10, 9, 15, 14, 13], [], [19, 18, 0, 1, 2, 3, 4, 5, 6, 7, 8, 9, 10, 11, 12, 13, 14, 15, 16, 17]]))
 (.seq (.seq (.reg [⟨(some 48), none, (.faddr 0 (.t 10))⟩,
  ⟨(some 49), none, (.load 1 false (.t 48))⟩,
  ⟨(some 50), none, (.faddr 1 (.t 10))⟩,
  ⟨(some 51), none, (.load 1 false (.t 50))⟩,
  ⟨(some 52), none, (.bin .lss (.t 49) (.t 51))⟩] none)
 (.cond (.t 52) (.reg [⟨(some 53), none, (.mv (.t 9))⟩,
  ⟨(some 54), none, (.load 2 true (.t 10))⟩,
  ⟨(some 55), none, (.bslice 48 2 [(.t 54)])⟩,
  ⟨(some 56), none, (.append 48 2 16 (.t 53) (.t 55))⟩,
  ⟨(some 9), none, (.mv (.t 56))⟩] none) .skip))
 (.seq (.reg [⟨(some 57), none, (.mv (.t 6))⟩,
  ⟨(some 58), none, (.iaddr 2 (.t 57) (.c (.sc (.int .i64 (0)))))⟩,
  ⟨(some 59), none, (.faddr 1 (.t 58))⟩,
  ⟨(some 60), none, (.load 1 false (.t 59))⟩,
  ⟨(some 61), none, (.mv (.t 7))⟩,
  ⟨(some 62), none, (.iaddr 2 (.t 61) (.c (.sc (.int .i64 (0)))))⟩,
  ⟨(some 63), none, (.faddr 1 (.t 62))⟩,
  ⟨(some 64), none, (.load 1 false (.t 63))⟩,
  ⟨(some 65), none, (.bin .lss (.t 60) (.t 64))⟩] (some [[], [0], [1, 0], [2, 1, 0], [], [4], [5, 4], [6, 5, 4], [3, 7, 2, 1, 0, 6, 5, 4]]))
 (.cond (.t 65) (.reg [⟨(some 66), none, (.mv (.t 6))⟩,
  ⟨(some 67), none, (.slice 2 (.t 66) (some (.c (.sc (.int .i64 (1))))) none none)⟩,
  ⟨(some 6), none, (.mv (.t 67))⟩] none) (.reg [⟨(some 68), none, (.mv (.t 7))⟩,
  ⟨(some 69), none, (.slice 2 (.t 68) (some (.c (.sc (.int .i64 (1))))) none none)⟩,
  ⟨(some 7), none, (.mv (.t 69))⟩] none)))))))))
 (.seq (.reg [⟨(some 70), none, (.mv (.t 9))⟩,
  ⟨(some 4), none, (.mv (.t 70))⟩,
  ⟨(some 5), none, (.mv (.c (.sc (.int .i64 (0)))))⟩] none) .ret))))))
theorem good46 {args : List PV} {r : PV} (hl : args.length ≤ 71) (h : Run Try.prog [.code ac46] (endQ [(.t 4), (.t 5)] r) ⟨initT 0 args, [], 0, 71⟩) : Good Try.prog 46 args r :=
  good_run (by kernel_rfl) Eamix Try.func46 rfl (hs := [⟨[6, 7, 9], [(9, 48, 2)]⟩]) (hs' := []) (by kernel_rfl) hl h
def ac47 : ACode :=
 (.seq (.reg [⟨(some 2), none, (.mv (.c (.sc (.slice none 0 0))))⟩] none)
 (.seq (.reg [⟨(some 3), none, (.mv (.c (.sc (.slice none 0 0))))⟩] none)
 (.seq (.seq (.reg [⟨(some 6), none, (.mv (.t 0))⟩,
  ⟨(some 7), none, (.len (.t 6))⟩,
  ⟨(some 8), none, (.mv (.c (.sc (.int .i64 (0)))))⟩] none) (.block 0 
 (.loop ⟨[3, 6, 7, 8], [(3, (48, 2))]⟩
 (.seq (.reg [⟨(some 9), none, (.bin .lss (.t 8) (.t 7))⟩] none)
 (.seq
 (.cond (.t 9) .skip (.exit 0))
 (.seq (.block 1
 (.seq (.reg [⟨(some 10), none, (.iaddr 4 (.t 6) (.t 8))⟩,
  ⟨(some 11), none, (.load 4 true (.t 10))⟩,
  ⟨(some 5), none, (.new [(.sc (.int .i64 (0))), (.sc (.int .i64 (0))), (.sc (.int .i64 (0))), (.sc (.int .i64 (0)))])⟩,
  ⟨none, none, (.store 4 (.t 5) (.t 11))⟩] none) (.reg [⟨(some 12), none, (.mv (.t 3))⟩,
  ⟨(some 13), none, (.faddr 0 (.t 5))⟩,
  ⟨(some 14), none, (.faddr 1 (.t 13))⟩,
  ⟨(some 15), none, (.load 1 false (.t 14))⟩,
  ⟨(some 16), none, (.faddr 0 (.t 5))⟩,
  ⟨(some 17), none, (.faddr 1 (.t 16))⟩,
  ⟨(some 18), none, (.load 1 false (.t 17))⟩,
  ⟨(some 19), none, (.faddr 2 (.t 5))⟩,
  ⟨(some 20), none, (.faddr 0 (.t 19))⟩,
  ⟨(some 21), none, (.load 1 false (.t 20))⟩,
  ⟨(some 22), none, (.mx (.t 18) (.t 21))⟩,
  ⟨(some 23), none, (.build [(.sc (.int .i64 (0))), (.sc (.int .i64 (0)))] [(0, (1, (.t 15))), (1, (1, (.t 22)))])⟩,
  ⟨(some 24), none, (.bslice 48 2 [(.t 23)])⟩,
  ⟨(some 25), none, (.append 48 2 16 (.t 12) (.t 24))⟩,
  ⟨(some 3), none, (.mv (.t 25))⟩] none))) (.reg [⟨(some 26), none, (.bin .add (.t 8) (.c (.sc (.int .i64 (1)))))⟩,
  ⟨(some 8), none, (.mv (.t 26))⟩] none)))))))
 (.seq (.reg [⟨(some 27), none, (.mv (.t 3))⟩,
  ⟨(some 2), none, (.mv (.t 27))⟩] none) .ret))))
theorem good47 {args : List PV} {r : PV} (hl : args.length ≤ 28) (h : Run Try.prog [.code ac47] (endQ [(.t 2)] r) ⟨initT 0 args, [], 0, 28⟩) : Good Try.prog 47 args r :=
  good_run (by kernel_rfl) Eamix Try.func47 rfl (hs := [⟨[3, 6, 7, 8], [(3, 48, 2)]⟩]) (hs' := []) (by kernel_rfl) hl h
def ac65 : ACode :=
 (.seq (.reg [⟨(some 4), none, (.mv (.c (.sc (.slice none 0 0))))⟩,
  ⟨(some 5), none, (.mv (.c (.sc (.slice none 0 0))))⟩,
  ⟨(some 6), none, (.mv (.c (.sc (.int .i64 (0)))))⟩] none)
 (.seq (.reg [⟨(some 11), none, (.mv (.t 0))⟩,
  ⟨(some 12), none, (.call 48 [(.t 11)])⟩,
  ⟨(some 10), none, (.mv (.t 12))⟩,
  ⟨(some 13), none, (.ext 0 (.t 10))⟩,
  ⟨(some 14), none, (.ext 1 (.t 10))⟩,
  ⟨(some 7), none, (.mv (.t 13))⟩,
  ⟨(some 8), none, (.mv (.t 14))⟩] none)
 (.seq (.seq (.reg [⟨(some 15), none, (.mv (.t 8))⟩,
  ⟨(some 16), none, (.bin .neq (.t 15) (.c (.sc (.int .i64 (0)))))⟩] none)
 (.cond (.t 16)
 (.seq (.reg [⟨(some 17), none, (.mv (.t 8))⟩,
  ⟨(some 4), none, (.mv (.c (.sc (.slice none 0 0))))⟩,
  ⟨(some 5), none, (.mv (.c (.sc (.slice none 0 0))))⟩,
  ⟨(some 6), none, (.mv (.t 17))⟩] none) .ret) .skip))
 (.seq (.reg [⟨(some 19), none, (.mv (.t 1))⟩,
  ⟨(some 20), none, (.call 48 [(.t 19)])⟩,
  ⟨(some 18), none, (.mv (.t 20))⟩,
  ⟨(some 21), none, (.ext 0 (.t 18))⟩,
  ⟨(some 22), none, (.ext 1 (.t 18))⟩,
  ⟨(some 9), none, (.mv (.t 21))⟩,
  ⟨(some 8), none, (.mv (.t 22))⟩] none)
 (.seq (.seq (.reg [⟨(some 23), none, (.mv (.t 8))⟩,
  ⟨(some 24), none, (.bin .neq (.t 23) (.c (.sc (.int .i64 (0)))))⟩] none)
 (.cond (.t 24)
 (.seq (.reg [⟨(some 25), none, (.mv (.t 8))⟩,
  ⟨(some 4), none, (.mv (.c (.sc (.slice none 0 0))))⟩,
  ⟨(some 5), none, (.mv (.c (.sc (.slice none 0 0))))⟩,
  ⟨(some 6), none, (.mv (.t 25))⟩] none) .ret) .skip))
 (.seq (.reg [⟨(some 26), none, (.mv (.t 7))⟩,
  ⟨(some 27), none, (.mv (.t 9))⟩,
  ⟨(some 4), none, (.mv (.t 26))⟩,
  ⟨(some 5), none, (.mv (.t 27))⟩,
  ⟨(some 6), none, (.mv (.c (.sc (.int .i64 (0)))))⟩] none) .ret))))))
theorem good65 {args : List PV} {r : PV} (hl : args.length ≤ 28) (h : Run Try.prog [.code ac65] (endQ [(.t 4), (.t 5), (.t 6)] r) ⟨initT 0 args, [], 0, 28⟩) : Good Try.prog 65 args r :=
  good_run (by kernel_rfl) Eamix Try.func65 rfl (hs := []) (hs' := []) (by kernel_rfl) hl h
def ac68 : ACode :=
 (.seq (.reg [⟨(some 1), none, (.boxv (.t 0))⟩,
  ⟨(some 2), none, (.mv (.c (.sc (.bool false))))⟩] none)
 (.seq (.reg [⟨(some 3), none, (.faddr 0 (.t 1))⟩,
  ⟨(some 4), none, (.load 1 false (.t 3))⟩,
  ⟨(some 5), none, (.bin .leq (.c (.sc (.int .i64 (0)))) (.t 4))⟩,
  ⟨(some 6), none, (.mv (.t 5))⟩,
  ⟨(some 7), (some (6, true)), (.faddr 0 (.t 1))⟩,
  ⟨(some 8), (some (6, true)), (.load 1 false (.t 7))⟩,
  ⟨(some 9), (some (6, true)), (.faddr 1 (.t 1))⟩,
  ⟨(some 10), (some (6, true)), (.load 1 false (.t 9))⟩,
  ⟨(some 11), (some (6, true)), (.bin .leq (.t 8) (.t 10))⟩,
  ⟨(some 12), none, (.pick (.t 6) (.t 11) (.c (.sc (.bool false))))⟩,
  ⟨(some 13), none, (.mv (.t 12))⟩,
  ⟨(some 14), (some (13, true)), (.faddr 1 (.t 1))⟩,
  ⟨(some 15), (some (13, true)), (.load 1 false (.t 14))⟩,
  ⟨(some 16), (some (13, true)), (.bin .leq (.t 15) (.c (.sc (.int .i64 (4294944000)))))⟩,
  ⟨(some 17), none, (.pick (.t 13) (.t 16) (.c (.sc (.bool false))))⟩,
  ⟨(some 2), none, (.mv (.t 17))⟩] none) .ret))
theorem good68 {args : List PV} {r : PV} (hl : args.length ≤ 18) (h : Run Try.prog [.code ac68] (endQ [(.t 2)] r) ⟨initT 0 args, [], 0, 18⟩) : Good Try.prog 68 args r :=
  good_run (by kernel_rfl) Eamix Try.func68 rfl (hs := []) (hs' := []) (by kernel_rfl) hl h
def ac67 : ACode :=
 (.seq (.reg [⟨(some 1), none, (.boxv (.t 0))⟩,
  ⟨(some 2), none, (.mv (.c (.sc (.bool false))))⟩] none)
 (.seq (.reg [⟨(some 3), none, (.load 2 true (.t 1))⟩,
  ⟨(some 4), none, (.call 68 [(.t 3)])⟩,
  ⟨(some 5), none, (.un .not (.t 4))⟩,
  ⟨(some 2), none, (.mv (.t 5))⟩] none) .ret))
theorem good67 {args : List PV} {r : PV} (hl : args.length ≤ 6) (h : Run Try.prog [.code ac67] (endQ [(.t 2)] r) ⟨initT 0 args, [], 0, 6⟩) : Good Try.prog 67 args r :=
  good_run (by kernel_rfl) Eamix Try.func67 rfl (hs := []) (hs' := []) (by kernel_rfl) hl h
def ac70 : ACode :=
 (.seq (.reg [⟨(some 2), none, (.boxv (.t 0))⟩,
  ⟨(some 3), none, (.boxv (.t 1))⟩,
  ⟨(some 4), none, (.mv (.c (.sc (.int .i64 (0)))))⟩] none)
 (.seq (.reg [⟨(some 5), none, (.faddr 0 (.t 2))⟩,
  ⟨(some 6), none, (.load 1 false (.t 5))⟩,
  ⟨(some 7), none, (.faddr 0 (.t 3))⟩,
  ⟨(some 8), none, (.load 1 false (.t 7))⟩,
  ⟨(some 9), none, (.call 71 [(.t 6), (.t 8)])⟩,
  ⟨(some 4), none, (.mv (.t 9))⟩] none) .ret))
theorem good70 {args : List PV} {r : PV} (hl : args.length ≤ 10) (h : Run Try.prog [.code ac70] (endQ [(.t 4)] r) ⟨initT 0 args, [], 0, 10⟩) : Good Try.prog 70 args r :=
  good_run (by kernel_rfl) Eamix Try.func70 rfl (hs := []) (hs' := []) (by kernel_rfl) hl h
def ac71 : ACode :=
 (.seq (.reg [⟨(some 4), none, (.mv (.c (.sc (.int .i64 (0)))))⟩] none)
 (.seq (.reg [⟨(some 7), none, (.mv (.t 0))⟩,
  ⟨(some 8), none, (.call 79 [(.t 7)])⟩,
  ⟨(some 5), none, (.mv (.t 8))⟩] none)
 (.seq (.reg [⟨(some 9), none, (.mv (.t 1))⟩,
  ⟨(some 10), none, (.call 79 [(.t 9)])⟩,
  ⟨(some 6), none, (.mv (.t 10))⟩] none)
 (.seq (.seq (.reg [⟨(some 11), none, (.mv (.t 5))⟩] none)
 (.cond (.t 11)
 (.seq (.seq (.reg [⟨(some 12), none, (.mv (.t 6))⟩] none)
 (.cond (.t 12)
 (.seq (.reg [⟨(some 4), none, (.mv (.c (.sc (.int .i64 (0)))))⟩] none) .ret) .skip))
 (.seq (.reg [⟨(some 4), none, (.mv (.c (.sc (.int .i64 (-1)))))⟩] none) .ret)) .skip))
 (.seq (.seq (.reg [⟨(some 13), none, (.mv (.t 6))⟩] none)
 (.cond (.t 13)
 (.seq (.reg [⟨(some 4), none, (.mv (.c (.sc (.int .i64 (1)))))⟩] none) .ret) .skip))
 (.seq (.seq (.reg [⟨(some 14), none, (.mv (.t 0))⟩,
  ⟨(some 15), none, (.mv (.t 1))⟩,
  ⟨(some 16), none, (.bin .lss (.t 14) (.t 15))⟩] none)
 (.cond (.t 16)
 (.seq (.reg [⟨(some 4), none, (.mv (.c (.sc (.int .i64 (-1)))))⟩] none) .ret) .skip))
 (.seq (.seq (.reg [⟨(some 17), none, (.mv (.t 0))⟩,
  ⟨(some 18), none, (.mv (.t 1))⟩,
  ⟨(some 19), none, (.bin .gtr (.t 17) (.t 18))⟩] none)
 (.cond (.t 19)
 (.seq (.reg [⟨(some 4), none, (.mv (.c (.sc (.int .i64 (1)))))⟩] none) .ret) .skip))
 (.seq (.reg [⟨(some 4), none, (.mv (.c (.sc (.int .i64 (0)))))⟩] none) .ret))))))))
theorem good71 {args : List PV} {r : PV} (hl : args.length ≤ 20) (h : Run Try.prog [.code ac71] (endQ [(.t 4)] r) ⟨initT 0 args, [], 0, 20⟩) : Good Try.prog 71 args r :=
  good_run (by kernel_rfl) Eamix Try.func71 rfl (hs := []) (hs' := []) (by kernel_rfl) hl h
def ac79 : ACode :=
 (.seq (.reg [⟨(some 2), none, (.mv (.c (.sc (.bool false))))⟩] none)
 (.seq (.reg [⟨(some 3), none, (.mv (.t 0))⟩,
  ⟨(some 4), none, (.mv (.t 0))⟩,
  ⟨(some 5), none, (.bin .neq (.t 3) (.t 4))⟩,
  ⟨(some 2), none, (.mv (.t 5))⟩] none) .ret))
theorem good79 {args : List PV} {r : PV} (hl : args.length ≤ 6) (h : Run Try.prog [.code ac79] (endQ [(.t 2)] r) ⟨initT 0 args, [], 0, 6⟩) : Good Try.prog 79 args r :=
  good_run (by kernel_rfl) Eamix Try.func79 rfl (hs := []) (hs' := []) (by kernel_rfl) hl h
def ac66 : ACode :=
 (.seq (.reg [⟨(some 4), none, (.mv (.c (.sc (.bool false))))⟩] none)
 (.seq (.reg [⟨(some 5), none, (.mv (.t 0))⟩,
  ⟨(some 6), none, (.mv (.t 1))⟩,
  ⟨(some 7), none, (.call 80 [(.t 5), (.t 6)])⟩,
  ⟨(some 8), none, (.bin .geq (.t 7) (.c (.sc (.int .i64 (0)))))⟩,
  ⟨(some 4), none, (.mv (.t 8))⟩] none) .ret))
theorem good66 {args : List PV} {r : PV} (hl : args.length ≤ 9) (h : Run Try.prog [.code ac66] (endQ [(.t 4)] r) ⟨initT 0 args, [], 0, 9⟩) : Good Try.prog 66 args r :=
  good_run (by kernel_rfl) Eamix Try.func66 rfl (hs := []) (hs' := []) (by kernel_rfl) hl h
def ac80 : ACode :=
 (.seq (.reg [⟨(some 4), none, (.mv (.c (.sc (.int .i64 (0)))))⟩] none)
 (.seq (.seq (.reg [⟨(some 6), none, (.mv (.t 0))⟩,
  ⟨(some 7), none, (.len (.t 6))⟩,
  ⟨(some 8), none, (.mv (.c (.sc (.int .i64 (0)))))⟩] none) (.block 0 
 (.loop ⟨[0, 1, 7, 8], []⟩
 (.seq (.reg [⟨(some 9), none, (.bin .lss (.t 8) (.t 7))⟩] none)
 (.seq
 (.cond (.t 9) .skip (.exit 0))
 (.seq (.block 1
 (.seq (.reg [⟨(some 10), none, (.mv (.t 8))⟩,
  ⟨(some 5), none, (.mv (.t 10))⟩] none)
 (.seq (.reg [⟨(some 11), none, (.mv (.t 1))⟩,
  ⟨(some 12), none, (.mv (.t 0))⟩,
  ⟨(some 13), none, (.mv (.t 5))⟩,
  ⟨(some 14), none, (.iaddr 2 (.t 12) (.t 13))⟩,
  ⟨(some 15), none, (.load 2 true (.t 14))⟩,
  ⟨(some 16), none, (.callv (.t 11) [(.t 15)])⟩] none)
 (.cond (.t 16)
 (.seq (.reg [⟨(some 17), none, (.mv (.t 5))⟩,
  ⟨(some 4), none, (.mv (.t 17))⟩] none) .ret) .skip)))) (.reg [⟨(some 18), none, (.bin .add (.t 8) (.c (.sc (.int .i64 (1)))))⟩,
  ⟨(some 8), none, (.mv (.t 18))⟩] none)))))))
 (.seq (.reg [⟨(some 4), none, (.mv (.c (.sc (.int .i64 (-1)))))⟩] none) .ret)))
theorem good80 {args : List PV} {r : PV} (hl : args.length ≤ 19) (h : Run Try.prog [.code ac80] (endQ [(.t 4)] r) ⟨initT 0 args, [], 0, 19⟩) : Good Try.prog 80 args r :=
  good_run (by kernel_rfl) Eamix Try.func80 rfl (hs := [⟨[0, 1, 7, 8], []⟩]) (hs' := []) (by kernel_rfl) hl h
end Go.Proofs.Ythgnbkcopapbmaa
