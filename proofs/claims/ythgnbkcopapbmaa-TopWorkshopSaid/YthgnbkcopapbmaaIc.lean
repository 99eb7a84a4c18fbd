/-
  The translated codes of functions, checked by the kernel.
-/
import Derived.Test.YthgnbkcopapbmaaKc
import Derived.KernelRfl
namespace Go.Proofs.Ythgnbkcopapbmaa
set_option linter.unusedVariables false
set_option linter.unusedSimpArgs false
set_option linter.unnecessarySimpa false
theorem Icmix : Try.prog.follows .mixedOrders = true := by kernel_rfl
def ac51 : ACode :=
 (.seq (.reg [⟨(some 2), none, (.mv (.c (.sc (.slice none 0 0))))⟩] none)
 (.seq (.reg [⟨(some 3), none, (.mv (.c (.sc (.int .i64 (0)))))⟩] none)
 (.seq (.seq (.reg [⟨(some 9), none, (.mv (.t 0))⟩,
  ⟨(some 10), none, (.len (.t 9))⟩,
  ⟨(some 11), none, (.mv (.c (.sc (.int .i64 (0)))))⟩] none) (.block 0 
 (.loop ⟨[0, 3, 9, 10, 11], []⟩
 (.seq (.reg [⟨(some 12), none, (.bin .lss (.t 11) (.t 10))⟩] none)
 (.seq
 (.cond (.t 12) .skip (.exit 0))
 (.seq (.block 1
 (.seq (.reg [⟨(some 13), none, (.iaddr 1 (.t 9) (.t 11))⟩,
  ⟨(some 14), none, (.load 1 false (.t 13))⟩,
  ⟨(some 5), none, (.mv (.t 14))⟩] none)
 (.seq (.reg [⟨(some 15), none, (.mv (.t 3))⟩,
  ⟨(some 16), none, (.mv (.t 5))⟩,
  ⟨(some 17), none, (.len (.t 16))⟩,
  ⟨(some 18), none, (.bin .add (.t 15) (.t 17))⟩,
  ⟨(some 3), none, (.mv (.t 18))⟩] none)
 (.seq (.reg [⟨(some 19), none, (.mv (.t 3))⟩,
  ⟨(some 20), none, (.bin .lss (.t 19) (.c (.sc (.int .i64 (0)))))⟩] none)
 (.cond (.t 20) .dead .skip))))) (.reg [⟨(some 22), none, (.bin .add (.t 11) (.c (.sc (.int .i64 (1)))))⟩,
  ⟨(some 11), none, (.mv (.t 22))⟩] none)))))))
 (.seq (.reg [⟨(some 23), none, (.mv (.t 3))⟩,
  ⟨(some 24), none, (.call 73 [(.c (.sc (.slice none 0 0))), (.t 23)])⟩,
  ⟨(some 6), none, (.mv (.t 24))⟩] none)
 (.seq (.seq (.reg [⟨(some 25), none, (.mv (.t 0))⟩,
  ⟨(some 26), none, (.len (.t 25))⟩,
  ⟨(some 27), none, (.mv (.c (.sc (.int .i64 (0)))))⟩] none) (.block 2 
 (.loop ⟨[6, 25, 26, 27], [(6, (3, 1))]⟩
 (.seq (.reg [⟨(some 28), none, (.bin .lss (.t 27) (.t 26))⟩] none)
 (.seq
 (.cond (.t 28) .skip (.exit 2))
 (.seq (.block 3
 (.seq (.reg [⟨(some 29), none, (.iaddr 1 (.t 25) (.t 27))⟩,
  ⟨(some 30), none, (.load 1 false (.t 29))⟩,
  ⟨(some 8), none, (.mv (.t 30))⟩] none) (.reg [⟨(some 31), none, (.mv (.t 6))⟩,
  ⟨(some 32), none, (.mv (.t 8))⟩,
  ⟨(some 33), none, (.append 3 1 8 (.t 31) (.t 32))⟩,
  ⟨(some 6), none, (.mv (.t 33))⟩] none))) (.reg [⟨(some 34), none, (.bin .add (.t 27) (.c (.sc (.int .i64 (1)))))⟩,
  ⟨(some 27), none, (.mv (.t 34))⟩] none)))))))
 (.seq (.reg [⟨(some 35), none, (.mv (.t 6))⟩,
  ⟨(some 2), none, (.mv (.t 35))⟩] none) .ret))))))
theorem good51 {args : List PV} {r : PV} (hl : args.length ≤ 36) (h : Run Try.prog [.code ac51] (endQ [(.t 2)] r) ⟨initT 0 args, [], 0, 36⟩) : Good Try.prog 51 args r :=
  good_run (by kernel_rfl) Icmix Try.func51 rfl (hs := [⟨[0, 3, 9, 10, 11], []⟩, ⟨[6, 25, 26, 27], [(6, 3, 1)]⟩]) (hs' := []) (by kernel_rfl) hl h
def ac73 : ACode :=
 (.seq (.reg [⟨(some 4), none, (.mv (.c (.sc (.slice none 0 0))))⟩] none)
 (.seq (.seq (.reg [⟨(some 5), none, (.mv (.t 1))⟩,
  ⟨(some 6), none, (.bin .lss (.t 5) (.c (.sc (.int .i64 (0)))))⟩] none)
 (.cond (.t 6) .dead .skip))
 (.seq (.seq .dead
 (.seq (.reg [⟨(some 15), none, (.mv (.t 1))⟩,
  ⟨(some 16), none, (.bin .gtr (.t 15) (.c (.sc (.int .i64 (0)))))⟩] none)
 (.cond (.t 16) .dead .skip)))
 (.seq (.reg [⟨(some 26), none, (.mv (.t 0))⟩,
  ⟨(some 4), none, (.mv (.t 26))⟩] none) .ret))))
theorem good73 {args : List PV} {r : PV} (hl : args.length ≤ 27) (h : Run Try.prog [.code ac73] (endQ [(.t 4)] r) ⟨initT 0 args, [], 0, 27⟩) : Good Try.prog 73 args r :=
  good_run (by kernel_rfl) Icmix Try.func73 rfl (hs := []) (hs' := []) (by kernel_rfl) hl h
def ac18 : ACode :=
 (.seq (.reg [⟨(some 8), none, (.new [(.sc (.int .i64 (0))), (.sc (.int .i64 (0))), (.sc (.int .i64 (0))), (.sc (.bool false))])⟩,
  ⟨(some 9), none, (.mv (.c (.sc (.bool false))))⟩] none)
 (.seq (.reg [⟨(some 10), none, (.new [(.sc (.int .i64 (0))), (.sc (.int .i64 (0))), (.sc (.int .i64 (0))), (.sc (.bool false))])⟩] none)
 (.seq (.reg [⟨(some 11), none, (.new [(.sc (.bool false))])⟩,
  ⟨none, none, (.store 1 (.t 11) (.c (.sc (.bool false))))⟩] none)
 (.seq (.seq (.reg [⟨(some 13), none, (.mv (.t 0))⟩,
  ⟨(some 14), none, (.mv (.t 1))⟩,
  ⟨(some 15), none, (.mv (.t 2))⟩,
  ⟨(some 16), none, (.mv (.t 3))⟩,
  ⟨(some 17), none, (.call 34 [(.t 13), (.t 14), (.t 15), (.t 16)])⟩] none) (.block 0 .dead))
 (.seq (.reg [⟨(some 29), none, (.load 4 true (.t 10))⟩,
  ⟨(some 30), none, (.load 1 false (.t 11))⟩,
  ⟨none, none, (.store 4 (.t 8) (.t 29))⟩,
  ⟨(some 9), none, (.mv (.t 30))⟩] (some [[], [], [0], [1, 2, 0]])) .ret)))))
theorem good18 {args : List PV} {r : PV} (hl : args.length ≤ 31) (h : Run Try.prog [.code ac18] (endQ [(.c 8 4 true), (.t 9)] r) ⟨initT 0 args, [], 0, 31⟩) : Good Try.prog 18 args r :=
  good_run (by kernel_rfl) Icmix Try.func18 rfl (hs := []) (hs' := []) (by kernel_rfl) hl h
def ac34 : ACode :=
 (.seq (.reg [⟨(some 4), none, (.boxv (.t 0))⟩,
  ⟨(some 5), none, (.boxv (.t 1))⟩,
  ⟨(some 6), none, (.boxv (.t 2))⟩,
  ⟨(some 7), none, (.boxv (.t 3))⟩,
  ⟨(some 8), none, (.mv (.c (.sc .nilFunc)))⟩] none)
 (.seq .dead .ret))
theorem good34 {args : List PV} {r : PV} (hl : args.length ≤ 10) (h : Run Try.prog [.code ac34] (endQ [(.t 8)] r) ⟨initT 0 args, [], 0, 10⟩) : Good Try.prog 34 args r :=
  good_run (by kernel_rfl) Icmix Try.func34 rfl (hs := []) (hs' := []) (by kernel_rfl) hl h
def ac52 : ACode :=
 (.seq (.reg [⟨(some 8), none, (.load 1 false (.t 1))⟩,
  ⟨(some 9), none, (.len (.t 8))⟩,
  ⟨(some 10), none, (.mv (.c (.sc (.int .i64 (0)))))⟩] none) (.block 0 
 (.loop ⟨[0, 2, 3, 4, 8, 9, 10], []⟩
 (.seq (.reg [⟨(some 11), none, (.bin .lss (.t 10) (.t 9))⟩] none)
 (.seq
 (.cond (.t 11) .skip (.exit 0))
 (.seq (.block 1
 (.seq (.reg [⟨(some 12), none, (.iaddr 4 (.t 8) (.t 10))⟩,
  ⟨(some 13), none, (.load 4 true (.t 12))⟩,
  ⟨(some 7), none, (.new [(.sc (.int .i64 (0))), (.sc (.int .i64 (0))), (.sc (.int .i64 (0))), (.sc (.bool false))])⟩,
  ⟨none, none, (.store 4 (.t 7) (.t 13))⟩] none)
 (.seq (.reg [⟨(some 14), none, (.faddr 0 (.t 7))⟩,
  ⟨(some 15), none, (.load 1 false (.t 14))⟩,
  ⟨(some 16), none, (.load 1 false (.t 2))⟩,
  ⟨(some 17), none, (.bin .eql (.t 15) (.t 16))⟩,
  ⟨(some 18), none, (.mv (.t 17))⟩,
  ⟨(some 19), (some (18, true)), (.faddr 1 (.t 7))⟩,
  ⟨(some 20), (some (18, true)), (.load 1 false (.t 19))⟩,
  ⟨(some 21), (some (18, true)), (.load 1 false (.t 3))⟩,
  ⟨(some 22), (some (18, true)), (.bin .eql (.t 20) (.t 21))⟩,
  ⟨(some 23), none, (.pick (.t 18) (.t 22) (.c (.sc (.bool false))))⟩,
  ⟨(some 24), none, (.mv (.t 23))⟩,
  ⟨(some 25), (some (24, true)), (.faddr 2 (.t 7))⟩,
  ⟨(some 26), (some (24, true)), (.load 1 false (.t 25))⟩,
  ⟨(some 27), (some (24, true)), (.load 1 false (.t 4))⟩,
  ⟨(some 28), (some (24, true)), (.bin .leq (.t 26) (.t 27))⟩,
  ⟨(some 29), none, (.pick (.t 24) (.t 28) (.c (.sc (.bool false))))⟩,
  ⟨(some 30), none, (.mv (.t 29))⟩,
  ⟨(some 31), (some (30, true)), (.mv (.t 0))⟩,
  ⟨(some 32), (some (30, true)), (.load 4 true (.t 7))⟩,
  ⟨(some 33), (some (30, true)), (.callv (.t 31) [(.t 32)])⟩,
  ⟨(some 34), (some (30, true)), (.un .not (.t 33))⟩,
  ⟨(some 35), none, (.pick (.t 30) (.t 34) (.c (.sc (.bool false))))⟩] none)
 (.cond (.t 35) .ret .skip)))) (.reg [⟨(some 36), none, (.bin .add (.t 10) (.c (.sc (.int .i64 (1)))))⟩,
  ⟨(some 10), none, (.mv (.t 36))⟩] none)))))))
theorem good52 {args : List PV} {r : PV} (hl : args.length ≤ 37) (h : Run Try.prog [.code ac52] (endQ [] r) ⟨initT 0 args, [], 0, 37⟩) : Good Try.prog 52 args r :=
  good_run (by kernel_rfl) Icmix Try.func52 rfl (hs := [⟨[0, 2, 3, 4, 8, 9, 10], []⟩]) (hs' := []) (by kernel_rfl) hl h
end Go.Proofs.Ythgnbkcopapbmaa
