/-
  Numbers: ranges; sums and products of two.
-/
import Derived.Test.YtjnfldkcbcfboaaGreatDoorNt
import Derived.Test.YtjnfldkcbcfboaaGreatDoorNa
namespace Go.Proofs.YtjnfldkcbcfboaaGreatDoor
open Go.RowKit
open Nat (reduceAdd reduceEqDiff reduceLT reduceLeDiff reduceSub reducePow reduceMul)
open Int (reduceToNat reduceLE reduceEq)
set_option linter.unusedVariables false
set_option linter.unusedSimpArgs false
set_option linter.unnecessarySimpa false


def valB (n : Int) : Bool := decide (-1125899906842624 ≤ n) && decide (n ≤ 1125899906842624)
theorem valB_iff {n : Int} : valB n = true ↔ -1125899906842624 ≤ n ∧ n ≤ 1125899906842624 := by simp only [valB, Bool.and_eq_true, decide_eq_true_eq]
def chkP (n : Int) : PV := if valB n = true then .tup [intP n, intP 0] else .tup [intP 0, intP 2]
def addP (a b : Int) : PV := if valB a = true ∧ valB b = true then chkP (a + b) else .tup [intP 0, intP 1]
theorem rvalid_g (n : Int) : Good Tryz.prog 62 [intP n] (.sc (.bool (valB n))) := by
  refine good62 (by simp) ?_
  simp only [ac62, intP, AW, reduceAdd, reduceCtorEq, reduceEqDiff, ↓reduceIte, reduceLT, reduceLeDiff, reduceSub, reducePow, reduceMul, reduceToNat, reduceLE, reduceEq, Int.reduceLT, Int.reduceBEq, Int.reduceBNe]
  cases h : decide ((-1125899906842624 : Int) ≤ n)
  · simp only [AW, reduceAdd, reduceCtorEq, reduceEqDiff, ↓reduceIte, reduceLT, reduceLeDiff, reduceSub, reducePow, reduceMul, reduceToNat, reduceLE, reduceEq, Int.reduceLT, Int.reduceBEq, Int.reduceBNe]; simp only [valB, h, Bool.false_and]
  · simp only [AW, reduceAdd, reduceCtorEq, reduceEqDiff, ↓reduceIte, reduceLT, reduceLeDiff, reduceSub, reducePow, reduceMul, reduceToNat, reduceLE, reduceEq, Int.reduceLT, Int.reduceBEq, Int.reduceBNe]; simp only [valB, h, Bool.true_and]
end Go.Proofs.YtjnfldkcbcfboaaGreatDoor
