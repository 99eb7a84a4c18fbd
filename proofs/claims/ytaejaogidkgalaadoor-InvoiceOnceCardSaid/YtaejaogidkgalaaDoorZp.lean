/-
  Invoices: the chapter's examples.
-/
import Derived.Test.YtaejaogidkgalaaDoorZo
import Derived.Test.YtaejaogidkgalaaDoorZn
namespace Go.Proofs.YtaejaogidkgalaaDoor
open Go.RowKit
open Nat (reduceAdd reduceEqDiff reduceLT reduceLeDiff reduceSub reducePow reduceMul)
open Int (reduceToNat reduceLE reduceEq)
set_option linter.unusedVariables false
set_option linter.unusedSimpArgs false
set_option linter.unnecessarySimpa false

def exF : FareS := ⟨7, 1, [⟨1, 0, 100⟩, ⟨2, 0, 250⟩], 350⟩
def exC : CaseS := ⟨9, 1, ⟨0, 101⟩, [⟨7, 1, ⟨100, 100⟩, ⟨0, 0⟩, false, [], [], 0, 0, 0, 0⟩], [exF], [⟨4, 7, 1, 50⟩]⟩
def exX : InvS := ⟨9, 1, ⟨0, 101⟩, [exF], [⟨4, 7, 1, 50⟩], 300⟩
def exY : InvS := ⟨9, 1, ⟨0, 100⟩, [], [], 0⟩
theorem ex_x : madeX exC ⟨0, 101⟩ = (exX, 0) := by rfl
theorem ex_y : madeX exC ⟨0, 100⟩ = (exY, 0) := by rfl
theorem ex_c : checkX exX = 0 := by rfl
theorem ex_z : checkX zeroX = 1 := by rfl
def xL0 : List UInt8 := [105, 110, 118, 111, 105, 99, 101, 32, 57, 32, 114, 105, 100, 101, 114, 32, 49, 32, 102, 114, 111, 109, 32, 48, 32, 116, 111, 32, 49, 48, 49]
theorem bx0 : (⟨#[105, 110, 118, 111, 105, 99, 101, 32, 57, 32, 114, 105, 100, 101, 114, 32, 49, 32, 102, 114, 111, 109, 32, 48, 32, 116, 111, 32, 49, 48, 49]⟩ : ByteArray) = bA xL0 := rfl
def xL1 : List UInt8 := [114, 105, 100, 101, 32, 55, 32, 116, 111, 116, 97, 108, 32, 51, 46, 53, 48]
theorem bx1 : (⟨#[114, 105, 100, 101, 32, 55, 32, 116, 111, 116, 97, 108, 32, 51, 46, 53, 48]⟩ : ByteArray) = bA xL1 := rfl
def xL2 : List UInt8 := [105, 116, 101, 109, 32, 48, 32, 107, 105, 110, 100, 32, 49, 32, 114, 101, 102, 32, 48, 32, 97, 109, 111, 117, 110, 116, 32, 49, 46, 48, 48]
theorem bx2 : (⟨#[105, 116, 101, 109, 32, 48, 32, 107, 105, 110, 100, 32, 49, 32, 114, 101, 102, 32, 48, 32, 97, 109, 111, 117, 110, 116, 32, 49, 46, 48, 48]⟩ : ByteArray) = bA xL2 := rfl
def xL3 : List UInt8 := [105, 116, 101, 109, 32, 49, 32, 107, 105, 110, 100, 32, 50, 32, 114, 101, 102, 32, 48, 32, 97, 109, 111, 117, 110, 116, 32, 50, 46, 53, 48]
theorem bx3 : (⟨#[105, 116, 101, 109, 32, 49, 32, 107, 105, 110, 100, 32, 50, 32, 114, 101, 102, 32, 48, 32, 97, 109, 111, 117, 110, 116, 32, 50, 46, 53, 48]⟩ : ByteArray) = bA xL3 := rfl
def xL4 : List UInt8 := [114, 101, 102, 117, 110, 100, 32, 52, 32, 114, 105, 100, 101, 32, 55, 32, 105, 116, 101, 109, 32, 49, 32, 97, 109, 111, 117, 110, 116, 32, 48, 46, 53, 48]
theorem bx4 : (⟨#[114, 101, 102, 117, 110, 100, 32, 52, 32, 114, 105, 100, 101, 32, 55, 32, 105, 116, 101, 109, 32, 49, 32, 97, 109, 111, 117, 110, 116, 32, 48, 46, 53, 48]⟩ : ByteArray) = bA xL4 := rfl
def xL5 : List UInt8 := [116, 111, 116, 97, 108, 32, 51, 46, 48, 48]
theorem bx5 : (⟨#[116, 111, 116, 97, 108, 32, 51, 46, 48, 48]⟩ : ByteArray) = bA xL5 := rfl
theorem itoa1 {n : Int} (h0 : 0 ≤ n) (h : n < 10) : Lib.itoa n = [UInt8.ofNat (48 + n.toNat)] := by
  unfold Lib.itoa; rw [if_neg (by omega), Lib.decDigits, dif_pos (by omega)]
theorem dec1 {n : Nat} (h : n < 10) : Lib.decDigits n = [UInt8.ofNat (48 + n)] := by rw [Lib.decDigits, dif_pos h]
theorem itoa101 : Lib.itoa 101 = [49, 48, 49] := by
  unfold Lib.itoa; rw [if_neg (by decide), show (101 : Int).toNat = 101 from rfl, Lib.decDigits, dif_neg (by decide), Lib.decDigits, dif_neg (by decide), Lib.decDigits, dif_pos (by decide)]; rfl
theorem money1 {n : Int} (h0 : 0 ≤ n) (h : n < 1000) : moneyL n = [UInt8.ofNat (48 + n.toNat / 100), 46, UInt8.ofNat (48 + n.toNat / 10 % 10), UInt8.ofNat (48 + n.toNat % 10)] := by
  unfold moneyL moneyA
  rw [if_neg (by omega), show n.natAbs = n.toNat by omega, dec1 (n := n.toNat / 100) (by omega), dec1 (n := n.toNat / 10 % 10) (by omega), dec1 (n := n.toNat % 10) (by omega)]; rfl
theorem ex_l : linesX exX = [xL0, xL1, xL2, xL3, xL4, xL5] := by
  have e : linesX exX = [lHead exX, lFare exF, lItem 0 ⟨1, 0, 100⟩, lItem 1 ⟨2, 0, 250⟩, lRef ⟨4, 7, 1, 50⟩, lTot 300] := rfl
  rw [e]
  have q0 : lHead exX = xL0 := by
    show tInv ++ Lib.itoa 9 ++ tRid ++ Lib.itoa 1 ++ tFrom ++ Lib.itoa 0 ++ tTo ++ Lib.itoa 101 = xL0
    rw [itoa1 (n := 9) (by decide) (by decide), itoa1 (n := 1) (by decide) (by decide), itoa1 (n := 0) (by decide) (by decide), itoa101]; rfl
  have q1 : lFare exF = xL1 := by
    show tRide ++ Lib.itoa 7 ++ tTot ++ moneyL 350 = xL1
    rw [itoa1 (n := 7) (by decide) (by decide), money1 (n := 350) (by decide) (by decide)]; rfl
  have q2 : lItem 0 ⟨1, 0, 100⟩ = xL2 := by
    show tItem ++ Lib.itoa 0 ++ tKind ++ Lib.itoa 1 ++ tRef ++ Lib.itoa 0 ++ tAmt ++ moneyL 100 = xL2
    rw [itoa1 (n := 1) (by decide) (by decide), itoa1 (n := 0) (by decide) (by decide), money1 (n := 100) (by decide) (by decide)]; rfl
  have q3 : lItem 1 ⟨2, 0, 250⟩ = xL3 := by
    show tItem ++ Lib.itoa 1 ++ tKind ++ Lib.itoa 2 ++ tRef ++ Lib.itoa 0 ++ tAmt ++ moneyL 250 = xL3
    rw [itoa1 (n := 1) (by decide) (by decide), itoa1 (n := 2) (by decide) (by decide), itoa1 (n := 0) (by decide) (by decide), money1 (n := 250) (by decide) (by decide)]; rfl
  have q4 : lRef ⟨4, 7, 1, 50⟩ = xL4 := by
    show tRefd ++ Lib.itoa 4 ++ tRide2 ++ Lib.itoa 7 ++ tItem2 ++ Lib.itoa 1 ++ tAmt ++ moneyL 50 = xL4
    rw [itoa1 (n := 4) (by decide) (by decide), itoa1 (n := 7) (by decide) (by decide), itoa1 (n := 1) (by decide) (by decide), money1 (n := 50) (by decide) (by decide)]; rfl
  have q5 : lTot 300 = xL5 := by
    show tTot0 ++ moneyL 300 = xL5
    rw [money1 (n := 300) (by decide) (by decide)]; rfl
  rw [q0, q1, q2, q3, q4, q5]
theorem ex_p : linesP exX = .tup [.sl [txP xL0, txP xL1, txP xL2, txP xL3, txP xL4, txP xL5], intP 0] := by
  unfold linesP; rw [if_neg (by rw [ex_c]; simp), ex_l]; rfl
set_option maxHeartbeats 4000000 in
theorem example_g : Good Tryd.prog 27 [] exC.pv := by
  refine good27 (by simp) ?_
  simp only [ac27, AW, reduceAdd, reduceCtorEq, reduceEqDiff, ↓reduceIte, reduceLT, reduceLeDiff, reduceSub, reducePow, reduceMul, reduceToNat, reduceLE, reduceEq, Int.reduceLT, Int.reduceBEq, Int.reduceBNe]
  (try (simp only [exC, exF, CaseS.pv, RideS.pv, FareS.pv, ItemS.pv, ItemS.vals, RefS.pv, RefS.vals, List.map_cons, List.map_nil, AW, reduceAdd, reduceCtorEq, reduceEqDiff, ↓reduceIte, reduceLT, reduceLeDiff, reduceSub, reducePow, reduceMul, reduceToNat, reduceLE, reduceEq, Int.reduceLT, Int.reduceBEq, Int.reduceBNe]))
set_option maxHeartbeats 4000000 in
theorem awake_g : Good Tryd.prog 10 [] (.sc (.bool true)) := by
  have g0 := example_g
  have g1 := made_g exC ⟨0, 101⟩ (by decide) (by decide)
  have g2 := made_g exC ⟨0, 100⟩ (by decide) (by decide)
  rw [ex_x] at g1
  rw [ex_y] at g2
  have g3 := lines_g exX
  rw [ex_p] at g3
  have g4 := sameL_g [xL0, xL1, xL2, xL3, xL4, xL5]
  have g5 := icheck_g exX
  rw [ex_c] at g5
  have g6 := icheck_g zeroX
  rw [ex_z] at g6
  refine good10 (by simp) ?_
  simp only [exC, CaseS.pv, AW, reduceAdd, reduceCtorEq, reduceEqDiff, ↓reduceIte, reduceLT, reduceLeDiff, reduceSub, reducePow, reduceMul, reduceToNat, reduceLE, reduceEq, Int.reduceLT, Int.reduceBEq, Int.reduceBNe] at g0
  simp only [exC, CaseS.pv, WinS.pv, WinS.vals, makeP, exX, InvS.pv, intP, List.map_cons, List.map_nil, AW, reduceAdd, reduceCtorEq, reduceEqDiff, ↓reduceIte, reduceLT, reduceLeDiff, reduceSub, reducePow, reduceMul, reduceToNat, reduceLE, reduceEq, Int.reduceLT, Int.reduceBEq, Int.reduceBNe] at g1
  simp only [exC, CaseS.pv, WinS.pv, WinS.vals, makeP, exY, InvS.pv, intP, List.map_cons, List.map_nil, AW, reduceAdd, reduceCtorEq, reduceEqDiff, ↓reduceIte, reduceLT, reduceLeDiff, reduceSub, reducePow, reduceMul, reduceToNat, reduceLE, reduceEq, Int.reduceLT, Int.reduceBEq, Int.reduceBNe] at g2
  simp only [exX, InvS.pv, intP, List.map_cons, List.map_nil, txP, AW, reduceAdd, reduceCtorEq, reduceEqDiff, ↓reduceIte, reduceLT, reduceLeDiff, reduceSub, reducePow, reduceMul, reduceToNat, reduceLE, reduceEq, Int.reduceLT, Int.reduceBEq, Int.reduceBNe] at g3
  simp only [List.map_cons, List.map_nil, txP, AW, reduceAdd, reduceCtorEq, reduceEqDiff, ↓reduceIte, reduceLT, reduceLeDiff, reduceSub, reducePow, reduceMul, reduceToNat, reduceLE, reduceEq, Int.reduceLT, Int.reduceBEq, Int.reduceBNe] at g4
  simp only [exX, InvS.pv, List.map_cons, List.map_nil, AW, reduceAdd, reduceCtorEq, reduceEqDiff, ↓reduceIte, reduceLT, reduceLeDiff, reduceSub, reducePow, reduceMul, reduceToNat, reduceLE, reduceEq, Int.reduceLT, Int.reduceBEq, Int.reduceBNe] at g5
  simp only [zeroX, InvS.pv, List.map_cons, List.map_nil, AW, reduceAdd, reduceCtorEq, reduceEqDiff, ↓reduceIte, reduceLT, reduceLeDiff, reduceSub, reducePow, reduceMul, reduceToNat, reduceLE, reduceEq, Int.reduceLT, Int.reduceBEq, Int.reduceBNe] at g6
  simp only [ac10, AW, reduceAdd, reduceCtorEq, reduceEqDiff, ↓reduceIte, reduceLT, reduceLeDiff, reduceSub, reducePow, reduceMul, reduceToNat, reduceLE, reduceEq, Int.reduceLT, Int.reduceBEq, Int.reduceBNe]
  refine ops_call (g0) rfl ?_; simp only [AW, reduceAdd, reduceCtorEq, reduceEqDiff, ↓reduceIte, reduceLT, reduceLeDiff, reduceSub, reducePow, reduceMul, reduceToNat, reduceLE, reduceEq, Int.reduceLT, Int.reduceBEq, Int.reduceBNe]
  refine ops_call (g1) (by simp only [AW, reduceAdd, reduceCtorEq, reduceEqDiff, ↓reduceIte, reduceLT, reduceLeDiff, reduceSub, reducePow, reduceMul, reduceToNat, reduceLE, reduceEq, Int.reduceLT, Int.reduceBEq, Int.reduceBNe]) ?_; simp only [AW, reduceAdd, reduceCtorEq, reduceEqDiff, ↓reduceIte, reduceLT, reduceLeDiff, reduceSub, reducePow, reduceMul, reduceToNat, reduceLE, reduceEq, Int.reduceLT, Int.reduceBEq, Int.reduceBNe]
  refine ops_call (g0) rfl ?_; simp only [AW, reduceAdd, reduceCtorEq, reduceEqDiff, ↓reduceIte, reduceLT, reduceLeDiff, reduceSub, reducePow, reduceMul, reduceToNat, reduceLE, reduceEq, Int.reduceLT, Int.reduceBEq, Int.reduceBNe]
  refine ops_call (g2) (by simp only [AW, reduceAdd, reduceCtorEq, reduceEqDiff, ↓reduceIte, reduceLT, reduceLeDiff, reduceSub, reducePow, reduceMul, reduceToNat, reduceLE, reduceEq, Int.reduceLT, Int.reduceBEq, Int.reduceBNe]) ?_; simp only [AW, reduceAdd, reduceCtorEq, reduceEqDiff, ↓reduceIte, reduceLT, reduceLeDiff, reduceSub, reducePow, reduceMul, reduceToNat, reduceLE, reduceEq, Int.reduceLT, Int.reduceBEq, Int.reduceBNe]
  have n1 : (((1 : Nat) : Int) != 1) = false := by decide
  have n0 : (((0 : Nat) : Int) != 0) = false := by decide
  refine ops_call (g3) (by simp only [bx0, bx1, bx2, bx3, bx4, bx5, n1, n0, AW, reduceAdd, reduceCtorEq, reduceEqDiff, ↓reduceIte, reduceLT, reduceLeDiff, reduceSub, reducePow, reduceMul, reduceToNat, reduceLE, reduceEq, Int.reduceLT, Int.reduceBEq, Int.reduceBNe]) ?_; simp only [bx0, bx1, bx2, bx3, bx4, bx5, n1, n0, AW, reduceAdd, reduceCtorEq, reduceEqDiff, ↓reduceIte, reduceLT, reduceLeDiff, reduceSub, reducePow, reduceMul, reduceToNat, reduceLE, reduceEq, Int.reduceLT, Int.reduceBEq, Int.reduceBNe]
  (try simp only [bx0, bx1, bx2, bx3, bx4, bx5, n1, n0, AW, reduceAdd, reduceCtorEq, reduceEqDiff, ↓reduceIte, reduceLT, reduceLeDiff, reduceSub, reducePow, reduceMul, reduceToNat, reduceLE, reduceEq, Int.reduceLT, Int.reduceBEq, Int.reduceBNe])
  refine ops_call (g4) (by simp only [AW, reduceAdd, reduceCtorEq, reduceEqDiff, ↓reduceIte, reduceLT, reduceLeDiff, reduceSub, reducePow, reduceMul, reduceToNat, reduceLE, reduceEq, Int.reduceLT, Int.reduceBEq, Int.reduceBNe]) ?_; simp only [AW, reduceAdd, reduceCtorEq, reduceEqDiff, ↓reduceIte, reduceLT, reduceLeDiff, reduceSub, reducePow, reduceMul, reduceToNat, reduceLE, reduceEq, Int.reduceLT, Int.reduceBEq, Int.reduceBNe]
  refine ops_call (g5) (by simp only [AW, reduceAdd, reduceCtorEq, reduceEqDiff, ↓reduceIte, reduceLT, reduceLeDiff, reduceSub, reducePow, reduceMul, reduceToNat, reduceLE, reduceEq, Int.reduceLT, Int.reduceBEq, Int.reduceBNe]) ?_; simp only [AW, reduceAdd, reduceCtorEq, reduceEqDiff, ↓reduceIte, reduceLT, reduceLeDiff, reduceSub, reducePow, reduceMul, reduceToNat, reduceLE, reduceEq, Int.reduceLT, Int.reduceBEq, Int.reduceBNe]
  refine ops_call (g6) (by simp only [AW, reduceAdd, reduceCtorEq, reduceEqDiff, ↓reduceIte, reduceLT, reduceLeDiff, reduceSub, reducePow, reduceMul, reduceToNat, reduceLE, reduceEq, Int.reduceLT, Int.reduceBEq, Int.reduceBNe]) ?_; simp only [AW, reduceAdd, reduceCtorEq, reduceEqDiff, ↓reduceIte, reduceLT, reduceLeDiff, reduceSub, reducePow, reduceMul, reduceToNat, reduceLE, reduceEq, Int.reduceLT, Int.reduceBEq, Int.reduceBNe]


end Go.Proofs.YtaejaogidkgalaaDoor
