/-
  Invoices: Lines of the program.
-/
import Derived.Test.YtaejaogidkgalaaDoorZl
import Derived.KernelRfl
namespace Go.Proofs.YtaejaogidkgalaaDoor
open Go.RowKit
open Nat (reduceAdd reduceEqDiff reduceLT reduceLeDiff reduceSub reducePow reduceMul)
open Int (reduceToNat reduceLE reduceEq)
set_option linter.unusedVariables false
set_option linter.unusedSimpArgs false
set_option linter.unnecessarySimpa false

def wInv : List UInt8 := [105, 110, 118, 111, 105, 99, 101]
theorem bwInv : (⟨#[105, 110, 118, 111, 105, 99, 101]⟩ : ByteArray) = bA wInv := rfl
def wRider : List UInt8 := [114, 105, 100, 101, 114]
theorem bwRider : (⟨#[114, 105, 100, 101, 114]⟩ : ByteArray) = bA wRider := rfl
def wFrom : List UInt8 := [102, 114, 111, 109]
theorem bwFrom : (⟨#[102, 114, 111, 109]⟩ : ByteArray) = bA wFrom := rfl
def wTo : List UInt8 := [116, 111]
theorem bwTo : (⟨#[116, 111]⟩ : ByteArray) = bA wTo := rfl
def wRide : List UInt8 := [114, 105, 100, 101]
theorem bwRide : (⟨#[114, 105, 100, 101]⟩ : ByteArray) = bA wRide := rfl
def wTotal : List UInt8 := [116, 111, 116, 97, 108]
theorem bwTotal : (⟨#[116, 111, 116, 97, 108]⟩ : ByteArray) = bA wTotal := rfl
def wItem : List UInt8 := [105, 116, 101, 109]
theorem bwItem : (⟨#[105, 116, 101, 109]⟩ : ByteArray) = bA wItem := rfl
def wKind : List UInt8 := [107, 105, 110, 100]
theorem bwKind : (⟨#[107, 105, 110, 100]⟩ : ByteArray) = bA wKind := rfl
def wRef : List UInt8 := [114, 101, 102]
theorem bwRef : (⟨#[114, 101, 102]⟩ : ByteArray) = bA wRef := rfl
def wAmt : List UInt8 := [97, 109, 111, 117, 110, 116]
theorem bwAmt : (⟨#[97, 109, 111, 117, 110, 116]⟩ : ByteArray) = bA wAmt := rfl
def wRefund : List UInt8 := [114, 101, 102, 117, 110, 100]
theorem bwRefund : (⟨#[114, 101, 102, 117, 110, 100]⟩ : ByteArray) = bA wRefund := rfl
theorem ltInv : tInv.length = 8 := rfl
theorem ltRid : tRid.length = 7 := rfl
theorem ltFrom : tFrom.length = 6 := rfl
theorem ltTo : tTo.length = 4 := rfl
theorem ltRide : tRide.length = 5 := rfl
theorem ltTot : tTot.length = 7 := rfl
theorem ltItem : tItem.length = 5 := rfl
theorem ltKind : tKind.length = 6 := rfl
theorem ltRef : tRef.length = 5 := rfl
theorem ltAmt : tAmt.length = 8 := rfl
theorem ltRefd : tRefd.length = 7 := rfl
theorem ltRide2 : tRide2.length = 6 := rfl
theorem ltItem2 : tItem2.length = 6 := rfl
theorem ltTot0 : tTot0.length = 6 := rfl
theorem lineH_g {x : InvS} (ok : InvOk x) : Good Tryd.prog 33 [.sl [txP wInv, txP (Lib.itoa x.id), txP wRider, txP (Lib.itoa x.rider), txP wFrom, txP (Lib.itoa x.when_.from_), txP wTo, txP (Lib.itoa x.when_.to_)]] (txP (lHead x)) := by
  have hj : Lib.join [wInv, (Lib.itoa x.id), wRider, (Lib.itoa x.rider), wFrom, (Lib.itoa x.when_.from_), wTo, (Lib.itoa x.when_.to_)] [32] = lHead x := by
    unfold lHead
    simp [Lib.join, List.intercalate, List.intersperse, wInv, wRider, wFrom, wTo, tInv, tRid, tFrom, tTo]
  have hl : (lHead x).length ≤ 1000000000 := by
    unfold lHead
    have q1 := itoa_len ok.id
    have q2 := itoa_len ok.rider
    have q3 := itoa_len ok.from_
    have q4 := itoa_len ok.to_
    simp only [List.length_append, ltInv, ltRid, ltFrom, ltTo, ltRide, ltTot, ltItem, ltKind, ltRef, ltAmt, ltRefd, ltRide2, ltItem2, ltTot0]; omega
  have g := line_g [wInv, (Lib.itoa x.id), wRider, (Lib.itoa x.rider), wFrom, (Lib.itoa x.when_.from_), wTo, (Lib.itoa x.when_.to_)] (by simp only [List.length_cons, List.length_nil]; omega) (by rw [hj]; exact hl)
  rw [hj] at g
  simp only [List.map_cons, List.map_nil] at g
  exact g
theorem lineF_g {f : FareS} (h1 : I64 f.ride) (h2 : f.total.natAbs ≤ 9223372036854775807) : Good Tryd.prog 33 [.sl [txP wRide, txP (Lib.itoa f.ride), txP wTotal, txP (moneyL f.total)]] (txP (lFare f)) := by
  have hj : Lib.join [wRide, (Lib.itoa f.ride), wTotal, (moneyL f.total)] [32] = lFare f := by
    unfold lFare
    simp [Lib.join, List.intercalate, List.intersperse, wRide, wTotal, tRide, tTot]
  have hl : (lFare f).length ≤ 1000000000 := by
    unfold lFare
    have q1 := itoa_len h1
    have q2 := money_len h2
    simp only [List.length_append, ltInv, ltRid, ltFrom, ltTo, ltRide, ltTot, ltItem, ltKind, ltRef, ltAmt, ltRefd, ltRide2, ltItem2, ltTot0]; omega
  have g := line_g [wRide, (Lib.itoa f.ride), wTotal, (moneyL f.total)] (by simp only [List.length_cons, List.length_nil]; omega) (by rw [hj]; exact hl)
  rw [hj] at g
  simp only [List.map_cons, List.map_nil] at g
  exact g
theorem lineI_g {m : Nat} {y : ItemS} (h0 : m ≤ 1000) (h1 : I64 y.kind) (h2 : I64 y.ref_) (h3 : y.amount.natAbs ≤ 9223372036854775807) : Good Tryd.prog 33 [.sl [txP wItem, txP (Lib.itoa (m : Int)), txP wKind, txP (Lib.itoa y.kind), txP wRef, txP (Lib.itoa y.ref_), txP wAmt, txP (moneyL y.amount)]] (txP (lItem m y)) := by
  have hj : Lib.join [wItem, (Lib.itoa (m : Int)), wKind, (Lib.itoa y.kind), wRef, (Lib.itoa y.ref_), wAmt, (moneyL y.amount)] [32] = lItem m y := by
    unfold lItem
    simp [Lib.join, List.intercalate, List.intersperse, wItem, wKind, wRef, wAmt, tItem, tKind, tRef, tAmt]
  have hl : (lItem m y).length ≤ 1000000000 := by
    unfold lItem
    have q1 := itoa_len h1
    have q2 := itoa_len h2
    have q3 := money_len h3
    have q4 := itoa_len (n := (m : Int)) ⟨by omega, by omega⟩
    simp only [List.length_append, ltInv, ltRid, ltFrom, ltTo, ltRide, ltTot, ltItem, ltKind, ltRef, ltAmt, ltRefd, ltRide2, ltItem2, ltTot0]; omega
  have g := line_g [wItem, (Lib.itoa (m : Int)), wKind, (Lib.itoa y.kind), wRef, (Lib.itoa y.ref_), wAmt, (moneyL y.amount)] (by simp only [List.length_cons, List.length_nil]; omega) (by rw [hj]; exact hl)
  rw [hj] at g
  simp only [List.map_cons, List.map_nil] at g
  exact g
theorem lineR_g {y : RefS} (h0 : I64 y.id) (h1 : I64 y.ride) (h2 : I64 y.item) (h3 : y.amount.natAbs ≤ 9223372036854775807) : Good Tryd.prog 33 [.sl [txP wRefund, txP (Lib.itoa y.id), txP wRide, txP (Lib.itoa y.ride), txP wItem, txP (Lib.itoa y.item), txP wAmt, txP (moneyL y.amount)]] (txP (lRef y)) := by
  have hj : Lib.join [wRefund, (Lib.itoa y.id), wRide, (Lib.itoa y.ride), wItem, (Lib.itoa y.item), wAmt, (moneyL y.amount)] [32] = lRef y := by
    unfold lRef
    simp [Lib.join, List.intercalate, List.intersperse, wRefund, wRide, wItem, wAmt, tRefd, tRide2, tItem2, tAmt]
  have hl : (lRef y).length ≤ 1000000000 := by
    unfold lRef
    have q1 := itoa_len h0
    have q2 := itoa_len h1
    have q3 := itoa_len h2
    have q4 := money_len h3
    simp only [List.length_append, ltInv, ltRid, ltFrom, ltTo, ltRide, ltTot, ltItem, ltKind, ltRef, ltAmt, ltRefd, ltRide2, ltItem2, ltTot0]; omega
  have g := line_g [wRefund, (Lib.itoa y.id), wRide, (Lib.itoa y.ride), wItem, (Lib.itoa y.item), wAmt, (moneyL y.amount)] (by simp only [List.length_cons, List.length_nil]; omega) (by rw [hj]; exact hl)
  rw [hj] at g
  simp only [List.map_cons, List.map_nil] at g
  exact g
theorem lineT_g {n : Int} (h3 : n.natAbs ≤ 9223372036854775807) : Good Tryd.prog 33 [.sl [txP wTotal, txP (moneyL n)]] (txP (lTot n)) := by
  have hj : Lib.join [wTotal, (moneyL n)] [32] = lTot n := by
    unfold lTot
    simp [Lib.join, List.intercalate, List.intersperse, wTotal, tTot0]
  have hl : (lTot n).length ≤ 1000000000 := by
    unfold lTot
    have q4 := money_len h3
    simp only [List.length_append, ltInv, ltRid, ltFrom, ltTo, ltRide, ltTot, ltItem, ltKind, ltRef, ltAmt, ltRefd, ltRide2, ltItem2, ltTot0]; omega
  have g := line_g [wTotal, (moneyL n)] (by simp only [List.length_cons, List.length_nil]; omega) (by rw [hj]; exact hl)
  rw [hj] at g
  simp only [List.map_cons, List.map_nil] at g
  exact g
theorem itoaF : ∃ fn, Tryd.prog.funcs[32]? = some fn ∧ (fn.name == "runtime.NumGoroutine") = false ∧ fn.body.isNone = false := ⟨_, Tryd.func32, by kernel_rfl, by kernel_rfl⟩
set_option maxRecDepth 20000 in
set_option maxHeartbeats 8000000 in
theorem lines_g (x : InvS) : Good Tryd.prog 15 [x.pv] (linesP x) := by
  refine .fact (InvOk x) (fun M w vs hp => by obtain ⟨v, hv⟩ := hp.mem List.mem_cons_self; exact inv_rng hv) (fun ok => ?_)
  obtain ⟨fn, itoaAt, itoaN, itoaB⟩ := itoaF
  have gc := icheck_g x
  refine good15 (by simp) ?_
  simp only [ac15, InvS.pv, AW, reduceAdd, reduceCtorEq, reduceEqDiff, ↓reduceIte, reduceLT, reduceLeDiff, reduceSub, reducePow, reduceMul, reduceToNat, reduceLE, reduceEq, Int.reduceLT, Int.reduceBEq, Int.reduceBNe]
  simp only [InvS.pv, AW, reduceAdd, reduceCtorEq, reduceEqDiff, ↓reduceIte, reduceLT, reduceLeDiff, reduceSub, reducePow, reduceMul, reduceToNat, reduceLE, reduceEq, Int.reduceLT, Int.reduceBEq, Int.reduceBNe] at gc
  refine ops_call (gc) (by simp only [AW, reduceAdd, reduceCtorEq, reduceEqDiff, ↓reduceIte, reduceLT, reduceLeDiff, reduceSub, reducePow, reduceMul, reduceToNat, reduceLE, reduceEq, Int.reduceLT, Int.reduceBEq, Int.reduceBNe]) ?_; simp only [AW, reduceAdd, reduceCtorEq, reduceEqDiff, ↓reduceIte, reduceLT, reduceLeDiff, reduceSub, reducePow, reduceMul, reduceToNat, reduceLE, reduceEq, Int.reduceLT, Int.reduceBEq, Int.reduceBNe]
  cases hz : (checkX x != 0)
  rotate_left
  · have hne : checkX x ≠ 0 := by simpa using hz
    simp only [linesP, hne, intP, AW, reduceAdd, reduceCtorEq, reduceEqDiff, ↓reduceIte, reduceLT, reduceLeDiff, reduceSub, reducePow, reduceMul, reduceToNat, reduceLE, reduceEq, Int.reduceLT, Int.reduceBEq, Int.reduceBNe]
  have h0 : checkX x = 0 := by simpa using hz
  have hfin : linesP x = .tup [.sl ((linesX x).map txP), intP 0] := by unfold linesP; rw [if_neg (by rw [h0]; simp)]
  have ck := chk_ok h0
  have hc1 := ck.fl
  have hc2 := ck.rl
  have hlen : x.fares.length ≤ maxLen := by unfold maxLen; omega
  have hlenR : x.refunds.length ≤ maxLen := by unfold maxLen; omega
  have gl := lineH_g ok
  simp only [txP, AW, reduceAdd, reduceCtorEq, reduceEqDiff, ↓reduceIte, reduceLT, reduceLeDiff, reduceSub, reducePow, reduceMul, reduceToNat, reduceLE, reduceEq, Int.reduceLT, Int.reduceBEq, Int.reduceBNe] at gl
  simp only [AW, reduceAdd, reduceCtorEq, reduceEqDiff, ↓reduceIte, reduceLT, reduceLeDiff, reduceSub, reducePow, reduceMul, reduceToNat, reduceLE, reduceEq, Int.reduceLT, Int.reduceBEq, Int.reduceBNe]
  refine ops_callV itoaAt itoaN itoaB (by simp only [AW, reduceAdd, reduceCtorEq, reduceEqDiff, ↓reduceIte, reduceLT, reduceLeDiff, reduceSub, reducePow, reduceMul, reduceToNat, reduceLE, reduceEq, Int.reduceLT, Int.reduceBEq, Int.reduceBNe]) (itoa_g x.id) (by simp only [intP, AW, reduceAdd, reduceCtorEq, reduceEqDiff, ↓reduceIte, reduceLT, reduceLeDiff, reduceSub, reducePow, reduceMul, reduceToNat, reduceLE, reduceEq, Int.reduceLT, Int.reduceBEq, Int.reduceBNe]) ?_; simp only [intP, txP, AW, reduceAdd, reduceCtorEq, reduceEqDiff, ↓reduceIte, reduceLT, reduceLeDiff, reduceSub, reducePow, reduceMul, reduceToNat, reduceLE, reduceEq, Int.reduceLT, Int.reduceBEq, Int.reduceBNe]
  refine ops_callV itoaAt itoaN itoaB (by simp only [AW, reduceAdd, reduceCtorEq, reduceEqDiff, ↓reduceIte, reduceLT, reduceLeDiff, reduceSub, reducePow, reduceMul, reduceToNat, reduceLE, reduceEq, Int.reduceLT, Int.reduceBEq, Int.reduceBNe]) (itoa_g x.rider) (by simp only [intP, AW, reduceAdd, reduceCtorEq, reduceEqDiff, ↓reduceIte, reduceLT, reduceLeDiff, reduceSub, reducePow, reduceMul, reduceToNat, reduceLE, reduceEq, Int.reduceLT, Int.reduceBEq, Int.reduceBNe]) ?_; simp only [intP, txP, AW, reduceAdd, reduceCtorEq, reduceEqDiff, ↓reduceIte, reduceLT, reduceLeDiff, reduceSub, reducePow, reduceMul, reduceToNat, reduceLE, reduceEq, Int.reduceLT, Int.reduceBEq, Int.reduceBNe]
  refine ops_callV itoaAt itoaN itoaB (by simp only [AW, reduceAdd, reduceCtorEq, reduceEqDiff, ↓reduceIte, reduceLT, reduceLeDiff, reduceSub, reducePow, reduceMul, reduceToNat, reduceLE, reduceEq, Int.reduceLT, Int.reduceBEq, Int.reduceBNe]) (itoa_g x.when_.from_) (by simp only [intP, AW, reduceAdd, reduceCtorEq, reduceEqDiff, ↓reduceIte, reduceLT, reduceLeDiff, reduceSub, reducePow, reduceMul, reduceToNat, reduceLE, reduceEq, Int.reduceLT, Int.reduceBEq, Int.reduceBNe]) ?_; simp only [intP, txP, AW, reduceAdd, reduceCtorEq, reduceEqDiff, ↓reduceIte, reduceLT, reduceLeDiff, reduceSub, reducePow, reduceMul, reduceToNat, reduceLE, reduceEq, Int.reduceLT, Int.reduceBEq, Int.reduceBNe]
  refine ops_callV itoaAt itoaN itoaB (by simp only [AW, reduceAdd, reduceCtorEq, reduceEqDiff, ↓reduceIte, reduceLT, reduceLeDiff, reduceSub, reducePow, reduceMul, reduceToNat, reduceLE, reduceEq, Int.reduceLT, Int.reduceBEq, Int.reduceBNe]) (itoa_g x.when_.to_) (by simp only [intP, AW, reduceAdd, reduceCtorEq, reduceEqDiff, ↓reduceIte, reduceLT, reduceLeDiff, reduceSub, reducePow, reduceMul, reduceToNat, reduceLE, reduceEq, Int.reduceLT, Int.reduceBEq, Int.reduceBNe]) ?_; simp only [intP, txP, AW, reduceAdd, reduceCtorEq, reduceEqDiff, ↓reduceIte, reduceLT, reduceLeDiff, reduceSub, reducePow, reduceMul, reduceToNat, reduceLE, reduceEq, Int.reduceLT, Int.reduceBEq, Int.reduceBNe]

  simp only [txP, bwInv, bwRider, bwFrom, bwTo, bwRide, bwTotal, bwItem, bwKind, bwRef, bwAmt, bwRefund, AW, reduceAdd, reduceCtorEq, reduceEqDiff, ↓reduceIte, reduceLT, reduceLeDiff, reduceSub, reducePow, reduceMul, reduceToNat, reduceLE, reduceEq, Int.reduceLT, Int.reduceBEq, Int.reduceBNe]
  refine ops_call (gl) (by simp only [txP, AW, reduceAdd, reduceCtorEq, reduceEqDiff, ↓reduceIte, reduceLT, reduceLeDiff, reduceSub, reducePow, reduceMul, reduceToNat, reduceLE, reduceEq, Int.reduceLT, Int.reduceBEq, Int.reduceBNe]) ?_; simp only [txP, AW, reduceAdd, reduceCtorEq, reduceEqDiff, ↓reduceIte, reduceLT, reduceLeDiff, reduceSub, reducePow, reduceMul, reduceToNat, reduceLE, reduceEq, Int.reduceLT, Int.reduceBEq, Int.reduceBNe]
  (try simp only [AW, reduceAdd, reduceCtorEq, reduceEqDiff, ↓reduceIte, reduceLT, reduceLeDiff, reduceSub, reducePow, reduceMul, reduceToNat, reduceLE, reduceEq, Int.reduceLT, Int.reduceBEq, Int.reduceBNe])
  refine drawnK rfl ?_
  (try simp only [List.length_map, AW, reduceAdd, reduceCtorEq, reduceEqDiff, ↓reduceIte, reduceLT, reduceLeDiff, reduceSub, reducePow, reduceMul, reduceToNat, reduceLE, reduceEq, Int.reduceLT, Int.reduceBEq, Int.reduceBNe])
  refine run_loop (ι := Nat) (fun k => ⟨[(1, .ptr 0 0), (5, .sc (.func (.func 32) #[] #[])), (6, .own 29 0), (40, .sl (x.fares.map FareS.pv)), (41, .sc (.int .i64 (x.fares.length : Int))), (42, .sc (.int .i64 (k : Int)))], [(0, .var [.sc (.int .i64 x.id), .sc (.int .i64 x.rider), .sc (.int .i64 x.when_.from_), .sc (.int .i64 x.when_.to_), .sl (x.fares.map FareS.pv), .sl (x.refunds.map RefS.pv), .sc (.int .i64 x.total)]), (27, .row 9 1 0 [.sc (.string (bA wInv)), .sc (.string (bA (Lib.itoa x.id))), .sc (.string (bA wRider)), .sc (.string (bA (Lib.itoa x.rider))), .sc (.string (bA wFrom)), .sc (.string (bA (Lib.itoa x.when_.from_))), .sc (.string (bA wTo)), .sc (.string (bA (Lib.itoa x.when_.to_)))]), (29, .row 9 1 0 ((row1 x k).map txP))], 35, 123⟩) (fun k => k ≤ x.fares.length) (fun k => x.fares.length - k) 35 (fun _ => rfl) 0 (by simp only [LW, Nat.reduceMod, Nat.reduceDiv, Int.natCast_zero, row1_zero, List.map_cons, List.map_nil, txP, AW, reduceAdd, reduceCtorEq, reduceEqDiff, ↓reduceIte, reduceLT, reduceLeDiff, reduceSub, reducePow, reduceMul, reduceToNat, reduceLE, reduceEq, Int.reduceLT, Int.reduceBEq, Int.reduceBNe]) (Nat.zero_le _) (fun k hk => ?_)
  have gk := hk
  by_cases hltk : k < x.fares.length
  rotate_left
  · have dk : decide ((k : Int) < ((x.fares.length : Nat) : Int)) = false := by rw [decide_eq_false_iff_not]; exact fun h => hltk (Int.ofNat_lt.1 h)
    have ek : k = x.fares.length := Nat.le_antisymm gk (Nat.le_of_not_lt hltk)
    subst ek
    simp only [dk, List.length_map, AW, reduceAdd, reduceCtorEq, reduceEqDiff, ↓reduceIte, reduceLT, reduceLeDiff, reduceSub, reducePow, reduceMul, reduceToNat, reduceLE, reduceEq, Int.reduceLT, Int.reduceBEq, Int.reduceBNe]
    refine run_loop (ι := Nat) (fun q => ⟨[(1, .ptr 0 0), (5, .sc (.func (.func 32) #[] #[])), (6, .own 29 0), (88, .sl (x.refunds.map RefS.pv)), (89, .sc (.int .i64 (x.refunds.length : Int))), (90, .sc (.int .i64 (q : Int)))], [(0, .var [.sc (.int .i64 x.id), .sc (.int .i64 x.rider), .sc (.int .i64 x.when_.from_), .sc (.int .i64 x.when_.to_), .sl (x.fares.map FareS.pv), .sl (x.refunds.map RefS.pv), .sc (.int .i64 x.total)]), (27, .row 9 1 0 [.sc (.string (bA wInv)), .sc (.string (bA (Lib.itoa x.id))), .sc (.string (bA wRider)), .sc (.string (bA (Lib.itoa x.rider))), .sc (.string (bA wFrom)), .sc (.string (bA (Lib.itoa x.when_.from_))), .sc (.string (bA wTo)), .sc (.string (bA (Lib.itoa x.when_.to_)))]), (29, .row 9 1 0 ((row3 x q).map txP))], 40, 123⟩) (fun q => q ≤ x.refunds.length) (fun q => x.refunds.length - q) 40 (fun _ => rfl) 0 (by simp only [LW, Nat.reduceMod, Nat.reduceDiv, Int.natCast_zero, row3_zero, AW, reduceAdd, reduceCtorEq, reduceEqDiff, ↓reduceIte, reduceLT, reduceLeDiff, reduceSub, reducePow, reduceMul, reduceToNat, reduceLE, reduceEq, Int.reduceLT, Int.reduceBEq, Int.reduceBNe]) (Nat.zero_le _) (fun q hq => ?_)
    have gq := hq
    by_cases hltq : q < x.refunds.length
    rotate_left
    · have dq : decide ((q : Int) < ((x.refunds.length : Nat) : Int)) = false := by rw [decide_eq_false_iff_not]; exact fun h => hltq (Int.ofNat_lt.1 h)
      have eq : q = x.refunds.length := Nat.le_antisymm gq (Nat.le_of_not_lt hltq)
      subst eq
      have rl : (row3 x x.refunds.length).length ≤ 5000 := row3_len ck _
      have b1 := room1 rl
      have b2 := room2 rl
      rw [row3_end] at hfin
      have ht : x.total.natAbs ≤ 9223372036854775807 := by have := ck.tot; omega
      have g1 := amount_g ht
      have gl := lineT_g ht
      simp only [txP, AW, reduceAdd, reduceCtorEq, reduceEqDiff, ↓reduceIte, reduceLT, reduceLeDiff, reduceSub, reducePow, reduceMul, reduceToNat, reduceLE, reduceEq, Int.reduceLT, Int.reduceBEq, Int.reduceBNe] at gl
      simp only [dq, List.length_map, AW, reduceAdd, reduceCtorEq, reduceEqDiff, ↓reduceIte, reduceLT, reduceLeDiff, reduceSub, reducePow, reduceMul, reduceToNat, reduceLE, reduceEq, Int.reduceLT, Int.reduceBEq, Int.reduceBNe]
      refine ops_call (g1) (by simp only [intP, txP, bwInv, bwRider, bwFrom, bwTo, bwRide, bwTotal, bwItem, bwKind, bwRef, bwAmt, bwRefund, AW, reduceAdd, reduceCtorEq, reduceEqDiff, ↓reduceIte, reduceLT, reduceLeDiff, reduceSub, reducePow, reduceMul, reduceToNat, reduceLE, reduceEq, Int.reduceLT, Int.reduceBEq, Int.reduceBNe]) ?_; simp only [intP, txP, bwInv, bwRider, bwFrom, bwTo, bwRide, bwTotal, bwItem, bwKind, bwRef, bwAmt, bwRefund, AW, reduceAdd, reduceCtorEq, reduceEqDiff, ↓reduceIte, reduceLT, reduceLeDiff, reduceSub, reducePow, reduceMul, reduceToNat, reduceLE, reduceEq, Int.reduceLT, Int.reduceBEq, Int.reduceBNe]
      refine ops_call (gl) (by simp only [txP, AW, reduceAdd, reduceCtorEq, reduceEqDiff, ↓reduceIte, reduceLT, reduceLeDiff, reduceSub, reducePow, reduceMul, reduceToNat, reduceLE, reduceEq, Int.reduceLT, Int.reduceBEq, Int.reduceBNe]) ?_; simp only [txP, AW, reduceAdd, reduceCtorEq, reduceEqDiff, ↓reduceIte, reduceLT, reduceLeDiff, reduceSub, reducePow, reduceMul, reduceToNat, reduceLE, reduceEq, Int.reduceLT, Int.reduceBEq, Int.reduceBNe]
      simp only [List.length_map, b1, b2, AW, reduceAdd, reduceCtorEq, reduceEqDiff, ↓reduceIte, reduceLT, reduceLeDiff, reduceSub, reducePow, reduceMul, reduceToNat, reduceLE, reduceEq, Int.reduceLT, Int.reduceBEq, Int.reduceBNe]
      rw [hfin]
      simp only [List.map_append, List.map_cons, List.map_nil, txP, intP, AW, reduceAdd, reduceCtorEq, reduceEqDiff, ↓reduceIte, reduceLT, reduceLeDiff, reduceSub, reducePow, reduceMul, reduceToNat, reduceLE, reduceEq, Int.reduceLT, Int.reduceBEq, Int.reduceBNe]
    have dq : decide ((q : Int) < ((x.refunds.length : Nat) : Int)) = true := by rw [decide_eq_true_eq]; exact Int.ofNat_lt.2 hltq
    have hy := List.getElem_mem hltq
    have qa := ck.amt _ hy
    have g4 := amount_g (n := x.refunds[q].amount) (by omega)
    have gl := lineR_g (ok.rid _ hy) (ok.rride _ hy) (ok.ritem _ hy) (by omega : x.refunds[q].amount.natAbs ≤ 9223372036854775807)
    simp only [txP, AW, reduceAdd, reduceCtorEq, reduceEqDiff, ↓reduceIte, reduceLT, reduceLeDiff, reduceSub, reducePow, reduceMul, reduceToNat, reduceLE, reduceEq, Int.reduceLT, Int.reduceBEq, Int.reduceBNe] at gl
    have es := row3_succ hltq
    have rl : (row3 x q).length ≤ 5000 := row3_len ck q
    have b1 := room1 rl
    have b2 := room2 rl
    simp only [dq, List.length_map, map_getD hltq, hltq, RefS.pv, RefS.vals, AW, reduceAdd, reduceCtorEq, reduceEqDiff, ↓reduceIte, reduceLT, reduceLeDiff, reduceSub, reducePow, reduceMul, reduceToNat, reduceLE, reduceEq, Int.reduceLT, Int.reduceBEq, Int.reduceBNe]
    refine ops_callV itoaAt itoaN itoaB (by simp only [AW, reduceAdd, reduceCtorEq, reduceEqDiff, ↓reduceIte, reduceLT, reduceLeDiff, reduceSub, reducePow, reduceMul, reduceToNat, reduceLE, reduceEq, Int.reduceLT, Int.reduceBEq, Int.reduceBNe]) (itoa_g x.refunds[q].id) (by simp only [intP, AW, reduceAdd, reduceCtorEq, reduceEqDiff, ↓reduceIte, reduceLT, reduceLeDiff, reduceSub, reducePow, reduceMul, reduceToNat, reduceLE, reduceEq, Int.reduceLT, Int.reduceBEq, Int.reduceBNe]) ?_; simp only [intP, txP, AW, reduceAdd, reduceCtorEq, reduceEqDiff, ↓reduceIte, reduceLT, reduceLeDiff, reduceSub, reducePow, reduceMul, reduceToNat, reduceLE, reduceEq, Int.reduceLT, Int.reduceBEq, Int.reduceBNe]
    refine ops_callV itoaAt itoaN itoaB (by simp only [AW, reduceAdd, reduceCtorEq, reduceEqDiff, ↓reduceIte, reduceLT, reduceLeDiff, reduceSub, reducePow, reduceMul, reduceToNat, reduceLE, reduceEq, Int.reduceLT, Int.reduceBEq, Int.reduceBNe]) (itoa_g x.refunds[q].ride) (by simp only [intP, AW, reduceAdd, reduceCtorEq, reduceEqDiff, ↓reduceIte, reduceLT, reduceLeDiff, reduceSub, reducePow, reduceMul, reduceToNat, reduceLE, reduceEq, Int.reduceLT, Int.reduceBEq, Int.reduceBNe]) ?_; simp only [intP, txP, AW, reduceAdd, reduceCtorEq, reduceEqDiff, ↓reduceIte, reduceLT, reduceLeDiff, reduceSub, reducePow, reduceMul, reduceToNat, reduceLE, reduceEq, Int.reduceLT, Int.reduceBEq, Int.reduceBNe]
    refine ops_callV itoaAt itoaN itoaB (by simp only [AW, reduceAdd, reduceCtorEq, reduceEqDiff, ↓reduceIte, reduceLT, reduceLeDiff, reduceSub, reducePow, reduceMul, reduceToNat, reduceLE, reduceEq, Int.reduceLT, Int.reduceBEq, Int.reduceBNe]) (itoa_g x.refunds[q].item) (by simp only [intP, AW, reduceAdd, reduceCtorEq, reduceEqDiff, ↓reduceIte, reduceLT, reduceLeDiff, reduceSub, reducePow, reduceMul, reduceToNat, reduceLE, reduceEq, Int.reduceLT, Int.reduceBEq, Int.reduceBNe]) ?_; simp only [intP, txP, AW, reduceAdd, reduceCtorEq, reduceEqDiff, ↓reduceIte, reduceLT, reduceLeDiff, reduceSub, reducePow, reduceMul, reduceToNat, reduceLE, reduceEq, Int.reduceLT, Int.reduceBEq, Int.reduceBNe]
    refine ops_call (g4) (by simp only [intP, txP, bwInv, bwRider, bwFrom, bwTo, bwRide, bwTotal, bwItem, bwKind, bwRef, bwAmt, bwRefund, AW, reduceAdd, reduceCtorEq, reduceEqDiff, ↓reduceIte, reduceLT, reduceLeDiff, reduceSub, reducePow, reduceMul, reduceToNat, reduceLE, reduceEq, Int.reduceLT, Int.reduceBEq, Int.reduceBNe]) ?_; simp only [intP, txP, bwInv, bwRider, bwFrom, bwTo, bwRide, bwTotal, bwItem, bwKind, bwRef, bwAmt, bwRefund, AW, reduceAdd, reduceCtorEq, reduceEqDiff, ↓reduceIte, reduceLT, reduceLeDiff, reduceSub, reducePow, reduceMul, reduceToNat, reduceLE, reduceEq, Int.reduceLT, Int.reduceBEq, Int.reduceBNe]
    refine ops_call (gl) (by simp only [txP, AW, reduceAdd, reduceCtorEq, reduceEqDiff, ↓reduceIte, reduceLT, reduceLeDiff, reduceSub, reducePow, reduceMul, reduceToNat, reduceLE, reduceEq, Int.reduceLT, Int.reduceBEq, Int.reduceBNe]) ?_; simp only [txP, AW, reduceAdd, reduceCtorEq, reduceEqDiff, ↓reduceIte, reduceLT, reduceLeDiff, reduceSub, reducePow, reduceMul, reduceToNat, reduceLE, reduceEq, Int.reduceLT, Int.reduceBEq, Int.reduceBNe]
    simp only [List.length_map, b1, b2, AW, reduceAdd, reduceCtorEq, reduceEqDiff, ↓reduceIte, reduceLT, reduceLeDiff, reduceSub, reducePow, reduceMul, reduceToNat, reduceLE, reduceEq, Int.reduceLT, Int.reduceBEq, Int.reduceBNe]
    refine drawnK rfl ?_
    (try simp only [wrap_succ hltq hlenR, AW, reduceAdd, reduceCtorEq, reduceEqDiff, ↓reduceIte, reduceLT, reduceLeDiff, reduceSub, reducePow, reduceMul, reduceToNat, reduceLE, reduceEq, Int.reduceLT, Int.reduceBEq, Int.reduceBNe])
    refine ⟨q + 1, hltq, ?_, meas_lt hltq⟩
    simp only [LW, Nat.reduceMod, Nat.reduceDiv, es, List.map_append, List.map_cons, List.map_nil, txP, AW, reduceAdd, reduceCtorEq, reduceEqDiff, ↓reduceIte, reduceLT, reduceLeDiff, reduceSub, reducePow, reduceMul, reduceToNat, reduceLE, reduceEq, Int.reduceLT, Int.reduceBEq, Int.reduceBNe]
  have dk : decide ((k : Int) < ((x.fares.length : Nat) : Int)) = true := by rw [decide_eq_true_eq]; exact Int.ofNat_lt.2 hltk
  have hmem := List.getElem_mem hltk
  have ai := added_items (ck.add _ hmem)
  have hlenI : x.fares[k].items.length ≤ maxLen := by have := ai.1; unfold maxLen; omega
  have g2 := amount_g (n := x.fares[k].total) (by omega)
  have gl := lineF_g (ok.ride _ hmem) (by omega : x.fares[k].total.natAbs ≤ 9223372036854775807)
  simp only [txP, AW, reduceAdd, reduceCtorEq, reduceEqDiff, ↓reduceIte, reduceLT, reduceLeDiff, reduceSub, reducePow, reduceMul, reduceToNat, reduceLE, reduceEq, Int.reduceLT, Int.reduceBEq, Int.reduceBNe] at gl
  have rl : (row1 x k).length ≤ 5000 := Nat.le_trans (row1_len ck k) (by decide)
  have b1 := room1 rl
  have b2 := room2 rl
  simp only [dk, List.length_map, map_getD hltk, hltk, FareS.pv, AW, reduceAdd, reduceCtorEq, reduceEqDiff, ↓reduceIte, reduceLT, reduceLeDiff, reduceSub, reducePow, reduceMul, reduceToNat, reduceLE, reduceEq, Int.reduceLT, Int.reduceBEq, Int.reduceBNe]
  refine ops_callV itoaAt itoaN itoaB (by simp only [AW, reduceAdd, reduceCtorEq, reduceEqDiff, ↓reduceIte, reduceLT, reduceLeDiff, reduceSub, reducePow, reduceMul, reduceToNat, reduceLE, reduceEq, Int.reduceLT, Int.reduceBEq, Int.reduceBNe]) (itoa_g x.fares[k].ride) (by simp only [intP, AW, reduceAdd, reduceCtorEq, reduceEqDiff, ↓reduceIte, reduceLT, reduceLeDiff, reduceSub, reducePow, reduceMul, reduceToNat, reduceLE, reduceEq, Int.reduceLT, Int.reduceBEq, Int.reduceBNe]) ?_; simp only [intP, txP, AW, reduceAdd, reduceCtorEq, reduceEqDiff, ↓reduceIte, reduceLT, reduceLeDiff, reduceSub, reducePow, reduceMul, reduceToNat, reduceLE, reduceEq, Int.reduceLT, Int.reduceBEq, Int.reduceBNe]
  refine ops_call (g2) (by simp only [intP, txP, bwInv, bwRider, bwFrom, bwTo, bwRide, bwTotal, bwItem, bwKind, bwRef, bwAmt, bwRefund, AW, reduceAdd, reduceCtorEq, reduceEqDiff, ↓reduceIte, reduceLT, reduceLeDiff, reduceSub, reducePow, reduceMul, reduceToNat, reduceLE, reduceEq, Int.reduceLT, Int.reduceBEq, Int.reduceBNe]) ?_; simp only [intP, txP, bwInv, bwRider, bwFrom, bwTo, bwRide, bwTotal, bwItem, bwKind, bwRef, bwAmt, bwRefund, AW, reduceAdd, reduceCtorEq, reduceEqDiff, ↓reduceIte, reduceLT, reduceLeDiff, reduceSub, reducePow, reduceMul, reduceToNat, reduceLE, reduceEq, Int.reduceLT, Int.reduceBEq, Int.reduceBNe]
  refine ops_call (gl) (by simp only [txP, AW, reduceAdd, reduceCtorEq, reduceEqDiff, ↓reduceIte, reduceLT, reduceLeDiff, reduceSub, reducePow, reduceMul, reduceToNat, reduceLE, reduceEq, Int.reduceLT, Int.reduceBEq, Int.reduceBNe]) ?_; simp only [txP, AW, reduceAdd, reduceCtorEq, reduceEqDiff, ↓reduceIte, reduceLT, reduceLeDiff, reduceSub, reducePow, reduceMul, reduceToNat, reduceLE, reduceEq, Int.reduceLT, Int.reduceBEq, Int.reduceBNe]
  simp only [List.length_map, b1, b2, AW, reduceAdd, reduceCtorEq, reduceEqDiff, ↓reduceIte, reduceLT, reduceLeDiff, reduceSub, reducePow, reduceMul, reduceToNat, reduceLE, reduceEq, Int.reduceLT, Int.reduceBEq, Int.reduceBNe]
  refine drawnK rfl ?_
  (try simp only [List.length_map, AW, reduceAdd, reduceCtorEq, reduceEqDiff, ↓reduceIte, reduceLT, reduceLeDiff, reduceSub, reducePow, reduceMul, reduceToNat, reduceLE, reduceEq, Int.reduceLT, Int.reduceBEq, Int.reduceBNe])
  refine run_loop (ι := Nat) (fun m => ⟨[(1, .ptr 0 0), (5, .sc (.func (.func 32) #[] #[])), (6, .own 29 (vr m)), (40, .sl (x.fares.map FareS.pv)), (41, .sc (.int .i64 (x.fares.length : Int))), (42, .sc (.int .i64 (k : Int))), (59, .sl (x.fares[k].items.map ItemS.pv)), (60, .sc (.int .i64 (x.fares[k].items.length : Int))), (61, .sc (.int .i64 (m : Int)))], [(0, .var [.sc (.int .i64 x.id), .sc (.int .i64 x.rider), .sc (.int .i64 x.when_.from_), .sc (.int .i64 x.when_.to_), .sl (x.fares.map FareS.pv), .sl (x.refunds.map RefS.pv), .sc (.int .i64 x.total)]), (27, .row 9 1 0 [.sc (.string (bA wInv)), .sc (.string (bA (Lib.itoa x.id))), .sc (.string (bA wRider)), .sc (.string (bA (Lib.itoa x.rider))), .sc (.string (bA wFrom)), .sc (.string (bA (Lib.itoa x.when_.from_))), .sc (.string (bA wTo)), .sc (.string (bA (Lib.itoa x.when_.to_)))]), (29, .row 9 1 (vr m) ((row2 x k x.fares[k] m).map txP)), (38, .var [.sc (.int .i64 x.fares[k].ride), .sc (.int .i64 x.fares[k].rider), .sl (x.fares[k].items.map ItemS.pv), .sc (.int .i64 x.fares[k].total)]), (48, .row 9 1 0 [.sc (.string (bA wRide)), .sc (.string (bA (Lib.itoa x.fares[k].ride))), .sc (.string (bA wTotal)), .sc (.string (bA (moneyL x.fares[k].total)))]), (50, .row 9 1 0 [.sc (.string (bA (lFare x.fares[k])))])], 57, 123⟩) (fun m => m ≤ x.fares[k].items.length) (fun m => x.fares[k].items.length - m) 57 (fun _ => rfl) 0 (by simp only [LW, Nat.reduceMod, Nat.reduceDiv, Int.natCast_zero, row2_zero, List.map_append, List.map_cons, List.map_nil, txP, vr, AW, reduceAdd, reduceCtorEq, reduceEqDiff, ↓reduceIte, reduceLT, reduceLeDiff, reduceSub, reducePow, reduceMul, reduceToNat, reduceLE, reduceEq, Int.reduceLT, Int.reduceBEq, Int.reduceBNe]) (Nat.zero_le _) (fun m hm => ?_)
  have gm := hm
  by_cases hltm : m < x.fares[k].items.length
  rotate_left
  · have dm : decide ((m : Int) < ((x.fares[k].items.length : Nat) : Int)) = false := by rw [decide_eq_false_iff_not]; exact fun h => hltm (Int.ofNat_lt.1 h)
    have em : m = x.fares[k].items.length := Nat.le_antisymm gm (Nat.le_of_not_lt hltm)
    subst em
    have re := row2_end hltk
    simp only [dm, List.length_map, AW, reduceAdd, reduceCtorEq, reduceEqDiff, ↓reduceIte, reduceLT, reduceLeDiff, reduceSub, reducePow, reduceMul, reduceToNat, reduceLE, reduceEq, Int.reduceLT, Int.reduceBEq, Int.reduceBNe]
    (try simp only [wrap_succ hltk hlen, AW, reduceAdd, reduceCtorEq, reduceEqDiff, ↓reduceIte, reduceLT, reduceLeDiff, reduceSub, reducePow, reduceMul, reduceToNat, reduceLE, reduceEq, Int.reduceLT, Int.reduceBEq, Int.reduceBNe])
    refine ⟨k + 1, hltk, ?_, meas_lt hltk⟩
    simp only [LW, Nat.reduceMod, Nat.reduceDiv, re, AW, reduceAdd, reduceCtorEq, reduceEqDiff, ↓reduceIte, reduceLT, reduceLeDiff, reduceSub, reducePow, reduceMul, reduceToNat, reduceLE, reduceEq, Int.reduceLT, Int.reduceBEq, Int.reduceBNe]
  have dm : decide ((m : Int) < ((x.fares[k].items.length : Nat) : Int)) = true := by rw [decide_eq_true_eq]; exact Int.ofNat_lt.2 hltm
  have hy := List.getElem_mem hltm
  have qa := ai.2.1 _ hy
  have g4 := amount_g (n := x.fares[k].items[m].amount) (by omega)
  have gl := lineI_g (m := m) (y := x.fares[k].items[m]) (by omega) (ok.kind _ hmem _ hy) (ok.ref_ _ hmem _ hy) (by omega)
  simp only [txP, AW, reduceAdd, reduceCtorEq, reduceEqDiff, ↓reduceIte, reduceLT, reduceLeDiff, reduceSub, reducePow, reduceMul, reduceToNat, reduceLE, reduceEq, Int.reduceLT, Int.reduceBEq, Int.reduceBNe] at gl
  have es := row2_succ x k x.fares[k] hltm
  have rl2 : (row2 x k x.fares[k] m).length ≤ 5000 := Nat.le_trans (row2_len ck k ai.1 m) (by decide)
  have b3 := room1 rl2
  have b4 := room2 rl2
  obtain ⟨v, hv⟩ : ∃ v, vr m = v := ⟨_, rfl⟩
  rw [hv]
  simp only [dm, List.length_map, map_getD hltm, hltm, ItemS.pv, ItemS.vals, AW, reduceAdd, reduceCtorEq, reduceEqDiff, ↓reduceIte, reduceLT, reduceLeDiff, reduceSub, reducePow, reduceMul, reduceToNat, reduceLE, reduceEq, Int.reduceLT, Int.reduceBEq, Int.reduceBNe]
  refine ops_callV itoaAt itoaN itoaB (by simp only [AW, reduceAdd, reduceCtorEq, reduceEqDiff, ↓reduceIte, reduceLT, reduceLeDiff, reduceSub, reducePow, reduceMul, reduceToNat, reduceLE, reduceEq, Int.reduceLT, Int.reduceBEq, Int.reduceBNe]) (itoa_g (m : Int)) (by simp only [intP, AW, reduceAdd, reduceCtorEq, reduceEqDiff, ↓reduceIte, reduceLT, reduceLeDiff, reduceSub, reducePow, reduceMul, reduceToNat, reduceLE, reduceEq, Int.reduceLT, Int.reduceBEq, Int.reduceBNe]) ?_; simp only [intP, txP, AW, reduceAdd, reduceCtorEq, reduceEqDiff, ↓reduceIte, reduceLT, reduceLeDiff, reduceSub, reducePow, reduceMul, reduceToNat, reduceLE, reduceEq, Int.reduceLT, Int.reduceBEq, Int.reduceBNe]
  refine ops_callV itoaAt itoaN itoaB (by simp only [AW, reduceAdd, reduceCtorEq, reduceEqDiff, ↓reduceIte, reduceLT, reduceLeDiff, reduceSub, reducePow, reduceMul, reduceToNat, reduceLE, reduceEq, Int.reduceLT, Int.reduceBEq, Int.reduceBNe]) (itoa_g x.fares[k].items[m].kind) (by simp only [intP, AW, reduceAdd, reduceCtorEq, reduceEqDiff, ↓reduceIte, reduceLT, reduceLeDiff, reduceSub, reducePow, reduceMul, reduceToNat, reduceLE, reduceEq, Int.reduceLT, Int.reduceBEq, Int.reduceBNe]) ?_; simp only [intP, txP, AW, reduceAdd, reduceCtorEq, reduceEqDiff, ↓reduceIte, reduceLT, reduceLeDiff, reduceSub, reducePow, reduceMul, reduceToNat, reduceLE, reduceEq, Int.reduceLT, Int.reduceBEq, Int.reduceBNe]
  refine ops_callV itoaAt itoaN itoaB (by simp only [AW, reduceAdd, reduceCtorEq, reduceEqDiff, ↓reduceIte, reduceLT, reduceLeDiff, reduceSub, reducePow, reduceMul, reduceToNat, reduceLE, reduceEq, Int.reduceLT, Int.reduceBEq, Int.reduceBNe]) (itoa_g x.fares[k].items[m].ref_) (by simp only [intP, AW, reduceAdd, reduceCtorEq, reduceEqDiff, ↓reduceIte, reduceLT, reduceLeDiff, reduceSub, reducePow, reduceMul, reduceToNat, reduceLE, reduceEq, Int.reduceLT, Int.reduceBEq, Int.reduceBNe]) ?_; simp only [intP, txP, AW, reduceAdd, reduceCtorEq, reduceEqDiff, ↓reduceIte, reduceLT, reduceLeDiff, reduceSub, reducePow, reduceMul, reduceToNat, reduceLE, reduceEq, Int.reduceLT, Int.reduceBEq, Int.reduceBNe]
  refine ops_call (g4) (by simp only [intP, txP, bwInv, bwRider, bwFrom, bwTo, bwRide, bwTotal, bwItem, bwKind, bwRef, bwAmt, bwRefund, AW, reduceAdd, reduceCtorEq, reduceEqDiff, ↓reduceIte, reduceLT, reduceLeDiff, reduceSub, reducePow, reduceMul, reduceToNat, reduceLE, reduceEq, Int.reduceLT, Int.reduceBEq, Int.reduceBNe]) ?_; simp only [intP, txP, bwInv, bwRider, bwFrom, bwTo, bwRide, bwTotal, bwItem, bwKind, bwRef, bwAmt, bwRefund, AW, reduceAdd, reduceCtorEq, reduceEqDiff, ↓reduceIte, reduceLT, reduceLeDiff, reduceSub, reducePow, reduceMul, reduceToNat, reduceLE, reduceEq, Int.reduceLT, Int.reduceBEq, Int.reduceBNe]
  refine ops_call (gl) (by simp only [txP, AW, reduceAdd, reduceCtorEq, reduceEqDiff, ↓reduceIte, reduceLT, reduceLeDiff, reduceSub, reducePow, reduceMul, reduceToNat, reduceLE, reduceEq, Int.reduceLT, Int.reduceBEq, Int.reduceBNe]) ?_; simp only [txP, AW, reduceAdd, reduceCtorEq, reduceEqDiff, ↓reduceIte, reduceLT, reduceLeDiff, reduceSub, reducePow, reduceMul, reduceToNat, reduceLE, reduceEq, Int.reduceLT, Int.reduceBEq, Int.reduceBNe]
  simp only [List.length_map, b3, b4, AW, reduceAdd, reduceCtorEq, reduceEqDiff, ↓reduceIte, reduceLT, reduceLeDiff, reduceSub, reducePow, reduceMul, reduceToNat, reduceLE, reduceEq, Int.reduceLT, Int.reduceBEq, Int.reduceBNe]
  refine drawnK rfl ?_
  (try simp only [wrap_succ hltm hlenI, AW, reduceAdd, reduceCtorEq, reduceEqDiff, ↓reduceIte, reduceLT, reduceLeDiff, reduceSub, reducePow, reduceMul, reduceToNat, reduceLE, reduceEq, Int.reduceLT, Int.reduceBEq, Int.reduceBNe])
  refine ⟨m + 1, hltm, ?_, meas_lt hltm⟩
  simp only [LW, Nat.reduceMod, Nat.reduceDiv, es, List.map_append, List.map_cons, List.map_nil, txP, vr, AW, reduceAdd, reduceCtorEq, reduceEqDiff, ↓reduceIte, reduceLT, reduceLeDiff, reduceSub, reducePow, reduceMul, reduceToNat, reduceLE, reduceEq, Int.reduceLT, Int.reduceBEq, Int.reduceBNe]


end Go.Proofs.YtaejaogidkgalaaDoor
