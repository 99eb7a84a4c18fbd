/-
  Numbers: the law of Nearest.
-/
import Derived.Test.YtjlhnlfalomenaaDoorMg
namespace Go.Proofs.YtjlhnlfalomenaaDoor
open Go.RowKit
open Nat (reduceAdd reduceEqDiff reduceLT reduceLeDiff reduceSub reducePow reduceMul)
open Int (reduceToNat reduceLE reduceEq)
set_option linter.unusedVariables false
set_option linter.unusedSimpArgs false
set_option linter.unnecessarySimpa false

theorem near_law {a b q : Int} (hv : valB a = true) (h1 : 1 ≤ b) (h2 : b ≤ 1125899906842624) (hq : nearC a b = q) :
    -1125899906842624 ≤ q ∧ q ≤ 1125899906842624 ∧ (q.natAbs : Int) ≤ ((a.natAbs : Int) + b) / b ∧ 2 * a - b < 2 * q * b ∧ 2 * q * b ≤ 2 * a + b := by
  have hv := valB_iff.1 hv
  have e1 : q * (2 * b) ≤ 2 * a + b := by rw [← hq]; exact Int.ediv_mul_le _ (by omega)
  have e2 : 2 * a + b < q * (2 * b) + 2 * b := by
    have := Int.lt_ediv_add_one_mul_self (2 * a + b) (by omega : 0 < 2 * b)
    have e : ((2 * a + b) / (2 * b) + 1) * (2 * b) = q * (2 * b) + 2 * b := by rw [← hq, nearC, Int.add_mul, Int.one_mul]
    omega
  have e3 : 2 * q * b = q * (2 * b) := by rw [Int.mul_comm 2 q, Int.mul_assoc]
  have e4 : q * (2 * b) = 2 * (q * b) := by rw [← Int.mul_assoc, Int.mul_comm q 2, Int.mul_assoc]
  refine ⟨?_, ?_, ?_, by omega, by omega⟩
  · rcases Int.lt_or_le q (-1125899906842624) with h | h
    · have := Int.mul_le_mul_of_nonneg_right (show q ≤ -1125899906842625 by omega) (show (0 : Int) ≤ 2 * b by omega)
      omega
    · exact h
  · rcases Int.lt_or_le 1125899906842624 q with h | h
    · have := Int.mul_le_mul_of_nonneg_right (show 1125899906842625 ≤ q by omega) (show (0 : Int) ≤ 2 * b by omega)
      omega
    · exact h
  · apply Int.le_ediv_of_mul_le (by omega)
    rcases Int.lt_or_le q 0 with h | h
    · have : (q.natAbs : Int) * b = -(q * b) := by rw [show (q.natAbs : Int) = -q by omega, Int.neg_mul]
      omega
    · have : (q.natAbs : Int) * b = q * b := by rw [show (q.natAbs : Int) = q by omega]
      omega
set_option maxHeartbeats 2000000 in
theorem numNearest_good (a b : Int) : Good Tryd.prog 8 [intP a, intP b] (.sc (.bool true)) := by
  have g1 := near_g a b
  have g2 := rvalid_g a
  have g3 := count_g b 1
  refine good8 (by simp) ?_
  simp only [ac8, intP, AW, reduceAdd, reduceCtorEq, reduceEqDiff, ↓reduceIte, reduceLT, reduceLeDiff, reduceSub, reducePow, reduceMul, reduceToNat, reduceLE, reduceEq, Int.reduceLT, Int.reduceBEq, Int.reduceBNe]
  by_cases hc : valB a = true ∧ (decide (1 ≤ b) && decide (b ≤ 1125899906842624)) = true
  rotate_left
  · have hn : nearP a b = .tup [intP 0, intP 1] := by unfold nearP; rw [if_neg hc]
    rw [hn] at g1
    refine ops_call (g1) (by simp only [intP, AW, reduceAdd, reduceCtorEq, reduceEqDiff, ↓reduceIte, reduceLT, reduceLeDiff, reduceSub, reducePow, reduceMul, reduceToNat, reduceLE, reduceEq, Int.reduceLT, Int.reduceBEq, Int.reduceBNe]) ?_; simp only [intP, AW, reduceAdd, reduceCtorEq, reduceEqDiff, ↓reduceIte, reduceLT, reduceLeDiff, reduceSub, reducePow, reduceMul, reduceToNat, reduceLE, reduceEq, Int.reduceLT, Int.reduceBEq, Int.reduceBNe]
    refine ops_call (g2) (by simp only [intP, AW, reduceAdd, reduceCtorEq, reduceEqDiff, ↓reduceIte, reduceLT, reduceLeDiff, reduceSub, reducePow, reduceMul, reduceToNat, reduceLE, reduceEq, Int.reduceLT, Int.reduceBEq, Int.reduceBNe]) ?_; simp only [intP, AW, reduceAdd, reduceCtorEq, reduceEqDiff, ↓reduceIte, reduceLT, reduceLeDiff, reduceSub, reducePow, reduceMul, reduceToNat, reduceLE, reduceEq, Int.reduceLT, Int.reduceBEq, Int.reduceBNe]
    cases hv : valB a
    · simp only [AW, reduceAdd, reduceCtorEq, reduceEqDiff, ↓reduceIte, reduceLT, reduceLeDiff, reduceSub, reducePow, reduceMul, reduceToNat, reduceLE, reduceEq, Int.reduceLT, Int.reduceBEq, Int.reduceBNe]
      refine ops_call (awake_g) (by simp only [AW, reduceAdd, reduceCtorEq, reduceEqDiff, ↓reduceIte, reduceLT, reduceLeDiff, reduceSub, reducePow, reduceMul, reduceToNat, reduceLE, reduceEq, Int.reduceLT, Int.reduceBEq, Int.reduceBNe]) ?_; simp only [AW, reduceAdd, reduceCtorEq, reduceEqDiff, ↓reduceIte, reduceLT, reduceLeDiff, reduceSub, reducePow, reduceMul, reduceToNat, reduceLE, reduceEq, Int.reduceLT, Int.reduceBEq, Int.reduceBNe]
    · simp only [AW, reduceAdd, reduceCtorEq, reduceEqDiff, ↓reduceIte, reduceLT, reduceLeDiff, reduceSub, reducePow, reduceMul, reduceToNat, reduceLE, reduceEq, Int.reduceLT, Int.reduceBEq, Int.reduceBNe]
      refine ops_call (g3) (by simp only [intP, AW, reduceAdd, reduceCtorEq, reduceEqDiff, ↓reduceIte, reduceLT, reduceLeDiff, reduceSub, reducePow, reduceMul, reduceToNat, reduceLE, reduceEq, Int.reduceLT, Int.reduceBEq, Int.reduceBNe]) ?_; simp only [intP, AW, reduceAdd, reduceCtorEq, reduceEqDiff, ↓reduceIte, reduceLT, reduceLeDiff, reduceSub, reducePow, reduceMul, reduceToNat, reduceLE, reduceEq, Int.reduceLT, Int.reduceBEq, Int.reduceBNe]
      have hb : (decide (1 ≤ b) && decide (b ≤ 1125899906842624)) = false := by
        cases h : (decide (1 ≤ b) && decide (b ≤ 1125899906842624))
        · rfl
        · exact absurd ⟨hv, h⟩ hc
      simp only [hb, AW, reduceAdd, reduceCtorEq, reduceEqDiff, ↓reduceIte, reduceLT, reduceLeDiff, reduceSub, reducePow, reduceMul, reduceToNat, reduceLE, reduceEq, Int.reduceLT, Int.reduceBEq, Int.reduceBNe]
      refine ops_call (awake_g) (by simp only [AW, reduceAdd, reduceCtorEq, reduceEqDiff, ↓reduceIte, reduceLT, reduceLeDiff, reduceSub, reducePow, reduceMul, reduceToNat, reduceLE, reduceEq, Int.reduceLT, Int.reduceBEq, Int.reduceBNe]) ?_; simp only [AW, reduceAdd, reduceCtorEq, reduceEqDiff, ↓reduceIte, reduceLT, reduceLeDiff, reduceSub, reducePow, reduceMul, reduceToNat, reduceLE, reduceEq, Int.reduceLT, Int.reduceBEq, Int.reduceBNe]
  · obtain ⟨hv, hb⟩ := hc
    have hb2 := hb
    simp only [Bool.and_eq_true, decide_eq_true_eq] at hb2
    obtain ⟨h1, h2⟩ := hb2
    obtain ⟨q, hq⟩ : ∃ q, nearC a b = q := ⟨_, rfl⟩
    have hn : nearP a b = .tup [intP q, intP 0] := by unfold nearP; rw [if_pos ⟨hv, hb⟩, hq]
    obtain ⟨q1, q2, q3, q4, q5⟩ := near_law hv h1 h2 hq
    have hva := valB_iff.1 hv
    have ha := abs_mx hv
    have haq := abs_mx (n := q) (valB_iff.2 ⟨q1, q2⟩)
    have w1 : IntKind.i64.wrap ((a.natAbs : Int) + b) = (a.natAbs : Int) + b := wrap_id ⟨by omega, by omega⟩
    have w2 : IntKind.i64.wrap (((a.natAbs : Int) + b).tdiv b) = ((a.natAbs : Int) + b) / b := by
      rw [Int.tdiv_eq_ediv_of_nonneg (by omega)]
      have := Int.ediv_le_self b (show 0 ≤ (a.natAbs : Int) + b by omega)
      have := Int.ediv_nonneg (show 0 ≤ (a.natAbs : Int) + b by omega) (show 0 ≤ b by omega)
      have := Int.ediv_le_self (a := (a.natAbs : Int) + b) b (by omega)
      exact wrap_id ⟨by omega, by omega⟩
    have w3 : IntKind.i64.wrap (2 * a) = 2 * a := wrap_id ⟨by omega, by omega⟩
    have w4 : IntKind.i64.wrap (2 * a - b) = 2 * a - b := wrap_id ⟨by omega, by omega⟩
    have w5 : IntKind.i64.wrap (2 * q) = 2 * q := wrap_id ⟨by omega, by omega⟩
    have w6 : IntKind.i64.wrap (2 * q * b) = 2 * q * b := wrap_id ⟨by omega, by omega⟩
    have w7 : IntKind.i64.wrap (2 * a + b) = 2 * a + b := wrap_id ⟨by omega, by omega⟩
    have d1 : decide (1125899906842624 < q) = false := by rw [decide_eq_false_iff_not]; omega
    have d2 : decide (q < -1125899906842624) = false := by rw [decide_eq_false_iff_not]; omega
    have d3 : decide (((a.natAbs : Int) + b) / b < (q.natAbs : Int)) = false := by rw [decide_eq_false_iff_not]; omega
    have d4 : decide (2 * a - b < 2 * q * b) = true := by rw [decide_eq_true_eq]; exact q4
    have d5 : decide (2 * q * b ≤ 2 * a + b) = true := by rw [decide_eq_true_eq]; exact q5
    have b0 : ¬ b = 0 := by omega
    rw [hn] at g1
    rw [hv] at g2
    rw [hb] at g3
    refine ops_call (g1) (by simp only [intP, AW, reduceAdd, reduceCtorEq, reduceEqDiff, ↓reduceIte, reduceLT, reduceLeDiff, reduceSub, reducePow, reduceMul, reduceToNat, reduceLE, reduceEq, Int.reduceLT, Int.reduceBEq, Int.reduceBNe]) ?_; simp only [intP, AW, reduceAdd, reduceCtorEq, reduceEqDiff, ↓reduceIte, reduceLT, reduceLeDiff, reduceSub, reducePow, reduceMul, reduceToNat, reduceLE, reduceEq, Int.reduceLT, Int.reduceBEq, Int.reduceBNe]
    refine ops_call (g2) (by simp only [intP, AW, reduceAdd, reduceCtorEq, reduceEqDiff, ↓reduceIte, reduceLT, reduceLeDiff, reduceSub, reducePow, reduceMul, reduceToNat, reduceLE, reduceEq, Int.reduceLT, Int.reduceBEq, Int.reduceBNe]) ?_; simp only [intP, AW, reduceAdd, reduceCtorEq, reduceEqDiff, ↓reduceIte, reduceLT, reduceLeDiff, reduceSub, reducePow, reduceMul, reduceToNat, reduceLE, reduceEq, Int.reduceLT, Int.reduceBEq, Int.reduceBNe]
    refine ops_call (g3) (by simp only [intP, AW, reduceAdd, reduceCtorEq, reduceEqDiff, ↓reduceIte, reduceLT, reduceLeDiff, reduceSub, reducePow, reduceMul, reduceToNat, reduceLE, reduceEq, Int.reduceLT, Int.reduceBEq, Int.reduceBNe]) ?_; simp only [intP, AW, reduceAdd, reduceCtorEq, reduceEqDiff, ↓reduceIte, reduceLT, reduceLeDiff, reduceSub, reducePow, reduceMul, reduceToNat, reduceLE, reduceEq, Int.reduceLT, Int.reduceBEq, Int.reduceBNe]
    simp only [d1, d2, haq, ha, w1, b0, w2, d3, w3, w4, w5, w6, w7, d4, d5, AW, reduceAdd, reduceCtorEq, reduceEqDiff, ↓reduceIte, reduceLT, reduceLeDiff, reduceSub, reducePow, reduceMul, reduceToNat, reduceLE, reduceEq, Int.reduceLT, Int.reduceBEq, Int.reduceBNe]
    refine ops_call (awake_g) (by simp only [AW, reduceAdd, reduceCtorEq, reduceEqDiff, ↓reduceIte, reduceLT, reduceLeDiff, reduceSub, reducePow, reduceMul, reduceToNat, reduceLE, reduceEq, Int.reduceLT, Int.reduceBEq, Int.reduceBNe]) ?_; simp only [AW, reduceAdd, reduceCtorEq, reduceEqDiff, ↓reduceIte, reduceLT, reduceLeDiff, reduceSub, reducePow, reduceMul, reduceToNat, reduceLE, reduceEq, Int.reduceLT, Int.reduceBEq, Int.reduceBNe]


end Go.Proofs.YtjlhnlfalomenaaDoor
