/-
  Numbers: the nearest quotient, plain.
-/
import Derived.Test.YtjlhnlfalomenaaDoorM2
namespace Go.Proofs.YtjlhnlfalomenaaDoor
open Go.RowKit
open Nat (reduceAdd reduceEqDiff reduceLT reduceLeDiff reduceSub reducePow reduceMul)
open Int (reduceToNat reduceLE reduceEq)
set_option linter.unusedVariables false
set_option linter.unusedSimpArgs false
set_option linter.unnecessarySimpa false

theorem tdiv_floor {n d : Int} (hd : 0 < d) : n / d = if n.tmod d < 0 then n.tdiv d - 1 else n.tdiv d := by
  have h1 := Int.mul_tdiv_add_tmod n d
  have h2 := Int.tmod_lt_of_pos n hd
  have h3 : -d < n.tmod d := by
    have := Int.tmod_lt_of_pos (-n) hd
    rw [Int.neg_tmod] at this; omega
  generalize n.tdiv d = q at *
  generalize n.tmod d = r at *
  split
  · refine (Int.ediv_emod_unique (r := r + d) hd).2 ⟨?_, by omega, by omega⟩ |>.1
    rw [Int.mul_sub, Int.mul_one]; omega
  · refine (Int.ediv_emod_unique (r := r) hd).2 ⟨?_, by omega, by omega⟩ |>.1
    omega
def nearC (a b : Int) : Int := (2 * a + b) / (2 * b)
def nearP (a b : Int) : PV := if valB a = true ∧ (decide (1 ≤ b) && decide (b ≤ 1125899906842624)) = true then .tup [intP (nearC a b), intP 0] else .tup [intP 0, intP 1]
theorem near_parts {a b : Int} (h : valB a = true) (h1 : 1 ≤ b) (h2 : b ≤ 1125899906842624) : IntKind.i64.wrap (2 * a) = 2 * a ∧ IntKind.i64.wrap (2 * a + b) = 2 * a + b ∧ IntKind.i64.wrap (2 * b) = 2 * b ∧ (2 * b ≠ 0) ∧
    IntKind.i64.wrap ((2 * a + b).tdiv (2 * b)) = (2 * a + b).tdiv (2 * b) ∧ IntKind.i64.wrap ((2 * a + b).tmod (2 * b)) = (2 * a + b).tmod (2 * b) ∧ IntKind.i64.wrap ((2 * a + b).tdiv (2 * b) - 1) = (2 * a + b).tdiv (2 * b) - 1 := by
  have hv := valB_iff.1 h
  have h3 := Int.tmod_lt_of_pos (2 * a + b) (show 0 < 2 * b by omega)
  have h4 := Int.tmod_lt_of_pos (-(2 * a + b)) (show 0 < 2 * b by omega)
  rw [Int.neg_tmod] at h4
  have h5 : ((2 * a + b).tdiv (2 * b)).natAbs ≤ (2 * a + b).natAbs := Int.natAbs_tdiv_le_natAbs _ _
  generalize (2 * a + b).tdiv (2 * b) = q at *
  generalize (2 * a + b).tmod (2 * b) = r at *
  refine ⟨wrap_id ⟨by omega, by omega⟩, wrap_id ⟨by omega, by omega⟩, wrap_id ⟨by omega, by omega⟩, by omega, wrap_id ⟨by omega, by omega⟩, wrap_id ⟨by omega, by omega⟩, wrap_id ⟨by omega, by omega⟩⟩
set_option maxHeartbeats 1000000 in
theorem near_g (a b : Int) : Good Tryd.prog 22 [intP a, intP b] (nearP a b) := by
  refine good22 (by simp) ?_
  have g1 := valid_g a
  have g2 := in_g b 1 1125899906842624
  simp only [ac22, intP, AW, reduceAdd, reduceCtorEq, reduceEqDiff, ↓reduceIte, reduceLT, reduceLeDiff, reduceSub, reducePow, reduceMul, reduceToNat, reduceLE, reduceEq, Int.reduceLT, Int.reduceBEq, Int.reduceBNe]
  refine ops_call (g1) (by simp only [intP, AW, reduceAdd, reduceCtorEq, reduceEqDiff, ↓reduceIte, reduceLT, reduceLeDiff, reduceSub, reducePow, reduceMul, reduceToNat, reduceLE, reduceEq, Int.reduceLT, Int.reduceBEq, Int.reduceBNe]) ?_; simp only [intP, AW, reduceAdd, reduceCtorEq, reduceEqDiff, ↓reduceIte, reduceLT, reduceLeDiff, reduceSub, reducePow, reduceMul, reduceToNat, reduceLE, reduceEq, Int.reduceLT, Int.reduceBEq, Int.reduceBNe]
  cases h : valB a
  · simp only [nearP, h, intP, false_and, AW, reduceAdd, reduceCtorEq, reduceEqDiff, ↓reduceIte, reduceLT, reduceLeDiff, reduceSub, reducePow, reduceMul, reduceToNat, reduceLE, reduceEq, Int.reduceLT, Int.reduceBEq, Int.reduceBNe]
  simp only [AW, reduceAdd, reduceCtorEq, reduceEqDiff, ↓reduceIte, reduceLT, reduceLeDiff, reduceSub, reducePow, reduceMul, reduceToNat, reduceLE, reduceEq, Int.reduceLT, Int.reduceBEq, Int.reduceBNe]
  refine ops_call (g2) (by simp only [intP, AW, reduceAdd, reduceCtorEq, reduceEqDiff, ↓reduceIte, reduceLT, reduceLeDiff, reduceSub, reducePow, reduceMul, reduceToNat, reduceLE, reduceEq, Int.reduceLT, Int.reduceBEq, Int.reduceBNe]) ?_; simp only [intP, AW, reduceAdd, reduceCtorEq, reduceEqDiff, ↓reduceIte, reduceLT, reduceLeDiff, reduceSub, reducePow, reduceMul, reduceToNat, reduceLE, reduceEq, Int.reduceLT, Int.reduceBEq, Int.reduceBNe]
  cases c1 : decide (1 ≤ b)
  · simp only [nearP, h, c1, intP, and_false, AW, reduceAdd, reduceCtorEq, reduceEqDiff, ↓reduceIte, reduceLT, reduceLeDiff, reduceSub, reducePow, reduceMul, reduceToNat, reduceLE, reduceEq, Int.reduceLT, Int.reduceBEq, Int.reduceBNe]
  cases c2 : decide (b ≤ 1125899906842624)
  · simp only [nearP, h, c1, c2, intP, and_false, AW, reduceAdd, reduceCtorEq, reduceEqDiff, ↓reduceIte, reduceLT, reduceLeDiff, reduceSub, reducePow, reduceMul, reduceToNat, reduceLE, reduceEq, Int.reduceLT, Int.reduceBEq, Int.reduceBNe]
  simp only [AW, reduceAdd, reduceCtorEq, reduceEqDiff, ↓reduceIte, reduceLT, reduceLeDiff, reduceSub, reducePow, reduceMul, reduceToNat, reduceLE, reduceEq, Int.reduceLT, Int.reduceBEq, Int.reduceBNe]
  obtain ⟨w1, w2, w3, w4, w5, w6, w7⟩ := near_parts h (by simpa using c1) (by simpa using c2)
  have fl : nearC a b = _ := tdiv_floor (n := 2 * a + b) (d := 2 * b) (by have : 1 ≤ b := by simpa using c1
                                                                          omega)
  (try simp only [w1, w2, w3, w4, w5, w6, AW, reduceAdd, reduceCtorEq, reduceEqDiff, ↓reduceIte, reduceLT, reduceLeDiff, reduceSub, reducePow, reduceMul, reduceToNat, reduceLE, reduceEq, Int.reduceLT, Int.reduceBEq, Int.reduceBNe])
  cases d : decide ((2 * a + b).tmod (2 * b) < 0)
  · have d2 : ¬ (2 * a + b).tmod (2 * b) < 0 := by simpa using d
    rw [if_neg d2] at fl
    (try simp only [w1, w2, w3, w4, w5, w6, AW, reduceAdd, reduceCtorEq, reduceEqDiff, ↓reduceIte, reduceLT, reduceLeDiff, reduceSub, reducePow, reduceMul, reduceToNat, reduceLE, reduceEq, Int.reduceLT, Int.reduceBEq, Int.reduceBNe])
    simp only [nearP, h, c1, c2, fl, intP, AW, reduceAdd, reduceCtorEq, reduceEqDiff, ↓reduceIte, reduceLT, reduceLeDiff, reduceSub, reducePow, reduceMul, reduceToNat, reduceLE, reduceEq, Int.reduceLT, Int.reduceBEq, Int.reduceBNe]
  · have d2 : (2 * a + b).tmod (2 * b) < 0 := by simpa using d
    rw [if_pos d2] at fl
    (try simp only [w1, w2, w3, w4, w5, w6, w7, AW, reduceAdd, reduceCtorEq, reduceEqDiff, ↓reduceIte, reduceLT, reduceLeDiff, reduceSub, reducePow, reduceMul, reduceToNat, reduceLE, reduceEq, Int.reduceLT, Int.reduceBEq, Int.reduceBNe])
    simp only [nearP, h, c1, c2, fl, intP, AW, reduceAdd, reduceCtorEq, reduceEqDiff, ↓reduceIte, reduceLT, reduceLeDiff, reduceSub, reducePow, reduceMul, reduceToNat, reduceLE, reduceEq, Int.reduceLT, Int.reduceBEq, Int.reduceBNe]
set_option maxHeartbeats 1000000 in
theorem rnear_g (a b : Int) : Good Tryd.prog 23 [intP a, intP b] (nearP a b) := by
  refine good23 (by simp) ?_
  have g1 := rvalid_g a
  simp only [ac23, intP, AW, reduceAdd, reduceCtorEq, reduceEqDiff, ↓reduceIte, reduceLT, reduceLeDiff, reduceSub, reducePow, reduceMul, reduceToNat, reduceLE, reduceEq, Int.reduceLT, Int.reduceBEq, Int.reduceBNe]
  refine ops_call (g1) (by simp only [intP, AW, reduceAdd, reduceCtorEq, reduceEqDiff, ↓reduceIte, reduceLT, reduceLeDiff, reduceSub, reducePow, reduceMul, reduceToNat, reduceLE, reduceEq, Int.reduceLT, Int.reduceBEq, Int.reduceBNe]) ?_; simp only [intP, AW, reduceAdd, reduceCtorEq, reduceEqDiff, ↓reduceIte, reduceLT, reduceLeDiff, reduceSub, reducePow, reduceMul, reduceToNat, reduceLE, reduceEq, Int.reduceLT, Int.reduceBEq, Int.reduceBNe]
  cases h : valB a
  · simp only [nearP, h, intP, false_and, AW, reduceAdd, reduceCtorEq, reduceEqDiff, ↓reduceIte, reduceLT, reduceLeDiff, reduceSub, reducePow, reduceMul, reduceToNat, reduceLE, reduceEq, Int.reduceLT, Int.reduceBEq, Int.reduceBNe]
  simp only [AW, reduceAdd, reduceCtorEq, reduceEqDiff, ↓reduceIte, reduceLT, reduceLeDiff, reduceSub, reducePow, reduceMul, reduceToNat, reduceLE, reduceEq, Int.reduceLT, Int.reduceBEq, Int.reduceBNe]
  cases e1 : decide (b < 1)
  rotate_left
  · have c1 : decide (1 ≤ b) = false := by simp only [decide_eq_true_eq, decide_eq_false_iff_not] at *; omega
    simp only [nearP, h, c1, intP, and_false, AW, reduceAdd, reduceCtorEq, reduceEqDiff, ↓reduceIte, reduceLT, reduceLeDiff, reduceSub, reducePow, reduceMul, reduceToNat, reduceLE, reduceEq, Int.reduceLT, Int.reduceBEq, Int.reduceBNe]
  have c1 : decide (1 ≤ b) = true := by simp only [decide_eq_true_eq, decide_eq_false_iff_not] at *; omega
  simp only [AW, reduceAdd, reduceCtorEq, reduceEqDiff, ↓reduceIte, reduceLT, reduceLeDiff, reduceSub, reducePow, reduceMul, reduceToNat, reduceLE, reduceEq, Int.reduceLT, Int.reduceBEq, Int.reduceBNe]
  cases e2 : decide ((1125899906842624 : Int) < b)
  rotate_left
  · have c2 : decide (b ≤ 1125899906842624) = false := by simp only [decide_eq_true_eq, decide_eq_false_iff_not] at *; omega
    simp only [nearP, h, c1, c2, intP, and_false, AW, reduceAdd, reduceCtorEq, reduceEqDiff, ↓reduceIte, reduceLT, reduceLeDiff, reduceSub, reducePow, reduceMul, reduceToNat, reduceLE, reduceEq, Int.reduceLT, Int.reduceBEq, Int.reduceBNe]
  have c2 : decide (b ≤ 1125899906842624) = true := by simp only [decide_eq_true_eq, decide_eq_false_iff_not] at *; omega
  simp only [AW, reduceAdd, reduceCtorEq, reduceEqDiff, ↓reduceIte, reduceLT, reduceLeDiff, reduceSub, reducePow, reduceMul, reduceToNat, reduceLE, reduceEq, Int.reduceLT, Int.reduceBEq, Int.reduceBNe]
  obtain ⟨w1, w2, w3, w4, w5, w6, w7⟩ := near_parts h (by simpa using c1) (by simpa using c2)
  have fl : nearC a b = _ := tdiv_floor (n := 2 * a + b) (d := 2 * b) (by have : 1 ≤ b := by simpa using c1
                                                                          omega)
  (try simp only [w1, w2, w3, w4, w5, w6, AW, reduceAdd, reduceCtorEq, reduceEqDiff, ↓reduceIte, reduceLT, reduceLeDiff, reduceSub, reducePow, reduceMul, reduceToNat, reduceLE, reduceEq, Int.reduceLT, Int.reduceBEq, Int.reduceBNe])
  cases d : decide ((2 * a + b).tmod (2 * b) < 0)
  · have d2 : ¬ (2 * a + b).tmod (2 * b) < 0 := by simpa using d
    rw [if_neg d2] at fl
    (try simp only [w1, w2, w3, w4, w5, w6, AW, reduceAdd, reduceCtorEq, reduceEqDiff, ↓reduceIte, reduceLT, reduceLeDiff, reduceSub, reducePow, reduceMul, reduceToNat, reduceLE, reduceEq, Int.reduceLT, Int.reduceBEq, Int.reduceBNe])
    simp only [nearP, h, c1, c2, fl, intP, AW, reduceAdd, reduceCtorEq, reduceEqDiff, ↓reduceIte, reduceLT, reduceLeDiff, reduceSub, reducePow, reduceMul, reduceToNat, reduceLE, reduceEq, Int.reduceLT, Int.reduceBEq, Int.reduceBNe]
  · have d2 : (2 * a + b).tmod (2 * b) < 0 := by simpa using d
    rw [if_pos d2] at fl
    (try simp only [w1, w2, w3, w4, w5, w6, w7, AW, reduceAdd, reduceCtorEq, reduceEqDiff, ↓reduceIte, reduceLT, reduceLeDiff, reduceSub, reducePow, reduceMul, reduceToNat, reduceLE, reduceEq, Int.reduceLT, Int.reduceBEq, Int.reduceBNe])
    simp only [nearP, h, c1, c2, fl, intP, AW, reduceAdd, reduceCtorEq, reduceEqDiff, ↓reduceIte, reduceLT, reduceLeDiff, reduceSub, reducePow, reduceMul, reduceToNat, reduceLE, reduceEq, Int.reduceLT, Int.reduceBEq, Int.reduceBNe]


end Go.Proofs.YtjlhnlfalomenaaDoor
