/-
  Numbers: products of two.
-/
import Derived.Test.YtjlhnlfalomenaaDoorM1
namespace Go.Proofs.YtjlhnlfalomenaaDoor
open Go.RowKit
open Nat (reduceAdd reduceEqDiff reduceLT reduceLeDiff reduceSub reducePow reduceMul)
open Int (reduceToNat reduceLE reduceEq)
set_option linter.unusedVariables false
set_option linter.unusedSimpArgs false
set_option linter.unnecessarySimpa false

def mulP (a b : Int) : PV := if valB a = true ∧ valB b = true then chkP (a * b) else .tup [intP 0, intP 1]
theorem max_neg {a : Int} (h : valB a = true) : IntKind.i64.wrap (0 - a) = 0 - a ∧ (if a < 0 - a then 0 - a else a) = (a.natAbs : Int) ∧ a.natAbs ≤ 1125899906842624 := by
  have := valB_iff.1 h
  refine ⟨wrap_id ⟨by omega, by omega⟩, ?_, by omega⟩
  split <;> omega
theorem mul_abs (a b : Int) : ((a.natAbs * b.natAbs : Nat) : Int) = if decide (a < 0) = decide (b < 0) then a * b else -(a * b) := by
  by_cases ha : a < 0 <;> by_cases hb : b < 0
  · have e1 : (a.natAbs : Int) = -a := by omega
    have e2 : (b.natAbs : Int) = -b := by omega
    rw [if_pos (by simp [ha, hb]), Int.natCast_mul, e1, e2, Int.neg_mul_neg]
  · have e1 : (a.natAbs : Int) = -a := by omega
    have e2 : (b.natAbs : Int) = b := by omega
    rw [if_neg (by simp [ha, hb]), Int.natCast_mul, e1, e2, Int.neg_mul]
  · have e1 : (a.natAbs : Int) = a := by omega
    have e2 : (b.natAbs : Int) = -b := by omega
    rw [if_neg (by simp [ha, hb]), Int.natCast_mul, e1, e2, Int.mul_neg]
  · have e1 : (a.natAbs : Int) = a := by omega
    have e2 : (b.natAbs : Int) = b := by omega
    rw [if_pos (by simp [ha, hb]), Int.natCast_mul, e1, e2]
theorem mul_over {a b : Int} : valB (a * b) = true ↔ a.natAbs * b.natAbs ≤ 1125899906842624 := by
  have h := mul_abs a b
  have h0 : (0 : Int) ≤ ((a.natAbs * b.natAbs : Nat) : Int) := Int.natCast_nonneg _
  rw [valB_iff]
  generalize a.natAbs * b.natAbs = N at h h0
  generalize a * b = p at h
  split at h <;> omega
theorem wrap_small (Q : Nat) (h : Q ≤ 1125899906842624) : IntKind.i64.wrap (Q : Int) = (Q : Int) := wrap_id ⟨by omega, by omega⟩
theorem quo_over {x y : Nat} (hx : 0 < x) : (1125899906842624 / x < y) ↔ 1125899906842624 < x * y := by
  rw [Nat.div_lt_iff_lt_mul hx, Nat.mul_comm]
set_option maxHeartbeats 1000000 in
theorem mul_g (a b : Int) : Good Tryd.prog 15 [intP a, intP b] (mulP a b) := by
  refine good15 (by simp) ?_
  have g1 := valid_g a
  have g2 := valid_g b
  simp only [ac15, intP, AW, reduceAdd, reduceCtorEq, reduceEqDiff, ↓reduceIte, reduceLT, reduceLeDiff, reduceSub, reducePow, reduceMul, reduceToNat, reduceLE, reduceEq, Int.reduceLT, Int.reduceBEq, Int.reduceBNe]
  refine ops_call (g1) (by simp only [intP, AW, reduceAdd, reduceCtorEq, reduceEqDiff, ↓reduceIte, reduceLT, reduceLeDiff, reduceSub, reducePow, reduceMul, reduceToNat, reduceLE, reduceEq, Int.reduceLT, Int.reduceBEq, Int.reduceBNe]) ?_; simp only [intP, AW, reduceAdd, reduceCtorEq, reduceEqDiff, ↓reduceIte, reduceLT, reduceLeDiff, reduceSub, reducePow, reduceMul, reduceToNat, reduceLE, reduceEq, Int.reduceLT, Int.reduceBEq, Int.reduceBNe]
  cases h : valB a
  · simp only [mulP, h, intP, false_and, AW, reduceAdd, reduceCtorEq, reduceEqDiff, ↓reduceIte, reduceLT, reduceLeDiff, reduceSub, reducePow, reduceMul, reduceToNat, reduceLE, reduceEq, Int.reduceLT, Int.reduceBEq, Int.reduceBNe]
  simp only [AW, reduceAdd, reduceCtorEq, reduceEqDiff, ↓reduceIte, reduceLT, reduceLeDiff, reduceSub, reducePow, reduceMul, reduceToNat, reduceLE, reduceEq, Int.reduceLT, Int.reduceBEq, Int.reduceBNe]
  refine ops_call (g2) (by simp only [intP, AW, reduceAdd, reduceCtorEq, reduceEqDiff, ↓reduceIte, reduceLT, reduceLeDiff, reduceSub, reducePow, reduceMul, reduceToNat, reduceLE, reduceEq, Int.reduceLT, Int.reduceBEq, Int.reduceBNe]) ?_; simp only [intP, AW, reduceAdd, reduceCtorEq, reduceEqDiff, ↓reduceIte, reduceLT, reduceLeDiff, reduceSub, reducePow, reduceMul, reduceToNat, reduceLE, reduceEq, Int.reduceLT, Int.reduceBEq, Int.reduceBNe]
  cases h2 : valB b
  · simp only [mulP, h, h2, intP, AW, reduceAdd, reduceCtorEq, reduceEqDiff, ↓reduceIte, reduceLT, reduceLeDiff, reduceSub, reducePow, reduceMul, reduceToNat, reduceLE, reduceEq, Int.reduceLT, Int.reduceBEq, Int.reduceBNe]
  obtain ⟨n1, n2, n3⟩ := max_neg h
  obtain ⟨m1, m2, m3⟩ := max_neg h2
  have w1 : IntKind.u64.wrap ((a.natAbs : Int)) = ((a.natAbs : Nat) : Int) := by simp [IntKind.wrap, IntKind.bits, IntKind.signed]; omega
  have w2 : IntKind.u64.wrap ((b.natAbs : Int)) = ((b.natAbs : Nat) : Int) := by simp [IntKind.wrap, IntKind.bits, IntKind.signed]; omega
  have g3 := mul64_g a.natAbs b.natAbs (by omega) (by omega)
  simp only [n1, n2, m1, m2, w1, w2, AW, reduceAdd, reduceCtorEq, reduceEqDiff, ↓reduceIte, reduceLT, reduceLeDiff, reduceSub, reducePow, reduceMul, reduceToNat, reduceLE, reduceEq, Int.reduceLT, Int.reduceBEq, Int.reduceBNe]
  refine ops_call (g3) (by simp only [u64P, AW, reduceAdd, reduceCtorEq, reduceEqDiff, ↓reduceIte, reduceLT, reduceLeDiff, reduceSub, reducePow, reduceMul, reduceToNat, reduceLE, reduceEq, Int.reduceLT, Int.reduceBEq, Int.reduceBNe]) ?_; simp only [u64P, AW, reduceAdd, reduceCtorEq, reduceEqDiff, ↓reduceIte, reduceLT, reduceLeDiff, reduceSub, reducePow, reduceMul, reduceToNat, reduceLE, reduceEq, Int.reduceLT, Int.reduceBEq, Int.reduceBNe]
  have hov := mul_over (a := a) (b := b)
  have hab := mul_abs a b
  obtain ⟨N, hN⟩ : ∃ N, N = a.natAbs * b.natAbs := ⟨_, rfl⟩
  rw [← hN] at hov hab ⊢
  cases h3 : valB (a * b)
  · have hbig : 1125899906842624 < N := by
      have : ¬ N ≤ 1125899906842624 := fun hh => by rw [hov.2 hh] at h3; cases h3
      omega
    cases c1 : decide ((0 : Int) < ((N / 18446744073709551616 : Nat) : Int))
    · have c2 : decide ((1125899906842624 : Int) < ((N % 18446744073709551616 : Nat) : Int)) = true := by
        rw [decide_eq_false_iff_not] at c1; rw [decide_eq_true_eq]; omega
      simp only [c2, mulP, h, h2, chkP, h3, intP, AW, reduceAdd, reduceCtorEq, reduceEqDiff, ↓reduceIte, reduceLT, reduceLeDiff, reduceSub, reducePow, reduceMul, reduceToNat, reduceLE, reduceEq, Int.reduceLT, Int.reduceBEq, Int.reduceBNe]
    · simp only [mulP, h, h2, chkP, h3, intP, AW, reduceAdd, reduceCtorEq, reduceEqDiff, ↓reduceIte, reduceLT, reduceLeDiff, reduceSub, reducePow, reduceMul, reduceToNat, reduceLE, reduceEq, Int.reduceLT, Int.reduceBEq, Int.reduceBNe]
  · have hsm := hov.1 h3
    have c1 : decide ((0 : Int) < ((N / 18446744073709551616 : Nat) : Int)) = false := by rw [decide_eq_false_iff_not]; omega
    have c2 : decide ((1125899906842624 : Int) < ((N % 18446744073709551616 : Nat) : Int)) = false := by rw [decide_eq_false_iff_not]; omega
    have e0 : ((N % 18446744073709551616 : Nat) : Int) = (N : Int) := by omega
    have hp := valB_iff.1 h3
    have w3 : IntKind.i64.wrap (a * b) = a * b := wrap_id ⟨by omega, by omega⟩
    have w4 : IntKind.i64.wrap (-(a * b)) = -(a * b) := wrap_id ⟨by omega, by omega⟩
    have w5 : IntKind.i64.wrap (0 - -(a * b)) = a * b := by rw [show (0 : Int) - -(a * b) = a * b by omega]; exact w3
    simp only [c1, c2, AW, reduceAdd, reduceCtorEq, reduceEqDiff, ↓reduceIte, reduceLT, reduceLeDiff, reduceSub, reducePow, reduceMul, reduceToNat, reduceLE, reduceEq, Int.reduceLT, Int.reduceBEq, Int.reduceBNe]
    cases d1 : decide (a < 0) <;> cases d2 : decide (b < 0) <;> (rw [d1, d2] at hab; simp only [if_true, if_false, Bool.false_eq_true, Bool.true_eq_false, reduceCtorEq] at hab)
    · simp only [d1, d2, e0, hab, w3, w4, w5, mulP, h, h2, chkP, h3, intP, AW, reduceAdd, reduceCtorEq, reduceEqDiff, ↓reduceIte, reduceLT, reduceLeDiff, reduceSub, reducePow, reduceMul, reduceToNat, reduceLE, reduceEq, Int.reduceLT, Int.reduceBEq, Int.reduceBNe]
    · simp only [d1, d2, e0, hab, w3, w4, w5, mulP, h, h2, chkP, h3, intP, AW, reduceAdd, reduceCtorEq, reduceEqDiff, ↓reduceIte, reduceLT, reduceLeDiff, reduceSub, reducePow, reduceMul, reduceToNat, reduceLE, reduceEq, Int.reduceLT, Int.reduceBEq, Int.reduceBNe]
    · simp only [d1, d2, e0, hab, w3, w4, w5, mulP, h, h2, chkP, h3, intP, AW, reduceAdd, reduceCtorEq, reduceEqDiff, ↓reduceIte, reduceLT, reduceLeDiff, reduceSub, reducePow, reduceMul, reduceToNat, reduceLE, reduceEq, Int.reduceLT, Int.reduceBEq, Int.reduceBNe]
    · simp only [d1, d2, e0, hab, w3, w4, w5, mulP, h, h2, chkP, h3, intP, AW, reduceAdd, reduceCtorEq, reduceEqDiff, ↓reduceIte, reduceLT, reduceLeDiff, reduceSub, reducePow, reduceMul, reduceToNat, reduceLE, reduceEq, Int.reduceLT, Int.reduceBEq, Int.reduceBNe]
set_option maxHeartbeats 1000000 in
theorem rmul_g (a b : Int) : Good Tryd.prog 16 [intP a, intP b] (mulP a b) := by
  refine good16 (by simp) ?_
  have g1 := rvalid_g a
  have g2 := rvalid_g b
  simp only [ac16, intP, AW, reduceAdd, reduceCtorEq, reduceEqDiff, ↓reduceIte, reduceLT, reduceLeDiff, reduceSub, reducePow, reduceMul, reduceToNat, reduceLE, reduceEq, Int.reduceLT, Int.reduceBEq, Int.reduceBNe]
  refine ops_call (g1) (by simp only [intP, AW, reduceAdd, reduceCtorEq, reduceEqDiff, ↓reduceIte, reduceLT, reduceLeDiff, reduceSub, reducePow, reduceMul, reduceToNat, reduceLE, reduceEq, Int.reduceLT, Int.reduceBEq, Int.reduceBNe]) ?_; simp only [intP, AW, reduceAdd, reduceCtorEq, reduceEqDiff, ↓reduceIte, reduceLT, reduceLeDiff, reduceSub, reducePow, reduceMul, reduceToNat, reduceLE, reduceEq, Int.reduceLT, Int.reduceBEq, Int.reduceBNe]
  cases h : valB a
  · simp only [mulP, h, intP, false_and, AW, reduceAdd, reduceCtorEq, reduceEqDiff, ↓reduceIte, reduceLT, reduceLeDiff, reduceSub, reducePow, reduceMul, reduceToNat, reduceLE, reduceEq, Int.reduceLT, Int.reduceBEq, Int.reduceBNe]
  simp only [AW, reduceAdd, reduceCtorEq, reduceEqDiff, ↓reduceIte, reduceLT, reduceLeDiff, reduceSub, reducePow, reduceMul, reduceToNat, reduceLE, reduceEq, Int.reduceLT, Int.reduceBEq, Int.reduceBNe]
  refine ops_call (g2) (by simp only [intP, AW, reduceAdd, reduceCtorEq, reduceEqDiff, ↓reduceIte, reduceLT, reduceLeDiff, reduceSub, reducePow, reduceMul, reduceToNat, reduceLE, reduceEq, Int.reduceLT, Int.reduceBEq, Int.reduceBNe]) ?_; simp only [intP, AW, reduceAdd, reduceCtorEq, reduceEqDiff, ↓reduceIte, reduceLT, reduceLeDiff, reduceSub, reducePow, reduceMul, reduceToNat, reduceLE, reduceEq, Int.reduceLT, Int.reduceBEq, Int.reduceBNe]
  cases h2 : valB b
  · simp only [mulP, h, h2, intP, AW, reduceAdd, reduceCtorEq, reduceEqDiff, ↓reduceIte, reduceLT, reduceLeDiff, reduceSub, reducePow, reduceMul, reduceToNat, reduceLE, reduceEq, Int.reduceLT, Int.reduceBEq, Int.reduceBNe]
  obtain ⟨n1, n2, n3⟩ := max_neg h
  obtain ⟨m1, m2, m3⟩ := max_neg h2
  have hov := mul_over (a := a) (b := b)
  simp only [AW, reduceAdd, reduceCtorEq, reduceEqDiff, ↓reduceIte, reduceLT, reduceLeDiff, reduceSub, reducePow, reduceMul, reduceToNat, reduceLE, reduceEq, Int.reduceLT, Int.reduceBEq, Int.reduceBNe]
  cases ha : (a != 0)
  · have ha : a = 0 := by simpa using ha
    subst ha
    have w0 : IntKind.i64.wrap (0 * b) = 0 * b := by rw [Int.zero_mul]; rfl
    have v0 : valB (0 * b) = true := by rw [Int.zero_mul]; rfl
    simp only [w0, mulP, h, h2, chkP, v0, intP, AW, reduceAdd, reduceCtorEq, reduceEqDiff, ↓reduceIte, reduceLT, reduceLeDiff, reduceSub, reducePow, reduceMul, reduceToNat, reduceLE, reduceEq, Int.reduceLT, Int.reduceBEq, Int.reduceBNe]
  have ha : a ≠ 0 := by simpa using ha
  have hp : 0 < a.natAbs := by omega
  have z : ((a.natAbs : Nat) : Int) ≠ 0 := by omega
  have hq : (1125899906842624 : Int).tdiv (a.natAbs : Int) = ((1125899906842624 / a.natAbs : Nat) : Int) := by
    rw [Int.tdiv_eq_ediv_of_nonneg (by decide)]; exact (Int.natCast_ediv 1125899906842624 a.natAbs).symm
  have hle : 1125899906842624 / a.natAbs ≤ 1125899906842624 := Nat.div_le_self _ _
  have wq : IntKind.i64.wrap ((1125899906842624 / a.natAbs : Nat) : Int) = ((1125899906842624 / a.natAbs : Nat) : Int) := wrap_small _ hle
  have dq : decide (((1125899906842624 / a.natAbs : Nat) : Int) < (b.natAbs : Int)) = !valB (a * b) := by
    have q := quo_over (x := a.natAbs) (y := b.natAbs) hp
    cases h3 : valB (a * b)
    · have : ¬ a.natAbs * b.natAbs ≤ 1125899906842624 := fun hh => by rw [hov.2 hh] at h3; cases h3
      rw [Bool.not_false, decide_eq_true_eq]
      exact Int.ofNat_lt.2 (q.2 (by omega))
    · have := hov.1 h3
      rw [Bool.not_true, decide_eq_false_iff_not]
      exact fun hh => absurd (q.1 (Int.ofNat_lt.1 hh)) (by omega)
  simp only [n1, n2, m1, m2, z, hq, wq, dq, AW, reduceAdd, reduceCtorEq, reduceEqDiff, ↓reduceIte, reduceLT, reduceLeDiff, reduceSub, reducePow, reduceMul, reduceToNat, reduceLE, reduceEq, Int.reduceLT, Int.reduceBEq, Int.reduceBNe]
  cases h3 : valB (a * b)
  · simp only [mulP, h, h2, chkP, h3, intP, AW, reduceAdd, reduceCtorEq, reduceEqDiff, ↓reduceIte, reduceLT, reduceLeDiff, reduceSub, reducePow, reduceMul, reduceToNat, reduceLE, reduceEq, Int.reduceLT, Int.reduceBEq, Int.reduceBNe]
  · have hp := valB_iff.1 h3
    have w3 : IntKind.i64.wrap (a * b) = a * b := wrap_id ⟨by omega, by omega⟩
    simp only [w3, mulP, h, h2, chkP, h3, intP, AW, reduceAdd, reduceCtorEq, reduceEqDiff, ↓reduceIte, reduceLT, reduceLeDiff, reduceSub, reducePow, reduceMul, reduceToNat, reduceLE, reduceEq, Int.reduceLT, Int.reduceBEq, Int.reduceBNe]


end Go.Proofs.YtjlhnlfalomenaaDoor
