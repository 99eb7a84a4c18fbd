/-
  Numbers: MulDiv of both, walked.
-/
import Derived.Test.YtjlhnlfalomenaaDoorM3
namespace Go.Proofs.YtjlhnlfalomenaaDoor
open Go.RowKit
open Nat (reduceAdd reduceEqDiff reduceLT reduceLeDiff reduceSub reducePow reduceMul)
open Int (reduceToNat reduceLE reduceEq)
set_option linter.unusedVariables false
set_option linter.unusedSimpArgs false
set_option linter.unnecessarySimpa false

def rg0 (n : Int) : Bool := decide (0 ≤ n) && decide (n ≤ 1125899906842624)
def rg1 (n : Int) : Bool := decide (1 ≤ n) && decide (n ≤ 1125899906842624)
def mdP (a b c : Int) : PV := if rg0 a = true ∧ rg0 b = true ∧ rg1 c = true then (if a.toNat * b.toNat / c.toNat ≤ 1125899906842624 then .tup [intP ((a.toNat * b.toNat / c.toNat : Nat) : Int), intP 0] else .tup [intP 0, intP 2]) else .tup [intP 0, intP 1]
theorem rg0_iff {n : Int} : rg0 n = true ↔ 0 ≤ n ∧ n ≤ 1125899906842624 := by simp only [rg0, Bool.and_eq_true, decide_eq_true_eq]
theorem rg1_iff {n : Int} : rg1 n = true ↔ 1 ≤ n ∧ n ≤ 1125899906842624 := by simp only [rg1, Bool.and_eq_true, decide_eq_true_eq]
theorem u64_small {n : Nat} (h : n ≤ 1125899906842624) : IntKind.u64.wrap (n : Int) = (n : Int) := by simp [IntKind.wrap, IntKind.bits, IntKind.signed]; omega
/-- A product of two words over its high word and its low word. -/
theorem hi_big {N c : Nat} (hc : 0 < c) (h : c ≤ N / 18446744073709551616) : ¬ N / c ≤ 1125899906842624 := by
  intro h2
  have h3 : 18446744073709551616 * c ≤ N := by omega
  have h4 := (Nat.le_div_iff_mul_le hc).2 h3
  omega
theorem hi_lo (N c : Nat) (hc : 0 < c) : N / 18446744073709551616 * 18446744073709551616 + N % 18446744073709551616 = N := by omega
set_option maxHeartbeats 1000000 in
theorem muldiv_g (a b c : Int) : Good Tryd.prog 20 [intP a, intP b, intP c] (mdP a b c) := by
  refine good20 (by simp) ?_
  have g1 := in_g a 0 1125899906842624
  have g2 := in_g b 0 1125899906842624
  have g3 := in_g c 1 1125899906842624
  rw [show (decide (0 ≤ a) && decide (a ≤ 1125899906842624)) = rg0 a from rfl] at g1
  rw [show (decide (0 ≤ b) && decide (b ≤ 1125899906842624)) = rg0 b from rfl] at g2
  rw [show (decide (1 ≤ c) && decide (c ≤ 1125899906842624)) = rg1 c from rfl] at g3
  simp only [ac20, intP, AW, reduceAdd, reduceCtorEq, reduceEqDiff, ↓reduceIte, reduceLT, reduceLeDiff, reduceSub, reducePow, reduceMul, reduceToNat, reduceLE, reduceEq, Int.reduceLT, Int.reduceBEq, Int.reduceBNe]
  refine ops_call (g1) (by simp only [intP, AW, reduceAdd, reduceCtorEq, reduceEqDiff, ↓reduceIte, reduceLT, reduceLeDiff, reduceSub, reducePow, reduceMul, reduceToNat, reduceLE, reduceEq, Int.reduceLT, Int.reduceBEq, Int.reduceBNe]) ?_; simp only [intP, AW, reduceAdd, reduceCtorEq, reduceEqDiff, ↓reduceIte, reduceLT, reduceLeDiff, reduceSub, reducePow, reduceMul, reduceToNat, reduceLE, reduceEq, Int.reduceLT, Int.reduceBEq, Int.reduceBNe]
  cases h1 : rg0 a
  · simp only [mdP, h1, intP, false_and, AW, reduceAdd, reduceCtorEq, reduceEqDiff, ↓reduceIte, reduceLT, reduceLeDiff, reduceSub, reducePow, reduceMul, reduceToNat, reduceLE, reduceEq, Int.reduceLT, Int.reduceBEq, Int.reduceBNe]
  simp only [AW, reduceAdd, reduceCtorEq, reduceEqDiff, ↓reduceIte, reduceLT, reduceLeDiff, reduceSub, reducePow, reduceMul, reduceToNat, reduceLE, reduceEq, Int.reduceLT, Int.reduceBEq, Int.reduceBNe]
  refine ops_call (g2) (by simp only [intP, AW, reduceAdd, reduceCtorEq, reduceEqDiff, ↓reduceIte, reduceLT, reduceLeDiff, reduceSub, reducePow, reduceMul, reduceToNat, reduceLE, reduceEq, Int.reduceLT, Int.reduceBEq, Int.reduceBNe]) ?_; simp only [intP, AW, reduceAdd, reduceCtorEq, reduceEqDiff, ↓reduceIte, reduceLT, reduceLeDiff, reduceSub, reducePow, reduceMul, reduceToNat, reduceLE, reduceEq, Int.reduceLT, Int.reduceBEq, Int.reduceBNe]
  cases h2 : rg0 b
  · simp only [mdP, h1, h2, intP, false_and, and_false, AW, reduceAdd, reduceCtorEq, reduceEqDiff, ↓reduceIte, reduceLT, reduceLeDiff, reduceSub, reducePow, reduceMul, reduceToNat, reduceLE, reduceEq, Int.reduceLT, Int.reduceBEq, Int.reduceBNe]
  simp only [AW, reduceAdd, reduceCtorEq, reduceEqDiff, ↓reduceIte, reduceLT, reduceLeDiff, reduceSub, reducePow, reduceMul, reduceToNat, reduceLE, reduceEq, Int.reduceLT, Int.reduceBEq, Int.reduceBNe]
  refine ops_call (g3) (by simp only [intP, AW, reduceAdd, reduceCtorEq, reduceEqDiff, ↓reduceIte, reduceLT, reduceLeDiff, reduceSub, reducePow, reduceMul, reduceToNat, reduceLE, reduceEq, Int.reduceLT, Int.reduceBEq, Int.reduceBNe]) ?_; simp only [intP, AW, reduceAdd, reduceCtorEq, reduceEqDiff, ↓reduceIte, reduceLT, reduceLeDiff, reduceSub, reducePow, reduceMul, reduceToNat, reduceLE, reduceEq, Int.reduceLT, Int.reduceBEq, Int.reduceBNe]
  cases h3 : rg1 c
  · simp only [mdP, h1, h2, h3, intP, and_false, AW, reduceAdd, reduceCtorEq, reduceEqDiff, ↓reduceIte, reduceLT, reduceLeDiff, reduceSub, reducePow, reduceMul, reduceToNat, reduceLE, reduceEq, Int.reduceLT, Int.reduceBEq, Int.reduceBNe]
  have i1 := rg0_iff.1 h1
  have i2 := rg0_iff.1 h2
  have i3 := rg1_iff.1 h3
  obtain ⟨x, rfl⟩ : ∃ x : Nat, a = x := ⟨a.toNat, by omega⟩
  obtain ⟨y, rfl⟩ : ∃ y : Nat, b = y := ⟨b.toNat, by omega⟩
  obtain ⟨z, rfl⟩ : ∃ z : Nat, c = z := ⟨c.toNat, by omega⟩
  have g4 := mul64_g x y (by omega) (by omega)
  simp only [u64_small (n := x) (by omega), u64_small (n := y) (by omega), AW, reduceAdd, reduceCtorEq, reduceEqDiff, ↓reduceIte, reduceLT, reduceLeDiff, reduceSub, reducePow, reduceMul, reduceToNat, reduceLE, reduceEq, Int.reduceLT, Int.reduceBEq, Int.reduceBNe]
  refine ops_call (g4) (by simp only [u64P, AW, reduceAdd, reduceCtorEq, reduceEqDiff, ↓reduceIte, reduceLT, reduceLeDiff, reduceSub, reducePow, reduceMul, reduceToNat, reduceLE, reduceEq, Int.reduceLT, Int.reduceBEq, Int.reduceBNe]) ?_; simp only [u64P, AW, reduceAdd, reduceCtorEq, reduceEqDiff, ↓reduceIte, reduceLT, reduceLeDiff, reduceSub, reducePow, reduceMul, reduceToNat, reduceLE, reduceEq, Int.reduceLT, Int.reduceBEq, Int.reduceBNe]
  have hz : 0 < z := by omega
  simp only [u64_small (n := z) (by omega), AW, reduceAdd, reduceCtorEq, reduceEqDiff, ↓reduceIte, reduceLT, reduceLeDiff, reduceSub, reducePow, reduceMul, reduceToNat, reduceLE, reduceEq, Int.reduceLT, Int.reduceBEq, Int.reduceBNe]
  have tx : ((x : Int)).toNat = x := rfl
  have ty : ((y : Int)).toNat = y := rfl
  have tz : ((z : Int)).toNat = z := rfl
  cases c1 : decide ((z : Int) ≤ ((x * y / 18446744073709551616 : Nat) : Int))
  rotate_left
  · have c1 : z ≤ x * y / 18446744073709551616 := by simp only [decide_eq_true_eq] at c1; exact Int.ofNat_le.1 c1
    have hb := hi_big hz c1
    simp only [mdP, h1, h2, h3, tx, ty, tz, hb, intP, AW, reduceAdd, reduceCtorEq, reduceEqDiff, ↓reduceIte, reduceLT, reduceLeDiff, reduceSub, reducePow, reduceMul, reduceToNat, reduceLE, reduceEq, Int.reduceLT, Int.reduceBEq, Int.reduceBNe]
  have c1 : x * y / 18446744073709551616 < z := by simp only [decide_eq_false_iff_not] at c1; exact Nat.lt_of_not_le (fun h => c1 (Int.ofNat_le.2 h))
  have g5 := div64_g (x * y / 18446744073709551616) (x * y % 18446744073709551616) z (by omega) (Nat.mod_lt _ (by decide)) c1
  rw [hi_lo (x * y) z hz] at g5
  simp only [u64_small (n := x) (by omega), u64_small (n := y) (by omega), AW, reduceAdd, reduceCtorEq, reduceEqDiff, ↓reduceIte, reduceLT, reduceLeDiff, reduceSub, reducePow, reduceMul, reduceToNat, reduceLE, reduceEq, Int.reduceLT, Int.reduceBEq, Int.reduceBNe]
  refine ops_call (g4) (by simp only [u64P, AW, reduceAdd, reduceCtorEq, reduceEqDiff, ↓reduceIte, reduceLT, reduceLeDiff, reduceSub, reducePow, reduceMul, reduceToNat, reduceLE, reduceEq, Int.reduceLT, Int.reduceBEq, Int.reduceBNe]) ?_; simp only [u64P, AW, reduceAdd, reduceCtorEq, reduceEqDiff, ↓reduceIte, reduceLT, reduceLeDiff, reduceSub, reducePow, reduceMul, reduceToNat, reduceLE, reduceEq, Int.reduceLT, Int.reduceBEq, Int.reduceBNe]
  simp only [u64_small (n := z) (by omega), AW, reduceAdd, reduceCtorEq, reduceEqDiff, ↓reduceIte, reduceLT, reduceLeDiff, reduceSub, reducePow, reduceMul, reduceToNat, reduceLE, reduceEq, Int.reduceLT, Int.reduceBEq, Int.reduceBNe]
  refine ops_call (g5) (by simp only [u64P, AW, reduceAdd, reduceCtorEq, reduceEqDiff, ↓reduceIte, reduceLT, reduceLeDiff, reduceSub, reducePow, reduceMul, reduceToNat, reduceLE, reduceEq, Int.reduceLT, Int.reduceBEq, Int.reduceBNe]) ?_; simp only [u64P, AW, reduceAdd, reduceCtorEq, reduceEqDiff, ↓reduceIte, reduceLT, reduceLeDiff, reduceSub, reducePow, reduceMul, reduceToNat, reduceLE, reduceEq, Int.reduceLT, Int.reduceBEq, Int.reduceBNe]
  obtain ⟨q, hq⟩ : ∃ q, q = x * y / z := ⟨_, rfl⟩
  rw [← hq]
  cases c2 : decide ((1125899906842624 : Int) < (q : Int))
  rotate_left
  · have c2 : ¬ q ≤ 1125899906842624 := by simp only [decide_eq_true_eq] at c2; omega
    simp only [mdP, h1, h2, h3, tx, ty, tz, ← hq, c2, intP, AW, reduceAdd, reduceCtorEq, reduceEqDiff, ↓reduceIte, reduceLT, reduceLeDiff, reduceSub, reducePow, reduceMul, reduceToNat, reduceLE, reduceEq, Int.reduceLT, Int.reduceBEq, Int.reduceBNe]
  have c2 : q ≤ 1125899906842624 := by simp only [decide_eq_false_iff_not] at c2; omega
  simp only [mdP, h1, h2, h3, tx, ty, tz, ← hq, c2, intP, wrap_small q c2, AW, reduceAdd, reduceCtorEq, reduceEqDiff, ↓reduceIte, reduceLT, reduceLeDiff, reduceSub, reducePow, reduceMul, reduceToNat, reduceLE, reduceEq, Int.reduceLT, Int.reduceBEq, Int.reduceBNe]
set_option maxHeartbeats 1000000 in
theorem rmuldiv_g (a b c : Int) : Good Tryd.prog 21 [intP a, intP b, intP c] (mdP a b c) := by
  refine good21 (by simp) ?_
  simp only [ac21, intP, AW, reduceAdd, reduceCtorEq, reduceEqDiff, ↓reduceIte, reduceLT, reduceLeDiff, reduceSub, reducePow, reduceMul, reduceToNat, reduceLE, reduceEq, Int.reduceLT, Int.reduceBEq, Int.reduceBNe]
  cases e0 : decide (a < 0)
  rotate_left
  · have h1 : rg0 a = false := by
      rw [decide_eq_true_eq] at e0
      simp only [rg0, Bool.and_eq_false_iff, decide_eq_false_iff_not]; omega
    (try simp only [AW, reduceAdd, reduceCtorEq, reduceEqDiff, ↓reduceIte, reduceLT, reduceLeDiff, reduceSub, reducePow, reduceMul, reduceToNat, reduceLE, reduceEq, Int.reduceLT, Int.reduceBEq, Int.reduceBNe]); simp only [mdP, h1, intP, false_and, AW, reduceAdd, reduceCtorEq, reduceEqDiff, ↓reduceIte, reduceLT, reduceLeDiff, reduceSub, reducePow, reduceMul, reduceToNat, reduceLE, reduceEq, Int.reduceLT, Int.reduceBEq, Int.reduceBNe]
  (try simp only [AW, reduceAdd, reduceCtorEq, reduceEqDiff, ↓reduceIte, reduceLT, reduceLeDiff, reduceSub, reducePow, reduceMul, reduceToNat, reduceLE, reduceEq, Int.reduceLT, Int.reduceBEq, Int.reduceBNe])
  cases f0 : decide ((1125899906842624 : Int) < a)
  rotate_left
  · have h1 : rg0 a = false := by
      rw [decide_eq_true_eq] at f0
      simp only [rg0, Bool.and_eq_false_iff, decide_eq_false_iff_not]; omega
    (try simp only [AW, reduceAdd, reduceCtorEq, reduceEqDiff, ↓reduceIte, reduceLT, reduceLeDiff, reduceSub, reducePow, reduceMul, reduceToNat, reduceLE, reduceEq, Int.reduceLT, Int.reduceBEq, Int.reduceBNe]); simp only [mdP, h1, intP, false_and, AW, reduceAdd, reduceCtorEq, reduceEqDiff, ↓reduceIte, reduceLT, reduceLeDiff, reduceSub, reducePow, reduceMul, reduceToNat, reduceLE, reduceEq, Int.reduceLT, Int.reduceBEq, Int.reduceBNe]
  (try simp only [AW, reduceAdd, reduceCtorEq, reduceEqDiff, ↓reduceIte, reduceLT, reduceLeDiff, reduceSub, reducePow, reduceMul, reduceToNat, reduceLE, reduceEq, Int.reduceLT, Int.reduceBEq, Int.reduceBNe])
  have h1 : rg0 a = true := by
    rw [decide_eq_false_iff_not] at e0 f0
    simp only [rg0, Bool.and_eq_true, decide_eq_true_eq]; omega
  cases e1 : decide (b < 0)
  rotate_left
  · have h2 : rg0 b = false := by
      rw [decide_eq_true_eq] at e1
      simp only [rg0, Bool.and_eq_false_iff, decide_eq_false_iff_not]; omega
    (try simp only [AW, reduceAdd, reduceCtorEq, reduceEqDiff, ↓reduceIte, reduceLT, reduceLeDiff, reduceSub, reducePow, reduceMul, reduceToNat, reduceLE, reduceEq, Int.reduceLT, Int.reduceBEq, Int.reduceBNe]); simp only [mdP, h1, h2, intP, false_and, and_false, AW, reduceAdd, reduceCtorEq, reduceEqDiff, ↓reduceIte, reduceLT, reduceLeDiff, reduceSub, reducePow, reduceMul, reduceToNat, reduceLE, reduceEq, Int.reduceLT, Int.reduceBEq, Int.reduceBNe]
  (try simp only [AW, reduceAdd, reduceCtorEq, reduceEqDiff, ↓reduceIte, reduceLT, reduceLeDiff, reduceSub, reducePow, reduceMul, reduceToNat, reduceLE, reduceEq, Int.reduceLT, Int.reduceBEq, Int.reduceBNe])
  cases f1 : decide ((1125899906842624 : Int) < b)
  rotate_left
  · have h2 : rg0 b = false := by
      rw [decide_eq_true_eq] at f1
      simp only [rg0, Bool.and_eq_false_iff, decide_eq_false_iff_not]; omega
    (try simp only [AW, reduceAdd, reduceCtorEq, reduceEqDiff, ↓reduceIte, reduceLT, reduceLeDiff, reduceSub, reducePow, reduceMul, reduceToNat, reduceLE, reduceEq, Int.reduceLT, Int.reduceBEq, Int.reduceBNe]); simp only [mdP, h1, h2, intP, false_and, and_false, AW, reduceAdd, reduceCtorEq, reduceEqDiff, ↓reduceIte, reduceLT, reduceLeDiff, reduceSub, reducePow, reduceMul, reduceToNat, reduceLE, reduceEq, Int.reduceLT, Int.reduceBEq, Int.reduceBNe]
  (try simp only [AW, reduceAdd, reduceCtorEq, reduceEqDiff, ↓reduceIte, reduceLT, reduceLeDiff, reduceSub, reducePow, reduceMul, reduceToNat, reduceLE, reduceEq, Int.reduceLT, Int.reduceBEq, Int.reduceBNe])
  have h2 : rg0 b = true := by
    rw [decide_eq_false_iff_not] at e1 f1
    simp only [rg0, Bool.and_eq_true, decide_eq_true_eq]; omega
  cases e2 : decide (c < 1)
  rotate_left
  · have h3 : rg1 c = false := by
      rw [decide_eq_true_eq] at e2
      simp only [rg1, Bool.and_eq_false_iff, decide_eq_false_iff_not]; omega
    (try simp only [AW, reduceAdd, reduceCtorEq, reduceEqDiff, ↓reduceIte, reduceLT, reduceLeDiff, reduceSub, reducePow, reduceMul, reduceToNat, reduceLE, reduceEq, Int.reduceLT, Int.reduceBEq, Int.reduceBNe]); simp only [mdP, h1, h2, h3, intP, and_false, AW, reduceAdd, reduceCtorEq, reduceEqDiff, ↓reduceIte, reduceLT, reduceLeDiff, reduceSub, reducePow, reduceMul, reduceToNat, reduceLE, reduceEq, Int.reduceLT, Int.reduceBEq, Int.reduceBNe]
  (try simp only [AW, reduceAdd, reduceCtorEq, reduceEqDiff, ↓reduceIte, reduceLT, reduceLeDiff, reduceSub, reducePow, reduceMul, reduceToNat, reduceLE, reduceEq, Int.reduceLT, Int.reduceBEq, Int.reduceBNe])
  cases f2 : decide ((1125899906842624 : Int) < c)
  rotate_left
  · have h3 : rg1 c = false := by
      rw [decide_eq_true_eq] at f2
      simp only [rg1, Bool.and_eq_false_iff, decide_eq_false_iff_not]; omega
    (try simp only [AW, reduceAdd, reduceCtorEq, reduceEqDiff, ↓reduceIte, reduceLT, reduceLeDiff, reduceSub, reducePow, reduceMul, reduceToNat, reduceLE, reduceEq, Int.reduceLT, Int.reduceBEq, Int.reduceBNe]); simp only [mdP, h1, h2, h3, intP, and_false, AW, reduceAdd, reduceCtorEq, reduceEqDiff, ↓reduceIte, reduceLT, reduceLeDiff, reduceSub, reducePow, reduceMul, reduceToNat, reduceLE, reduceEq, Int.reduceLT, Int.reduceBEq, Int.reduceBNe]
  (try simp only [AW, reduceAdd, reduceCtorEq, reduceEqDiff, ↓reduceIte, reduceLT, reduceLeDiff, reduceSub, reducePow, reduceMul, reduceToNat, reduceLE, reduceEq, Int.reduceLT, Int.reduceBEq, Int.reduceBNe])
  have h3 : rg1 c = true := by
    rw [decide_eq_false_iff_not] at e2 f2
    simp only [rg1, Bool.and_eq_true, decide_eq_true_eq]; omega
  have i1 := rg0_iff.1 h1
  have i2 := rg0_iff.1 h2
  have i3 := rg1_iff.1 h3
  obtain ⟨x, rfl⟩ : ∃ x : Nat, a = x := ⟨a.toNat, by omega⟩
  obtain ⟨y, rfl⟩ : ∃ y : Nat, b = y := ⟨b.toNat, by omega⟩
  obtain ⟨z, rfl⟩ : ∃ z : Nat, c = z := ⟨c.toNat, by omega⟩
  have g := divide_g x y z (by omega) (by omega) (by omega) (by omega)
  rw [divP] at g
  have tx : ((x : Int)).toNat = x := rfl
  have ty : ((y : Int)).toNat = y := rfl
  have tz : ((z : Int)).toNat = z := rfl
  obtain ⟨q, hq⟩ : ∃ q, q = x * y / z := ⟨_, rfl⟩
  rw [← hq] at g
  refine ops_call (g) (by simp only [intP, AW, reduceAdd, reduceCtorEq, reduceEqDiff, ↓reduceIte, reduceLT, reduceLeDiff, reduceSub, reducePow, reduceMul, reduceToNat, reduceLE, reduceEq, Int.reduceLT, Int.reduceBEq, Int.reduceBNe]) ?_; simp only [intP, AW, reduceAdd, reduceCtorEq, reduceEqDiff, ↓reduceIte, reduceLT, reduceLeDiff, reduceSub, reducePow, reduceMul, reduceToNat, reduceLE, reduceEq, Int.reduceLT, Int.reduceBEq, Int.reduceBNe]
  cases c2 : decide ((1125899906842624 : Int) < ((min q 1125899906842625 : Nat) : Int))
  rotate_left
  · have c2 : ¬ q ≤ 1125899906842624 := by simp only [decide_eq_true_eq] at c2; omega
    simp only [mdP, h1, h2, h3, tx, ty, tz, ← hq, c2, intP, AW, reduceAdd, reduceCtorEq, reduceEqDiff, ↓reduceIte, reduceLT, reduceLeDiff, reduceSub, reducePow, reduceMul, reduceToNat, reduceLE, reduceEq, Int.reduceLT, Int.reduceBEq, Int.reduceBNe]
  have c2 : q ≤ 1125899906842624 := by simp only [decide_eq_false_iff_not] at c2; omega
  have m : min q 1125899906842625 = q := by omega
  simp only [mdP, h1, h2, h3, tx, ty, tz, ← hq, c2, m, intP, AW, reduceAdd, reduceCtorEq, reduceEqDiff, ↓reduceIte, reduceLT, reduceLeDiff, reduceSub, reducePow, reduceMul, reduceToNat, reduceLE, reduceEq, Int.reduceLT, Int.reduceBEq, Int.reduceBNe]


end Go.Proofs.YtjlhnlfalomenaaDoor
