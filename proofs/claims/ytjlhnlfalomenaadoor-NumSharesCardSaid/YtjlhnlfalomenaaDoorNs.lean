/-
  The reference's Divide, walked.
-/
import Derived.Test.YtjlhnlfalomenaaDoorBr
namespace Go.Proofs.YtjlhnlfalomenaaDoor
open Go.RowKit
open Nat (reduceAdd reduceEqDiff reduceLT reduceLeDiff reduceSub reducePow reduceMul)
open Int (reduceToNat reduceLE reduceEq)
set_option linter.unusedVariables false
set_option linter.unusedSimpArgs false
set_option linter.unnecessarySimpa false

theorem quoI {a b : Nat} (h : a < 9223372036854775808) : IntKind.i64.wrap ((a : Int).tdiv (b : Int)) = ((a / b : Nat) : Int) := by
  have hd := Nat.div_le_self a b
  rw [Int.tdiv_eq_ediv_of_nonneg (by omega), ← Int.natCast_ediv]
  generalize a / b = d at *
  exact wrap_id (by unfold I64; omega)
theorem mnN (x : Nat) : (if (1125899906842625 : Int) < (x : Int) then (1125899906842625 : Int) else (x : Int)) = ((min x 1125899906842625 : Nat) : Int) := by
  split <;> omega
theorem w2i {a : Nat} (h : a < 4611686018427387904) : IntKind.i64.wrap (2 * (a : Int)) = ((2 * a : Nat) : Int) := by
  rw [wrap_id (by unfold I64; omega)]; omega
theorem addI {a b : Nat} (h : a + b < 9223372036854775808) : IntKind.i64.wrap ((a : Int) + (b : Int)) = ((a + b : Nat) : Int) := by
  rw [wrap_id (by unfold I64; omega)]; omega
def divP (a b c : Nat) : PV := .tup [intP ((min (a * b / c) 1125899906842625 : Nat) : Int), intP ((a * b % c : Nat) : Int)]
theorem div_next0 {A b c : Nat} (hc : 0 < c) : min (2 * min (A * b / c) 1125899906842625 + 2 * (A * b % c) / c) 1125899906842625 = min (2 * A * b / c) 1125899906842625 ∧ 2 * (A * b % c) % c = 2 * A * b % c := by
  have h := Nat.div_add_mod (A * b) c
  have e : 2 * A * b = c * (2 * (A * b / c)) + 2 * (A * b % c) := by
    rw [Nat.mul_assoc, ← Nat.mul_assoc c 2, Nat.mul_comm c 2, Nat.mul_assoc 2 c, ← Nat.mul_add, h]
  rw [e, Nat.mul_add_div hc, Nat.mul_add_mod]
  refine ⟨?_, rfl⟩
  generalize 2 * (A * b % c) / c = y
  generalize A * b / c = x
  omega
theorem div_next1 {A b c : Nat} (hc : 0 < c) : min (2 * min (A * b / c) 1125899906842625 + b / c + (2 * (A * b % c) + b % c) / c) 1125899906842625 = min ((2 * A + 1) * b / c) 1125899906842625 ∧ (2 * (A * b % c) + b % c) % c = (2 * A + 1) * b % c := by
  have h := Nat.div_add_mod (A * b) c
  have h2 := Nat.div_add_mod b c
  have e : (2 * A + 1) * b = c * (2 * (A * b / c) + b / c) + (2 * (A * b % c) + b % c) := by
    rw [Nat.add_mul, Nat.one_mul, Nat.mul_assoc, Nat.mul_add, ← Nat.mul_assoc c 2, Nat.mul_comm c 2, Nat.mul_assoc 2 c]
    generalize A * b = x at *
    generalize c * (x / c) = y at *
    generalize c * (b / c) = z at *
    omega
  rw [e, Nat.mul_add_div hc, Nat.mul_add_mod]
  refine ⟨?_, rfl⟩
  generalize (2 * (A * b % c) + b % c) / c = y
  generalize A * b / c = x
  generalize b / c = z
  omega
set_option maxHeartbeats 4000000 in
theorem divide_g (a b c : Nat) (ha : a ≤ 1125899906842624) (hb : b ≤ 1125899906842624) (hc : 0 < c) (hc2 : c ≤ 1125899906842624) : Good Tryd.prog 30 [intP (a : Int), intP (b : Int), intP (c : Int)] (divP a b c) := by
  refine good30 (by simp) ?_
  simp only [ac30, intP, AW, reduceAdd, reduceCtorEq, reduceEqDiff, ↓reduceIte, reduceLT, reduceLeDiff, reduceSub, reducePow, reduceMul, reduceToNat, reduceLE, reduceEq, Int.reduceLT, Int.reduceBEq, Int.reduceBNe]
  have a0 : a / 2251799813685248 = 0 := Nat.div_eq_of_lt (by omega)
  have n50 : ((1125899906842624 : Nat) : Int) = 1125899906842624 := rfl
  refine run_loop (ι := Nat) (fun t => ⟨[(0, .sc (.int .i64 (a : Int))), (1, .sc (.int .i64 (b : Int))), (2, .sc (.int .i64 (c : Int))), (8, .sc (.int .i64 ((min ((if t = 0 then a else a / (2 * t)) * b / c) 1125899906842625 : Nat) : Int))), (9, .sc (.int .i64 (((if t = 0 then a else a / (2 * t)) * b % c : Nat) : Int))), (10, .sc (.int .i64 (t : Int)))], [], 5, 45⟩) (fun t => t = 0 ∨ ∃ e, e ≤ 50 ∧ t = 2 ^ e) (fun t => t) 5 (fun _ => rfl) 1125899906842624 (by simp only [LW, Nat.reduceMod, Nat.reduceDiv, a0, Nat.zero_mul, Nat.zero_div, Nat.zero_mod, Nat.zero_min, Int.natCast_zero, n50, AW, reduceAdd, reduceCtorEq, reduceEqDiff, ↓reduceIte, reduceLT, reduceLeDiff, reduceSub, reducePow, reduceMul, reduceToNat, reduceLE, reduceEq, Int.reduceLT, Int.reduceBEq, Int.reduceBNe]) (.inr ⟨50, Nat.le_refl _, by decide⟩) (fun t ht => ?_)
  by_cases h0 : t = 0
  · subst h0
    have d1 : decide ((0 : Int) < ((0 : Nat) : Int)) = false := rfl
    simp only [d1, divP, intP, if_true, AW, reduceAdd, reduceCtorEq, reduceEqDiff, ↓reduceIte, reduceLT, reduceLeDiff, reduceSub, reducePow, reduceMul, reduceToNat, reduceLE, reduceEq, Int.reduceLT, Int.reduceBEq, Int.reduceBNe]
  obtain ⟨e, he, ht⟩ : ∃ e, e ≤ 50 ∧ t = 2 ^ e := by
    rcases ht with h | h
    · exact absurd h h0
    · exact h
  have ht50 : t ≤ 1125899906842624 := by
    rw [ht]; exact Nat.le_trans (Nat.pow_le_pow_right (by decide) he) (by decide)
  have hA : (if (t / 2) = 0 then a else a / (2 * (t / 2))) = a / t := by
    cases e with
    | zero =>
      have : t = 1 := ht
      subst this
      rw [if_pos (by decide), Nat.div_one]
    | succ e =>
      have h2 : t = 2 * 2 ^ e := by rw [ht, Nat.pow_succ, Nat.mul_comm]
      have hp := Nat.two_pow_pos e
      have h3 : t / 2 = 2 ^ e := by omega
      rw [h3, if_neg (by omega), ← h2]
  have hin : t / 2 = 0 ∨ ∃ e, e ≤ 50 ∧ t / 2 = 2 ^ e := by
    cases e with
    | zero => left; rw [ht]
    | succ e => right; exact ⟨e, by omega, by rw [ht, Nat.pow_succ]; omega⟩
  have hlt : t / 2 < t := Nat.div_lt_self (Nat.pos_of_ne_zero h0) (by decide)
  have d1 : decide ((0 : Int) < (t : Int)) = true := by rw [decide_eq_true_eq]; omega
  have tn : ((t : Int) = 0) = False := by simp; omega
  have cn : ((c : Int) = 0) = False := by simp; omega
  have q1 := quoI (a := a) (b := t) (by omega)
  have q2 := quoI (a := t) (b := 2) (by omega)
  have q3 := quoI (a := b) (b := c) (by omega)
  have r1 : (((a / t : Nat) : Int)).tmod 2 = ((a / t % 2 : Nat) : Int) := remN (a / t) 2
  have r2 := remN b c
  have hA2 : a / t = 2 * (a / (2 * t)) + a / t % 2 := by
    have := Nat.div_div_eq_div_mul a t 2
    rw [Nat.mul_comm t 2] at this
    rw [← this]; omega
  rw [if_neg h0]
  obtain ⟨X, hX⟩ : ∃ X, X = a / (2 * t) := ⟨_, rfl⟩
  rw [← hX] at hA2 ⊢
  have hm := Nat.mod_lt (X * b) hc
  have hbm := Nat.mod_lt b hc
  have hbd := Nat.div_le_self b c
  have n2 : ((2 : Nat) : Int) = 2 := rfl
  rw [n2] at q2
  by_cases hp : a / t % 2 = 1
  · have d2 : (((a / t % 2 : Nat) : Int) == 1) = true := by rw [hp]; rfl
    obtain ⟨g1, g2⟩ := div_next1 (A := X) (b := b) (c := c) hc
    rw [show 2 * X + 1 = a / t by omega] at g1 g2
    obtain ⟨m, hmm⟩ : ∃ m, m = min (X * b / c) 1125899906842625 := ⟨_, rfl⟩
    obtain ⟨y, hy⟩ : ∃ y, y = X * b % c := ⟨_, rfl⟩
    obtain ⟨z, hz⟩ : ∃ z, z = b % c := ⟨_, rfl⟩
    obtain ⟨x, hx⟩ : ∃ x, x = b / c := ⟨_, rfl⟩
    rw [← hmm, ← hy, ← hz, ← hx] at g1 
    rw [← hy, ← hz] at g2
    rw [← hy] at hm
    rw [← hz] at hbm
    rw [← hx] at hbd
    have hm1 : m ≤ 1125899906842625 := by rw [hmm]; exact Nat.min_le_right _ _
    have w1 := w2i (a := m) (by omega)
    have w2 := w2i (a := y) (by omega)
    have w3 := addI (a := 2 * m) (b := x) (by omega)
    have w4 := addI (a := 2 * y) (b := z) (by omega)
    have q4 := quoI (a := 2 * y + z) (b := c) (by omega)
    have hd4 := Nat.div_le_self (2 * y + z) c
    have w5 := addI (a := 2 * m + x) (b := (2 * y + z) / c) (by omega)
    have r4 := remN (2 * y + z) c
    rw [← hmm, ← hy]
    rw [← hx] at q3
    rw [← hz] at r2
    simp only [d1, w1, w2, tn, q1, r1, d2, cn, q3, r2, w3, w4, AW, reduceAdd, reduceCtorEq, reduceEqDiff, ↓reduceIte, reduceLT, reduceLeDiff, reduceSub, reducePow, reduceMul, reduceToNat, reduceLE, reduceEq, Int.reduceLT, Int.reduceBEq, Int.reduceBNe]
    refine drawnK rfl ?_
    simp only [cn, q4, w5, mnN, r4, g1, g2, AW, reduceAdd, reduceCtorEq, reduceEqDiff, ↓reduceIte, reduceLT, reduceLeDiff, reduceSub, reducePow, reduceMul, reduceToNat, reduceLE, reduceEq, Int.reduceLT, Int.reduceBEq, Int.reduceBNe]
    (first | refine drawnK rfl ?_ | trace_state)
    simp only [q2, AW, reduceAdd, reduceCtorEq, reduceEqDiff, ↓reduceIte, reduceLT, reduceLeDiff, reduceSub, reducePow, reduceMul, reduceToNat, reduceLE, reduceEq, Int.reduceLT, Int.reduceBEq, Int.reduceBNe]
    refine ⟨t / 2, hin, ?_, hlt⟩
    simp only [LW, Nat.reduceMod, Nat.reduceDiv, hA, AW, reduceAdd, reduceCtorEq, reduceEqDiff, ↓reduceIte, reduceLT, reduceLeDiff, reduceSub, reducePow, reduceMul, reduceToNat, reduceLE, reduceEq, Int.reduceLT, Int.reduceBEq, Int.reduceBNe]
  · have d2 : (((a / t % 2 : Nat) : Int) == 1) = false := by rw [show a / t % 2 = 0 by omega]; rfl
    obtain ⟨g1, g2⟩ := div_next0 (A := X) (b := b) (c := c) hc
    rw [show 2 * X = a / t by omega] at g1 g2
    obtain ⟨m, hmm⟩ : ∃ m, m = min (X * b / c) 1125899906842625 := ⟨_, rfl⟩
    obtain ⟨y, hy⟩ : ∃ y, y = X * b % c := ⟨_, rfl⟩
    rw [← hmm, ← hy] at g1 
    rw [← hy] at g2
    rw [← hy] at hm
    have hm1 : m ≤ 1125899906842625 := by rw [hmm]; exact Nat.min_le_right _ _
    have w1 := w2i (a := m) (by omega)
    have w2 := w2i (a := y) (by omega)
    have q4 := quoI (a := 2 * y) (b := c) (by omega)
    have hd4 := Nat.div_le_self (2 * y) c
    have w5 := addI (a := 2 * m) (b := 2 * y / c) (by omega)
    have r4 := remN (2 * y) c
    rw [← hmm, ← hy]
    simp only [d1, w1, w2, tn, q1, r1, d2, cn, q4, w5, mnN, r4, g1, g2, AW, reduceAdd, reduceCtorEq, reduceEqDiff, ↓reduceIte, reduceLT, reduceLeDiff, reduceSub, reducePow, reduceMul, reduceToNat, reduceLE, reduceEq, Int.reduceLT, Int.reduceBEq, Int.reduceBNe]
    (first | refine drawnK rfl ?_ | trace_state)
    simp only [q2, AW, reduceAdd, reduceCtorEq, reduceEqDiff, ↓reduceIte, reduceLT, reduceLeDiff, reduceSub, reducePow, reduceMul, reduceToNat, reduceLE, reduceEq, Int.reduceLT, Int.reduceBEq, Int.reduceBNe]
    refine ⟨t / 2, hin, ?_, hlt⟩
    simp only [LW, Nat.reduceMod, Nat.reduceDiv, hA, AW, reduceAdd, reduceCtorEq, reduceEqDiff, ↓reduceIte, reduceLT, reduceLeDiff, reduceSub, reducePow, reduceMul, reduceToNat, reduceLE, reduceEq, Int.reduceLT, Int.reduceBEq, Int.reduceBNe]


end Go.Proofs.YtjlhnlfalomenaaDoor
