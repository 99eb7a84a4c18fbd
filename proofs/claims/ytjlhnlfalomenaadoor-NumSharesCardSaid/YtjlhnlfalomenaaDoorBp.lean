/-
  Division of 128 by 64 bits, digit by digit (plain laws); lengths of numbers in bits.
-/
import Derived.Test.YtjlhnlfalomenaaDoorBase
namespace Go.Proofs.YtjlhnlfalomenaaDoor
open Go.RowKit
open Nat (reduceAdd reduceEqDiff reduceLT reduceLeDiff reduceSub reducePow reduceMul)
open Int (reduceToNat reduceLE reduceEq)
set_option linter.unusedVariables false
set_option linter.unusedSimpArgs false
set_option linter.unnecessarySimpa false

def lenN (x : Nat) : Nat := if x = 0 then 0 else x.log2 + 1
theorem len_lt (x : Nat) : x < 2 ^ lenN x := by
  unfold lenN; split
  · rename_i h; subst h; decide
  · exact Nat.lt_log2_self
theorem len_ge {x : Nat} (h : 0 < x) : 2 ^ (lenN x - 1) ≤ x ∧ 0 < lenN x := by
  unfold lenN; rw [if_neg (by omega)]
  exact ⟨Nat.log2_self_le (by omega), Nat.succ_pos _⟩
theorem len_eq {x n : Nat} (h1 : 2 ^ n ≤ x) (h2 : x < 2 ^ (n + 1)) : lenN x = n + 1 := by
  have hx : x ≠ 0 := by have := Nat.two_pow_pos n; omega
  unfold lenN; rw [if_neg hx, (Nat.log2_eq_iff hx).2 ⟨h1, h2⟩]
theorem len_shift {x k : Nat} (h : 2 ^ k ≤ x) : lenN x = k + lenN (x / 2 ^ k) := by
  have hp := Nat.two_pow_pos k
  have hq : 0 < x / 2 ^ k := Nat.div_pos h hp
  obtain ⟨g1, g2⟩ := len_ge hq
  have g3 := len_lt (x / 2 ^ k)
  obtain ⟨n, hn⟩ : ∃ n, lenN (x / 2 ^ k) = n + 1 := ⟨lenN (x / 2 ^ k) - 1, by omega⟩
  rw [hn] at g1 g3 ⊢
  rw [show k + (n + 1) = (k + n) + 1 by omega]
  refine len_eq ?_ ?_
  · have := (Nat.le_div_iff_mul_le hp).1 g1
    rw [Nat.pow_add, Nat.mul_comm]; exact this
  · have := (Nat.div_lt_iff_lt_mul hp).1 g3
    rw [show k + n + 1 = (n + 1) + k by omega, Nat.pow_add]; exact this
theorem len_64 {x : Nat} (h : x < 18446744073709551616) : lenN x ≤ 64 := by
  by_cases hx : x = 0
  · subst hx; decide
  · have := (len_ge (by omega : 0 < x)).1
    by_cases h2 : lenN x ≤ 64
    · exact h2
    · have h3 : 2 ^ 64 ≤ 2 ^ (lenN x - 1) := Nat.pow_le_pow_right (by decide) (by omega)
      have : (2 : Nat) ^ 64 = 18446744073709551616 := by decide
      omega
/-- What holds of the trial digit. -/
structure Dig (u n v1 v0 q r : Nat) : Prop where
  sum : q * v1 + r = u
  ge : (u * 4294967296 + n) / (v1 * 4294967296 + v0) ≤ q
  le : q ≤ 4294967297
theorem dig_init {u n v1 v0 : Nat} (h1 : 2147483648 ≤ v1) (h3 : v0 < 4294967296) (hu : u < v1 * 4294967296 + v0) (hn : n < 4294967296) : Dig u n v1 v0 (u / v1) (u % v1) := by
  have hp : 0 < v1 := by omega
  refine ⟨by rw [Nat.mul_comm]; exact Nat.div_add_mod u v1, ?_, ?_⟩
  · rw [Nat.le_div_iff_mul_le hp]
    have := Nat.div_mul_le_self (u * 4294967296 + n) (v1 * 4294967296 + v0)
    generalize (u * 4294967296 + n) / (v1 * 4294967296 + v0) = Q at *
    rw [Nat.mul_add, ← Nat.mul_assoc] at this
    generalize Q * v1 = a at *
    generalize Q * v0 = b at *
    omega
  · have := Nat.div_add_mod u v1
    by_cases hq : u / v1 ≤ 4294967297
    · exact hq
    · have h5 : v1 * 4294967298 ≤ v1 * (u / v1) := Nat.mul_le_mul_left _ (by omega)
      have := Nat.mod_lt u hp
      omega
theorem dig_done {u n v1 v0 q r : Nat} (hn : n < 4294967296) (h : Dig u n v1 v0 q r) (ht : q * v0 ≤ 4294967296 * r + n) (hv : 0 < v1) : q = (u * 4294967296 + n) / (v1 * 4294967296 + v0) := by
  refine Nat.le_antisymm ?_ h.ge
  rw [Nat.le_div_iff_mul_le (by omega), Nat.mul_add, ← Nat.mul_assoc]
  have := h.sum
  generalize q * v1 = a at *
  omega
theorem dig_big {u n v1 v0 q r : Nat} (h1 : 2147483648 ≤ v1) (h3 : v0 < 4294967296) (hu : u < v1 * 4294967296 + v0) (hn : n < 4294967296) (h : Dig u n v1 v0 q r) (hq : q ≤ 4294967296) (hr : 4294967296 ≤ r) : q = (u * 4294967296 + n) / (v1 * 4294967296 + v0) := by
  refine dig_done hn h ?_ (by omega)
  have : q * v0 ≤ 4294967296 * 4294967295 := Nat.mul_le_mul hq (by omega)
  omega
theorem dig_lt {u n v1 v0 : Nat} (h1 : 2147483648 ≤ v1) (h3 : v0 < 4294967296) (hu : u < v1 * 4294967296 + v0) (hn : n < 4294967296) : (u * 4294967296 + n) / (v1 * 4294967296 + v0) < 4294967296 := by
  rw [Nat.div_lt_iff_lt_mul (by omega)]
  omega
theorem dig_next {u n v1 v0 q r : Nat} (h1 : 2147483648 ≤ v1) (h3 : v0 < 4294967296) (hu : u < v1 * 4294967296 + v0) (hn : n < 4294967296) (h : Dig u n v1 v0 q r) (ht : 4294967296 ≤ q ∨ 4294967296 * r + n < q * v0) : Dig u n v1 v0 (q - 1) (r + v1) ∧ 1 ≤ q ∧ q - 1 ≤ 4294967296 := by
  have hl := dig_lt h1 h3 hu hn
  have hgt : (u * 4294967296 + n) / (v1 * 4294967296 + v0) < q := by
    rcases ht with ht | ht
    · omega
    · rcases Nat.lt_or_ge ((u * 4294967296 + n) / (v1 * 4294967296 + v0)) q with e | e2
      · exact e
      · exfalso
        have e3 := (Nat.le_div_iff_mul_le (show 0 < v1 * 4294967296 + v0 by omega)).1 e2
        rw [Nat.mul_add, ← Nat.mul_assoc] at e3
        have := h.sum
        clear e2 hl
        generalize q * v1 = a at *
        omega
  refine ⟨⟨?_, Nat.le_sub_one_of_lt hgt, by have := h.le; omega⟩, Nat.lt_of_le_of_lt (Nat.zero_le _) hgt, by have := h.le; omega⟩
  have := h.sum
  obtain ⟨k, rfl⟩ : ∃ k, q = k + 1 := ⟨q - 1, by have := Nat.lt_of_le_of_lt (Nat.zero_le _) hgt; omega⟩
  rw [Nat.add_sub_cancel]
  rw [Nat.succ_mul] at this
  omega
/-- The dividend, moved so that the divisor has all its bits. -/
theorem div_norm {hi lo y s : Nat} (hs : s ≤ 63) (hlo : lo < 18446744073709551616) (h : hi < y) :
    (hi * 2 ^ s + lo / 2 ^ (64 - s)) * 18446744073709551616 + lo * 2 ^ s % 18446744073709551616 = (hi * 18446744073709551616 + lo) * 2 ^ s ∧ hi * 2 ^ s + lo / 2 ^ (64 - s) < y * 2 ^ s ∧ lo / 2 ^ (64 - s) < 2 ^ s := by
  have e1 : (2 : Nat) ^ (64 - s) * 2 ^ s = 18446744073709551616 := by rw [← Nat.pow_add, show 64 - s + s = 64 by omega]
  have hp := Nat.two_pow_pos s
  have hp2 := Nat.two_pow_pos (64 - s)
  have e2 : lo * 2 ^ s / 18446744073709551616 = lo / 2 ^ (64 - s) := by
    rw [← e1]; exact Nat.mul_div_mul_right _ _ hp
  have e3 := Nat.div_add_mod (lo * 2 ^ s) 18446744073709551616
  rw [e2] at e3
  have e4 : (hi * 2 ^ s + lo / 2 ^ (64 - s)) * 18446744073709551616 + lo * 2 ^ s % 18446744073709551616 = (hi * 18446744073709551616 + lo) * 2 ^ s := by
    rw [Nat.add_mul, Nat.add_mul, Nat.mul_right_comm]
    omega
  have h5 : lo / 2 ^ (64 - s) < 2 ^ s := by
    rw [Nat.div_lt_iff_lt_mul hp2, Nat.mul_comm, e1]; exact hlo
  refine ⟨e4, ?_, h5⟩
  have h6 : (hi + 1) * 2 ^ s ≤ y * 2 ^ s := Nat.mul_le_mul_right _ h
  rw [Nat.succ_mul] at h6
  omega
/-- The two digits make the quotient; what is left makes the remainder. -/
theorem div_two {X y s u w v : Nat} (hy : 0 < y) (hv : v = y * 2 ^ s) (he : u * 18446744073709551616 + w = X * 2 ^ s) (hw : w < 18446744073709551616) :
    (u * 4294967296 + w / 4294967296) / v * 4294967296 + ((u * 4294967296 + w / 4294967296) % v * 4294967296 + w % 4294967296) / v = X / y ∧ ((u * 4294967296 + w / 4294967296) % v * 4294967296 + w % 4294967296) % v / 2 ^ s = X % y := by
  have hp := Nat.two_pow_pos s
  have hv0 : 0 < v := by rw [hv]; exact Nat.mul_pos hy hp
  have d1 := Nat.div_add_mod (u * 4294967296 + w / 4294967296) v
  obtain ⟨q1, hq1⟩ : ∃ q, q = (u * 4294967296 + w / 4294967296) / v := ⟨_, rfl⟩
  obtain ⟨r1, hr1⟩ : ∃ r, r = (u * 4294967296 + w / 4294967296) % v := ⟨_, rfl⟩
  rw [← hq1, ← hr1] at d1
  rw [← hq1, ← hr1]
  have d2 := Nat.div_add_mod (r1 * 4294967296 + w % 4294967296) v
  have d3 := Nat.mod_lt (r1 * 4294967296 + w % 4294967296) hv0
  obtain ⟨q0, hq0⟩ : ∃ q, q = (r1 * 4294967296 + w % 4294967296) / v := ⟨_, rfl⟩
  obtain ⟨r0, hr0⟩ : ∃ r, r = (r1 * 4294967296 + w % 4294967296) % v := ⟨_, rfl⟩
  rw [← hr0] at d3
  rw [← hq0, ← hr0] at d2
  rw [← hq0, ← hr0]
  clear hq1 hr1 hq0 hr0
  have e : X * 2 ^ s = v * (q1 * 4294967296 + q0) + r0 := by
    rw [← he, Nat.mul_add, ← Nat.mul_assoc]
    generalize v * q1 = a at *
    generalize v * q0 = b at *
    omega
  have f1 : X * 2 ^ s / v = q1 * 4294967296 + q0 := by rw [e, Nat.mul_add_div hv0, Nat.div_eq_of_lt d3, Nat.add_zero]
  have f2 : X * 2 ^ s % v = r0 := by rw [e, Nat.mul_add_mod, Nat.mod_eq_of_lt d3]
  constructor
  · rw [← f1, hv, Nat.mul_div_mul_right _ _ hp]
  · rw [← f2, hv, Nat.mul_mod_mul_right, Nat.mul_div_cancel _ hp]


end Go.Proofs.YtjlhnlfalomenaaDoor
