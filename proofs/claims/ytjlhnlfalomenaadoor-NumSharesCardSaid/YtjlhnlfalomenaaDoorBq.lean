/-
  math/bits: Mul64, Len64, LeadingZeros64, walked.
-/
import Derived.Test.YtjlhnlfalomenaaDoorBp
import Derived.Test.YtjlhnlfalomenaaDoorSh
import Derived.Test.YtjlhnlfalomenaaDoorR0
import Derived.Test.YtjlhnlfalomenaaDoorJb
import Derived.Lib.Mul64
import Derived.Laws.Bits64b
namespace Go.Proofs.YtjlhnlfalomenaaDoor
open Go.RowKit
open Nat (reduceAdd reduceEqDiff reduceLT reduceLeDiff reduceSub reducePow reduceMul)
open Int (reduceToNat reduceLE reduceEq)
set_option linter.unusedVariables false
set_option linter.unusedSimpArgs false
set_option linter.unnecessarySimpa false

def u64P (n : Nat) : PV := .sc (.int .u64 (n : Int))
theorem andN {x : Nat} (h : x < 18446744073709551616) : bits .and .u64 (x : Int) 4294967295 = ((x % 4294967296 : Nat) : Int) := by
  have h := bits_and_u64_nat x 4294967295 h (by omega)
  have e : x &&& 4294967295 = x % 4294967296 := Nat.and_two_pow_sub_one_eq_mod x 32
  rw [e] at h
  exact h
theorem shr32 (x : Nat) : ((x : Int)).fdiv (2 ^ min 32 IntKind.u64.bits) = ((x / 4294967296 : Nat) : Int) := by
  rw [show (2 : Int) ^ min 32 IntKind.u64.bits = 4294967296 from rfl, Int.fdiv_eq_ediv_of_nonneg _ (by omega)]; omega
theorem shr16 (x : Nat) : ((x : Int)).fdiv (2 ^ min 16 IntKind.u64.bits) = ((x / 65536 : Nat) : Int) := by
  rw [show (2 : Int) ^ min 16 IntKind.u64.bits = 65536 from rfl, Int.fdiv_eq_ediv_of_nonneg _ (by omega)]; omega
theorem shr8 (x : Nat) : ((x : Int)).fdiv (2 ^ min 8 IntKind.u64.bits) = ((x / 256 : Nat) : Int) := by
  rw [show (2 : Int) ^ min 8 IntKind.u64.bits = 256 from rfl, Int.fdiv_eq_ediv_of_nonneg _ (by omega)]; omega
theorem wu_id {x : Nat} (h : x < 18446744073709551616) : IntKind.u64.wrap (x : Int) = (x : Int) := by rw [IntKind.wrap_u64]; omega
theorem mulW {a b : Nat} (h : a * b < 18446744073709551616) : IntKind.u64.wrap ((a : Int) * (b : Int)) = ((a * b : Nat) : Int) := by
  rw [← Int.natCast_mul, wu_id h]
theorem addW {a b : Nat} (h : a + b < 18446744073709551616) : IntKind.u64.wrap ((a : Int) + (b : Int)) = ((a + b : Nat) : Int) := by
  rw [← Int.natCast_add, wu_id h]
theorem mulM (a b : Nat) : IntKind.u64.wrap ((a : Int) * (b : Int)) = ((a * b % 18446744073709551616 : Nat) : Int) := by
  rw [← Int.natCast_mul, IntKind.wrap_u64]; omega
theorem dleN (a : Nat) (b : Nat) : decide ((b : Int) ≤ (a : Int)) = decide (b ≤ a) := by simp
set_option maxHeartbeats 2000000 in
theorem mul64_g (x y : Nat) (hx : x < 18446744073709551616) (hy : y < 18446744073709551616) : Good Tryd.prog 37 [u64P x, u64P y] (.tup [u64P (x * y / 18446744073709551616), u64P (x * y % 18446744073709551616)]) := by
  obtain ⟨bd, bt, bw, hhi⟩ := Lib.mul64_hi x y hx hy
  have ba := Lib.half_mul_le (a := x / 4294967296) (b := y / 4294967296) (by omega) (by omega)
  have bb := Lib.half_mul_le (a := x / 4294967296) (b := y % 4294967296) (by omega) (by omega)
  have bc := Lib.half_mul_le (a := x % 4294967296) (b := y / 4294967296) (by omega) (by omega)
  have ba' : x / 4294967296 * (y / 4294967296) < 18446744073709551616 := by omega
  have bb' : x / 4294967296 * (y % 4294967296) < 18446744073709551616 := by omega
  have bc' : x % 4294967296 * (y / 4294967296) < 18446744073709551616 := by omega
  have bh1 : x / 4294967296 * (y / 4294967296) + (x / 4294967296 * (y % 4294967296) + x % 4294967296 * (y % 4294967296) / 4294967296) / 4294967296 < 18446744073709551616 := by omega
  have bh : x / 4294967296 * (y / 4294967296) + (x / 4294967296 * (y % 4294967296) + x % 4294967296 * (y % 4294967296) / 4294967296) / 4294967296 + ((x / 4294967296 * (y % 4294967296) + x % 4294967296 * (y % 4294967296) / 4294967296) % 4294967296 + x % 4294967296 * (y / 4294967296)) / 4294967296 < 18446744073709551616 := by omega
  refine good37 (by simp) ?_
  simp only [ac37, u64P, andN hx, andN hy, shr32, mulW bd, mulW bb', addW bt, andN bt, mulW bc', addW bw, mulW ba', addW bh1, addW bh, mulM x y, hhi, AW, reduceAdd, reduceCtorEq, reduceEqDiff, ↓reduceIte, reduceLT, reduceLeDiff, reduceSub, reducePow, reduceMul, reduceToNat, reduceLE, reduceEq, Int.reduceLT, Int.reduceBEq, Int.reduceBNe]
theorem tab_ok : (List.range 256).all (fun x => match Jbbs0[x]? with | some b => b.toNat == lenN x | none => false) = true := by decide +kernel
theorem tab_get {x : Nat} (h : x < 256) : ∃ b, Jbbs0[x]? = some b ∧ b.toNat = lenN x := by
  have := List.all_eq_true.1 tab_ok x (List.mem_range.2 h)
  split at this
  · rename_i b hb; exact ⟨b, hb, by simpa using this⟩
  · cases this
theorem i48 : IntKind.i64.wrap (32 + 16) = 48 := by decide
theorem i40 : IntKind.i64.wrap (32 + 8) = 40 := by decide
theorem i56 : IntKind.i64.wrap (48 + 8) = 56 := by decide
theorem i24 : IntKind.i64.wrap (16 + 8) = 24 := by decide
theorem i16 : IntKind.i64.wrap 16 = 16 := by decide
theorem i8 : IntKind.i64.wrap 8 = 8 := by decide
set_option maxHeartbeats 2000000 in
theorem len64_g (x : Nat) (h : x < 18446744073709551616) : Good Tryd.prog 53 [u64P x] (intP (lenN x)) := by
  refine good53 (by simp) ?_
  simp only [ac53, u64P, intP, AW, reduceAdd, reduceCtorEq, reduceEqDiff, ↓reduceIte, reduceLT, reduceLeDiff, reduceSub, reducePow, reduceMul, reduceToNat, reduceLE, reduceEq, Int.reduceLT, Int.reduceBEq, Int.reduceBNe]
  by_cases t0 : 4294967296 ≤ x
  · have e0 : decide ((4294967296 : Int) ≤ ((x : Nat) : Int)) = true := by rw [decide_eq_true_eq]; omega
    have s0 := len_shift (x := x) (k := 32) (by omega)
    simp only [Nat.reducePow] at s0
    by_cases t1 : 65536 ≤ (x / 4294967296)
    · have e1 : decide ((65536 : Int) ≤ (((x / 4294967296) : Nat) : Int)) = true := by rw [decide_eq_true_eq]; omega
      have s1 := len_shift (x := (x / 4294967296)) (k := 16) (by omega)
      simp only [Nat.reducePow] at s1
      by_cases t2 : 256 ≤ ((x / 4294967296) / 65536)
      · have e2 : decide ((256 : Int) ≤ ((((x / 4294967296) / 65536) : Nat) : Int)) = true := by rw [decide_eq_true_eq]; omega
        have s2 := len_shift (x := ((x / 4294967296) / 65536)) (k := 8) (by omega)
        simp only [Nat.reducePow] at s2
        have hc8 : (((x / 4294967296) / 65536) / 256) < 256 := by omega
        obtain ⟨bt, hb1, hb2⟩ := tab_get hc8
        have w8 : IntKind.u8.wrap (((((x / 4294967296) / 65536) / 256) : Nat) : Int) = (((((x / 4294967296) / 65536) / 256) : Nat) : Int) := by
          simp [IntKind.wrap, IntKind.bits, IntKind.signed]; omega
        have hl64 := len_64 h
        have hle : lenN x = 56 + lenN ((((x / 4294967296) / 65536) / 256)) := by omega
        have w9 : IntKind.i64.wrap ((bt.toNat : Int)) = ((lenN ((((x / 4294967296) / 65536) / 256)) : Nat) : Int) := by rw [hb2]; exact wrap_id (by unfold I64; omega)
        have w10 : IntKind.i64.wrap ((56 : Int) + ((lenN ((((x / 4294967296) / 65536) / 256)) : Nat) : Int)) = ((lenN x : Nat) : Int) := by rw [wrap_id (by unfold I64; omega), hle]; omega
        have w11 : IntKind.i64.wrap ((lenN x : Nat) : Int) = ((lenN x : Nat) : Int) := wrap_id (by unfold I64; omega)
        simp only [e0, e1, e2, shr32, shr16, shr8, w8, hb1, w9, w10, w11, Int.zero_add, i48, i40, i24, i56, i16, i8, AW, reduceAdd, reduceCtorEq, reduceEqDiff, ↓reduceIte, reduceLT, reduceLeDiff, reduceSub, reducePow, reduceMul, reduceToNat, reduceLE, reduceEq, Int.reduceLT, Int.reduceBEq, Int.reduceBNe]
      · have e2 : decide ((256 : Int) ≤ ((((x / 4294967296) / 65536) : Nat) : Int)) = false := by rw [decide_eq_false_iff_not]; omega
        have hc8 : ((x / 4294967296) / 65536) < 256 := by omega
        obtain ⟨bt, hb1, hb2⟩ := tab_get hc8
        have w8 : IntKind.u8.wrap ((((x / 4294967296) / 65536) : Nat) : Int) = ((((x / 4294967296) / 65536) : Nat) : Int) := by
          simp [IntKind.wrap, IntKind.bits, IntKind.signed]; omega
        have hl64 := len_64 h
        have hle : lenN x = 48 + lenN (((x / 4294967296) / 65536)) := by omega
        have w9 : IntKind.i64.wrap ((bt.toNat : Int)) = ((lenN (((x / 4294967296) / 65536)) : Nat) : Int) := by rw [hb2]; exact wrap_id (by unfold I64; omega)
        have w10 : IntKind.i64.wrap ((48 : Int) + ((lenN (((x / 4294967296) / 65536)) : Nat) : Int)) = ((lenN x : Nat) : Int) := by rw [wrap_id (by unfold I64; omega), hle]; omega
        have w11 : IntKind.i64.wrap ((lenN x : Nat) : Int) = ((lenN x : Nat) : Int) := wrap_id (by unfold I64; omega)
        simp only [e0, e1, e2, shr32, shr16, shr8, w8, hb1, w9, w10, w11, Int.zero_add, i48, i40, i24, i56, i16, i8, AW, reduceAdd, reduceCtorEq, reduceEqDiff, ↓reduceIte, reduceLT, reduceLeDiff, reduceSub, reducePow, reduceMul, reduceToNat, reduceLE, reduceEq, Int.reduceLT, Int.reduceBEq, Int.reduceBNe]
    · have e1 : decide ((65536 : Int) ≤ (((x / 4294967296) : Nat) : Int)) = false := by rw [decide_eq_false_iff_not]; omega
      by_cases t2 : 256 ≤ (x / 4294967296)
      · have e2 : decide ((256 : Int) ≤ (((x / 4294967296) : Nat) : Int)) = true := by rw [decide_eq_true_eq]; omega
        have s2 := len_shift (x := (x / 4294967296)) (k := 8) (by omega)
        simp only [Nat.reducePow] at s2
        have hc8 : ((x / 4294967296) / 256) < 256 := by omega
        obtain ⟨bt, hb1, hb2⟩ := tab_get hc8
        have w8 : IntKind.u8.wrap ((((x / 4294967296) / 256) : Nat) : Int) = ((((x / 4294967296) / 256) : Nat) : Int) := by
          simp [IntKind.wrap, IntKind.bits, IntKind.signed]; omega
        have hl64 := len_64 h
        have hle : lenN x = 40 + lenN (((x / 4294967296) / 256)) := by omega
        have w9 : IntKind.i64.wrap ((bt.toNat : Int)) = ((lenN (((x / 4294967296) / 256)) : Nat) : Int) := by rw [hb2]; exact wrap_id (by unfold I64; omega)
        have w10 : IntKind.i64.wrap ((40 : Int) + ((lenN (((x / 4294967296) / 256)) : Nat) : Int)) = ((lenN x : Nat) : Int) := by rw [wrap_id (by unfold I64; omega), hle]; omega
        have w11 : IntKind.i64.wrap ((lenN x : Nat) : Int) = ((lenN x : Nat) : Int) := wrap_id (by unfold I64; omega)
        simp only [e0, e1, e2, shr32, shr16, shr8, w8, hb1, w9, w10, w11, Int.zero_add, i48, i40, i24, i56, i16, i8, AW, reduceAdd, reduceCtorEq, reduceEqDiff, ↓reduceIte, reduceLT, reduceLeDiff, reduceSub, reducePow, reduceMul, reduceToNat, reduceLE, reduceEq, Int.reduceLT, Int.reduceBEq, Int.reduceBNe]
      · have e2 : decide ((256 : Int) ≤ (((x / 4294967296) : Nat) : Int)) = false := by rw [decide_eq_false_iff_not]; omega
        have hc8 : (x / 4294967296) < 256 := by omega
        obtain ⟨bt, hb1, hb2⟩ := tab_get hc8
        have w8 : IntKind.u8.wrap (((x / 4294967296) : Nat) : Int) = (((x / 4294967296) : Nat) : Int) := by
          simp [IntKind.wrap, IntKind.bits, IntKind.signed]; omega
        have hl64 := len_64 h
        have hle : lenN x = 32 + lenN ((x / 4294967296)) := by omega
        have w9 : IntKind.i64.wrap ((bt.toNat : Int)) = ((lenN ((x / 4294967296)) : Nat) : Int) := by rw [hb2]; exact wrap_id (by unfold I64; omega)
        have w10 : IntKind.i64.wrap ((32 : Int) + ((lenN ((x / 4294967296)) : Nat) : Int)) = ((lenN x : Nat) : Int) := by rw [wrap_id (by unfold I64; omega), hle]; omega
        have w11 : IntKind.i64.wrap ((lenN x : Nat) : Int) = ((lenN x : Nat) : Int) := wrap_id (by unfold I64; omega)
        simp only [e0, e1, e2, shr32, shr16, shr8, w8, hb1, w9, w10, w11, Int.zero_add, i48, i40, i24, i56, i16, i8, AW, reduceAdd, reduceCtorEq, reduceEqDiff, ↓reduceIte, reduceLT, reduceLeDiff, reduceSub, reducePow, reduceMul, reduceToNat, reduceLE, reduceEq, Int.reduceLT, Int.reduceBEq, Int.reduceBNe]
  · have e0 : decide ((4294967296 : Int) ≤ ((x : Nat) : Int)) = false := by rw [decide_eq_false_iff_not]; omega
    by_cases t1 : 65536 ≤ x
    · have e1 : decide ((65536 : Int) ≤ ((x : Nat) : Int)) = true := by rw [decide_eq_true_eq]; omega
      have s1 := len_shift (x := x) (k := 16) (by omega)
      simp only [Nat.reducePow] at s1
      by_cases t2 : 256 ≤ (x / 65536)
      · have e2 : decide ((256 : Int) ≤ (((x / 65536) : Nat) : Int)) = true := by rw [decide_eq_true_eq]; omega
        have s2 := len_shift (x := (x / 65536)) (k := 8) (by omega)
        simp only [Nat.reducePow] at s2
        have hc8 : ((x / 65536) / 256) < 256 := by omega
        obtain ⟨bt, hb1, hb2⟩ := tab_get hc8
        have w8 : IntKind.u8.wrap ((((x / 65536) / 256) : Nat) : Int) = ((((x / 65536) / 256) : Nat) : Int) := by
          simp [IntKind.wrap, IntKind.bits, IntKind.signed]; omega
        have hl64 := len_64 h
        have hle : lenN x = 24 + lenN (((x / 65536) / 256)) := by omega
        have w9 : IntKind.i64.wrap ((bt.toNat : Int)) = ((lenN (((x / 65536) / 256)) : Nat) : Int) := by rw [hb2]; exact wrap_id (by unfold I64; omega)
        have w10 : IntKind.i64.wrap ((24 : Int) + ((lenN (((x / 65536) / 256)) : Nat) : Int)) = ((lenN x : Nat) : Int) := by rw [wrap_id (by unfold I64; omega), hle]; omega
        have w11 : IntKind.i64.wrap ((lenN x : Nat) : Int) = ((lenN x : Nat) : Int) := wrap_id (by unfold I64; omega)
        simp only [e0, e1, e2, shr32, shr16, shr8, w8, hb1, w9, w10, w11, Int.zero_add, i48, i40, i24, i56, i16, i8, AW, reduceAdd, reduceCtorEq, reduceEqDiff, ↓reduceIte, reduceLT, reduceLeDiff, reduceSub, reducePow, reduceMul, reduceToNat, reduceLE, reduceEq, Int.reduceLT, Int.reduceBEq, Int.reduceBNe]
      · have e2 : decide ((256 : Int) ≤ (((x / 65536) : Nat) : Int)) = false := by rw [decide_eq_false_iff_not]; omega
        have hc8 : (x / 65536) < 256 := by omega
        obtain ⟨bt, hb1, hb2⟩ := tab_get hc8
        have w8 : IntKind.u8.wrap (((x / 65536) : Nat) : Int) = (((x / 65536) : Nat) : Int) := by
          simp [IntKind.wrap, IntKind.bits, IntKind.signed]; omega
        have hl64 := len_64 h
        have hle : lenN x = 16 + lenN ((x / 65536)) := by omega
        have w9 : IntKind.i64.wrap ((bt.toNat : Int)) = ((lenN ((x / 65536)) : Nat) : Int) := by rw [hb2]; exact wrap_id (by unfold I64; omega)
        have w10 : IntKind.i64.wrap ((16 : Int) + ((lenN ((x / 65536)) : Nat) : Int)) = ((lenN x : Nat) : Int) := by rw [wrap_id (by unfold I64; omega), hle]; omega
        have w11 : IntKind.i64.wrap ((lenN x : Nat) : Int) = ((lenN x : Nat) : Int) := wrap_id (by unfold I64; omega)
        simp only [e0, e1, e2, shr32, shr16, shr8, w8, hb1, w9, w10, w11, Int.zero_add, i48, i40, i24, i56, i16, i8, AW, reduceAdd, reduceCtorEq, reduceEqDiff, ↓reduceIte, reduceLT, reduceLeDiff, reduceSub, reducePow, reduceMul, reduceToNat, reduceLE, reduceEq, Int.reduceLT, Int.reduceBEq, Int.reduceBNe]
    · have e1 : decide ((65536 : Int) ≤ ((x : Nat) : Int)) = false := by rw [decide_eq_false_iff_not]; omega
      by_cases t2 : 256 ≤ x
      · have e2 : decide ((256 : Int) ≤ ((x : Nat) : Int)) = true := by rw [decide_eq_true_eq]; omega
        have s2 := len_shift (x := x) (k := 8) (by omega)
        simp only [Nat.reducePow] at s2
        have hc8 : (x / 256) < 256 := by omega
        obtain ⟨bt, hb1, hb2⟩ := tab_get hc8
        have w8 : IntKind.u8.wrap (((x / 256) : Nat) : Int) = (((x / 256) : Nat) : Int) := by
          simp [IntKind.wrap, IntKind.bits, IntKind.signed]; omega
        have hl64 := len_64 h
        have hle : lenN x = 8 + lenN ((x / 256)) := by omega
        have w9 : IntKind.i64.wrap ((bt.toNat : Int)) = ((lenN ((x / 256)) : Nat) : Int) := by rw [hb2]; exact wrap_id (by unfold I64; omega)
        have w10 : IntKind.i64.wrap ((8 : Int) + ((lenN ((x / 256)) : Nat) : Int)) = ((lenN x : Nat) : Int) := by rw [wrap_id (by unfold I64; omega), hle]; omega
        have w11 : IntKind.i64.wrap ((lenN x : Nat) : Int) = ((lenN x : Nat) : Int) := wrap_id (by unfold I64; omega)
        simp only [e0, e1, e2, shr32, shr16, shr8, w8, hb1, w9, w10, w11, Int.zero_add, i48, i40, i24, i56, i16, i8, AW, reduceAdd, reduceCtorEq, reduceEqDiff, ↓reduceIte, reduceLT, reduceLeDiff, reduceSub, reducePow, reduceMul, reduceToNat, reduceLE, reduceEq, Int.reduceLT, Int.reduceBEq, Int.reduceBNe]
      · have e2 : decide ((256 : Int) ≤ ((x : Nat) : Int)) = false := by rw [decide_eq_false_iff_not]; omega
        have hc8 : x < 256 := by omega
        obtain ⟨bt, hb1, hb2⟩ := tab_get hc8
        have w8 : IntKind.u8.wrap ((x : Nat) : Int) = ((x : Nat) : Int) := by
          simp [IntKind.wrap, IntKind.bits, IntKind.signed]; omega
        have hl64 := len_64 h
        have hle : lenN x = 0 + lenN (x) := by omega
        have w9 : IntKind.i64.wrap ((bt.toNat : Int)) = ((lenN (x) : Nat) : Int) := by rw [hb2]; exact wrap_id (by unfold I64; omega)
        have w10 : IntKind.i64.wrap ((0 : Int) + ((lenN (x) : Nat) : Int)) = ((lenN x : Nat) : Int) := by rw [wrap_id (by unfold I64; omega), hle]; omega
        have w11 : IntKind.i64.wrap ((lenN x : Nat) : Int) = ((lenN x : Nat) : Int) := wrap_id (by unfold I64; omega)
        simp only [e0, e1, e2, shr32, shr16, shr8, w8, hb1, w9, w10, w11, Int.zero_add, i48, i40, i24, i56, i16, i8, AW, reduceAdd, reduceCtorEq, reduceEqDiff, ↓reduceIte, reduceLT, reduceLeDiff, reduceSub, reducePow, reduceMul, reduceToNat, reduceLE, reduceEq, Int.reduceLT, Int.reduceBEq, Int.reduceBNe]
theorem lead_g (x : Nat) (h : x < 18446744073709551616) : Good Tryd.prog 47 [u64P x] (intP ((64 - lenN x : Nat) : Int)) := by
  refine good47 (by simp) ?_
  have hl64 := len_64 h
  have w : IntKind.i64.wrap (64 - ((lenN x : Nat) : Int)) = ((64 - lenN x : Nat) : Int) := by rw [wrap_id (by unfold I64; omega)]; omega
  simp only [ac47, u64P, intP, AW, reduceAdd, reduceCtorEq, reduceEqDiff, ↓reduceIte, reduceLT, reduceLeDiff, reduceSub, reducePow, reduceMul, reduceToNat, reduceLE, reduceEq, Int.reduceLT, Int.reduceBEq, Int.reduceBNe]
  refine ops_call (len64_g x h) (by simp only [u64P, intP, AW, reduceAdd, reduceCtorEq, reduceEqDiff, ↓reduceIte, reduceLT, reduceLeDiff, reduceSub, reducePow, reduceMul, reduceToNat, reduceLE, reduceEq, Int.reduceLT, Int.reduceBEq, Int.reduceBNe]) ?_; simp only [u64P, intP, AW, reduceAdd, reduceCtorEq, reduceEqDiff, ↓reduceIte, reduceLT, reduceLeDiff, reduceSub, reducePow, reduceMul, reduceToNat, reduceLE, reduceEq, Int.reduceLT, Int.reduceBEq, Int.reduceBNe]
  simp only [w, AW, reduceAdd, reduceCtorEq, reduceEqDiff, ↓reduceIte, reduceLT, reduceLeDiff, reduceSub, reducePow, reduceMul, reduceToNat, reduceLE, reduceEq, Int.reduceLT, Int.reduceBEq, Int.reduceBNe]


end Go.Proofs.YtjlhnlfalomenaaDoor
