/-
  Invoices: numbers and amounts as text.
-/
import Derived.Test.YtaejaogidkgalaaDoorYb
import Derived.Test.YtaejaogidkgalaaDoorYc
import Derived.Test.YtaejaogidkgalaaDoorYd
import Derived.Test.YtaejaogidkgalaaDoorXb
import Derived.Test.YtaejaogidkgalaaDoorZg
namespace Go.Proofs.YtaejaogidkgalaaDoor
open Go.RowKit
open Nat (reduceAdd reduceEqDiff reduceLT reduceLeDiff reduceSub reducePow reduceMul)
open Int (reduceToNat reduceLE reduceEq)
set_option linter.unusedVariables false
set_option linter.unusedSimpArgs false
set_option linter.unnecessarySimpa false

/-- The last digits of a number. -/
def sufL (m : Nat) : Nat → List UInt8
  | 0 => []
  | j + 1 => Lib.dg m j :: sufL m j
theorem sufL_len (m : Nat) : ∀ j, (sufL m j).length = j
  | 0 => rfl
  | j + 1 => by rw [sufL, List.length_cons, sufL_len m j]
theorem sufL_map (m : Nat) : ∀ j, sufL m j = (List.range j).map fun t => Lib.dg m (j - 1 - t)
  | 0 => rfl
  | j + 1 => by
    rw [sufL, sufL_map m j, List.range_succ_eq_map, List.map_cons, List.map_map]
    congr 1
    refine List.map_congr_left fun t _ => ?_
    show _ = Lib.dg m (j + 1 - 1 - (t + 1))
    congr 1; omega
theorem sufL_dec (m : Nat) : sufL m (Lib.nDigits m) = Lib.decDigits m := by rw [sufL_map, Lib.decDigits_eq]
theorem pow_le_nd (u : Nat) : 1 ≤ u → 10 ^ (Lib.nDigits u - 1) ≤ u := by
  induction u using Nat.strongRecOn with
  | _ u ih =>
    intro hu
    by_cases h : u < 10
    · rw [Lib.nDigits_small h]; exact hu
    · rw [Lib.nDigits_big h]
      have := ih (u / 10) (by omega) (by omega)
      have hp := Lib.nDigits_pos (u / 10)
      rw [show Lib.nDigits (u / 10) + 1 - 1 = (Lib.nDigits (u / 10) - 1) + 1 by omega, Nat.pow_succ]
      omega
theorem more_nd {m j : Nat} : (j = 0 ∨ 0 < m / 10 ^ j) ↔ j < Lib.nDigits m := by
  have hnp := Lib.nDigits_pos m
  constructor
  · rintro (h | h)
    · omega
    · rcases Nat.lt_or_ge j (Lib.nDigits m) with h1 | h1
      · exact h1
      · have h2 : m < 10 ^ j := Nat.lt_of_lt_of_le (Lib.lt_pow_nDigits m) (Nat.pow_le_pow_right (by decide) h1)
        rw [Nat.div_eq_of_lt h2] at h; omega
  · intro h
    by_cases hj : j = 0
    · exact .inl hj
    · right
      have hm : 1 ≤ m := by
        rcases Nat.eq_zero_or_pos m with e | e
        · subst e; rw [Lib.nDigits_small (by decide)] at h; omega
        · exact e
      have h2 := pow_le_nd m hm
      have h3 : 10 ^ j ≤ 10 ^ (Lib.nDigits m - 1) := Nat.pow_le_pow_right (by decide) (by omega)
      exact Nat.div_pos (Nat.le_trans h3 h2) (Nat.pow_pos (by decide))
theorem byte1 (d : Nat) : strOfNums [((48 + d : Nat) : Int)] = bA [UInt8.ofNat (48 + d)] := by
  unfold strOfNums bA; rw [List.map_cons, List.map_nil, Int.toNat_natCast]
theorem b00 : (⟨#[]⟩ : ByteArray) = bA [] := rfl
theorem b48 : (⟨#[48]⟩ : ByteArray) = bA [48] := rfl
theorem b46 : (⟨#[46]⟩ : ByteArray) = bA [46] := rfl
theorem b45 : (⟨#[45]⟩ : ByteArray) = bA [45] := rfl
/-- A number without its last digits. -/
def vN (n : Int) (j : Nat) : Int := if n < 0 then -((n.natAbs / 10 ^ j : Nat) : Int) else ((n.natAbs / 10 ^ j : Nat) : Int)
theorem vN_zero (n : Int) : vN n 0 = n := by
  unfold vN; rw [Nat.pow_zero, Nat.div_one]; split <;> omega
theorem vN_ne (n : Int) (j : Nat) : vN n j ≠ 0 ↔ 0 < n.natAbs / 10 ^ j := by
  unfold vN; generalize n.natAbs / 10 ^ j = x; split <;> omega
theorem vN_dig (n : Int) (j : Nat) : (if IntKind.wrap .i64 (0 - (vN n j).tmod 10) > (vN n j).tmod 10 then IntKind.wrap .i64 (0 - (vN n j).tmod 10) else (vN n j).tmod 10) = ((n.natAbs / 10 ^ j % 10 : Nat) : Int) := by
  unfold vN; generalize n.natAbs / 10 ^ j = x
  have h0 : ((x : Nat) : Int).tmod 10 = ((x % 10 : Nat) : Int) := by
    rw [Int.tmod_eq_emod_of_nonneg (by omega)]; omega
  have hx : x % 10 < 10 := Nat.mod_lt _ (by decide)
  by_cases hn : n < 0
  · rw [if_pos hn, Int.neg_tmod, h0, wrap_id ⟨by omega, by omega⟩]; split <;> omega
  · rw [if_neg hn, h0, wrap_id ⟨by omega, by omega⟩]; split <;> omega
theorem vN_next {n : Int} (h : I64 n) (j : Nat) : IntKind.wrap .i64 ((vN n j).tdiv 10) = vN n (j + 1) := by
  have hle : n.natAbs / 10 ^ j ≤ n.natAbs := Nat.div_le_self _ _
  obtain ⟨h1, h2⟩ := h
  unfold vN; rw [Nat.pow_succ, ← Nat.div_div_eq_div_mul]
  generalize n.natAbs / 10 ^ j = x at *
  have h0 : ((x : Nat) : Int).tdiv 10 = ((x / 10 : Nat) : Int) := by
    rw [Int.tdiv_eq_ediv_of_nonneg (by omega)]; omega
  split
  · rw [Int.neg_tdiv, h0, wrap_id ⟨by omega, by omega⟩]
  · rw [h0, wrap_id ⟨by omega, by omega⟩]
set_option maxHeartbeats 2000000 in
theorem number_g (n : Int) : Good Tryd.prog 35 [intP n] (txP (Lib.itoa n)) := by
  refine .rng (n := n) (by simp [intP]) (fun hn => ?_)
  have hlen := itoa_len hn
  have hnd : Lib.nDigits n.natAbs ≤ 19 := nDigits_le 19 _ (by obtain ⟨h1, h2⟩ := hn; omega) (by decide)
  have hit : Lib.itoa n = if n < 0 then 45 :: sufL n.natAbs (Lib.nDigits n.natAbs) else sufL n.natAbs (Lib.nDigits n.natAbs) := by
    unfold Lib.itoa; rw [sufL_dec]
    by_cases h : n < 0
    · rw [if_pos h, if_pos h]
    · rw [if_neg h, if_neg h, show n.toNat = n.natAbs by omega]
  obtain ⟨L, hLe⟩ : ∃ L, Lib.nDigits n.natAbs = L := ⟨_, rfl⟩
  rw [hLe] at hit hnd
  refine good35 (by simp) ?_
  simp only [ac35, intP, AW, reduceAdd, reduceCtorEq, reduceEqDiff, ↓reduceIte, reduceLT, reduceLeDiff, reduceSub, reducePow, reduceMul, reduceToNat, reduceLE, reduceEq, Int.reduceLT, Int.reduceBEq, Int.reduceBNe]
  refine run_loop (ι := Nat) (fun j => ⟨[(0, .sc (.int .i64 n)), (3, .sc (.string (bA (sufL n.natAbs j)))), (4, .sc (.int .i64 (vN n j))), (5, .sc (.int .i64 (j : Int)))], [], 5, 36⟩) (fun j => j ≤ L) (fun j => L - j) 5 (fun _ => rfl) 0 (by simp only [LW, Nat.reduceMod, Nat.reduceDiv, vN_zero, sufL, b00, AW, reduceAdd, reduceCtorEq, reduceEqDiff, ↓reduceIte, reduceLT, reduceLeDiff, reduceSub, reducePow, reduceMul, reduceToNat, reduceLE, reduceEq, Int.reduceLT, Int.reduceBEq, Int.reduceBNe]; rfl) (Nat.zero_le _) (fun j hj => ?_)
  have hmi := more_nd (m := n.natAbs) (j := j)
  rw [hLe, ← vN_ne] at hmi
  have t1 := vN_dig n j
  have t2 : IntKind.i64.wrap (48 + ((n.natAbs / 10 ^ j % 10 : Nat) : Int)) = ((48 + n.natAbs / 10 ^ j % 10 : Nat) : Int) := by rw [wrap_id ⟨by omega, by omega⟩]; omega
  have t3 : IntKind.u8.wrap ((48 + n.natAbs / 10 ^ j % 10 : Nat) : Int) = ((48 + n.natAbs / 10 ^ j % 10 : Nat) : Int) := by
    have : n.natAbs / 10 ^ j % 10 < 10 := Nat.mod_lt _ (by decide)
    generalize n.natAbs / 10 ^ j % 10 = d at *
    simp [IntKind.wrap, IntKind.bits, IntKind.signed]; omega
  have t4 := vN_next hn j
  have t5 : ((1 + j : Nat) : Int) ≤ 9223372036854775807 := by omega
  have t6 : bA [UInt8.ofNat (48 + n.natAbs / 10 ^ j % 10)] ++ bA (sufL n.natAbs j) = bA (sufL n.natAbs (j + 1)) := by rw [bA_append]; rfl
  have t7 : IntKind.i64.wrap ((j : Int) + 1) = ((j + 1 : Nat) : Int) := by rw [wrap_id ⟨by omega, by omega⟩]; omega
  have bs := byte1 (n.natAbs / 10 ^ j % 10)
  by_cases hlt : j < L
  rotate_left
  · have e1 : ((j : Int) == 0) = false := by rw [beq_eq_false_iff_ne]; intro h; exact hlt (hmi.1 (.inl (by omega)))
    have e2 : (vN n j != 0) = false := by
      have : vN n j = 0 := Classical.byContradiction fun h => hlt (hmi.1 (.inr h))
      rw [this]; exact bne_self_eq_false 0
    have ej : j = L := by omega
    subst ej
    simp only [e1, e2, AW, reduceAdd, reduceCtorEq, reduceEqDiff, ↓reduceIte, reduceLT, reduceLeDiff, reduceSub, reducePow, reduceMul, reduceToNat, reduceLE, reduceEq, Int.reduceLT, Int.reduceBEq, Int.reduceBNe]
    cases hn0 : decide (n < 0)
    · have hnn : ¬ n < 0 := of_decide_eq_false hn0
      (try simp only [AW, reduceAdd, reduceCtorEq, reduceEqDiff, ↓reduceIte, reduceLT, reduceLeDiff, reduceSub, reducePow, reduceMul, reduceToNat, reduceLE, reduceEq, Int.reduceLT, Int.reduceBEq, Int.reduceBNe])
      rw [hit, if_neg hnn, txP]
    · have hnn : n < 0 := of_decide_eq_true hn0
      have e4 : ((1 + j : Nat) : Int) ≤ 9223372036854775807 := by omega
      simp only [b45, bA_size, sufL_len, e4, bA_append, AW, reduceAdd, reduceCtorEq, reduceEqDiff, ↓reduceIte, reduceLT, reduceLeDiff, reduceSub, reducePow, reduceMul, reduceToNat, reduceLE, reduceEq, Int.reduceLT, Int.reduceBEq, Int.reduceBNe]
      rw [hit, if_pos hnn, txP]
  have fin : ∃ k, k ≤ L ∧ L - k < L - j ∧ k = j + 1 := ⟨j + 1, by omega, by omega, rfl⟩
  cases e1 : ((j : Int) == 0)
  · have e2 : (vN n j != 0) = true := by
      rw [bne_iff_ne]
      rw [beq_eq_false_iff_ne] at e1
      rcases hmi.2 hlt with h | h
      · omega
      · exact h
    simp only [e1, e2, t1, t2, t3, byteV, bs, bA_size, sufL_len, t5, t6, t4, t7, AW, reduceAdd, reduceCtorEq, reduceEqDiff, ↓reduceIte, reduceLT, reduceLeDiff, reduceSub, reducePow, reduceMul, reduceToNat, reduceLE, reduceEq, Int.reduceLT, Int.reduceBEq, Int.reduceBNe]
    refine ⟨j + 1, by omega, ?_, by omega⟩
    simp only [LW, Nat.reduceMod, Nat.reduceDiv, AW, reduceAdd, reduceCtorEq, reduceEqDiff, ↓reduceIte, reduceLT, reduceLeDiff, reduceSub, reducePow, reduceMul, reduceToNat, reduceLE, reduceEq, Int.reduceLT, Int.reduceBEq, Int.reduceBNe]
  · simp only [e1, t1, t2, t3, byteV, bs, bA_size, sufL_len, t5, t6, t4, t7, AW, reduceAdd, reduceCtorEq, reduceEqDiff, ↓reduceIte, reduceLT, reduceLeDiff, reduceSub, reducePow, reduceMul, reduceToNat, reduceLE, reduceEq, Int.reduceLT, Int.reduceBEq, Int.reduceBNe]
    refine ⟨j + 1, by omega, ?_, by omega⟩
    simp only [LW, Nat.reduceMod, Nat.reduceDiv, AW, reduceAdd, reduceCtorEq, reduceEqDiff, ↓reduceIte, reduceLT, reduceLeDiff, reduceSub, reducePow, reduceMul, reduceToNat, reduceLE, reduceEq, Int.reduceLT, Int.reduceBEq, Int.reduceBNe]
def moneyA (k : Nat) : List UInt8 := Lib.decDigits (k / 100) ++ [46] ++ Lib.decDigits (k / 10 % 10) ++ Lib.decDigits (k % 10)
def moneyL (n : Int) : List UInt8 := if n < 0 then [45] ++ moneyA n.natAbs else moneyA n.natAbs
theorem dec_one {m : Nat} (h : m < 10) : Lib.decDigits m = [Lib.dg m 0] := by
  rw [← sufL_dec, Lib.nDigits_small h]; rfl
theorem cents_eq {c : Nat} (h : c < 100) : List.replicate (2 - (Lib.decDigits c).length) 48 ++ Lib.decDigits c = Lib.decDigits (c / 10) ++ Lib.decDigits (c % 10) := by
  rw [dec_one (m := c / 10) (by omega), dec_one (m := c % 10) (by omega)]
  by_cases h1 : c < 10
  · rw [dec_one h1, show c / 10 = 0 by omega, show c % 10 = c by omega]; rfl
  · have h2 : Lib.decDigits c = [Lib.dg c 1, Lib.dg c 0] := by
      rw [← sufL_dec, Lib.nDigits_big h1, Lib.nDigits_small (by omega)]; rfl
    rw [h2]
    have e1 : Lib.dg c 1 = Lib.dg (c / 10) 0 := by unfold Lib.dg; rw [Nat.pow_one, Nat.pow_zero, Nat.div_one]
    have e2 : Lib.dg c 0 = Lib.dg (c % 10) 0 := by unfold Lib.dg; rw [Nat.pow_zero, Nat.div_one, Nat.div_one, Nat.mod_mod]
    rw [e1, e2]; rfl
theorem dec_len {k : Nat} (h : k ≤ 9223372036854775808) : (Lib.decDigits k).length ≤ 19 := by
  rw [Lib.decDigits_length]; exact nDigits_le 19 _ (by omega) (by decide)
theorem moneyA_len {k : Nat} (h : k ≤ 9223372036854775808) : (moneyA k).length ≤ 22 := by
  unfold moneyA
  rw [dec_one (m := k / 10 % 10) (by omega), dec_one (m := k % 10) (by omega)]
  have := dec_len (k := k / 100) (by omega)
  simp only [List.length_append, List.length_cons, List.length_nil]; omega
theorem moneyL_len {n : Int} (h : I64 n) : (moneyL n).length ≤ 23 := by
  have := moneyA_len (k := n.natAbs) (by obtain ⟨h1, h2⟩ := h; omega)
  unfold moneyL; split
  · rw [List.length_append]; simp only [List.length_cons, List.length_nil]; omega
  · omega
set_option maxHeartbeats 2000000 in
theorem moneyN_g (k : Nat) (hk : k ≤ 9223372036854775807) : Good Tryd.prog 36 [intP (k : Int)] (txP (moneyA k)) := by
  have g1 := number_g ((k / 100 : Nat) : Int)
  have g2 := number_g ((k / 10 % 10 : Nat) : Int)
  have g3 := number_g ((k % 10 : Nat) : Int)
  rw [itoa_abs] at g1 g2 g3
  have d1 := dec_len (k := k / 100) (by omega)
  have l2 : (Lib.decDigits (k / 10 % 10)).length = 1 := by rw [dec_one (Nat.mod_lt _ (by decide)), List.length_cons, List.length_nil]
  have l3 : (Lib.decDigits (k % 10)).length = 1 := by rw [dec_one (Nat.mod_lt _ (by decide)), List.length_cons, List.length_nil]
  unfold moneyA
  generalize Lib.decDigits (k / 100) = x1 at *
  generalize Lib.decDigits (k / 10 % 10) = x2 at *
  generalize Lib.decDigits (k % 10) = x3 at *
  have q0 : decide ((k : Int) < 0) = false := by rw [decide_eq_false_iff_not]; omega
  have q1 : IntKind.i64.wrap ((k : Int).tdiv 100) = ((k / 100 : Nat) : Int) := by rw [Int.tdiv_eq_ediv_of_nonneg (by omega), wrap_id ⟨by omega, by omega⟩]; omega
  have q2 : IntKind.i64.wrap ((k : Int).tdiv 10) = ((k / 10 : Nat) : Int) := by rw [Int.tdiv_eq_ediv_of_nonneg (by omega), wrap_id ⟨by omega, by omega⟩]; omega
  have q3 : ((k / 10 : Nat) : Int).tmod 10 = ((k / 10 % 10 : Nat) : Int) := by rw [Int.tmod_eq_emod_of_nonneg (by omega)]; omega
  have q4 : (k : Int).tmod 10 = ((k % 10 : Nat) : Int) := by rw [Int.tmod_eq_emod_of_nonneg (by omega)]; omega
  obtain ⟨dt, hdt⟩ : ∃ l : List UInt8, l = [46] := ⟨_, rfl⟩
  have b46' : (⟨#[46]⟩ : ByteArray) = bA dt := by rw [hdt]; rfl
  have l46 : dt.length = 1 := by rw [hdt]; rfl
  have s1 : ((x1.length + 1 : Nat) : Int) ≤ 9223372036854775807 := by omega
  have s2 : ((x1.length + 1 + 1 : Nat) : Int) ≤ 9223372036854775807 := by omega
  have s3 : ((x1.length + 1 + 1 + 1 : Nat) : Int) ≤ 9223372036854775807 := by omega
  rw [← hdt]
  refine good36 (by simp) ?_
  simp only [ac36, intP, q0, q1, AW, reduceAdd, reduceCtorEq, reduceEqDiff, ↓reduceIte, reduceLT, reduceLeDiff, reduceSub, reducePow, reduceMul, reduceToNat, reduceLE, reduceEq, Int.reduceLT, Int.reduceBEq, Int.reduceBNe]
  refine ops_call (g1) (by simp only [intP, txP, b46', AW, reduceAdd, reduceCtorEq, reduceEqDiff, ↓reduceIte, reduceLT, reduceLeDiff, reduceSub, reducePow, reduceMul, reduceToNat, reduceLE, reduceEq, Int.reduceLT, Int.reduceBEq, Int.reduceBNe]) ?_; simp only [intP, txP, b46', AW, reduceAdd, reduceCtorEq, reduceEqDiff, ↓reduceIte, reduceLT, reduceLeDiff, reduceSub, reducePow, reduceMul, reduceToNat, reduceLE, reduceEq, Int.reduceLT, Int.reduceBEq, Int.reduceBNe]
  simp only [bA_size, l46, s1, bA_append, q2, q3, AW, reduceAdd, reduceCtorEq, reduceEqDiff, ↓reduceIte, reduceLT, reduceLeDiff, reduceSub, reducePow, reduceMul, reduceToNat, reduceLE, reduceEq, Int.reduceLT, Int.reduceBEq, Int.reduceBNe]
  refine ops_call (g2) (by simp only [intP, txP, AW, reduceAdd, reduceCtorEq, reduceEqDiff, ↓reduceIte, reduceLT, reduceLeDiff, reduceSub, reducePow, reduceMul, reduceToNat, reduceLE, reduceEq, Int.reduceLT, Int.reduceBEq, Int.reduceBNe]) ?_; simp only [intP, txP, AW, reduceAdd, reduceCtorEq, reduceEqDiff, ↓reduceIte, reduceLT, reduceLeDiff, reduceSub, reducePow, reduceMul, reduceToNat, reduceLE, reduceEq, Int.reduceLT, Int.reduceBEq, Int.reduceBNe]
  simp only [bA_size, List.length_append, l46, l2, s2, bA_append, q4, AW, reduceAdd, reduceCtorEq, reduceEqDiff, ↓reduceIte, reduceLT, reduceLeDiff, reduceSub, reducePow, reduceMul, reduceToNat, reduceLE, reduceEq, Int.reduceLT, Int.reduceBEq, Int.reduceBNe]
  refine ops_call (g3) (by simp only [intP, txP, AW, reduceAdd, reduceCtorEq, reduceEqDiff, ↓reduceIte, reduceLT, reduceLeDiff, reduceSub, reducePow, reduceMul, reduceToNat, reduceLE, reduceEq, Int.reduceLT, Int.reduceBEq, Int.reduceBNe]) ?_; simp only [intP, txP, AW, reduceAdd, reduceCtorEq, reduceEqDiff, ↓reduceIte, reduceLT, reduceLeDiff, reduceSub, reducePow, reduceMul, reduceToNat, reduceLE, reduceEq, Int.reduceLT, Int.reduceBEq, Int.reduceBNe]
  simp only [bA_size, List.length_append, l46, l2, l3, s3, bA_append, AW, reduceAdd, reduceCtorEq, reduceEqDiff, ↓reduceIte, reduceLT, reduceLeDiff, reduceSub, reducePow, reduceMul, reduceToNat, reduceLE, reduceEq, Int.reduceLT, Int.reduceBEq, Int.reduceBNe]
set_option maxHeartbeats 2000000 in
theorem money_g {n : Int} (hn : n.natAbs ≤ 9223372036854775807) : Good Tryd.prog 36 [intP n] (txP (moneyL n)) := by
  have gp := moneyN_g n.natAbs hn
  unfold moneyL
  by_cases h : n < 0
  rotate_left
  · rw [if_neg h]
    rw [show ((n.natAbs : Nat) : Int) = n by omega] at gp; exact gp
  rw [if_pos h]
  have hml := moneyA_len (k := n.natAbs) (by omega)
  have w1 : IntKind.wrap .i64 (0 - n) = ((n.natAbs : Nat) : Int) := by rw [wrap_id ⟨by omega, by omega⟩]; omega
  have e4 : ((1 + (moneyA n.natAbs).length : Nat) : Int) ≤ 9223372036854775807 := by omega
  have d0 : decide (n < 0) = true := decide_eq_true h
  refine good36 (by simp) ?_
  simp only [ac36, intP, d0, w1, AW, reduceAdd, reduceCtorEq, reduceEqDiff, ↓reduceIte, reduceLT, reduceLeDiff, reduceSub, reducePow, reduceMul, reduceToNat, reduceLE, reduceEq, Int.reduceLT, Int.reduceBEq, Int.reduceBNe]
  refine ops_call (gp) (by simp only [intP, txP, AW, reduceAdd, reduceCtorEq, reduceEqDiff, ↓reduceIte, reduceLT, reduceLeDiff, reduceSub, reducePow, reduceMul, reduceToNat, reduceLE, reduceEq, Int.reduceLT, Int.reduceBEq, Int.reduceBNe]) ?_; simp only [intP, txP, AW, reduceAdd, reduceCtorEq, reduceEqDiff, ↓reduceIte, reduceLT, reduceLeDiff, reduceSub, reducePow, reduceMul, reduceToNat, reduceLE, reduceEq, Int.reduceLT, Int.reduceBEq, Int.reduceBNe]
  simp only [b45, bA_size, e4, bA_append, AW, reduceAdd, reduceCtorEq, reduceEqDiff, ↓reduceIte, reduceLT, reduceLeDiff, reduceSub, reducePow, reduceMul, reduceToNat, reduceLE, reduceEq, Int.reduceLT, Int.reduceBEq, Int.reduceBNe]
  try rfl
set_option maxHeartbeats 2000000 in
theorem amount_g {n : Int} (hn : n.natAbs ≤ 9223372036854775807) : Good Tryd.prog 34 [intP n] (txP (moneyL n)) := by
  obtain ⟨k, hke⟩ : ∃ k, n.natAbs = k := ⟨_, rfl⟩
  have hc : k % 100 < 100 := Nat.mod_lt _ (by decide)
  have g1 := itoa_g ((k % 100 : Nat) : Int)
  have g2 := itoa_g ((k / 100 : Nat) : Int)
  rw [itoa_abs] at g1 g2
  have d1 := dec_len (k := k / 100) (by omega)
  have d2 := dec_len (k := k % 100) (by omega)
  have hce := cents_eq hc
  rw [show k % 100 / 10 = k / 10 % 10 by omega, show k % 100 % 10 = k % 10 by omega] at hce
  have hlc : (Lib.decDigits (k % 100)).length ≤ 2 := by rw [Lib.decDigits_length]; exact nDigits_le 2 _ (by omega) (by decide)
  have hm : moneyL n = (if n < 0 then [45] else []) ++ Lib.decDigits (k / 100) ++ [46] ++ List.replicate (2 - (Lib.decDigits (k % 100)).length) 48 ++ Lib.decDigits (k % 100) := by
    unfold moneyL moneyA
    rw [hke]
    split
    · rw [List.append_assoc _ _ (Lib.decDigits (k % 100)), hce]; simp only [List.append_assoc]
    · rw [List.append_assoc _ _ (Lib.decDigits (k % 100)), hce, List.nil_append]; simp only [List.append_assoc]
  have gr := repeat_g [48] (2 - (Lib.decDigits (k % 100)).length) (by simp only [List.length_cons, List.length_nil]; omega) (by omega)
  rw [rep0] at gr
  rw [hm]
  clear hm hce
  generalize Lib.decDigits (k / 100) = x1 at *
  generalize Lib.decDigits (k % 100) = x2 at *
  have q1 : IntKind.i64.wrap ((k : Int).tdiv 100) = ((k / 100 : Nat) : Int) := by rw [Int.tdiv_eq_ediv_of_nonneg (by omega), wrap_id ⟨by omega, by omega⟩]; omega
  have q4 : (k : Int).tmod 100 = ((k % 100 : Nat) : Int) := by rw [Int.tmod_eq_emod_of_nonneg (by omega)]; omega
  have q5 : IntKind.i64.wrap (2 - ((x2.length : Nat) : Int)) = ((2 - x2.length : Nat) : Int) := by rw [wrap_id ⟨by omega, by omega⟩]; omega
  obtain ⟨dt, hdt⟩ : ∃ l : List UInt8, l = [46] := ⟨_, rfl⟩
  have b46' : (⟨#[46]⟩ : ByteArray) = bA dt := by rw [hdt]; rfl
  have l46 : dt.length = 1 := by rw [hdt]; rfl
  refine good34 (by simp) ?_
  cases hn0 : decide (n < 0)
  · have hnn : ¬ n < 0 := of_decide_eq_false hn0
    have hnk : n = (k : Int) := by omega
    rw [if_neg hnn]
    obtain ⟨sg, hsg⟩ : ∃ l : List UInt8, l = [] := ⟨_, rfl⟩
    have bsg : (⟨#[]⟩ : ByteArray) = bA sg := by rw [hsg]; rfl
    have lsg : sg.length = 0 := by rw [hsg]; rfl
    rw [← hdt, ← hsg]
    have s1 : ((sg.length + x1.length : Nat) : Int) ≤ 9223372036854775807 := by omega
    have s2 : ((sg.length + x1.length + 1 : Nat) : Int) ≤ 9223372036854775807 := by omega
    have s3 : ((sg.length + x1.length + 1 + (2 - x2.length) : Nat) : Int) ≤ 9223372036854775807 := by omega
    have s4 : ((sg.length + x1.length + 1 + (2 - x2.length) + x2.length : Nat) : Int) ≤ 9223372036854775807 := by omega
    rw [hnk] at hn0 ⊢
    simp only [ac34, intP, hn0, q4, AW, reduceAdd, reduceCtorEq, reduceEqDiff, ↓reduceIte, reduceLT, reduceLeDiff, reduceSub, reducePow, reduceMul, reduceToNat, reduceLE, reduceEq, Int.reduceLT, Int.reduceBEq, Int.reduceBNe]
    refine ops_call (g1) (by simp only [intP, txP, AW, reduceAdd, reduceCtorEq, reduceEqDiff, ↓reduceIte, reduceLT, reduceLeDiff, reduceSub, reducePow, reduceMul, reduceToNat, reduceLE, reduceEq, Int.reduceLT, Int.reduceBEq, Int.reduceBNe]) ?_; simp only [intP, txP, AW, reduceAdd, reduceCtorEq, reduceEqDiff, ↓reduceIte, reduceLT, reduceLeDiff, reduceSub, reducePow, reduceMul, reduceToNat, reduceLE, reduceEq, Int.reduceLT, Int.reduceBEq, Int.reduceBNe]
    simp only [q1, AW, reduceAdd, reduceCtorEq, reduceEqDiff, ↓reduceIte, reduceLT, reduceLeDiff, reduceSub, reducePow, reduceMul, reduceToNat, reduceLE, reduceEq, Int.reduceLT, Int.reduceBEq, Int.reduceBNe]
    refine ops_call (g2) (by simp only [intP, txP, AW, reduceAdd, reduceCtorEq, reduceEqDiff, ↓reduceIte, reduceLT, reduceLeDiff, reduceSub, reducePow, reduceMul, reduceToNat, reduceLE, reduceEq, Int.reduceLT, Int.reduceBEq, Int.reduceBNe]) ?_; simp only [intP, txP, AW, reduceAdd, reduceCtorEq, reduceEqDiff, ↓reduceIte, reduceLT, reduceLeDiff, reduceSub, reducePow, reduceMul, reduceToNat, reduceLE, reduceEq, Int.reduceLT, Int.reduceBEq, Int.reduceBNe]
    simp only [bsg, b46', bA_size, s1, bA_append, List.length_append, l46, s2, q5, AW, reduceAdd, reduceCtorEq, reduceEqDiff, ↓reduceIte, reduceLT, reduceLeDiff, reduceSub, reducePow, reduceMul, reduceToNat, reduceLE, reduceEq, Int.reduceLT, Int.reduceBEq, Int.reduceBNe]
    refine ops_call (gr) (by simp only [intP, txP, b48, AW, reduceAdd, reduceCtorEq, reduceEqDiff, ↓reduceIte, reduceLT, reduceLeDiff, reduceSub, reducePow, reduceMul, reduceToNat, reduceLE, reduceEq, Int.reduceLT, Int.reduceBEq, Int.reduceBNe]) ?_; simp only [intP, txP, b48, AW, reduceAdd, reduceCtorEq, reduceEqDiff, ↓reduceIte, reduceLT, reduceLeDiff, reduceSub, reducePow, reduceMul, reduceToNat, reduceLE, reduceEq, Int.reduceLT, Int.reduceBEq, Int.reduceBNe]
    simp only [bA_size, List.length_append, List.length_replicate, l46, s3, s4, bA_append, AW, reduceAdd, reduceCtorEq, reduceEqDiff, ↓reduceIte, reduceLT, reduceLeDiff, reduceSub, reducePow, reduceMul, reduceToNat, reduceLE, reduceEq, Int.reduceLT, Int.reduceBEq, Int.reduceBNe]
  · have hnn : n < 0 := of_decide_eq_true hn0
    have w1 : IntKind.wrap .i64 (0 - n) = (k : Int) := by rw [wrap_id ⟨by omega, by omega⟩]; omega
    rw [if_pos hnn]
    obtain ⟨sg, hsg⟩ : ∃ l : List UInt8, l = [45] := ⟨_, rfl⟩
    have bsg : (⟨#[45]⟩ : ByteArray) = bA sg := by rw [hsg]; rfl
    have lsg : sg.length = 1 := by rw [hsg]; rfl
    rw [← hdt, ← hsg]
    have s1 : ((sg.length + x1.length : Nat) : Int) ≤ 9223372036854775807 := by omega
    have s2 : ((sg.length + x1.length + 1 : Nat) : Int) ≤ 9223372036854775807 := by omega
    have s3 : ((sg.length + x1.length + 1 + (2 - x2.length) : Nat) : Int) ≤ 9223372036854775807 := by omega
    have s4 : ((sg.length + x1.length + 1 + (2 - x2.length) + x2.length : Nat) : Int) ≤ 9223372036854775807 := by omega
    simp only [ac34, intP, hn0, w1, q4, AW, reduceAdd, reduceCtorEq, reduceEqDiff, ↓reduceIte, reduceLT, reduceLeDiff, reduceSub, reducePow, reduceMul, reduceToNat, reduceLE, reduceEq, Int.reduceLT, Int.reduceBEq, Int.reduceBNe]
    refine ops_call (g1) (by simp only [intP, txP, AW, reduceAdd, reduceCtorEq, reduceEqDiff, ↓reduceIte, reduceLT, reduceLeDiff, reduceSub, reducePow, reduceMul, reduceToNat, reduceLE, reduceEq, Int.reduceLT, Int.reduceBEq, Int.reduceBNe]) ?_; simp only [intP, txP, AW, reduceAdd, reduceCtorEq, reduceEqDiff, ↓reduceIte, reduceLT, reduceLeDiff, reduceSub, reducePow, reduceMul, reduceToNat, reduceLE, reduceEq, Int.reduceLT, Int.reduceBEq, Int.reduceBNe]
    simp only [q1, AW, reduceAdd, reduceCtorEq, reduceEqDiff, ↓reduceIte, reduceLT, reduceLeDiff, reduceSub, reducePow, reduceMul, reduceToNat, reduceLE, reduceEq, Int.reduceLT, Int.reduceBEq, Int.reduceBNe]
    refine ops_call (g2) (by simp only [intP, txP, AW, reduceAdd, reduceCtorEq, reduceEqDiff, ↓reduceIte, reduceLT, reduceLeDiff, reduceSub, reducePow, reduceMul, reduceToNat, reduceLE, reduceEq, Int.reduceLT, Int.reduceBEq, Int.reduceBNe]) ?_; simp only [intP, txP, AW, reduceAdd, reduceCtorEq, reduceEqDiff, ↓reduceIte, reduceLT, reduceLeDiff, reduceSub, reducePow, reduceMul, reduceToNat, reduceLE, reduceEq, Int.reduceLT, Int.reduceBEq, Int.reduceBNe]
    simp only [bsg, b46', bA_size, s1, bA_append, List.length_append, l46, s2, q5, AW, reduceAdd, reduceCtorEq, reduceEqDiff, ↓reduceIte, reduceLT, reduceLeDiff, reduceSub, reducePow, reduceMul, reduceToNat, reduceLE, reduceEq, Int.reduceLT, Int.reduceBEq, Int.reduceBNe]
    refine ops_call (gr) (by simp only [intP, txP, b48, AW, reduceAdd, reduceCtorEq, reduceEqDiff, ↓reduceIte, reduceLT, reduceLeDiff, reduceSub, reducePow, reduceMul, reduceToNat, reduceLE, reduceEq, Int.reduceLT, Int.reduceBEq, Int.reduceBNe]) ?_; simp only [intP, txP, b48, AW, reduceAdd, reduceCtorEq, reduceEqDiff, ↓reduceIte, reduceLT, reduceLeDiff, reduceSub, reducePow, reduceMul, reduceToNat, reduceLE, reduceEq, Int.reduceLT, Int.reduceBEq, Int.reduceBNe]
    simp only [bA_size, List.length_append, List.length_replicate, l46, s3, s4, bA_append, AW, reduceAdd, reduceCtorEq, reduceEqDiff, ↓reduceIte, reduceLT, reduceLeDiff, reduceSub, reducePow, reduceMul, reduceToNat, reduceLE, reduceEq, Int.reduceLT, Int.reduceBEq, Int.reduceBNe]
theorem line_g (l : List (List UInt8)) (hl : l.length ≤ 1000000) (hb : (Lib.join l [32]).length ≤ 1000000000) : Good Tryd.prog 33 [.sl (l.map txP)] (txP (Lib.join l [32])) := by
  have gj := join_g l [32] hl hb
  have b32 : (⟨#[32]⟩ : ByteArray) = bA [32] := rfl
  refine good33 (by simp) ?_
  simp only [ac33, AW, reduceAdd, reduceCtorEq, reduceEqDiff, ↓reduceIte, reduceLT, reduceLeDiff, reduceSub, reducePow, reduceMul, reduceToNat, reduceLE, reduceEq, Int.reduceLT, Int.reduceBEq, Int.reduceBNe]
  refine ops_call (gj) (by simp only [txP, b32, AW, reduceAdd, reduceCtorEq, reduceEqDiff, ↓reduceIte, reduceLT, reduceLeDiff, reduceSub, reducePow, reduceMul, reduceToNat, reduceLE, reduceEq, Int.reduceLT, Int.reduceBEq, Int.reduceBNe]) ?_; simp only [txP, b32, AW, reduceAdd, reduceCtorEq, reduceEqDiff, ↓reduceIte, reduceLT, reduceLeDiff, reduceSub, reducePow, reduceMul, reduceToNat, reduceLE, reduceEq, Int.reduceLT, Int.reduceBEq, Int.reduceBNe]


end Go.Proofs.YtaejaogidkgalaaDoor
