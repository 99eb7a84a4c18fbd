/-
  Numbers: the reference's Digits and Format.
-/
import Derived.Test.YtjnfldkcbcfboaaGreatDoorMa
namespace Go.Proofs.YtjnfldkcbcfboaaGreatDoor
open Go.RowKit
open Nat (reduceAdd reduceEqDiff reduceLT reduceLeDiff reduceSub reducePow reduceMul)
open Int (reduceToNat reduceLE reduceEq)
set_option linter.unusedVariables false
set_option linter.unusedSimpArgs false
set_option linter.unnecessarySimpa false


/-- The last digits of a number. -/
def sufL (m : Nat) : Nat → List UInt8
  | 0 => []
  | j + 1 => Lib.dg m j :: sufL m j
theorem sufL_len (m : Nat) : ∀ j, (sufL m j).length = j
  | 0 => rfl
  | j + 1 => by rw [sufL, List.length_cons, sufL_len m j]
theorem sufL_map (m : Nat) : ∀ j, sufL m j = (List.range j).map fun t => Lib.dg m (j - 1 - t)
  | 0 => rfl
  | j + 1 => by
    rw [sufL, sufL_map m j, List.range_succ_eq_map, List.map_cons, List.map_map]
    congr 1
    refine List.map_congr_left fun t _ => ?_
    show _ = Lib.dg m (j + 1 - 1 - (t + 1))
    congr 1; omega
theorem sufL_dec (m : Nat) : sufL m (Lib.nDigits m) = Lib.decDigits m := by rw [sufL_map, Lib.decDigits_eq]
theorem dg_zero {m j : Nat} (h : Lib.nDigits m ≤ j) : Lib.dg m j = 48 := by
  have h1 := Lib.lt_pow_nDigits m
  have h2 : m < 10 ^ j := Nat.lt_of_lt_of_le h1 (Nat.pow_le_pow_right (by decide) h)
  unfold Lib.dg; rw [Nat.div_eq_of_lt h2]; rfl
theorem sufL_pad (m : Nat) : ∀ i, sufL m (Lib.nDigits m + i) = List.replicate i 48 ++ Lib.decDigits m
  | 0 => sufL_dec m
  | i + 1 => by
    rw [← Nat.add_assoc, sufL, sufL_pad m i, dg_zero (by omega)]; rfl
theorem padL_suf (m k : Nat) : padL m k = sufL m (max k (Lib.nDigits m)) := by
  unfold padL
  rw [← sufL_pad, Lib.decDigits_length]; congr 1; omega
theorem pow_le_nd (u : Nat) : 1 ≤ u → 10 ^ (Lib.nDigits u - 1) ≤ u := by
  induction u using Nat.strongRecOn with
  | _ u ih =>
    intro hu
    by_cases h : u < 10
    · rw [Lib.nDigits_small h]; exact hu
    · rw [Lib.nDigits_big h]
      have := ih (u / 10) (by omega) (by omega)
      have hp := Lib.nDigits_pos (u / 10)
      rw [show Lib.nDigits (u / 10) + 1 - 1 = (Lib.nDigits (u / 10) - 1) + 1 by omega, Nat.pow_succ]
      omega
theorem more_iff {m k j : Nat} (hk : 1 ≤ k) : (0 < m / 10 ^ j ∨ j < k) ↔ j < max k (Lib.nDigits m) := by
  have hp : 0 < 10 ^ j := Nat.pow_pos (by decide)
  constructor
  · rintro (h | h)
    · have : j < Lib.nDigits m := by
        rcases Nat.lt_or_ge j (Lib.nDigits m) with h1 | h1
        · exact h1
        · have h2 : m < 10 ^ j := Nat.lt_of_lt_of_le (Lib.lt_pow_nDigits m) (Nat.pow_le_pow_right (by decide) h1)
          rw [Nat.div_eq_of_lt h2] at h; omega
      omega
    · omega
  · intro h
    by_cases hj : j < k
    · exact .inr hj
    · left
      have hm : 1 ≤ m := by
        rcases Nat.eq_zero_or_pos m with e | e
        · subst e; rw [Lib.nDigits_small (by decide)] at h; omega
        · exact e
      have h2 := pow_le_nd m hm
      have h3 : 10 ^ j ≤ 10 ^ (Lib.nDigits m - 1) := Nat.pow_le_pow_right (by decide) (by omega)
      exact Nat.div_pos (Nat.le_trans h3 h2) hp
theorem byte1 (d : Nat) : strOfNums [((48 + d : Nat) : Int)] = bA [UInt8.ofNat (48 + d)] := by
  unfold strOfNums bA; rw [List.map_cons, List.map_nil, Int.toNat_natCast]
theorem b00 : (⟨#[]⟩ : ByteArray) = bA [] := rfl
set_option maxHeartbeats 2000000 in
theorem digits_g (m k : Nat) (hm : m ≤ 1125899906842624) (hk : 1 ≤ k) (hk2 : k ≤ 100) : Good Tryz.prog 63 [intP (m : Int), intP (k : Int)] (txP (padL m k)) := by
  have hL := nDigits_le 16 m (by omega) (by decide)
  have hpad := padL_suf m k
  obtain ⟨L, hLe⟩ : ∃ L, max k (Lib.nDigits m) = L := ⟨_, rfl⟩
  rw [hLe] at hpad
  have hL2 : L ≤ 116 := by omega
  refine good63 (by simp) ?_
  simp only [ac63, intP, AW, reduceAdd, reduceCtorEq, reduceEqDiff, ↓reduceIte, reduceLT, reduceLeDiff, reduceSub, reducePow, reduceMul, reduceToNat, reduceLE, reduceEq, Int.reduceLT, Int.reduceBEq, Int.reduceBNe]
  refine run_loop (ι := Nat) (fun j => ⟨[(0, .sc (.int .i64 ((m / 10 ^ j : Nat) : Int))), (1, .sc (.int .i64 (k : Int))), (5, .sc (.string (bA (sufL m j))))], [], 2, 25⟩) (fun j => j ≤ L) (fun j => L - j) 2 (fun _ => rfl) 0 (by simp only [LW, Nat.reduceMod, Nat.reduceDiv, Nat.pow_zero, Nat.div_one, sufL, b00, AW, reduceAdd, reduceCtorEq, reduceEqDiff, ↓reduceIte, reduceLT, reduceLeDiff, reduceSub, reducePow, reduceMul, reduceToNat, reduceLE, reduceEq, Int.reduceLT, Int.reduceBEq, Int.reduceBNe]) (Nat.zero_le _) (fun j hj => ?_)
  have hmi := more_iff (m := m) (j := j) hk
  rw [hLe] at hmi
  have hmj : m / 10 ^ j ≤ m := Nat.div_le_self _ _
  by_cases hlt : j < L
  rotate_left
  · have e1 : decide ((0 : Int) < ((m / 10 ^ j : Nat) : Int)) = false := by rw [decide_eq_false_iff_not]; intro h; exact hlt (hmi.1 (.inl (by omega)))
    have e2 : decide ((j : Int) < (k : Int)) = false := by rw [decide_eq_false_iff_not]; intro h; exact hlt (hmi.1 (.inr (by omega)))
    have ej : j = L := by omega
    subst ej
    simp only [e1, bA_size, sufL_len, e2, AW, reduceAdd, reduceCtorEq, reduceEqDiff, ↓reduceIte, reduceLT, reduceLeDiff, reduceSub, reducePow, reduceMul, reduceToNat, reduceLE, reduceEq, Int.reduceLT, Int.reduceBEq, Int.reduceBNe]
    rw [hpad, txP]
  have t1 : ((m / 10 ^ j : Nat) : Int).tmod 10 = ((m / 10 ^ j % 10 : Nat) : Int) := remN _ 10
  have t2 : IntKind.i64.wrap (48 + ((m / 10 ^ j % 10 : Nat) : Int)) = ((48 + m / 10 ^ j % 10 : Nat) : Int) := by rw [wrap_id ⟨by omega, by omega⟩]; omega
  have t3 : IntKind.u8.wrap ((48 + m / 10 ^ j % 10 : Nat) : Int) = ((48 + m / 10 ^ j % 10 : Nat) : Int) := by
    have : m / 10 ^ j % 10 < 10 := Nat.mod_lt _ (by decide)
    generalize m / 10 ^ j % 10 = d at *
    simp [IntKind.wrap, IntKind.bits, IntKind.signed]; omega
  have t4 : IntKind.i64.wrap (((m / 10 ^ j : Nat) : Int).tdiv 10) = ((m / 10 ^ (j + 1) : Nat) : Int) := by
    rw [Nat.pow_succ, ← Nat.div_div_eq_div_mul]
    generalize m / 10 ^ j = x at *
    rw [Int.tdiv_eq_ediv_of_nonneg (by omega), wrap_id ⟨by omega, by omega⟩]; omega
  have t5 : ((1 + j : Nat) : Int) ≤ 9223372036854775807 := by omega
  have t6 : bA [UInt8.ofNat (48 + m / 10 ^ j % 10)] ++ bA (sufL m j) = bA (sufL m (j + 1)) := by rw [bA_append]; rfl
  have bs := byte1 (m / 10 ^ j % 10)
  cases e1 : decide ((0 : Int) < ((m / 10 ^ j : Nat) : Int))
  · have e2 : decide ((j : Int) < (k : Int)) = true := by
      rw [decide_eq_true_eq]
      rw [decide_eq_false_iff_not] at e1
      rcases hmi.2 hlt with h | h <;> omega
    simp only [e1, bA_size, sufL_len, e2, t1, t2, t3, byteV, bs, t5, t6, t4, AW, reduceAdd, reduceCtorEq, reduceEqDiff, ↓reduceIte, reduceLT, reduceLeDiff, reduceSub, reducePow, reduceMul, reduceToNat, reduceLE, reduceEq, Int.reduceLT, Int.reduceBEq, Int.reduceBNe]
    refine ⟨j + 1, by omega, ?_, by omega⟩
    simp only [LW, Nat.reduceMod, Nat.reduceDiv, AW, reduceAdd, reduceCtorEq, reduceEqDiff, ↓reduceIte, reduceLT, reduceLeDiff, reduceSub, reducePow, reduceMul, reduceToNat, reduceLE, reduceEq, Int.reduceLT, Int.reduceBEq, Int.reduceBNe]
  · simp only [e1, t1, t2, t3, byteV, bs, bA_size, sufL_len, t5, t6, t4, AW, reduceAdd, reduceCtorEq, reduceEqDiff, ↓reduceIte, reduceLT, reduceLeDiff, reduceSub, reducePow, reduceMul, reduceToNat, reduceLE, reduceEq, Int.reduceLT, Int.reduceBEq, Int.reduceBNe]
    refine ⟨j + 1, by omega, ?_, by omega⟩
    simp only [LW, Nat.reduceMod, Nat.reduceDiv, AW, reduceAdd, reduceCtorEq, reduceEqDiff, ↓reduceIte, reduceLT, reduceLeDiff, reduceSub, reducePow, reduceMul, reduceToNat, reduceLE, reduceEq, Int.reduceLT, Int.reduceBEq, Int.reduceBNe]
set_option maxHeartbeats 2000000 in
theorem rformat_g (n p : Int) : Good Tryz.prog 52 [intP n, intP p] (fmtP n p) := by
  have g1 := rvalid_g n
  refine good52 (by simp) ?_
  simp only [ac52, intP, AW, reduceAdd, reduceCtorEq, reduceEqDiff, ↓reduceIte, reduceLT, reduceLeDiff, reduceSub, reducePow, reduceMul, reduceToNat, reduceLE, reduceEq, Int.reduceLT, Int.reduceBEq, Int.reduceBNe]
  refine ops_call (g1) (by simp only [intP, AW, reduceAdd, reduceCtorEq, reduceEqDiff, ↓reduceIte, reduceLT, reduceLeDiff, reduceSub, reducePow, reduceMul, reduceToNat, reduceLE, reduceEq, Int.reduceLT, Int.reduceBEq, Int.reduceBNe]) ?_; simp only [intP, AW, reduceAdd, reduceCtorEq, reduceEqDiff, ↓reduceIte, reduceLT, reduceLeDiff, reduceSub, reducePow, reduceMul, reduceToNat, reduceLE, reduceEq, Int.reduceLT, Int.reduceBEq, Int.reduceBNe]
  cases h : valB n
  · simp only [fmtP, h, false_and, txP, intP, AW, reduceAdd, reduceCtorEq, reduceEqDiff, ↓reduceIte, reduceLT, reduceLeDiff, reduceSub, reducePow, reduceMul, reduceToNat, reduceLE, reduceEq, Int.reduceLT, Int.reduceBEq, Int.reduceBNe]; rfl
  simp only [AW, reduceAdd, reduceCtorEq, reduceEqDiff, ↓reduceIte, reduceLT, reduceLeDiff, reduceSub, reducePow, reduceMul, reduceToNat, reduceLE, reduceEq, Int.reduceLT, Int.reduceBEq, Int.reduceBNe]
  cases h1 : decide (p < 0)
  rotate_left
  · have h1' := of_decide_eq_true h1
    have h0 : ¬ 0 ≤ p := by omega
    simp only [fmtP, h0, false_and, and_false, txP, intP, AW, reduceAdd, reduceCtorEq, reduceEqDiff, ↓reduceIte, reduceLT, reduceLeDiff, reduceSub, reducePow, reduceMul, reduceToNat, reduceLE, reduceEq, Int.reduceLT, Int.reduceBEq, Int.reduceBNe]; rfl
  simp only [AW, reduceAdd, reduceCtorEq, reduceEqDiff, ↓reduceIte, reduceLT, reduceLeDiff, reduceSub, reducePow, reduceMul, reduceToNat, reduceLE, reduceEq, Int.reduceLT, Int.reduceBEq, Int.reduceBNe]
  cases h2 : decide (6 < p)
  rotate_left
  · have h2' := of_decide_eq_true h2
    have h0 : ¬ p ≤ 6 := by omega
    simp only [fmtP, h0, false_and, and_false, txP, intP, AW, reduceAdd, reduceCtorEq, reduceEqDiff, ↓reduceIte, reduceLT, reduceLeDiff, reduceSub, reducePow, reduceMul, reduceToNat, reduceLE, reduceEq, Int.reduceLT, Int.reduceBEq, Int.reduceBNe]; rfl
  have h1' := of_decide_eq_false h1
  have h2' := of_decide_eq_false h2
  have c1 : 0 ≤ p := by omega
  have c2 : p ≤ 6 := by omega
  obtain ⟨q, hq⟩ : ∃ q : Nat, (q : Int) = p := ⟨p.toNat, by omega⟩
  subst hq
  have hv := valB_iff.1 h
  have ha := abs_mx h
  have gd := digits_g n.natAbs (q + 1) (by omega) (by omega) (by omega)
  rw [show ((q + 1 : Nat) : Int) = (q : Int) + 1 by omega] at gd
  have hd := digits_len h
  have hp0 := padL_len n.natAbs (q + 1)
  obtain ⟨d, hde⟩ : ∃ d, padL n.natAbs (q + 1) = d := ⟨_, rfl⟩
  have hfm : fmtL n q = if n < 0 then [45] ++ dotL d q else dotL d q := by unfold fmtL; rw [hde]
  rw [hde] at hp0 gd
  have w1 : IntKind.i64.wrap ((q : Int) + 1) = (q : Int) + 1 := wrap_id ⟨by omega, by omega⟩
  have w3 : IntKind.i64.wrap ((d.length : Int) - (q : Int)) = ((d.length - q : Nat) : Int) := by rw [wrap_id ⟨by omega, by omega⟩]; omega
  have tk : (d.take (d.length - q)).length = d.length - q := by rw [List.length_take]; omega
  have dr : (d.drop (d.length - q)).length = q := by rw [List.length_drop]; omega
  have le1 : d.length - q ≤ d.length := by omega
  obtain ⟨dt, hdt⟩ : ∃ l : List UInt8, l = [46] := ⟨_, rfl⟩
  have b46' : (⟨#[46]⟩ : ByteArray) = bA dt := by rw [hdt]; rfl
  have l46 : dt.length = 1 := by rw [hdt]; rfl
  have key : ∀ sg : List UInt8, sg.length ≤ 1 → (n < 0 → sg = [45]) → (¬ n < 0 → sg = []) → sg ++ dotL d q = fmtL n q := by
    intro sg _ h1 h2
    rw [hfm]
    by_cases hn : n < 0
    · rw [if_pos hn, h1 hn]
    · rw [if_neg hn, h2 hn]; rfl
  have fin : fmtP n (q : Int) = .tup [txP (fmtL n q), intP 0] := by
    unfold fmtP; rw [if_pos ⟨h, c1, c2⟩, Int.toNat_natCast]
  rw [fin]
  simp only [AW, reduceAdd, reduceCtorEq, reduceEqDiff, ↓reduceIte, reduceLT, reduceLeDiff, reduceSub, reducePow, reduceMul, reduceToNat, reduceLE, reduceEq, Int.reduceLT, Int.reduceBEq, Int.reduceBNe]
  have main : ∀ sg : List UInt8, sg.length ≤ 1 → (n < 0 → sg = [45]) → (¬ n < 0 → sg = []) → True := fun _ _ _ _ => trivial
  cases hn0 : decide (n < 0)
  · have hnn : ¬ n < 0 := of_decide_eq_false hn0
    obtain ⟨sg, hsg⟩ : ∃ l : List UInt8, l = [] := ⟨_, rfl⟩
    have bsg : (⟨#[]⟩ : ByteArray) = bA sg := by rw [hsg]; rfl
    have ky := key sg (by rw [hsg]; decide) (fun h => absurd h hnn) (fun _ => hsg)
    have lsg : sg.length = 0 := by rw [hsg]; rfl
    have e1 : ((sg.length + d.length : Nat) : Int) ≤ 9223372036854775807 := by omega
    have e2 : ((sg.length + (d.length - q) : Nat) : Int) ≤ 9223372036854775807 := by omega
    have e3 : ((sg.length + (d.length - q) + 1 : Nat) : Int) ≤ 9223372036854775807 := by omega
    have e4 : ((sg.length + (d.length - q) + 1 + q : Nat) : Int) ≤ 9223372036854775807 := by omega
    simp only [bsg, ha, w1, AW, reduceAdd, reduceCtorEq, reduceEqDiff, ↓reduceIte, reduceLT, reduceLeDiff, reduceSub, reducePow, reduceMul, reduceToNat, reduceLE, reduceEq, Int.reduceLT, Int.reduceBEq, Int.reduceBNe]
    refine ops_call (gd) (by simp only [intP, txP, AW, reduceAdd, reduceCtorEq, reduceEqDiff, ↓reduceIte, reduceLT, reduceLeDiff, reduceSub, reducePow, reduceMul, reduceToNat, reduceLE, reduceEq, Int.reduceLT, Int.reduceBEq, Int.reduceBNe]) ?_; simp only [intP, txP, AW, reduceAdd, reduceCtorEq, reduceEqDiff, ↓reduceIte, reduceLT, reduceLeDiff, reduceSub, reducePow, reduceMul, reduceToNat, reduceLE, reduceEq, Int.reduceLT, Int.reduceBEq, Int.reduceBNe]
    by_cases hz : q = 0
    · have d0 : ((q : Int) == 0) = true := by rw [beq_iff_eq]; omega
      simp only [d0, bA_size, e1, bA_append, AW, reduceAdd, reduceCtorEq, reduceEqDiff, ↓reduceIte, reduceLT, reduceLeDiff, reduceSub, reducePow, reduceMul, reduceToNat, reduceLE, reduceEq, Int.reduceLT, Int.reduceBEq, Int.reduceBNe]
      rw [← ky, dotL, if_pos hz]
    · have d0 : ((q : Int) == 0) = false := by rw [beq_eq_false_iff_ne]; omega
      simp only [d0, bA_size, w3, le1, bA_extract, tk, e2, bA_append, b46', List.length_append, l46, e3, List.take_length, dr, e4, AW, reduceAdd, reduceCtorEq, reduceEqDiff, ↓reduceIte, reduceLT, reduceLeDiff, reduceSub, reducePow, reduceMul, reduceToNat, reduceLE, reduceEq, Int.reduceLT, Int.reduceBEq, Int.reduceBNe]
      refine drawnK rfl ?_; (try simp only [AW, reduceAdd, reduceCtorEq, reduceEqDiff, ↓reduceIte, reduceLT, reduceLeDiff, reduceSub, reducePow, reduceMul, reduceToNat, reduceLE, reduceEq, Int.reduceLT, Int.reduceBEq, Int.reduceBNe])
      rw [← ky, dotL, if_neg hz, hdt]; simp only [List.append_assoc]
  · have hnn : n < 0 := of_decide_eq_true hn0
    obtain ⟨sg, hsg⟩ : ∃ l : List UInt8, l = [45] := ⟨_, rfl⟩
    have bsg : (⟨#[45]⟩ : ByteArray) = bA sg := by rw [hsg]; rfl
    have ky := key sg (by rw [hsg]; decide) (fun _ => hsg) (fun h => absurd hnn h)
    have lsg : sg.length = 1 := by rw [hsg]; rfl
    have e1 : ((sg.length + d.length : Nat) : Int) ≤ 9223372036854775807 := by omega
    have e2 : ((sg.length + (d.length - q) : Nat) : Int) ≤ 9223372036854775807 := by omega
    have e3 : ((sg.length + (d.length - q) + 1 : Nat) : Int) ≤ 9223372036854775807 := by omega
    have e4 : ((sg.length + (d.length - q) + 1 + q : Nat) : Int) ≤ 9223372036854775807 := by omega
    simp only [bsg, ha, w1, AW, reduceAdd, reduceCtorEq, reduceEqDiff, ↓reduceIte, reduceLT, reduceLeDiff, reduceSub, reducePow, reduceMul, reduceToNat, reduceLE, reduceEq, Int.reduceLT, Int.reduceBEq, Int.reduceBNe]
    refine ops_call (gd) (by simp only [intP, txP, AW, reduceAdd, reduceCtorEq, reduceEqDiff, ↓reduceIte, reduceLT, reduceLeDiff, reduceSub, reducePow, reduceMul, reduceToNat, reduceLE, reduceEq, Int.reduceLT, Int.reduceBEq, Int.reduceBNe]) ?_; simp only [intP, txP, AW, reduceAdd, reduceCtorEq, reduceEqDiff, ↓reduceIte, reduceLT, reduceLeDiff, reduceSub, reducePow, reduceMul, reduceToNat, reduceLE, reduceEq, Int.reduceLT, Int.reduceBEq, Int.reduceBNe]
    by_cases hz : q = 0
    · have d0 : ((q : Int) == 0) = true := by rw [beq_iff_eq]; omega
      simp only [d0, bA_size, e1, bA_append, AW, reduceAdd, reduceCtorEq, reduceEqDiff, ↓reduceIte, reduceLT, reduceLeDiff, reduceSub, reducePow, reduceMul, reduceToNat, reduceLE, reduceEq, Int.reduceLT, Int.reduceBEq, Int.reduceBNe]
      rw [← ky, dotL, if_pos hz]
    · have d0 : ((q : Int) == 0) = false := by rw [beq_eq_false_iff_ne]; omega
      simp only [d0, bA_size, w3, le1, bA_extract, tk, e2, bA_append, b46', List.length_append, l46, e3, List.take_length, dr, e4, AW, reduceAdd, reduceCtorEq, reduceEqDiff, ↓reduceIte, reduceLT, reduceLeDiff, reduceSub, reducePow, reduceMul, reduceToNat, reduceLE, reduceEq, Int.reduceLT, Int.reduceBEq, Int.reduceBNe]
      refine drawnK rfl ?_; (try simp only [AW, reduceAdd, reduceCtorEq, reduceEqDiff, ↓reduceIte, reduceLT, reduceLeDiff, reduceSub, reducePow, reduceMul, reduceToNat, reduceLE, reduceEq, Int.reduceLT, Int.reduceBEq, Int.reduceBNe])
      rw [← ky, dotL, if_neg hz, hdt]; simp only [List.append_assoc]


end Go.Proofs.YtjnfldkcbcfboaaGreatDoor
