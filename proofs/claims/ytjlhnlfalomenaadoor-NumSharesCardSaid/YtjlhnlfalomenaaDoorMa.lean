/-
  Numbers: format and Format.
-/
import Derived.Test.YtjlhnlfalomenaaDoorM9
import Derived.Test.YtjlhnlfalomenaaDoorNb
namespace Go.Proofs.YtjlhnlfalomenaaDoor
open Go.RowKit
open Nat (reduceAdd reduceEqDiff reduceLT reduceLeDiff reduceSub reducePow reduceMul)
open Int (reduceToNat reduceLE reduceEq)
set_option linter.unusedVariables false
set_option linter.unusedSimpArgs false
set_option linter.unnecessarySimpa false

def padL (m k : Nat) : List UInt8 := List.replicate (k - (Lib.decDigits m).length) 48 ++ Lib.decDigits m
def dotL (d : List UInt8) (p : Nat) : List UInt8 := if p = 0 then d else d.take (d.length - p) ++ [46] ++ d.drop (d.length - p)
def fmtL (n : Int) (p : Nat) : List UInt8 := if n < 0 then [45] ++ dotL (padL n.natAbs (p + 1)) p else dotL (padL n.natAbs (p + 1)) p
theorem padL_len (m k : Nat) : k ≤ (padL m k).length ∧ (padL m k).length ≤ max k (Lib.decDigits m).length := by
  unfold padL; rw [List.length_append, List.length_replicate]; omega
theorem digits_len {n : Int} (h : valB n = true) : (Lib.decDigits n.natAbs).length ≤ 16 := by
  have hv := valB_iff.1 h
  rw [Lib.decDigits_length]
  exact nDigits_le 16 _ (by omega) (by decide)
theorem rep0 (c : Nat) : Lib.repeatL [48] c = List.replicate c 48 := by
  have := Lib.repeatL_replicate 48 1 c
  rw [Nat.mul_one] at this; exact this
theorem itoa_abs (m : Nat) : Lib.itoa (m : Int) = Lib.decDigits m := by
  unfold Lib.itoa; rw [if_neg (by omega)]; rfl
theorem b48 : (⟨#[48]⟩ : ByteArray) = bA [48] := rfl
theorem b46 : (⟨#[46]⟩ : ByteArray) = bA [46] := rfl
theorem b45 : (⟨#[45]⟩ : ByteArray) = bA [45] := rfl
theorem abs_mx {n : Int} (h : valB n = true) : (if IntKind.wrap .i64 (0 - n) > n then IntKind.wrap .i64 (0 - n) else n) = (n.natAbs : Int) := by
  have hv := valB_iff.1 h
  rw [wrap_id ⟨by omega, by omega⟩]; split <;> omega
set_option maxHeartbeats 2000000 in
theorem format_g (n : Int) (p : Nat) (hn : valB n = true) (hp : p ≤ 6) : Good Tryd.prog 44 [intP n, intP (p : Int)] (txP (fmtL n p)) := by
  have hv := valB_iff.1 hn
  have ha := abs_mx hn
  have gi := itoa_g (n.natAbs : Int)
  rw [itoa_abs] at gi
  have hd := digits_len hn
  have hp0 := padL_len n.natAbs (p + 1)
  refine good44 (by simp) ?_
  obtain ⟨d, hde⟩ : ∃ d, padL n.natAbs (p + 1) = d := ⟨_, rfl⟩
  have hfm : fmtL n p = if n < 0 then [45] ++ dotL d p else dotL d p := by unfold fmtL; rw [hde]
  rw [hde] at hp0
  have w1 : IntKind.i64.wrap ((p : Int) + 1) = (p : Int) + 1 := wrap_id ⟨by omega, by omega⟩
  have w2 : IntKind.i64.wrap ((p : Int) + 1 - ((Lib.decDigits n.natAbs).length : Int)) = (p : Int) + 1 - ((Lib.decDigits n.natAbs).length : Int) := wrap_id ⟨by omega, by omega⟩
  have w3 : IntKind.i64.wrap ((d.length : Int) - (p : Int)) = ((d.length - p : Nat) : Int) := by rw [wrap_id ⟨by omega, by omega⟩]; omega
  have e1 : (((d.length - p) + 1 : Nat) : Int) ≤ 9223372036854775807 := by omega
  have tk : (d.take (d.length - p)).length = d.length - p := by rw [List.length_take]; omega
  have dr : (d.drop (d.length - p)).length = p := by rw [List.length_drop]; omega
  have e2 : (((d.length - p) + 1 + p : Nat) : Int) ≤ 9223372036854775807 := by omega
  have e3 : ((1 + (d.length - p + 1 + p) : Nat) : Int) ≤ 9223372036854775807 := by omega
  have e4 : ((1 + d.length : Nat) : Int) ≤ 9223372036854775807 := by omega
  have le1 : d.length - p ≤ d.length := by omega
  obtain ⟨dt, hdt⟩ : ∃ l : List UInt8, l = [46] := ⟨_, rfl⟩
  have b46' : (⟨#[46]⟩ : ByteArray) = bA dt := by rw [hdt]; rfl
  have l46 : dt.length = 1 := by rw [hdt]; rfl
  simp only [ac44, intP, ha, AW, reduceAdd, reduceCtorEq, reduceEqDiff, ↓reduceIte, reduceLT, reduceLeDiff, reduceSub, reducePow, reduceMul, reduceToNat, reduceLE, reduceEq, Int.reduceLT, Int.reduceBEq, Int.reduceBNe]
  refine ops_call (gi) (by simp only [intP, txP, AW, reduceAdd, reduceCtorEq, reduceEqDiff, ↓reduceIte, reduceLT, reduceLeDiff, reduceSub, reducePow, reduceMul, reduceToNat, reduceLE, reduceEq, Int.reduceLT, Int.reduceBEq, Int.reduceBNe]) ?_; simp only [intP, txP, AW, reduceAdd, reduceCtorEq, reduceEqDiff, ↓reduceIte, reduceLT, reduceLeDiff, reduceSub, reducePow, reduceMul, reduceToNat, reduceLE, reduceEq, Int.reduceLT, Int.reduceBEq, Int.reduceBNe]
  simp only [bA_size, w1, w2, AW, reduceAdd, reduceCtorEq, reduceEqDiff, ↓reduceIte, reduceLT, reduceLeDiff, reduceSub, reducePow, reduceMul, reduceToNat, reduceLE, reduceEq, Int.reduceLT, Int.reduceBEq, Int.reduceBNe]
  by_cases hm : (Lib.decDigits n.natAbs).length < p + 1
  · have ec : (p : Int) + 1 - ((Lib.decDigits n.natAbs).length : Int) = ((p + 1 - (Lib.decDigits n.natAbs).length : Nat) : Int) := by omega
    have d0 : decide ((0 : Int) < ((p + 1 - (Lib.decDigits n.natAbs).length : Nat) : Int)) = true := by rw [decide_eq_true_eq]; omega
    have gr := repeat_g [48] (p + 1 - (Lib.decDigits n.natAbs).length) (by simp only [List.length_cons, List.length_nil]; omega) (by omega)
    have e0 : (((p + 1 - (Lib.decDigits n.natAbs).length) + (Lib.decDigits n.natAbs).length : Nat) : Int) ≤ 9223372036854775807 := by omega
    have hde2 : List.replicate (p + 1 - (Lib.decDigits n.natAbs).length) 48 ++ Lib.decDigits n.natAbs = d := hde
    simp only [ec, d0, AW, reduceAdd, reduceCtorEq, reduceEqDiff, ↓reduceIte, reduceLT, reduceLeDiff, reduceSub, reducePow, reduceMul, reduceToNat, reduceLE, reduceEq, Int.reduceLT, Int.reduceBEq, Int.reduceBNe]
    rw [rep0] at gr
    refine ops_call (gr) (by simp only [intP, txP, b48, bA_size, List.length_replicate, e0, bA_append, hde2, AW, reduceAdd, reduceCtorEq, reduceEqDiff, ↓reduceIte, reduceLT, reduceLeDiff, reduceSub, reducePow, reduceMul, reduceToNat, reduceLE, reduceEq, Int.reduceLT, Int.reduceBEq, Int.reduceBNe]) ?_; simp only [intP, txP, b48, bA_size, List.length_replicate, e0, bA_append, hde2, AW, reduceAdd, reduceCtorEq, reduceEqDiff, ↓reduceIte, reduceLT, reduceLeDiff, reduceSub, reducePow, reduceMul, reduceToNat, reduceLE, reduceEq, Int.reduceLT, Int.reduceBEq, Int.reduceBNe]
    cases hp1 : decide ((0 : Int) < (p : Int))
    · have hpz : p = 0 := by rw [decide_eq_false_iff_not] at hp1; omega
      simp only [AW, reduceAdd, reduceCtorEq, reduceEqDiff, ↓reduceIte, reduceLT, reduceLeDiff, reduceSub, reducePow, reduceMul, reduceToNat, reduceLE, reduceEq, Int.reduceLT, Int.reduceBEq, Int.reduceBNe]
      cases hn0 : decide (n < 0)
      · have hnn : ¬ n < 0 := of_decide_eq_false hn0
        simp only [AW, reduceAdd, reduceCtorEq, reduceEqDiff, ↓reduceIte, reduceLT, reduceLeDiff, reduceSub, reducePow, reduceMul, reduceToNat, reduceLE, reduceEq, Int.reduceLT, Int.reduceBEq, Int.reduceBNe]
        rw [hfm, if_neg hnn, dotL, if_pos hpz]
      · have hnn : n < 0 := of_decide_eq_true hn0
        simp only [b45, bA_size, e4, bA_append, AW, reduceAdd, reduceCtorEq, reduceEqDiff, ↓reduceIte, reduceLT, reduceLeDiff, reduceSub, reducePow, reduceMul, reduceToNat, reduceLE, reduceEq, Int.reduceLT, Int.reduceBEq, Int.reduceBNe]
        rw [hfm, if_pos hnn, dotL, if_pos hpz]; rfl
    · have hpz : ¬ p = 0 := by rw [decide_eq_true_eq] at hp1; omega
      simp only [bA_size, w3, le1, bA_extract, b46', l46, tk, e1, bA_append, List.take_length, List.length_append, dr, e2, AW, reduceAdd, reduceCtorEq, reduceEqDiff, ↓reduceIte, reduceLT, reduceLeDiff, reduceSub, reducePow, reduceMul, reduceToNat, reduceLE, reduceEq, Int.reduceLT, Int.reduceBEq, Int.reduceBNe]
      refine drawnK rfl ?_; (try simp only [AW, reduceAdd, reduceCtorEq, reduceEqDiff, ↓reduceIte, reduceLT, reduceLeDiff, reduceSub, reducePow, reduceMul, reduceToNat, reduceLE, reduceEq, Int.reduceLT, Int.reduceBEq, Int.reduceBNe])
      cases hn0 : decide (n < 0)
      · have hnn : ¬ n < 0 := of_decide_eq_false hn0
        simp only [AW, reduceAdd, reduceCtorEq, reduceEqDiff, ↓reduceIte, reduceLT, reduceLeDiff, reduceSub, reducePow, reduceMul, reduceToNat, reduceLE, reduceEq, Int.reduceLT, Int.reduceBEq, Int.reduceBNe]
        rw [hfm, if_neg hnn, dotL, if_neg hpz, hdt]
      · have hnn : n < 0 := of_decide_eq_true hn0
        simp only [b45, bA_size, e3, bA_append, List.length_append, l46, tk, dr, AW, reduceAdd, reduceCtorEq, reduceEqDiff, ↓reduceIte, reduceLT, reduceLeDiff, reduceSub, reducePow, reduceMul, reduceToNat, reduceLE, reduceEq, Int.reduceLT, Int.reduceBEq, Int.reduceBNe]
        rw [hfm, if_pos hnn, dotL, if_neg hpz, hdt]; rfl
  · have d0 : decide ((0 : Int) < (p : Int) + 1 - ((Lib.decDigits n.natAbs).length : Int)) = false := by rw [decide_eq_false_iff_not]; omega
    have hde2 : Lib.decDigits n.natAbs = d := by
      rw [← hde]; unfold padL; rw [show p + 1 - (Lib.decDigits n.natAbs).length = 0 by omega]; rfl
    rw [hde2] at d0 ⊢
    simp only [d0, AW, reduceAdd, reduceCtorEq, reduceEqDiff, ↓reduceIte, reduceLT, reduceLeDiff, reduceSub, reducePow, reduceMul, reduceToNat, reduceLE, reduceEq, Int.reduceLT, Int.reduceBEq, Int.reduceBNe]
    cases hp1 : decide ((0 : Int) < (p : Int))
    · have hpz : p = 0 := by rw [decide_eq_false_iff_not] at hp1; omega
      simp only [AW, reduceAdd, reduceCtorEq, reduceEqDiff, ↓reduceIte, reduceLT, reduceLeDiff, reduceSub, reducePow, reduceMul, reduceToNat, reduceLE, reduceEq, Int.reduceLT, Int.reduceBEq, Int.reduceBNe]
      cases hn0 : decide (n < 0)
      · have hnn : ¬ n < 0 := of_decide_eq_false hn0
        simp only [AW, reduceAdd, reduceCtorEq, reduceEqDiff, ↓reduceIte, reduceLT, reduceLeDiff, reduceSub, reducePow, reduceMul, reduceToNat, reduceLE, reduceEq, Int.reduceLT, Int.reduceBEq, Int.reduceBNe]
        rw [hfm, if_neg hnn, dotL, if_pos hpz]
      · have hnn : n < 0 := of_decide_eq_true hn0
        simp only [b45, bA_size, e4, bA_append, AW, reduceAdd, reduceCtorEq, reduceEqDiff, ↓reduceIte, reduceLT, reduceLeDiff, reduceSub, reducePow, reduceMul, reduceToNat, reduceLE, reduceEq, Int.reduceLT, Int.reduceBEq, Int.reduceBNe]
        rw [hfm, if_pos hnn, dotL, if_pos hpz]; rfl
    · have hpz : ¬ p = 0 := by rw [decide_eq_true_eq] at hp1; omega
      simp only [bA_size, w3, le1, bA_extract, b46', l46, tk, e1, bA_append, List.take_length, List.length_append, dr, e2, AW, reduceAdd, reduceCtorEq, reduceEqDiff, ↓reduceIte, reduceLT, reduceLeDiff, reduceSub, reducePow, reduceMul, reduceToNat, reduceLE, reduceEq, Int.reduceLT, Int.reduceBEq, Int.reduceBNe]
      refine drawnK rfl ?_; (try simp only [AW, reduceAdd, reduceCtorEq, reduceEqDiff, ↓reduceIte, reduceLT, reduceLeDiff, reduceSub, reducePow, reduceMul, reduceToNat, reduceLE, reduceEq, Int.reduceLT, Int.reduceBEq, Int.reduceBNe])
      cases hn0 : decide (n < 0)
      · have hnn : ¬ n < 0 := of_decide_eq_false hn0
        simp only [AW, reduceAdd, reduceCtorEq, reduceEqDiff, ↓reduceIte, reduceLT, reduceLeDiff, reduceSub, reducePow, reduceMul, reduceToNat, reduceLE, reduceEq, Int.reduceLT, Int.reduceBEq, Int.reduceBNe]
        rw [hfm, if_neg hnn, dotL, if_neg hpz, hdt]
      · have hnn : n < 0 := of_decide_eq_true hn0
        simp only [b45, bA_size, e3, bA_append, List.length_append, l46, tk, dr, AW, reduceAdd, reduceCtorEq, reduceEqDiff, ↓reduceIte, reduceLT, reduceLeDiff, reduceSub, reducePow, reduceMul, reduceToNat, reduceLE, reduceEq, Int.reduceLT, Int.reduceBEq, Int.reduceBNe]
        rw [hfm, if_pos hnn, dotL, if_neg hpz, hdt]; rfl

theorem fin_g (n a b : Int) : Good Tryd.prog 39 [intP n, intP a, intP b] (.sc (.bool (decide (a ≤ n) && decide (n ≤ b)))) := by
  refine good39 (by simp) ?_
  simp only [ac39, intP, AW, reduceAdd, reduceCtorEq, reduceEqDiff, ↓reduceIte, reduceLT, reduceLeDiff, reduceSub, reducePow, reduceMul, reduceToNat, reduceLE, reduceEq, Int.reduceLT, Int.reduceBEq, Int.reduceBNe]
  cases h : decide (a ≤ n)
  · simp only [AW, reduceAdd, reduceCtorEq, reduceEqDiff, ↓reduceIte, reduceLT, reduceLeDiff, reduceSub, reducePow, reduceMul, reduceToNat, reduceLE, reduceEq, Int.reduceLT, Int.reduceBEq, Int.reduceBNe]
  · simp only [AW, reduceAdd, reduceCtorEq, reduceEqDiff, ↓reduceIte, reduceLT, reduceLeDiff, reduceSub, reducePow, reduceMul, reduceToNat, reduceLE, reduceEq, Int.reduceLT, Int.reduceBEq, Int.reduceBNe]
/-- Format's result: the empty text and ErrRange, or the text. -/
def fmtP (n p : Int) : PV := if valB n = true ∧ 0 ≤ p ∧ p ≤ 6 then .tup [txP (fmtL n p.toNat), intP 0] else .tup [txP [], intP 1]
theorem gformat_g (n p : Int) : Good Tryd.prog 31 [intP n, intP p] (fmtP n p) := by
  have g1 := valid_g n
  have g2 := fin_g p 0 6
  refine good31 (by simp) ?_
  simp only [ac31, intP, AW, reduceAdd, reduceCtorEq, reduceEqDiff, ↓reduceIte, reduceLT, reduceLeDiff, reduceSub, reducePow, reduceMul, reduceToNat, reduceLE, reduceEq, Int.reduceLT, Int.reduceBEq, Int.reduceBNe]
  refine ops_call (g1) (by simp only [intP, AW, reduceAdd, reduceCtorEq, reduceEqDiff, ↓reduceIte, reduceLT, reduceLeDiff, reduceSub, reducePow, reduceMul, reduceToNat, reduceLE, reduceEq, Int.reduceLT, Int.reduceBEq, Int.reduceBNe]) ?_; simp only [intP, AW, reduceAdd, reduceCtorEq, reduceEqDiff, ↓reduceIte, reduceLT, reduceLeDiff, reduceSub, reducePow, reduceMul, reduceToNat, reduceLE, reduceEq, Int.reduceLT, Int.reduceBEq, Int.reduceBNe]
  cases h : valB n
  · simp only [fmtP, h, false_and, txP, intP, AW, reduceAdd, reduceCtorEq, reduceEqDiff, ↓reduceIte, reduceLT, reduceLeDiff, reduceSub, reducePow, reduceMul, reduceToNat, reduceLE, reduceEq, Int.reduceLT, Int.reduceBEq, Int.reduceBNe]; rfl
  simp only [AW, reduceAdd, reduceCtorEq, reduceEqDiff, ↓reduceIte, reduceLT, reduceLeDiff, reduceSub, reducePow, reduceMul, reduceToNat, reduceLE, reduceEq, Int.reduceLT, Int.reduceBEq, Int.reduceBNe]
  refine ops_call (g2) (by simp only [intP, AW, reduceAdd, reduceCtorEq, reduceEqDiff, ↓reduceIte, reduceLT, reduceLeDiff, reduceSub, reducePow, reduceMul, reduceToNat, reduceLE, reduceEq, Int.reduceLT, Int.reduceBEq, Int.reduceBNe]) ?_; simp only [intP, AW, reduceAdd, reduceCtorEq, reduceEqDiff, ↓reduceIte, reduceLT, reduceLeDiff, reduceSub, reducePow, reduceMul, reduceToNat, reduceLE, reduceEq, Int.reduceLT, Int.reduceBEq, Int.reduceBNe]
  cases h1 : decide (0 ≤ p)
  · have h1' := of_decide_eq_false h1
    simp only [fmtP, h1', false_and, and_false, txP, intP, AW, reduceAdd, reduceCtorEq, reduceEqDiff, ↓reduceIte, reduceLT, reduceLeDiff, reduceSub, reducePow, reduceMul, reduceToNat, reduceLE, reduceEq, Int.reduceLT, Int.reduceBEq, Int.reduceBNe]; rfl
  cases h2 : decide (p ≤ 6)
  · have h2' := of_decide_eq_false h2
    simp only [fmtP, h2', false_and, and_false, txP, intP, AW, reduceAdd, reduceCtorEq, reduceEqDiff, ↓reduceIte, reduceLT, reduceLeDiff, reduceSub, reducePow, reduceMul, reduceToNat, reduceLE, reduceEq, Int.reduceLT, Int.reduceBEq, Int.reduceBNe]; rfl
  have h1' := of_decide_eq_true h1
  have h2' := of_decide_eq_true h2
  have gf := format_g n p.toNat h (by omega)
  rw [show ((p.toNat : Nat) : Int) = p by omega] at gf
  simp only [AW, reduceAdd, reduceCtorEq, reduceEqDiff, ↓reduceIte, reduceLT, reduceLeDiff, reduceSub, reducePow, reduceMul, reduceToNat, reduceLE, reduceEq, Int.reduceLT, Int.reduceBEq, Int.reduceBNe]
  refine ops_call (gf) (by simp only [intP, txP, AW, reduceAdd, reduceCtorEq, reduceEqDiff, ↓reduceIte, reduceLT, reduceLeDiff, reduceSub, reducePow, reduceMul, reduceToNat, reduceLE, reduceEq, Int.reduceLT, Int.reduceBEq, Int.reduceBNe]) ?_; simp only [intP, txP, AW, reduceAdd, reduceCtorEq, reduceEqDiff, ↓reduceIte, reduceLT, reduceLeDiff, reduceSub, reducePow, reduceMul, reduceToNat, reduceLE, reduceEq, Int.reduceLT, Int.reduceBEq, Int.reduceBNe]
  simp only [fmtP, h, h1', h2', and_self, txP, intP, AW, reduceAdd, reduceCtorEq, reduceEqDiff, ↓reduceIte, reduceLT, reduceLeDiff, reduceSub, reducePow, reduceMul, reduceToNat, reduceLE, reduceEq, Int.reduceLT, Int.reduceBEq, Int.reduceBNe]



end Go.Proofs.YtjlhnlfalomenaaDoor
