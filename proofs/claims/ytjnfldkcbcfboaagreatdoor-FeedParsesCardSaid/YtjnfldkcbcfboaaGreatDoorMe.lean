/-
  Numbers: the reference's Parse walked.
-/
import Derived.Test.YtjnfldkcbcfboaaGreatDoorMd
namespace Go.Proofs.YtjnfldkcbcfboaaGreatDoor
open Go.RowKit
open Nat (reduceAdd reduceEqDiff reduceLT reduceLeDiff reduceSub reducePow reduceMul)
open Int (reduceToNat reduceLE reduceEq)
set_option linter.unusedVariables false
set_option linter.unusedSimpArgs false
set_option linter.unnecessarySimpa false


set_option maxHeartbeats 4000000 in
theorem rparse_g (s : List UInt8) (p : Int) (hs : s.length ≤ 1000000) : Good Tryz.prog 48 [txP s, intP p] (parP s p) := by
  refine good48 (by simp) ?_
  simp only [ac48, intP, txP, AW, reduceAdd, reduceCtorEq, reduceEqDiff, ↓reduceIte, reduceLT, reduceLeDiff, reduceSub, reducePow, reduceMul, reduceToNat, reduceLE, reduceEq, Int.reduceLT, Int.reduceBEq, Int.reduceBNe]
  cases h1 : decide (p < 0)
  rotate_left
  · have h1' := of_decide_eq_true h1
    have h0 : ¬ 0 ≤ p := by omega
    simp only [parP, h0, false_and, intP, AW, reduceAdd, reduceCtorEq, reduceEqDiff, ↓reduceIte, reduceLT, reduceLeDiff, reduceSub, reducePow, reduceMul, reduceToNat, reduceLE, reduceEq, Int.reduceLT, Int.reduceBEq, Int.reduceBNe]
  simp only [AW, reduceAdd, reduceCtorEq, reduceEqDiff, ↓reduceIte, reduceLT, reduceLeDiff, reduceSub, reducePow, reduceMul, reduceToNat, reduceLE, reduceEq, Int.reduceLT, Int.reduceBEq, Int.reduceBNe]
  cases h2 : decide (6 < p)
  rotate_left
  · have h2' := of_decide_eq_true h2
    have h0 : ¬ p ≤ 6 := by omega
    simp only [parP, h0, and_false, intP, AW, reduceAdd, reduceCtorEq, reduceEqDiff, ↓reduceIte, reduceLT, reduceLeDiff, reduceSub, reducePow, reduceMul, reduceToNat, reduceLE, reduceEq, Int.reduceLT, Int.reduceBEq, Int.reduceBNe]
  have h1' := of_decide_eq_false h1
  have h2' := of_decide_eq_false h2
  obtain ⟨q, hq⟩ : ∃ q : Nat, (q : Int) = p := ⟨p.toNat, by omega⟩
  subst hq
  have hq6 : q ≤ 6 := by omega
  have hpar : parP s (q : Int) = parR (parN s q) := by unfold parP; rw [if_pos ⟨by omega, by omega⟩, Int.toNat_natCast]
  simp only [bA_size, AW, reduceAdd, reduceCtorEq, reduceEqDiff, ↓reduceIte, reduceLT, reduceLeDiff, reduceSub, reducePow, reduceMul, reduceToNat, reduceLE, reduceEq, Int.reduceLT, Int.reduceBEq, Int.reduceBNe]
  cases h3 : decide ((18 : Int) < (s.length : Int))
  rotate_left
  · have h3' := of_decide_eq_true h3
    rw [hpar, ← ref_par (s := s) (p := q) hq6, if_neg (fun h => by omega)]
    simp only [parR, intP, AW, reduceAdd, reduceCtorEq, reduceEqDiff, ↓reduceIte, reduceLT, reduceLeDiff, reduceSub, reducePow, reduceMul, reduceToNat, reduceLE, reduceEq, Int.reduceLT, Int.reduceBEq, Int.reduceBNe]
  have h3' := of_decide_eq_false h3
  have hs18 : s.length ≤ 18 := by omega
  have hlen : s.length ≤ maxLen := by unfold maxLen; omega
  simp only [AW, reduceAdd, reduceCtorEq, reduceEqDiff, ↓reduceIte, reduceLT, reduceLeDiff, reduceSub, reducePow, reduceMul, reduceToNat, reduceLE, reduceEq, Int.reduceLT, Int.reduceBEq, Int.reduceBNe]
  refine run_loop (ι := Nat) (fun k => ⟨[(0, .sc (.string (bA s))), (1, .sc (.int .i64 (q : Int))), (6, .sc (.int .i64 (rvL (s.take k) : Int))), (7, .sc (.int .i64 (k : Int)))], [], 13, 67⟩) (fun k => k ≤ s.length) (fun k => s.length - k) 13 (fun _ => rfl) 0 (by simp only [LW, Nat.reduceMod, Nat.reduceDiv, Int.natCast_zero, List.take_zero, rvL, List.foldl_nil, AW, reduceAdd, reduceCtorEq, reduceEqDiff, ↓reduceIte, reduceLT, reduceLeDiff, reduceSub, reducePow, reduceMul, reduceToNat, reduceLE, reduceEq, Int.reduceLT, Int.reduceBEq, Int.reduceBNe]) (Nat.zero_le _) (fun k hk => ?_)
  have gk := hk
  by_cases hltk : k < s.length
  rotate_left
  · have dk : decide ((k : Int) < ((s.length : Nat) : Int)) = false := by rw [decide_eq_false_iff_not]; exact fun h => hltk (Int.ofNat_lt.1 h)
    have ek : k = s.length := Nat.le_antisymm gk (Nat.le_of_not_lt hltk)
    subst ek
    rw [List.take_length]
    have hb := rvL_lt (s := s)
    have hb2 : 10 ^ s.length ≤ 10 ^ 18 := Nat.pow_le_pow_right (by decide) hs18
    have hb3 : (10 : Nat) ^ 18 = 1000000000000000000 := by decide
    simp only [dk, bA_size, AW, reduceAdd, reduceCtorEq, reduceEqDiff, ↓reduceIte, reduceLT, reduceLeDiff, reduceSub, reducePow, reduceMul, reduceToNat, reduceLE, reduceEq, Int.reduceLT, Int.reduceBEq, Int.reduceBNe]
    by_cases hz : s.length = 0
    · have hz2 : s = [] := List.eq_nil_of_length_eq_zero hz
      have e1 : ((rvL s : Nat) : Int) = refN s := by rw [hz2]; rfl
      have d0 : decide ((0 : Int) < (s.length : Int)) = false := by rw [decide_eq_false_iff_not]; omega
      simp only [d0, e1, AW, reduceAdd, reduceCtorEq, reduceEqDiff, ↓reduceIte, reduceLT, reduceLeDiff, reduceSub, reducePow, reduceMul, reduceToNat, reduceLE, reduceEq, Int.reduceLT, Int.reduceBEq, Int.reduceBNe]
      have gf := rformat_g (refN s) (q : Int)
      have hfp : fmtP (refN s) (q : Int) = if valB (refN s) = true then .tup [txP (fmtL (refN s) q), intP 0] else .tup [txP [], intP 1] := by
        unfold fmtP
        by_cases hv : valB (refN s) = true
        · rw [if_pos ⟨hv, by omega, by omega⟩, if_pos hv, Int.toNat_natCast]
        · rw [if_neg (fun h => hv h.1), if_neg hv]
      rw [hfp] at gf
      have hr := ref_par (s := s) (p := q) hq6
      rw [hpar, ← hr]
      cases hv : valB (refN s)
      · rw [hv, if_neg (by simp)] at gf
        rw [if_neg (by simp)]
        refine ops_call (gf) (by simp only [intP, txP, AW, reduceAdd, reduceCtorEq, reduceEqDiff, ↓reduceIte, reduceLT, reduceLeDiff, reduceSub, reducePow, reduceMul, reduceToNat, reduceLE, reduceEq, Int.reduceLT, Int.reduceBEq, Int.reduceBNe]) ?_; simp only [intP, txP, AW, reduceAdd, reduceCtorEq, reduceEqDiff, ↓reduceIte, reduceLT, reduceLeDiff, reduceSub, reducePow, reduceMul, reduceToNat, reduceLE, reduceEq, Int.reduceLT, Int.reduceBEq, Int.reduceBNe]
        simp only [parR, intP, AW, reduceAdd, reduceCtorEq, reduceEqDiff, ↓reduceIte, reduceLT, reduceLeDiff, reduceSub, reducePow, reduceMul, reduceToNat, reduceLE, reduceEq, Int.reduceLT, Int.reduceBEq, Int.reduceBNe]
      · rw [hv, if_pos rfl] at gf
        refine ops_call (gf) (by simp only [intP, txP, AW, reduceAdd, reduceCtorEq, reduceEqDiff, ↓reduceIte, reduceLT, reduceLeDiff, reduceSub, reducePow, reduceMul, reduceToNat, reduceLE, reduceEq, Int.reduceLT, Int.reduceBEq, Int.reduceBNe]) ?_; simp only [intP, txP, AW, reduceAdd, reduceCtorEq, reduceEqDiff, ↓reduceIte, reduceLT, reduceLeDiff, reduceSub, reducePow, reduceMul, reduceToNat, reduceLE, reduceEq, Int.reduceLT, Int.reduceBEq, Int.reduceBNe]
        simp only [bA_beq, AW, reduceAdd, reduceCtorEq, reduceEqDiff, ↓reduceIte, reduceLT, reduceLeDiff, reduceSub, reducePow, reduceMul, reduceToNat, reduceLE, reduceEq, Int.reduceLT, Int.reduceBEq, Int.reduceBNe]
        by_cases hf : fmtL (refN s) q = s
        · rw [if_pos ⟨hs18, hf⟩]
          simp only [hf, parR, intP, AW, reduceAdd, reduceCtorEq, reduceEqDiff, ↓reduceIte, reduceLT, reduceLeDiff, reduceSub, reducePow, reduceMul, reduceToNat, reduceLE, reduceEq, Int.reduceLT, Int.reduceBEq, Int.reduceBNe]
        · rw [if_neg (fun h => hf h.2)]
          simp only [hf, parR, intP, AW, reduceAdd, reduceCtorEq, reduceEqDiff, ↓reduceIte, reduceLT, reduceLeDiff, reduceSub, reducePow, reduceMul, reduceToNat, reduceLE, reduceEq, Int.reduceLT, Int.reduceBEq, Int.reduceBNe]
    · have d0 : decide ((0 : Int) < (s.length : Int)) = true := by rw [decide_eq_true_eq]; omega
      obtain ⟨c, hc0⟩ : ∃ c, s[0]? = some c := ⟨_, List.getElem?_eq_getElem (by omega)⟩
      have g0 : (bA s)[0]? = some c := by rw [bA_get]; exact hc0
      rw [← List.head?_eq_getElem?] at hc0
      simp only [d0, g0, AW, reduceAdd, reduceCtorEq, reduceEqDiff, ↓reduceIte, reduceLT, reduceLeDiff, reduceSub, reducePow, reduceMul, reduceToNat, reduceLE, reduceEq, Int.reduceLT, Int.reduceBEq, Int.reduceBNe]
      cases hc : ((c.toNat : Int) == 45)
      · have hne : ¬ s.head? = some 45 := by
          rw [beq_eq_false_iff_ne] at hc
          rw [hc0]; intro h; cases h; exact hc rfl
        have e1 : ((rvL s : Nat) : Int) = refN s := by unfold refN; rw [if_neg hne]
        simp only [e1, AW, reduceAdd, reduceCtorEq, reduceEqDiff, ↓reduceIte, reduceLT, reduceLeDiff, reduceSub, reducePow, reduceMul, reduceToNat, reduceLE, reduceEq, Int.reduceLT, Int.reduceBEq, Int.reduceBNe]
        have gf := rformat_g (refN s) (q : Int)
        have hfp : fmtP (refN s) (q : Int) = if valB (refN s) = true then .tup [txP (fmtL (refN s) q), intP 0] else .tup [txP [], intP 1] := by
          unfold fmtP
          by_cases hv : valB (refN s) = true
          · rw [if_pos ⟨hv, by omega, by omega⟩, if_pos hv, Int.toNat_natCast]
          · rw [if_neg (fun h => hv h.1), if_neg hv]
        rw [hfp] at gf
        have hr := ref_par (s := s) (p := q) hq6
        rw [hpar, ← hr]
        cases hv : valB (refN s)
        · rw [hv, if_neg (by simp)] at gf
          rw [if_neg (by simp)]
          refine ops_call (gf) (by simp only [intP, txP, AW, reduceAdd, reduceCtorEq, reduceEqDiff, ↓reduceIte, reduceLT, reduceLeDiff, reduceSub, reducePow, reduceMul, reduceToNat, reduceLE, reduceEq, Int.reduceLT, Int.reduceBEq, Int.reduceBNe]) ?_; simp only [intP, txP, AW, reduceAdd, reduceCtorEq, reduceEqDiff, ↓reduceIte, reduceLT, reduceLeDiff, reduceSub, reducePow, reduceMul, reduceToNat, reduceLE, reduceEq, Int.reduceLT, Int.reduceBEq, Int.reduceBNe]
          simp only [parR, intP, AW, reduceAdd, reduceCtorEq, reduceEqDiff, ↓reduceIte, reduceLT, reduceLeDiff, reduceSub, reducePow, reduceMul, reduceToNat, reduceLE, reduceEq, Int.reduceLT, Int.reduceBEq, Int.reduceBNe]
        · rw [hv, if_pos rfl] at gf
          refine ops_call (gf) (by simp only [intP, txP, AW, reduceAdd, reduceCtorEq, reduceEqDiff, ↓reduceIte, reduceLT, reduceLeDiff, reduceSub, reducePow, reduceMul, reduceToNat, reduceLE, reduceEq, Int.reduceLT, Int.reduceBEq, Int.reduceBNe]) ?_; simp only [intP, txP, AW, reduceAdd, reduceCtorEq, reduceEqDiff, ↓reduceIte, reduceLT, reduceLeDiff, reduceSub, reducePow, reduceMul, reduceToNat, reduceLE, reduceEq, Int.reduceLT, Int.reduceBEq, Int.reduceBNe]
          simp only [bA_beq, AW, reduceAdd, reduceCtorEq, reduceEqDiff, ↓reduceIte, reduceLT, reduceLeDiff, reduceSub, reducePow, reduceMul, reduceToNat, reduceLE, reduceEq, Int.reduceLT, Int.reduceBEq, Int.reduceBNe]
          by_cases hf : fmtL (refN s) q = s
          · rw [if_pos ⟨hs18, hf⟩]
            simp only [hf, parR, intP, AW, reduceAdd, reduceCtorEq, reduceEqDiff, ↓reduceIte, reduceLT, reduceLeDiff, reduceSub, reducePow, reduceMul, reduceToNat, reduceLE, reduceEq, Int.reduceLT, Int.reduceBEq, Int.reduceBNe]
          · rw [if_neg (fun h => hf h.2)]
            simp only [hf, parR, intP, AW, reduceAdd, reduceCtorEq, reduceEqDiff, ↓reduceIte, reduceLT, reduceLeDiff, reduceSub, reducePow, reduceMul, reduceToNat, reduceLE, reduceEq, Int.reduceLT, Int.reduceBEq, Int.reduceBNe]
      · have hne : s.head? = some 45 := by
          rw [beq_iff_eq] at hc
          have : c.toNat = 45 := by omega
          have : c = 45 := UInt8.toNat_inj.1 this
          rw [hc0, this]
        have e1 : IntKind.i64.wrap (0 - ((rvL s : Nat) : Int)) = refN s := by unfold refN; rw [if_pos hne, wrap_id ⟨by omega, by omega⟩]; omega
        simp only [e1, AW, reduceAdd, reduceCtorEq, reduceEqDiff, ↓reduceIte, reduceLT, reduceLeDiff, reduceSub, reducePow, reduceMul, reduceToNat, reduceLE, reduceEq, Int.reduceLT, Int.reduceBEq, Int.reduceBNe]
        have gf := rformat_g (refN s) (q : Int)
        have hfp : fmtP (refN s) (q : Int) = if valB (refN s) = true then .tup [txP (fmtL (refN s) q), intP 0] else .tup [txP [], intP 1] := by
          unfold fmtP
          by_cases hv : valB (refN s) = true
          · rw [if_pos ⟨hv, by omega, by omega⟩, if_pos hv, Int.toNat_natCast]
          · rw [if_neg (fun h => hv h.1), if_neg hv]
        rw [hfp] at gf
        have hr := ref_par (s := s) (p := q) hq6
        rw [hpar, ← hr]
        cases hv : valB (refN s)
        · rw [hv, if_neg (by simp)] at gf
          rw [if_neg (by simp)]
          refine ops_call (gf) (by simp only [intP, txP, AW, reduceAdd, reduceCtorEq, reduceEqDiff, ↓reduceIte, reduceLT, reduceLeDiff, reduceSub, reducePow, reduceMul, reduceToNat, reduceLE, reduceEq, Int.reduceLT, Int.reduceBEq, Int.reduceBNe]) ?_; simp only [intP, txP, AW, reduceAdd, reduceCtorEq, reduceEqDiff, ↓reduceIte, reduceLT, reduceLeDiff, reduceSub, reducePow, reduceMul, reduceToNat, reduceLE, reduceEq, Int.reduceLT, Int.reduceBEq, Int.reduceBNe]
          simp only [parR, intP, AW, reduceAdd, reduceCtorEq, reduceEqDiff, ↓reduceIte, reduceLT, reduceLeDiff, reduceSub, reducePow, reduceMul, reduceToNat, reduceLE, reduceEq, Int.reduceLT, Int.reduceBEq, Int.reduceBNe]
        · rw [hv, if_pos rfl] at gf
          refine ops_call (gf) (by simp only [intP, txP, AW, reduceAdd, reduceCtorEq, reduceEqDiff, ↓reduceIte, reduceLT, reduceLeDiff, reduceSub, reducePow, reduceMul, reduceToNat, reduceLE, reduceEq, Int.reduceLT, Int.reduceBEq, Int.reduceBNe]) ?_; simp only [intP, txP, AW, reduceAdd, reduceCtorEq, reduceEqDiff, ↓reduceIte, reduceLT, reduceLeDiff, reduceSub, reducePow, reduceMul, reduceToNat, reduceLE, reduceEq, Int.reduceLT, Int.reduceBEq, Int.reduceBNe]
          simp only [bA_beq, AW, reduceAdd, reduceCtorEq, reduceEqDiff, ↓reduceIte, reduceLT, reduceLeDiff, reduceSub, reducePow, reduceMul, reduceToNat, reduceLE, reduceEq, Int.reduceLT, Int.reduceBEq, Int.reduceBNe]
          by_cases hf : fmtL (refN s) q = s
          · rw [if_pos ⟨hs18, hf⟩]
            simp only [hf, parR, intP, AW, reduceAdd, reduceCtorEq, reduceEqDiff, ↓reduceIte, reduceLT, reduceLeDiff, reduceSub, reducePow, reduceMul, reduceToNat, reduceLE, reduceEq, Int.reduceLT, Int.reduceBEq, Int.reduceBNe]
          · rw [if_neg (fun h => hf h.2)]
            simp only [hf, parR, intP, AW, reduceAdd, reduceCtorEq, reduceEqDiff, ↓reduceIte, reduceLT, reduceLeDiff, reduceSub, reducePow, reduceMul, reduceToNat, reduceLE, reduceEq, Int.reduceLT, Int.reduceBEq, Int.reduceBNe]
  have dk : decide ((k : Int) < ((s.length : Nat) : Int)) = true := by rw [decide_eq_true_eq]; exact Int.ofNat_lt.2 hltk
  have gk : (bA s)[k]? = some s[k] := by rw [bA_get, List.getElem?_eq_getElem hltk]
  have hb := rvL_lt (s := s.take k)
  have hb1 : (s.take k).length = k := by rw [List.length_take]; omega
  have hb2 : 10 ^ k ≤ 10 ^ 17 := Nat.pow_le_pow_right (by decide) (by omega)
  have hb3 : (10 : Nat) ^ 17 = 100000000000000000 := by decide
  rw [hb1] at hb
  have hs1 := rvL_succ hltk
  simp only [dk, bA_size, gk, AW, reduceAdd, reduceCtorEq, reduceEqDiff, ↓reduceIte, reduceLT, reduceLeDiff, reduceSub, reducePow, reduceMul, reduceToNat, reduceLE, reduceEq, Int.reduceLT, Int.reduceBEq, Int.reduceBNe]
  cases hc1 : decide ((48 : Int) ≤ (s[k].toNat : Int))
  · have e1 : rvL (s.take (k + 1)) = rvL (s.take k) := by rw [hs1, rvF, if_neg (by have := of_decide_eq_false hc1; omega)]
    simp only [AW, reduceAdd, reduceCtorEq, reduceEqDiff, ↓reduceIte, reduceLT, reduceLeDiff, reduceSub, reducePow, reduceMul, reduceToNat, reduceLE, reduceEq, Int.reduceLT, Int.reduceBEq, Int.reduceBNe]
    (try simp only [wrap_succ hltk hlen, AW, reduceAdd, reduceCtorEq, reduceEqDiff, ↓reduceIte, reduceLT, reduceLeDiff, reduceSub, reducePow, reduceMul, reduceToNat, reduceLE, reduceEq, Int.reduceLT, Int.reduceBEq, Int.reduceBNe])
    refine ⟨k + 1, hltk, ?_, meas_lt hltk⟩
    simp only [LW, Nat.reduceMod, Nat.reduceDiv, e1, AW, reduceAdd, reduceCtorEq, reduceEqDiff, ↓reduceIte, reduceLT, reduceLeDiff, reduceSub, reducePow, reduceMul, reduceToNat, reduceLE, reduceEq, Int.reduceLT, Int.reduceBEq, Int.reduceBNe]
  simp only [gk, AW, reduceAdd, reduceCtorEq, reduceEqDiff, ↓reduceIte, reduceLT, reduceLeDiff, reduceSub, reducePow, reduceMul, reduceToNat, reduceLE, reduceEq, Int.reduceLT, Int.reduceBEq, Int.reduceBNe]
  cases hc2 : decide ((s[k].toNat : Int) ≤ 57)
  · have e1 : rvL (s.take (k + 1)) = rvL (s.take k) := by rw [hs1, rvF, if_neg (by have := of_decide_eq_false hc2; omega)]
    simp only [AW, reduceAdd, reduceCtorEq, reduceEqDiff, ↓reduceIte, reduceLT, reduceLeDiff, reduceSub, reducePow, reduceMul, reduceToNat, reduceLE, reduceEq, Int.reduceLT, Int.reduceBEq, Int.reduceBNe]
    (try simp only [wrap_succ hltk hlen, AW, reduceAdd, reduceCtorEq, reduceEqDiff, ↓reduceIte, reduceLT, reduceLeDiff, reduceSub, reducePow, reduceMul, reduceToNat, reduceLE, reduceEq, Int.reduceLT, Int.reduceBEq, Int.reduceBNe])
    refine ⟨k + 1, hltk, ?_, meas_lt hltk⟩
    simp only [LW, Nat.reduceMod, Nat.reduceDiv, e1, AW, reduceAdd, reduceCtorEq, reduceEqDiff, ↓reduceIte, reduceLT, reduceLeDiff, reduceSub, reducePow, reduceMul, reduceToNat, reduceLE, reduceEq, Int.reduceLT, Int.reduceBEq, Int.reduceBNe]
  have c1 : 48 ≤ s[k].toNat := by have := of_decide_eq_true hc1; omega
  have c2 : s[k].toNat ≤ 57 := by have := of_decide_eq_true hc2; omega
  have e1 : rvL (s.take (k + 1)) = 10 * rvL (s.take k) + (s[k].toNat - 48) := by rw [hs1, rvF, if_pos ⟨c1, c2⟩]
  have e2 : IntKind.u8.wrap ((s[k].toNat : Int) - 48) = ((s[k].toNat - 48 : Nat) : Int) := by
    generalize s[k].toNat = d at *
    simp [IntKind.wrap, IntKind.bits, IntKind.signed]; omega
  have e3 : IntKind.i64.wrap (10 * ((rvL (s.take k) : Nat) : Int)) = 10 * ((rvL (s.take k) : Nat) : Int) := wrap_id ⟨by omega, by omega⟩
  have e4 : IntKind.i64.wrap ((s[k].toNat - 48 : Nat) : Int) = ((s[k].toNat - 48 : Nat) : Int) := wrap_id ⟨by omega, by omega⟩
  have e5 : IntKind.i64.wrap (10 * ((rvL (s.take k) : Nat) : Int) + ((s[k].toNat - 48 : Nat) : Int)) = ((rvL (s.take (k + 1)) : Nat) : Int) := by rw [e1, wrap_id ⟨by omega, by omega⟩]; omega
  simp only [gk, e2, e3, e4, e5, AW, reduceAdd, reduceCtorEq, reduceEqDiff, ↓reduceIte, reduceLT, reduceLeDiff, reduceSub, reducePow, reduceMul, reduceToNat, reduceLE, reduceEq, Int.reduceLT, Int.reduceBEq, Int.reduceBNe]
  (try simp only [wrap_succ hltk hlen, AW, reduceAdd, reduceCtorEq, reduceEqDiff, ↓reduceIte, reduceLT, reduceLeDiff, reduceSub, reducePow, reduceMul, reduceToNat, reduceLE, reduceEq, Int.reduceLT, Int.reduceBEq, Int.reduceBNe])
  refine ⟨k + 1, hltk, ?_, meas_lt hltk⟩
  simp only [LW, Nat.reduceMod, Nat.reduceDiv, AW, reduceAdd, reduceCtorEq, reduceEqDiff, ↓reduceIte, reduceLT, reduceLeDiff, reduceSub, reducePow, reduceMul, reduceToNat, reduceLE, reduceEq, Int.reduceLT, Int.reduceBEq, Int.reduceBNe]


end Go.Proofs.YtjnfldkcbcfboaaGreatDoor
