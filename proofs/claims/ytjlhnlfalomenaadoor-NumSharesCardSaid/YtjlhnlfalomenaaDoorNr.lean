/-
  num.Share, walked (its errors).
-/
import Derived.Test.YtjlhnlfalomenaaDoorNq
namespace Go.Proofs.YtjlhnlfalomenaaDoor
open Go.RowKit
open Nat (reduceAdd reduceEqDiff reduceLT reduceLeDiff reduceSub reducePow reduceMul)
open Int (reduceToNat reduceLE reduceEq)
set_option linter.unusedVariables false
set_option linter.unusedSimpArgs false
set_option linter.unnecessarySimpa false

theorem cut_bool {a b c d : Bool} (h : (a && b && c && d) = true) : a = true ∧ b = true ∧ c = true ∧ d = true := by
  cases a <;> cases b <;> cases c <;> cases d <;> simp_all
theorem share_2 {total : Int} {ws : List Int} (h : (inB total && decide (1 ≤ ws.length) && decide (ws.length ≤ 512) && ws.all inB) = true) (h2 : 1125899906842624 < (natsL ws).sum) : shareL total ws = ([], 2) := by
  unfold shareL; rw [if_neg (by rw [h]; simp), if_pos h2]
theorem share_10 {total : Int} {ws : List Int} (h : (inB total && decide (1 ≤ ws.length) && decide (ws.length ≤ 512) && ws.all inB) = true) (h2 : ¬ 1125899906842624 < (natsL ws).sum) (h3 : (natsL ws).sum = 0 ∧ 0 < total) : shareL total ws = ([], 10) := by
  unfold shareL; rw [if_neg (by rw [h]; simp), if_neg h2, if_pos h3]
set_option maxHeartbeats 8000000 in
theorem share_g (total : Int) (ws : List Int) (hlen : ws.length ≤ 1000000) : Good Tryd.prog 26 [intP total, intsP ws] (shareP total ws) := by
  by_cases hmain : (inB total && decide (1 ≤ ws.length) && decide (ws.length ≤ 512) && ws.all inB) = true ∧ ¬ 1125899906842624 < (natsL ws).sum ∧ ¬((natsL ws).sum = 0 ∧ 0 < total)
  · obtain ⟨h1, h2, h3⟩ := hmain
    obtain ⟨a1, a2, a3, a4⟩ := cut_bool h1
    have a1 := inB_iff.1 a1
    simp only [decide_eq_true_eq] at a2 a3
    have := share_main total.toNat ws _ rfl (by omega) a2 a3 a4 (by omega) (fun h => h3 ⟨h.1, by omega⟩)
    rw [show ((total.toNat : Nat) : Int) = total by omega] at this
    unfold shareP
    rw [share_ok h1 h2 h3]
    exact this
  have z1 : ((1 : Nat) : Int) = 1 := rfl
  have z2 : ((2 : Nat) : Int) = 2 := rfl
  have z10 : ((10 : Nat) : Int) = 10 := rfl
  have hlen2 : ws.length ≤ maxLen := by unfold maxLen; omega
  refine good26 (by simp) ?_
  simp only [ac26, intsP, intP, AW, reduceAdd, reduceCtorEq, reduceEqDiff, ↓reduceIte, reduceLT, reduceLeDiff, reduceSub, reducePow, reduceMul, reduceToNat, reduceLE, reduceEq, Int.reduceLT, Int.reduceBEq, Int.reduceBNe]
  refine ops_call (in_g total 0 1125899906842624) (by simp only [intP, AW, reduceAdd, reduceCtorEq, reduceEqDiff, ↓reduceIte, reduceLT, reduceLeDiff, reduceSub, reducePow, reduceMul, reduceToNat, reduceLE, reduceEq, Int.reduceLT, Int.reduceBEq, Int.reduceBNe]) ?_; simp only [intP, AW, reduceAdd, reduceCtorEq, reduceEqDiff, ↓reduceIte, reduceLT, reduceLeDiff, reduceSub, reducePow, reduceMul, reduceToNat, reduceLE, reduceEq, Int.reduceLT, Int.reduceBEq, Int.reduceBNe]
  have u1 : (decide ((0 : Int) ≤ total) && decide (total ≤ 1125899906842624)) = inB total := rfl
  rw [u1]
  cases h1 : inB total
  · have e : shareL total ws = ([], 1) := share_1 (by rw [h1]; rfl)
    simp only [shareP, e, intsP, intP, List.map_nil, z1, AW, reduceAdd, reduceCtorEq, reduceEqDiff, ↓reduceIte, reduceLT, reduceLeDiff, reduceSub, reducePow, reduceMul, reduceToNat, reduceLE, reduceEq, Int.reduceLT, Int.reduceBEq, Int.reduceBNe]
  simp only [List.length_map, AW, reduceAdd, reduceCtorEq, reduceEqDiff, ↓reduceIte, reduceLT, reduceLeDiff, reduceSub, reducePow, reduceMul, reduceToNat, reduceLE, reduceEq, Int.reduceLT, Int.reduceBEq, Int.reduceBNe]
  refine ops_call (in_g (ws.length : Int) 1 512) (by simp only [intP, AW, reduceAdd, reduceCtorEq, reduceEqDiff, ↓reduceIte, reduceLT, reduceLeDiff, reduceSub, reducePow, reduceMul, reduceToNat, reduceLE, reduceEq, Int.reduceLT, Int.reduceBEq, Int.reduceBNe]) ?_; simp only [intP, AW, reduceAdd, reduceCtorEq, reduceEqDiff, ↓reduceIte, reduceLT, reduceLeDiff, reduceSub, reducePow, reduceMul, reduceToNat, reduceLE, reduceEq, Int.reduceLT, Int.reduceBEq, Int.reduceBNe]
  cases h2 : (decide ((1 : Int) ≤ (ws.length : Int)) && decide ((ws.length : Int) ≤ 512))
  · have e : shareL total ws = ([], 1) := share_1 (by
      have : (decide (1 ≤ ws.length) && decide (ws.length ≤ 512)) = false := by
        rw [← h2]; congr 1 <;> (rw [decide_eq_decide]; omega)
      rw [h1, Bool.true_and, this]; rfl)
    simp only [shareP, e, intsP, intP, List.map_nil, z1, AW, reduceAdd, reduceCtorEq, reduceEqDiff, ↓reduceIte, reduceLT, reduceLeDiff, reduceSub, reducePow, reduceMul, reduceToNat, reduceLE, reduceEq, Int.reduceLT, Int.reduceBEq, Int.reduceBNe]
  have h2' : (decide (1 ≤ ws.length) && decide (ws.length ≤ 512)) = true := by
    rw [← h2]; congr 1 <;> (rw [decide_eq_decide]; omega)
  have h3 : ws.length ≤ 512 := by simp at h2'; omega
  simp only [AW, reduceAdd, reduceCtorEq, reduceEqDiff, ↓reduceIte, reduceLT, reduceLeDiff, reduceSub, reducePow, reduceMul, reduceToNat, reduceLE, reduceEq, Int.reduceLT, Int.reduceBEq, Int.reduceBNe]
  refine run_loop (ι := Nat) (fun k => ⟨[(0, .sc (.int .i64 total)), (1, .sl (ws.map intP)), (6, .sc (.int .i64 ((natsL (ws.take k)).sum : Int))), (25, .sl (ws.map intP)), (26, .sc (.int .i64 (ws.length : Int))), (27, .sc (.int .i64 (k : Int)))], [], 15, 109⟩) (fun k => k ≤ ws.length ∧ ((ws.take k).all inB = true)) (fun k => ws.length - k) 15 (fun _ => rfl) 0 (by simp only [LW, Nat.reduceMod, Nat.reduceDiv, Int.natCast_zero, List.take_zero, natsL, List.map_nil, List.sum_nil, AW, reduceAdd, reduceCtorEq, reduceEqDiff, ↓reduceIte, reduceLT, reduceLeDiff, reduceSub, reducePow, reduceMul, reduceToNat, reduceLE, reduceEq, Int.reduceLT, Int.reduceBEq, Int.reduceBNe]) ⟨Nat.zero_le _, rfl⟩ (fun k hk => ?_)
  obtain ⟨gk, ik⟩ := hk
  by_cases hltk : k < ws.length
  rotate_left
  · have dk : decide ((k : Int) < ((ws.length : Nat) : Int)) = false := by rw [decide_eq_false_iff_not]; exact fun h => hltk (Int.ofNat_lt.1 h)
    have ek : k = ws.length := Nat.le_antisymm gk (Nat.le_of_not_lt hltk)
    subst ek
    rw [List.take_length] at ik ⊢
    have hh : (inB total && decide (1 ≤ ws.length) && decide (ws.length ≤ 512) && ws.all inB) = true := by rw [h1, Bool.true_and, h2', ik]; rfl
    simp only [dk, AW, reduceAdd, reduceCtorEq, reduceEqDiff, ↓reduceIte, reduceLT, reduceLeDiff, reduceSub, reducePow, reduceMul, reduceToNat, reduceLE, reduceEq, Int.reduceLT, Int.reduceBEq, Int.reduceBNe]
    by_cases hS : 1125899906842624 < (natsL ws).sum
    · have d1 : decide ((1125899906842624 : Int) < ((natsL ws).sum : Int)) = true := by rw [decide_eq_true_eq]; omega
      simp only [d1, shareP, share_2 hh hS, intsP, intP, List.map_nil, z2, AW, reduceAdd, reduceCtorEq, reduceEqDiff, ↓reduceIte, reduceLT, reduceLeDiff, reduceSub, reducePow, reduceMul, reduceToNat, reduceLE, reduceEq, Int.reduceLT, Int.reduceBEq, Int.reduceBNe]
    have d1 : decide ((1125899906842624 : Int) < ((natsL ws).sum : Int)) = false := by rw [decide_eq_false_iff_not]; omega
    have h10 : (natsL ws).sum = 0 ∧ 0 < total := by
      by_cases h : (natsL ws).sum = 0 ∧ 0 < total
      · exact h
      · exact absurd ⟨hh, hS, h⟩ hmain
    have d2 : (((natsL ws).sum : Int) == 0) = true := by rw [h10.1]; rfl
    have d3 : decide ((0 : Int) < total) = true := by rw [decide_eq_true_eq]; exact h10.2
    simp only [d1, d2, d3, shareP, share_10 hh hS h10, intsP, intP, List.map_nil, z10, AW, reduceAdd, reduceCtorEq, reduceEqDiff, ↓reduceIte, reduceLT, reduceLeDiff, reduceSub, reducePow, reduceMul, reduceToNat, reduceLE, reduceEq, Int.reduceLT, Int.reduceBEq, Int.reduceBNe]
  have dk : decide ((k : Int) < ((ws.length : Nat) : Int)) = true := by rw [decide_eq_true_eq]; exact Int.ofNat_lt.2 hltk
  simp only [dk, map_getD hltk, hltk, intP, AW, reduceAdd, reduceCtorEq, reduceEqDiff, ↓reduceIte, reduceLT, reduceLeDiff, reduceSub, reducePow, reduceMul, reduceToNat, reduceLE, reduceEq, Int.reduceLT, Int.reduceBEq, Int.reduceBNe]
  refine ops_call (in_g ws[k] 0 1125899906842624) (by simp only [intP, AW, reduceAdd, reduceCtorEq, reduceEqDiff, ↓reduceIte, reduceLT, reduceLeDiff, reduceSub, reducePow, reduceMul, reduceToNat, reduceLE, reduceEq, Int.reduceLT, Int.reduceBEq, Int.reduceBNe]) ?_; simp only [intP, AW, reduceAdd, reduceCtorEq, reduceEqDiff, ↓reduceIte, reduceLT, reduceLeDiff, reduceSub, reducePow, reduceMul, reduceToNat, reduceLE, reduceEq, Int.reduceLT, Int.reduceBEq, Int.reduceBNe]
  have u2 : (decide ((0 : Int) ≤ ws[k]) && decide (ws[k] ≤ 1125899906842624)) = inB ws[k] := rfl
  rw [u2]
  cases hb : inB ws[k]
  · have e : shareL total ws = ([], 1) := share_1 (by
      have : ws.all inB = false := by
        rw [List.all_eq_false]
        exact ⟨_, List.getElem_mem hltk, by rw [hb]; simp⟩
      rw [this, Bool.and_false])
    simp only [shareP, e, intsP, intP, List.map_nil, z1, AW, reduceAdd, reduceCtorEq, reduceEqDiff, ↓reduceIte, reduceLT, reduceLeDiff, reduceSub, reducePow, reduceMul, reduceToNat, reduceLE, reduceEq, Int.reduceLT, Int.reduceBEq, Int.reduceBNe]
  have hb2 := inB_iff.1 hb
  have hsum : (natsL (ws.take k)).sum ≤ 576460752303423488 := by
    have h1 := nats_sum_le ik
    rw [List.length_take] at h1
    have h2 : min k ws.length ≤ 512 := by omega
    exact Nat.le_trans h1 (Nat.le_trans (Nat.mul_le_mul_right _ h2) (by decide))
  have w1 : IntKind.i64.wrap (((natsL (ws.take k)).sum : Int) + ws[k]) = (((natsL (ws.take (k + 1))).sum : Nat) : Int) := by
    rw [sum_take_succ hltk, wrap_id (by unfold I64; omega)]; omega
  simp only [w1, AW, reduceAdd, reduceCtorEq, reduceEqDiff, ↓reduceIte, reduceLT, reduceLeDiff, reduceSub, reducePow, reduceMul, reduceToNat, reduceLE, reduceEq, Int.reduceLT, Int.reduceBEq, Int.reduceBNe]
  (try simp only [wrap_succ hltk hlen2, AW, reduceAdd, reduceCtorEq, reduceEqDiff, ↓reduceIte, reduceLT, reduceLeDiff, reduceSub, reducePow, reduceMul, reduceToNat, reduceLE, reduceEq, Int.reduceLT, Int.reduceBEq, Int.reduceBNe])
  refine ⟨k + 1, ⟨hltk, by rw [all_take_succ hltk, ik, hb]; rfl⟩, ?_, meas_lt hltk⟩
  simp only [LW, Nat.reduceMod, Nat.reduceDiv, AW, reduceAdd, reduceCtorEq, reduceEqDiff, ↓reduceIte, reduceLT, reduceLeDiff, reduceSub, reducePow, reduceMul, reduceToNat, reduceLE, reduceEq, Int.reduceLT, Int.reduceBEq, Int.reduceBNe]


end Go.Proofs.YtjlhnlfalomenaaDoor
