/-
  The reference's words and numbers, walked.
-/
import Derived.Test.YtjnfldkcbcfboaaGreatDoorFk
namespace Go.Proofs.YtjnfldkcbcfboaaGreatDoor
open Go.RowKit
open Nat (reduceAdd reduceEqDiff reduceLT reduceLeDiff reduceSub reducePow reduceMul)
open Int (reduceToNat reduceLE reduceEq)
set_option linter.unusedVariables false
set_option linter.unusedSimpArgs false
set_option linter.unnecessarySimpa false

/-- The number that a word spells, 0 for an x. -/
def pD (w : List UInt8) : Int := (parN w 0).getD 0
theorem parP0 (w : List UInt8) : ∃ e, parP w 0 = .tup [intP (pD w), intP e] := by
  unfold parP pD
  rw [if_pos (by decide)]
  show ∃ e, parR (parN w 0) = _
  cases parN w 0 with
  | none => exact ⟨3, rfl⟩
  | some n => exact ⟨0, rfl⟩
def numsL (ws : List (List UInt8)) : List Int := ws.tail.map pD
theorem splitW_drop {s : List UInt8} {i : Nat} (h : i < s.length) : splitW (s.drop i) = if s[i] = 32 then [] :: splitW (s.drop (i + 1)) else (s[i] :: (splitW (s.drop (i + 1))).headD []) :: (splitW (s.drop (i + 1))).tail := by
  rw [List.drop_eq_getElem_cons h]; rfl
theorem take_drop_snoc {s : List UInt8} {i j : Nat} (h : i < s.length) (hj : j ≤ i) : (s.take (i + 1)).drop j = (s.take i).drop j ++ [s[i]] := by
  rw [List.take_succ_eq_append_getElem h, List.drop_append_of_le_length (by rw [List.length_take]; omega)]
set_option maxHeartbeats 2000000 in
theorem rwords_g (s : List UInt8) (hs : s.length ≤ 1000000) : Good Tryz.prog 31 [txP s] (.sl ((splitW s).map txP)) := by
  refine good31 (by simp) ?_
  simp only [ac31, AW, reduceAdd, reduceCtorEq, reduceEqDiff, ↓reduceIte, reduceLT, reduceLeDiff, reduceSub, reducePow, reduceMul, reduceToNat, reduceLE, reduceEq, Int.reduceLT, Int.reduceBEq, Int.reduceBNe]
  refine run_loop (ι := Nat × List (List UInt8) × Nat) (fun q => ⟨[(0, txP s), (3, .own 4 0), (4, .sc (.int .i64 (q.2.2 : Int))), (5, .sc (.int .i64 (q.1 : Int)))], [(4, .row 9 1 0 (q.2.1.map txP))], 5, 32⟩) (fun q => (q.1 ≤ s.length ∧ q.2.2 ≤ q.1 ∧ splitW s = q.2.1 ++ ((s.take q.1).drop q.2.2 ++ (splitW (s.drop q.1)).headD []) :: (splitW (s.drop q.1)).tail) ∨ (q.1 = s.length + 1 ∧ splitW s = q.2.1)) (fun q => s.length + 1 - q.1) 5 (fun _ => rfl) (0, [], 0) (by simp only [LW, Nat.reduceMod, Nat.reduceDiv, Int.natCast_zero, List.map_nil, Nat.zero_lt_one, AW, reduceAdd, reduceCtorEq, reduceEqDiff, ↓reduceIte, reduceLT, reduceLeDiff, reduceSub, reducePow, reduceMul, reduceToNat, reduceLE, reduceEq, Int.reduceLT, Int.reduceBEq, Int.reduceBNe]) (Or.inl ⟨Nat.zero_le _, Nat.le_refl _, by rw [List.drop_zero, List.drop_zero, List.take_zero, List.nil_append, List.nil_append]; exact splitW_cons s⟩) (fun q hq => ?_)
  obtain ⟨i, done, f⟩ := q
  rcases hq with ⟨hi, hf, hq⟩ | ⟨hi, hq⟩
  · simp only at hi hf hq
    have d1 : decide ((i : Int) ≤ (s.length : Int)) = true := by rw [decide_eq_true_eq]; omega
    have wi : IntKind.i64.wrap ((i : Int) + 1) = ((i + 1 : Nat) : Int) := add1N (by omega)
    have hsl := splitW_len s
    have hdl : done.length ≤ s.length + 1 := by
      have := congrArg List.length hq
      rw [List.length_append, List.length_cons] at this; omega
    obtain ⟨rw_, hrw⟩ : ∃ r, done.map txP = r := ⟨_, rfl⟩
    have hrl : rw_.length = done.length := by rw [← hrw, List.length_map]
    have q1 : rw_.length + 1 ≤ maxLen := by unfold maxLen; omega
    have q2 : (rw_.length + 1) * 16 ≤ 140737488355328 := by omega
    have es : ∀ w, (done ++ [w]).map txP = rw_ ++ [txP w] := fun w => by rw [List.map_append, hrw]; rfl
    by_cases hi2 : i < s.length
    · have d2 : ((i : Int) == (s.length : Int)) = false := by rw [beq_eq_false_iff_ne]; omega
      simp only [hrw]
      have gk : (bA s)[i]? = some s[i] := by rw [bA_get, List.getElem?_eq_getElem hi2]
      have hsd := splitW_drop hi2
      by_cases hc : s[i] = 32
      · have e1 : ((s[i].toNat : Int) == 32) = true := by rw [hc]; rfl
        simp only [txP, bA_size, d1, d2, gk, e1, hi, hf, bA_extract, q1, q2, wi, AW, reduceAdd, reduceCtorEq, reduceEqDiff, ↓reduceIte, reduceLT, reduceLeDiff, reduceSub, reducePow, reduceMul, reduceToNat, reduceLE, reduceEq, Int.reduceLT, Int.reduceBEq, Int.reduceBNe]
        rw [hc, if_pos rfl] at hsd
        refine ⟨(i + 1, done ++ [(s.take i).drop f], i + 1), Or.inl ⟨hi2, Nat.le_refl _, ?_⟩, ?_, by show s.length + 1 - (i + 1) < s.length + 1 - i; omega⟩
        · show splitW s = (done ++ [(s.take i).drop f]) ++ ((s.take (i + 1)).drop (i + 1) ++ (splitW (s.drop (i + 1))).headD []) :: (splitW (s.drop (i + 1))).tail
          have e0 : (s.take (i + 1)).drop (i + 1) = [] := List.drop_eq_nil_of_le (by rw [List.length_take]; omega)
          rw [hq, hsd, e0, List.nil_append, ← splitW_cons]
          simp
        · simp only [LW, Nat.reduceMod, Nat.reduceDiv, txP, es, hrw, AW, reduceAdd, reduceCtorEq, reduceEqDiff, ↓reduceIte, reduceLT, reduceLeDiff, reduceSub, reducePow, reduceMul, reduceToNat, reduceLE, reduceEq, Int.reduceLT, Int.reduceBEq, Int.reduceBNe]
      · have e1 : ((s[i].toNat : Int) == 32) = false := by
          rw [beq_eq_false_iff_ne]; intro e
          exact hc (UInt8.toNat_inj.1 (by show _ = 32; omega))
        simp only [txP, bA_size, d1, d2, gk, e1, wi, AW, reduceAdd, reduceCtorEq, reduceEqDiff, ↓reduceIte, reduceLT, reduceLeDiff, reduceSub, reducePow, reduceMul, reduceToNat, reduceLE, reduceEq, Int.reduceLT, Int.reduceBEq, Int.reduceBNe]
        rw [if_neg hc] at hsd
        refine ⟨(i + 1, done, f), Or.inl ⟨hi2, Nat.le_succ_of_le hf, ?_⟩, ?_, by show s.length + 1 - (i + 1) < s.length + 1 - i; omega⟩
        · show splitW s = done ++ ((s.take (i + 1)).drop f ++ (splitW (s.drop (i + 1))).headD []) :: (splitW (s.drop (i + 1))).tail
          rw [hq, hsd, take_drop_snoc hi2 hf]
          simp
        · simp only [LW, Nat.reduceMod, Nat.reduceDiv, txP, es, hrw, AW, reduceAdd, reduceCtorEq, reduceEqDiff, ↓reduceIte, reduceLT, reduceLeDiff, reduceSub, reducePow, reduceMul, reduceToNat, reduceLE, reduceEq, Int.reduceLT, Int.reduceBEq, Int.reduceBNe]
    · have hi3 : i = s.length := by omega
      have d2 : ((i : Int) == (s.length : Int)) = true := by rw [beq_iff_eq]; omega
      simp only [hrw]
      simp only [txP, bA_size, d1, d2, hi, hf, bA_extract, q1, q2, wi, AW, reduceAdd, reduceCtorEq, reduceEqDiff, ↓reduceIte, reduceLT, reduceLeDiff, reduceSub, reducePow, reduceMul, reduceToNat, reduceLE, reduceEq, Int.reduceLT, Int.reduceBEq, Int.reduceBNe]
      refine ⟨(i + 1, done ++ [(s.take i).drop f], i + 1), Or.inr ⟨by rw [hi3], ?_⟩, ?_, by show s.length + 1 - (i + 1) < s.length + 1 - i; omega⟩
      · show splitW s = done ++ [(s.take i).drop f]
        have e0 : s.drop i = [] := List.drop_eq_nil_of_le (by omega)
        rw [hq, e0]
        simp [splitW]
      · simp only [LW, Nat.reduceMod, Nat.reduceDiv, txP, es, AW, reduceAdd, reduceCtorEq, reduceEqDiff, ↓reduceIte, reduceLT, reduceLeDiff, reduceSub, reducePow, reduceMul, reduceToNat, reduceLE, reduceEq, Int.reduceLT, Int.reduceBEq, Int.reduceBNe]
  · simp only at hi hq
    have d1 : decide ((i : Int) ≤ (s.length : Int)) = false := by rw [decide_eq_false_iff_not]; omega
    rw [hq]
    simp only [txP, bA_size, d1, AW, reduceAdd, reduceCtorEq, reduceEqDiff, ↓reduceIte, reduceLT, reduceLeDiff, reduceSub, reducePow, reduceMul, reduceToNat, reduceLE, reduceEq, Int.reduceLT, Int.reduceBEq, Int.reduceBNe]
set_option maxHeartbeats 2000000 in
theorem rnums_g (ws : List (List UInt8)) (hw : ws.length ≤ 1000000) (hs : ∀ w ∈ ws, w.length ≤ 1000000) : Good Tryz.prog 30 [.sl (ws.map txP)] (.sl ((numsL ws).map intP)) := by
  refine good30 (by simp) ?_
  simp only [ac30, AW, reduceAdd, reduceCtorEq, reduceEqDiff, ↓reduceIte, reduceLT, reduceLeDiff, reduceSub, reducePow, reduceMul, reduceToNat, reduceLE, reduceEq, Int.reduceLT, Int.reduceBEq, Int.reduceBNe]
  refine run_loop (ι := Nat) (fun k => ⟨[(0, .sl (ws.map txP)), (3, .own 3 0), (4, .sc (.int .i64 ((k + 1 : Nat) : Int)))], [(3, .row 3 1 0 (((ws.tail.take k).map pD).map intP))], 4, 26⟩) (fun k => k ≤ ws.tail.length) (fun k => ws.length - k) 4 (fun _ => rfl) 0 (by simp only [LW, Nat.reduceMod, Nat.reduceDiv, Nat.zero_add, Int.natCast_one, List.take_zero, List.map_nil, Nat.zero_lt_one, AW, reduceAdd, reduceCtorEq, reduceEqDiff, ↓reduceIte, reduceLT, reduceLeDiff, reduceSub, reducePow, reduceMul, reduceToNat, reduceLE, reduceEq, Int.reduceLT, Int.reduceBEq, Int.reduceBNe]) (Nat.zero_le _) (fun k hk => ?_)
  have htl : ws.tail.length = ws.length - 1 := List.length_tail
  by_cases hlt : k + 1 < ws.length
  · have d1 : decide (((k + 1 : Nat) : Int) < (ws.length : Int)) = true := by rw [decide_eq_true_eq]; omega
    obtain ⟨e, he⟩ := parP0 ws[k + 1]
    have gp := rparse_g ws[k + 1] 0 (by have := hs _ (List.getElem_mem hlt); omega)
    rw [he] at gp
    have hkt : k < ws.tail.length := by omega
    have et : ws.tail[k] = ws[k + 1] := by rw [List.getElem_tail]
    have es : ((ws.tail.take (k + 1)).map pD).map intP = ((ws.tail.take k).map pD).map intP ++ [intP (pD ws[k + 1])] := by
      rw [List.take_succ_eq_append_getElem hkt, et, List.map_append, List.map_append]; rfl
    have hrl : (((ws.tail.take k).map pD).map intP).length ≤ 1000000 := by rw [List.length_map, List.length_map, List.length_take]; omega
    generalize ((ws.tail.take k).map pD).map intP = rw_ at *
    have q1 : rw_.length + 1 ≤ maxLen := by unfold maxLen; omega
    have q2 : (rw_.length + 1) * 8 ≤ 140737488355328 := by omega
    have wi : IntKind.i64.wrap (((k + 1 : Nat) : Int) + 1) = ((k + 1 + 1 : Nat) : Int) := add1N (by omega)
    simp only [d1, map_getD hlt, hlt, txP, List.length_map, AW, reduceAdd, reduceCtorEq, reduceEqDiff, ↓reduceIte, reduceLT, reduceLeDiff, reduceSub, reducePow, reduceMul, reduceToNat, reduceLE, reduceEq, Int.reduceLT, Int.reduceBEq, Int.reduceBNe]
    refine ops_call (gp) (by simp only [txP, intP, AW, reduceAdd, reduceCtorEq, reduceEqDiff, ↓reduceIte, reduceLT, reduceLeDiff, reduceSub, reducePow, reduceMul, reduceToNat, reduceLE, reduceEq, Int.reduceLT, Int.reduceBEq, Int.reduceBNe]) ?_; simp only [txP, intP, AW, reduceAdd, reduceCtorEq, reduceEqDiff, ↓reduceIte, reduceLT, reduceLeDiff, reduceSub, reducePow, reduceMul, reduceToNat, reduceLE, reduceEq, Int.reduceLT, Int.reduceBEq, Int.reduceBNe]
    simp only [q1, q2, wi, AW, reduceAdd, reduceCtorEq, reduceEqDiff, ↓reduceIte, reduceLT, reduceLeDiff, reduceSub, reducePow, reduceMul, reduceToNat, reduceLE, reduceEq, Int.reduceLT, Int.reduceBEq, Int.reduceBNe]
    refine ⟨k + 1, hkt, ?_, by omega⟩
    simp only [LW, Nat.reduceMod, Nat.reduceDiv, es, intP, AW, reduceAdd, reduceCtorEq, reduceEqDiff, ↓reduceIte, reduceLT, reduceLeDiff, reduceSub, reducePow, reduceMul, reduceToNat, reduceLE, reduceEq, Int.reduceLT, Int.reduceBEq, Int.reduceBNe]
  · have d1 : decide (((k + 1 : Nat) : Int) < (ws.length : Int)) = false := by rw [decide_eq_false_iff_not]; omega
    have ek : (ws.tail.take k).map pD = numsL ws := by unfold numsL; rw [List.take_of_length_le (by omega)]
    simp only [ek]
    simp only [d1, List.length_map, AW, reduceAdd, reduceCtorEq, reduceEqDiff, ↓reduceIte, reduceLT, reduceLeDiff, reduceSub, reducePow, reduceMul, reduceToNat, reduceLE, reduceEq, Int.reduceLT, Int.reduceBEq, Int.reduceBNe]


end Go.Proofs.YtjnfldkcbcfboaaGreatDoor
