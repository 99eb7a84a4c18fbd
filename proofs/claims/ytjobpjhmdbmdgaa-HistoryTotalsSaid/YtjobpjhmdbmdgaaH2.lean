/-
  The history of a city: more of its functions, walked.
-/
import Derived.Test.YtjobpjhmdbmdgaaH1
namespace Go.Proofs.Ytjobpjhmdbmdgaa
open Go.RowKit
set_option linter.unusedVariables false
set_option linter.unusedSimpArgs false
set_option linter.unnecessarySimpa false

set_option maxHeartbeats 1000000 in
theorem few39_g (rs : List RideS) : Good Try.prog 14 [.sl (rs.map RideS.pv)] (.sc (.bool (few39L rs))) := by
  refine .len (es := rs.map RideS.pv) (by simp) (fun hlen => ?_)
  rw [List.length_map] at hlen
  refine good14 (by simp) ?_
  simp only [ac14, AW, Nat.reduceAdd, reduceCtorEq, Nat.reduceEqDiff, ↓reduceIte, Nat.reduceLT, Nat.reduceLeDiff, Nat.reduceSub, Nat.reducePow, Nat.reduceMul, Int.reduceToNat, Int.reduceLE, Int.reduceEq, Int.reduceLT, Int.reduceBEq, Int.reduceBNe]
  cases h0 : decide ((300 : Int) < rs.length)
  rotate_left
  · simp only [AW, Nat.reduceAdd, reduceCtorEq, Nat.reduceEqDiff, ↓reduceIte, Nat.reduceLT, Nat.reduceLeDiff, Nat.reduceSub, Nat.reducePow, Nat.reduceMul, Int.reduceToNat, Int.reduceLE, Int.reduceEq, Int.reduceLT, Int.reduceBEq, Int.reduceBNe]
    have : few39L rs = false := by rw [decide_eq_true_eq] at h0; simp [few39L]; omega
    rw [this]
  rw [decide_eq_false_iff_not] at h0
  simp only [AW, Nat.reduceAdd, reduceCtorEq, Nat.reduceEqDiff, ↓reduceIte, Nat.reduceLT, Nat.reduceLeDiff, Nat.reduceSub, Nat.reducePow, Nat.reduceMul, Int.reduceToNat, Int.reduceLE, Int.reduceEq, Int.reduceLT, Int.reduceBEq, Int.reduceBNe]
  refine run_loop (ι := Nat) (fun k => ⟨[(0, .sl (rs.map RideS.pv)), (3, .sc (.int .i64 (k : Int)))], [], 5, 29⟩) (fun k => k ≤ rs.length ∧ ∀ j (hj : j < rs.length), j < k → rs[j].legs.length ≤ 20 ∧ rs[j].pauses.length ≤ 20) (fun k => rs.length - k) 5 (fun _ => rfl) 0 (by simp only [LW, Nat.reduceMod, Nat.reduceDiv, Int.natCast_zero, AW, Nat.reduceAdd, reduceCtorEq, Nat.reduceEqDiff, ↓reduceIte, Nat.reduceLT, Nat.reduceLeDiff, Nat.reduceSub, Nat.reducePow, Nat.reduceMul, Int.reduceToNat, Int.reduceLE, Int.reduceEq, Int.reduceLT, Int.reduceBEq, Int.reduceBNe]) ⟨Nat.zero_le _, nofun⟩ (fun k hk => ?_)
  obtain ⟨h1, h2⟩ := hk
  by_cases hlt : k < rs.length
  · have d1 : decide ((k : Int) < rs.length) = true := by simp [hlt]
    have bad : ¬ (rs[k].legs.length ≤ 20 ∧ rs[k].pauses.length ≤ 20) → few39L rs = false := fun h => by
      have : rs.all (fun r => decide (r.legs.length ≤ 20) && decide (r.pauses.length ≤ 20)) = false := by
        rw [List.all_eq_false]
        exact ⟨rs[k], List.getElem_mem hlt, by simp only [Bool.and_eq_true, decide_eq_true_eq]; exact h⟩
      simp [few39L, this]
    simp only [d1, map_getD hlt, hlt, RideS.pv, AW, Nat.reduceAdd, reduceCtorEq, Nat.reduceEqDiff, ↓reduceIte, Nat.reduceLT, Nat.reduceLeDiff, Nat.reduceSub, Nat.reducePow, Nat.reduceMul, Int.reduceToNat, Int.reduceLE, Int.reduceEq, Int.reduceLT, Int.reduceBEq, Int.reduceBNe]
    cases ha : decide ((20 : Int) < rs[k].legs.length)
    rotate_left
    · simp only [AW, Nat.reduceAdd, reduceCtorEq, Nat.reduceEqDiff, ↓reduceIte, Nat.reduceLT, Nat.reduceLeDiff, Nat.reduceSub, Nat.reducePow, Nat.reduceMul, Int.reduceToNat, Int.reduceLE, Int.reduceEq, Int.reduceLT, Int.reduceBEq, Int.reduceBNe]; rw [bad (by rw [decide_eq_true_eq] at ha; omega)]
    rw [decide_eq_false_iff_not] at ha
    simp only [map_getD hlt, hlt, RideS.pv, AW, Nat.reduceAdd, reduceCtorEq, Nat.reduceEqDiff, ↓reduceIte, Nat.reduceLT, Nat.reduceLeDiff, Nat.reduceSub, Nat.reducePow, Nat.reduceMul, Int.reduceToNat, Int.reduceLE, Int.reduceEq, Int.reduceLT, Int.reduceBEq, Int.reduceBNe]
    cases hb : decide ((20 : Int) < rs[k].pauses.length)
    rotate_left
    · simp only [AW, Nat.reduceAdd, reduceCtorEq, Nat.reduceEqDiff, ↓reduceIte, Nat.reduceLT, Nat.reduceLeDiff, Nat.reduceSub, Nat.reducePow, Nat.reduceMul, Int.reduceToNat, Int.reduceLE, Int.reduceEq, Int.reduceLT, Int.reduceBEq, Int.reduceBNe]; rw [bad (by rw [decide_eq_true_eq] at hb; omega)]
    rw [decide_eq_false_iff_not] at hb
    simp only [wrap_succ hlt hlen, AW, Nat.reduceAdd, reduceCtorEq, Nat.reduceEqDiff, ↓reduceIte, Nat.reduceLT, Nat.reduceLeDiff, Nat.reduceSub, Nat.reducePow, Nat.reduceMul, Int.reduceToNat, Int.reduceLE, Int.reduceEq, Int.reduceLT, Int.reduceBEq, Int.reduceBNe]
    refine ⟨k + 1, ⟨hlt, fun j hj hjk => ?_⟩, ?_, by omega⟩
    · by_cases e : j = k
      · subst e; omega
      · exact h2 j hj (by omega)
    · simp only [LW, Nat.reduceMod, Nat.reduceDiv, AW, Nat.reduceAdd, reduceCtorEq, Nat.reduceEqDiff, ↓reduceIte, Nat.reduceLT, Nat.reduceLeDiff, Nat.reduceSub, Nat.reducePow, Nat.reduceMul, Int.reduceToNat, Int.reduceLE, Int.reduceEq, Int.reduceLT, Int.reduceBEq, Int.reduceBNe]
  · have d1 : decide ((k : Int) < rs.length) = false := by simp; omega
    simp only [d1, AW, Nat.reduceAdd, reduceCtorEq, Nat.reduceEqDiff, ↓reduceIte, Nat.reduceLT, Nat.reduceLeDiff, Nat.reduceSub, Nat.reducePow, Nat.reduceMul, Int.reduceToNat, Int.reduceLE, Int.reduceEq, Int.reduceLT, Int.reduceBEq, Int.reduceBNe]
    have : few39L rs = true := by
      have h3 : rs.all (fun r => decide (r.legs.length ≤ 20) && decide (r.pauses.length ≤ 20)) = true := by
        rw [List.all_eq_true]; intro x hx
        obtain ⟨j, hj, rfl⟩ := List.getElem_of_mem hx
        simp only [Bool.and_eq_true, decide_eq_true_eq]; exact h2 j hj (by omega)
      simp only [few39L, h3, Bool.and_true, decide_eq_true_eq]; omega
    rw [this]
def sumL (l : List Int) : Int := l.foldl (· + ·) 0
theorem sumL_take (l : List Int) (k : Nat) (h : k < l.length) : sumL (l.take (k + 1)) = sumL (l.take k) + l[k] := by
  simp only [sumL]
  rw [List.take_add_one, List.getElem?_eq_getElem h, List.foldl_append]; rfl
def totalP (l : List Int) : PV := if numbersL l then .tup [intP (sumL l), .sc (.bool true)] else .tup [intP 0, .sc (.bool false)]
set_option maxHeartbeats 1000000 in
theorem total_g (l : List Int) (hl : l.length ≤ 1000000000) : Good Try.prog 23 [intsP l] (totalP l) := by
  have hlen : l.length ≤ maxLen := by unfold maxLen; omega
  refine good23 (by simp) ?_
  simp only [ac23, intsP, AW, Nat.reduceAdd, reduceCtorEq, Nat.reduceEqDiff, ↓reduceIte, Nat.reduceLT, Nat.reduceLeDiff, Nat.reduceSub, Nat.reducePow, Nat.reduceMul, Int.reduceToNat, Int.reduceLE, Int.reduceEq, Int.reduceLT, Int.reduceBEq, Int.reduceBNe]
  refine run_loop (ι := Nat) (fun k => ⟨[(0, .sl (l.map intP)), (4, .sc (.int .i64 (sumL (l.take k)))), (5, .sc (.int .i64 (k : Int)))], [], 4, 31⟩) (fun k => k ≤ l.length ∧ (∀ j (hj : j < l.length), j < k → 0 ≤ l[j] ∧ l[j] ≤ 1000000) ∧ 0 ≤ sumL (l.take k) ∧ sumL (l.take k) ≤ k * 1000000) (fun k => l.length - k) 4 (fun _ => rfl) 0 (by simp only [LW, Nat.reduceMod, Nat.reduceDiv, Int.natCast_zero, List.take_zero, sumL, List.foldl_nil, AW, Nat.reduceAdd, reduceCtorEq, Nat.reduceEqDiff, ↓reduceIte, Nat.reduceLT, Nat.reduceLeDiff, Nat.reduceSub, Nat.reducePow, Nat.reduceMul, Int.reduceToNat, Int.reduceLE, Int.reduceEq, Int.reduceLT, Int.reduceBEq, Int.reduceBNe]) ⟨Nat.zero_le _, nofun, by simp [sumL], by simp [sumL]⟩ (fun k hk => ?_)
  obtain ⟨h1, h2, h3, h4⟩ := hk
  by_cases hlt : k < l.length
  · have d1 : decide ((k : Int) < l.length) = true := by simp [hlt]
    have bad : ¬ (0 ≤ l[k] ∧ l[k] ≤ 1000000) → numbersL l = false := fun h => by
      unfold numbersL; rw [List.all_eq_false]
      exact ⟨l[k], List.getElem_mem hlt, by simp only [Bool.and_eq_true, decide_eq_true_eq]; exact h⟩
    simp only [d1, map_getD hlt, hlt, intP, AW, Nat.reduceAdd, reduceCtorEq, Nat.reduceEqDiff, ↓reduceIte, Nat.reduceLT, Nat.reduceLeDiff, Nat.reduceSub, Nat.reducePow, Nat.reduceMul, Int.reduceToNat, Int.reduceLE, Int.reduceEq, Int.reduceLT, Int.reduceBEq, Int.reduceBNe]
    cases a1 : decide (l[k] < 0)
    rotate_left
    · simp only [AW, Nat.reduceAdd, reduceCtorEq, Nat.reduceEqDiff, ↓reduceIte, Nat.reduceLT, Nat.reduceLeDiff, Nat.reduceSub, Nat.reducePow, Nat.reduceMul, Int.reduceToNat, Int.reduceLE, Int.reduceEq, Int.reduceLT, Int.reduceBEq, Int.reduceBNe]; rw [totalP, bad (by rw [decide_eq_true_eq] at a1; omega)]; rfl
    rw [decide_eq_false_iff_not] at a1
    simp only [map_getD hlt, hlt, intP, AW, Nat.reduceAdd, reduceCtorEq, Nat.reduceEqDiff, ↓reduceIte, Nat.reduceLT, Nat.reduceLeDiff, Nat.reduceSub, Nat.reducePow, Nat.reduceMul, Int.reduceToNat, Int.reduceLE, Int.reduceEq, Int.reduceLT, Int.reduceBEq, Int.reduceBNe]
    cases a2 : decide (1000000 < l[k])
    rotate_left
    · simp only [AW, Nat.reduceAdd, reduceCtorEq, Nat.reduceEqDiff, ↓reduceIte, Nat.reduceLT, Nat.reduceLeDiff, Nat.reduceSub, Nat.reducePow, Nat.reduceMul, Int.reduceToNat, Int.reduceLE, Int.reduceEq, Int.reduceLT, Int.reduceBEq, Int.reduceBNe]; rw [totalP, bad (by rw [decide_eq_true_eq] at a2; omega)]; rfl
    rw [decide_eq_false_iff_not] at a2
    have e1 : IntKind.wrap .i64 (sumL (l.take k) + l[k]) = sumL (l.take (k + 1)) := by
      rw [sumL_take l k hlt]; exact wrap_id ⟨by omega, by omega⟩
    simp only [wrap_succ hlt hlen, map_getD hlt, hlt, intP, e1, AW, Nat.reduceAdd, reduceCtorEq, Nat.reduceEqDiff, ↓reduceIte, Nat.reduceLT, Nat.reduceLeDiff, Nat.reduceSub, Nat.reducePow, Nat.reduceMul, Int.reduceToNat, Int.reduceLE, Int.reduceEq, Int.reduceLT, Int.reduceBEq, Int.reduceBNe]
    refine ⟨k + 1, ⟨hlt, fun j hj hjk => ?_, by rw [sumL_take l k hlt]; omega, by rw [sumL_take l k hlt]; omega⟩, ?_, by omega⟩
    · by_cases e : j = k
      · subst e; omega
      · exact h2 j hj (by omega)
    · simp only [LW, Nat.reduceMod, Nat.reduceDiv, AW, Nat.reduceAdd, reduceCtorEq, Nat.reduceEqDiff, ↓reduceIte, Nat.reduceLT, Nat.reduceLeDiff, Nat.reduceSub, Nat.reducePow, Nat.reduceMul, Int.reduceToNat, Int.reduceLE, Int.reduceEq, Int.reduceLT, Int.reduceBEq, Int.reduceBNe]
  · have d1 : decide ((k : Int) < l.length) = false := by simp; omega
    simp only [d1, AW, Nat.reduceAdd, reduceCtorEq, Nat.reduceEqDiff, ↓reduceIte, Nat.reduceLT, Nat.reduceLeDiff, Nat.reduceSub, Nat.reducePow, Nat.reduceMul, Int.reduceToNat, Int.reduceLE, Int.reduceEq, Int.reduceLT, Int.reduceBEq, Int.reduceBNe]
    obtain rfl : k = l.length := by omega
    have : numbersL l = true := by
      unfold numbersL; rw [List.all_eq_true]; intro x hx
      obtain ⟨j, hj, rfl⟩ := List.getElem_of_mem hx
      simp only [Bool.and_eq_true, decide_eq_true_eq]; exact h2 j hj (by omega)
    rw [totalP, this, List.take_length]; rfl


end Go.Proofs.Ytjobpjhmdbmdgaa
