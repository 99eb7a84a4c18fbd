/-
  The history of a city: its small functions, walked.
-/
import Derived.Test.YtjobpjhmdbmdgaaR4
import Derived.Test.YtjobpjhmdbmdgaaHa
namespace Go.Proofs.Ytjobpjhmdbmdgaa
open Go.RowKit
set_option linter.unusedVariables false
set_option linter.unusedSimpArgs false
set_option linter.unnecessarySimpa false

def numbersL (l : List Int) : Bool := l.all fun n => decide (0 ≤ n) && decide (n ≤ 1000000)
def few39L (l : List RideS) : Bool := decide (l.length ≤ 300) && l.all fun r => decide (r.legs.length ≤ 20) && decide (r.pauses.length ≤ 20)
def momentB (t : Int) : Bool := decide (0 ≤ t) && decide (t ≤ 4294943999)
def slotP (t : Int) : PV := .tup [intP (if momentB t then (t / 3600) % 168 else 0), intP (if momentB t then 0 else 1)]
set_option maxHeartbeats 1000000 in
theorem numbers_g (l : List Int) : Good Try.prog 28 [intsP l] (.sc (.bool (numbersL l))) := by
  refine .len (es := l.map intP) (by simp [intsP]) (fun hlen => ?_)
  rw [List.length_map] at hlen
  refine good28 (by simp) ?_
  simp only [ac28, intsP, AW, Nat.reduceAdd, reduceCtorEq, Nat.reduceEqDiff, ↓reduceIte, Nat.reduceLT, Nat.reduceLeDiff, Nat.reduceSub, Nat.reducePow, Nat.reduceMul, Int.reduceToNat, Int.reduceLE, Int.reduceEq, Int.reduceLT, Int.reduceBEq, Int.reduceBNe]
  refine run_loop (ι := Nat) (fun k => ⟨[(0, .sl (l.map intP)), (3, .sc (.int .i64 (k : Int)))], [], 2, 22⟩) (fun k => k ≤ l.length ∧ ∀ j (hj : j < l.length), j < k → 0 ≤ l[j] ∧ l[j] ≤ 1000000) (fun k => l.length - k) 2 (fun _ => rfl) 0 (by simp only [LW, Nat.reduceMod, Nat.reduceDiv, Int.natCast_zero, AW, Nat.reduceAdd, reduceCtorEq, Nat.reduceEqDiff, ↓reduceIte, Nat.reduceLT, Nat.reduceLeDiff, Nat.reduceSub, Nat.reducePow, Nat.reduceMul, Int.reduceToNat, Int.reduceLE, Int.reduceEq, Int.reduceLT, Int.reduceBEq, Int.reduceBNe]) ⟨Nat.zero_le _, nofun⟩ (fun k hk => ?_)
  obtain ⟨h1, h2⟩ := hk
  by_cases hlt : k < l.length
  · have d1 : decide ((k : Int) < l.length) = true := by simp [hlt]
    have bad : ¬ (0 ≤ l[k] ∧ l[k] ≤ 1000000) → numbersL l = false := fun h => by
      unfold numbersL; rw [List.all_eq_false]
      exact ⟨l[k], List.getElem_mem hlt, by simp only [Bool.and_eq_true, decide_eq_true_eq]; exact h⟩
    simp only [d1, map_getD hlt, hlt, intP, AW, Nat.reduceAdd, reduceCtorEq, Nat.reduceEqDiff, ↓reduceIte, Nat.reduceLT, Nat.reduceLeDiff, Nat.reduceSub, Nat.reducePow, Nat.reduceMul, Int.reduceToNat, Int.reduceLE, Int.reduceEq, Int.reduceLT, Int.reduceBEq, Int.reduceBNe]
    cases a1 : decide (l[k] < 0)
    rotate_left
    · simp only [AW, Nat.reduceAdd, reduceCtorEq, Nat.reduceEqDiff, ↓reduceIte, Nat.reduceLT, Nat.reduceLeDiff, Nat.reduceSub, Nat.reducePow, Nat.reduceMul, Int.reduceToNat, Int.reduceLE, Int.reduceEq, Int.reduceLT, Int.reduceBEq, Int.reduceBNe]; rw [bad (by rw [decide_eq_true_eq] at a1; omega)]
    rw [decide_eq_false_iff_not] at a1
    simp only [map_getD hlt, hlt, intP, AW, Nat.reduceAdd, reduceCtorEq, Nat.reduceEqDiff, ↓reduceIte, Nat.reduceLT, Nat.reduceLeDiff, Nat.reduceSub, Nat.reducePow, Nat.reduceMul, Int.reduceToNat, Int.reduceLE, Int.reduceEq, Int.reduceLT, Int.reduceBEq, Int.reduceBNe]
    cases a2 : decide (1000000 < l[k])
    rotate_left
    · simp only [AW, Nat.reduceAdd, reduceCtorEq, Nat.reduceEqDiff, ↓reduceIte, Nat.reduceLT, Nat.reduceLeDiff, Nat.reduceSub, Nat.reducePow, Nat.reduceMul, Int.reduceToNat, Int.reduceLE, Int.reduceEq, Int.reduceLT, Int.reduceBEq, Int.reduceBNe]; rw [bad (by rw [decide_eq_true_eq] at a2; omega)]
    rw [decide_eq_false_iff_not] at a2
    simp only [wrap_succ hlt hlen, AW, Nat.reduceAdd, reduceCtorEq, Nat.reduceEqDiff, ↓reduceIte, Nat.reduceLT, Nat.reduceLeDiff, Nat.reduceSub, Nat.reducePow, Nat.reduceMul, Int.reduceToNat, Int.reduceLE, Int.reduceEq, Int.reduceLT, Int.reduceBEq, Int.reduceBNe]
    refine ⟨k + 1, ⟨hlt, fun j hj hjk => ?_⟩, ?_, by omega⟩
    · by_cases e : j = k
      · subst e; omega
      · exact h2 j hj (by omega)
    · simp only [LW, Nat.reduceMod, Nat.reduceDiv, AW, Nat.reduceAdd, reduceCtorEq, Nat.reduceEqDiff, ↓reduceIte, Nat.reduceLT, Nat.reduceLeDiff, Nat.reduceSub, Nat.reducePow, Nat.reduceMul, Int.reduceToNat, Int.reduceLE, Int.reduceEq, Int.reduceLT, Int.reduceBEq, Int.reduceBNe]
  · have d1 : decide ((k : Int) < l.length) = false := by simp; omega
    simp only [d1, AW, Nat.reduceAdd, reduceCtorEq, Nat.reduceEqDiff, ↓reduceIte, Nat.reduceLT, Nat.reduceLeDiff, Nat.reduceSub, Nat.reducePow, Nat.reduceMul, Int.reduceToNat, Int.reduceLE, Int.reduceEq, Int.reduceLT, Int.reduceBEq, Int.reduceBNe]
    have : numbersL l = true := by
      unfold numbersL; rw [List.all_eq_true]; intro x hx
      obtain ⟨j, hj, rfl⟩ := List.getElem_of_mem hx
      simp only [Bool.and_eq_true, decide_eq_true_eq]; exact h2 j hj (by omega)
    rw [this]
set_option maxHeartbeats 1000000 in
theorem sameI_g (l m : List Int) : Good Try.prog 33 [intsP l, intsP m] (.sc (.bool (decide (l = m)))) := by
  refine .len (es := l.map intP) (by simp [intsP]) (fun hlen => ?_)
  rw [List.length_map] at hlen
  refine good33 (by simp) ?_
  by_cases he : l.length = m.length
  · have d0 : ((l.length : Int) != m.length) = false := by simp [he]
    simp only [ac33, intsP, d0, AW, Nat.reduceAdd, reduceCtorEq, Nat.reduceEqDiff, ↓reduceIte, Nat.reduceLT, Nat.reduceLeDiff, Nat.reduceSub, Nat.reducePow, Nat.reduceMul, Int.reduceToNat, Int.reduceLE, Int.reduceEq, Int.reduceLT, Int.reduceBEq, Int.reduceBNe]
    refine run_loop (ι := Nat) (fun k => ⟨[(0, .sl (l.map intP)), (1, .sl (m.map intP)), (5, .sc (.int .i64 (k : Int)))], [], 7, 26⟩) (fun k => k ≤ l.length ∧ ∀ j (hj : j < l.length), j < k → l[j] = m[j]'(by omega)) (fun k => l.length - k) 7 (fun _ => rfl) 0 (by simp only [LW, Nat.reduceMod, Nat.reduceDiv, Int.natCast_zero, AW, Nat.reduceAdd, reduceCtorEq, Nat.reduceEqDiff, ↓reduceIte, Nat.reduceLT, Nat.reduceLeDiff, Nat.reduceSub, Nat.reducePow, Nat.reduceMul, Int.reduceToNat, Int.reduceLE, Int.reduceEq, Int.reduceLT, Int.reduceBEq, Int.reduceBNe]) ⟨Nat.zero_le _, nofun⟩ (fun k hk => ?_)
    obtain ⟨h1, h2⟩ := hk
    by_cases hlt : k < l.length
    · have hlt2 : k < m.length := by omega
      have d1 : decide ((k : Int) < l.length) = true := by simp [hlt]
      simp only [d1, map_getD hlt, map_getD hlt2, hlt, hlt2, intP, AW, Nat.reduceAdd, reduceCtorEq, Nat.reduceEqDiff, ↓reduceIte, Nat.reduceLT, Nat.reduceLeDiff, Nat.reduceSub, Nat.reducePow, Nat.reduceMul, Int.reduceToNat, Int.reduceLE, Int.reduceEq, Int.reduceLT, Int.reduceBEq, Int.reduceBNe]
      cases hs : (l[k] != m[k])
      · refine ⟨rfl, ?_⟩; simp only [wrap_succ hlt hlen, AW, Nat.reduceAdd, reduceCtorEq, Nat.reduceEqDiff, ↓reduceIte, Nat.reduceLT, Nat.reduceLeDiff, Nat.reduceSub, Nat.reducePow, Nat.reduceMul, Int.reduceToNat, Int.reduceLE, Int.reduceEq, Int.reduceLT, Int.reduceBEq, Int.reduceBNe]
        refine ⟨k + 1, ⟨hlt, fun j hj hjk => ?_⟩, ?_, by omega⟩
        · by_cases e : j = k
          · subst e; simpa using hs
          · exact h2 j hj (by omega)
        · simp only [LW, Nat.reduceMod, Nat.reduceDiv, AW, Nat.reduceAdd, reduceCtorEq, Nat.reduceEqDiff, ↓reduceIte, Nat.reduceLT, Nat.reduceLeDiff, Nat.reduceSub, Nat.reducePow, Nat.reduceMul, Int.reduceToNat, Int.reduceLE, Int.reduceEq, Int.reduceLT, Int.reduceBEq, Int.reduceBNe]
      · refine ⟨rfl, ?_⟩; simp only [AW, Nat.reduceAdd, reduceCtorEq, Nat.reduceEqDiff, ↓reduceIte, Nat.reduceLT, Nat.reduceLeDiff, Nat.reduceSub, Nat.reducePow, Nat.reduceMul, Int.reduceToNat, Int.reduceLE, Int.reduceEq, Int.reduceLT, Int.reduceBEq, Int.reduceBNe]
        have : decide (l = m) = false := by
          rw [decide_eq_false_iff_not]; intro e; subst e; simp at hs
        rw [this]
    · have d1 : decide ((k : Int) < l.length) = false := by simp; omega
      simp only [d1, AW, Nat.reduceAdd, reduceCtorEq, Nat.reduceEqDiff, ↓reduceIte, Nat.reduceLT, Nat.reduceLeDiff, Nat.reduceSub, Nat.reducePow, Nat.reduceMul, Int.reduceToNat, Int.reduceLE, Int.reduceEq, Int.reduceLT, Int.reduceBEq, Int.reduceBNe]
      have : l = m := List.ext_getElem he (fun j hj _ => h2 j hj (by omega))
      subst this; simp
  · have d0 : ((l.length : Int) != m.length) = true := by simp; omega
    simp only [ac33, intsP, d0, AW, Nat.reduceAdd, reduceCtorEq, Nat.reduceEqDiff, ↓reduceIte, Nat.reduceLT, Nat.reduceLeDiff, Nat.reduceSub, Nat.reducePow, Nat.reduceMul, Int.reduceToNat, Int.reduceLE, Int.reduceEq, Int.reduceLT, Int.reduceBEq, Int.reduceBNe]
    have : decide (l = m) = false := by
      rw [decide_eq_false_iff_not]; intro e; subst e; exact he rfl
    rw [this]
theorem moment_g (t : Int) : Good Try.prog 48 [intP t] (.sc (.bool (momentB t))) := by
  refine good48 (by simp) ?_
  simp only [ac48, intP, AW, Nat.reduceAdd, reduceCtorEq, Nat.reduceEqDiff, ↓reduceIte, Nat.reduceLT, Nat.reduceLeDiff, Nat.reduceSub, Nat.reducePow, Nat.reduceMul, Int.reduceToNat, Int.reduceLE, Int.reduceEq, Int.reduceLT, Int.reduceBEq, Int.reduceBNe]
  cases h1 : decide (0 ≤ t)
  · simp only [AW, Nat.reduceAdd, reduceCtorEq, Nat.reduceEqDiff, ↓reduceIte, Nat.reduceLT, Nat.reduceLeDiff, Nat.reduceSub, Nat.reducePow, Nat.reduceMul, Int.reduceToNat, Int.reduceLE, Int.reduceEq, Int.reduceLT, Int.reduceBEq, Int.reduceBNe]; simp [momentB, h1]
  simp only [AW, Nat.reduceAdd, reduceCtorEq, Nat.reduceEqDiff, ↓reduceIte, Nat.reduceLT, Nat.reduceLeDiff, Nat.reduceSub, Nat.reducePow, Nat.reduceMul, Int.reduceToNat, Int.reduceLE, Int.reduceEq, Int.reduceLT, Int.reduceBEq, Int.reduceBNe]
  simp [momentB, h1]
theorem quo_id {t c : Int} (h0 : 0 ≤ t) (h1 : t ≤ 4294943999) (hc : 0 < c) : IntKind.wrap .i64 (t.tdiv c) = t / c := by
  rw [Int.tdiv_eq_ediv_of_nonneg h0]
  have a1 : 0 ≤ t / c := Int.ediv_nonneg h0 (by omega)
  have a2 : t / c ≤ t := Int.ediv_le_self _ h0
  exact wrap_id ⟨by omega, by omega⟩
theorem rslot_g (t : Int) : Good Try.prog 43 [intP t] (slotP t) := by
  refine good43 (by simp) ?_
  simp only [ac43, intP, AW, Nat.reduceAdd, reduceCtorEq, Nat.reduceEqDiff, ↓reduceIte, Nat.reduceLT, Nat.reduceLeDiff, Nat.reduceSub, Nat.reducePow, Nat.reduceMul, Int.reduceToNat, Int.reduceLE, Int.reduceEq, Int.reduceLT, Int.reduceBEq, Int.reduceBNe]
  refine ops_call (moment_g t) (by simp only [intP, AW, Nat.reduceAdd, reduceCtorEq, Nat.reduceEqDiff, ↓reduceIte, Nat.reduceLT, Nat.reduceLeDiff, Nat.reduceSub, Nat.reducePow, Nat.reduceMul, Int.reduceToNat, Int.reduceLE, Int.reduceEq, Int.reduceLT, Int.reduceBEq, Int.reduceBNe]) ?_; simp only [intP, AW, Nat.reduceAdd, reduceCtorEq, Nat.reduceEqDiff, ↓reduceIte, Nat.reduceLT, Nat.reduceLeDiff, Nat.reduceSub, Nat.reducePow, Nat.reduceMul, Int.reduceToNat, Int.reduceLE, Int.reduceEq, Int.reduceLT, Int.reduceBEq, Int.reduceBNe]
  cases h : momentB t
  · simp only [AW, Nat.reduceAdd, reduceCtorEq, Nat.reduceEqDiff, ↓reduceIte, Nat.reduceLT, Nat.reduceLeDiff, Nat.reduceSub, Nat.reducePow, Nat.reduceMul, Int.reduceToNat, Int.reduceLE, Int.reduceEq, Int.reduceLT, Int.reduceBEq, Int.reduceBNe]; simp [slotP, h, intP]
  have hm : 0 ≤ t ∧ t ≤ 4294943999 := by simpa [momentB] using h
  have e1 : (t / 3600).tmod 168 = (t / 3600) % 168 := Int.tmod_eq_emod_of_nonneg (Int.ediv_nonneg hm.1 (by omega))
  simp only [quo_id hm.1 hm.2 (show (0 : Int) < 3600 by omega), e1, slotP, h, intP, AW, Nat.reduceAdd, reduceCtorEq, Nat.reduceEqDiff, ↓reduceIte, Nat.reduceLT, Nat.reduceLeDiff, Nat.reduceSub, Nat.reducePow, Nat.reduceMul, Int.reduceToNat, Int.reduceLE, Int.reduceEq, Int.reduceLT, Int.reduceBEq, Int.reduceBNe]
theorem qslot_g (t : Int) : Good Try.prog 32 [intP t] (slotP t) := by
  refine good32 (by simp) ?_
  simp only [ac32, intP, AW, Nat.reduceAdd, reduceCtorEq, Nat.reduceEqDiff, ↓reduceIte, Nat.reduceLT, Nat.reduceLeDiff, Nat.reduceSub, Nat.reducePow, Nat.reduceMul, Int.reduceToNat, Int.reduceLE, Int.reduceEq, Int.reduceLT, Int.reduceBEq, Int.reduceBNe]
  cases h1 : decide (t < 0)
  rotate_left
  · simp only [AW, Nat.reduceAdd, reduceCtorEq, Nat.reduceEqDiff, ↓reduceIte, Nat.reduceLT, Nat.reduceLeDiff, Nat.reduceSub, Nat.reducePow, Nat.reduceMul, Int.reduceToNat, Int.reduceLE, Int.reduceEq, Int.reduceLT, Int.reduceBEq, Int.reduceBNe]
    have h : momentB t = false := by rw [decide_eq_true_eq] at h1; simp [momentB]; omega
    simp [slotP, h, intP]
  simp only [AW, Nat.reduceAdd, reduceCtorEq, Nat.reduceEqDiff, ↓reduceIte, Nat.reduceLT, Nat.reduceLeDiff, Nat.reduceSub, Nat.reducePow, Nat.reduceMul, Int.reduceToNat, Int.reduceLE, Int.reduceEq, Int.reduceLT, Int.reduceBEq, Int.reduceBNe]
  cases h2 : decide (4294943999 < t)
  rotate_left
  · simp only [AW, Nat.reduceAdd, reduceCtorEq, Nat.reduceEqDiff, ↓reduceIte, Nat.reduceLT, Nat.reduceLeDiff, Nat.reduceSub, Nat.reducePow, Nat.reduceMul, Int.reduceToNat, Int.reduceLE, Int.reduceEq, Int.reduceLT, Int.reduceBEq, Int.reduceBNe]
    have h : momentB t = false := by rw [decide_eq_true_eq] at h2; simp [momentB]; omega
    simp [slotP, h, intP]
  rw [decide_eq_false_iff_not] at h1 h2
  have h : momentB t = true := by simp [momentB]; omega
  have e1 : (t / 86400).tmod 7 = (t / 86400) % 7 := Int.tmod_eq_emod_of_nonneg (Int.ediv_nonneg (by omega) (by omega))
  have e2 : t.tmod 86400 = t % 86400 := Int.tmod_eq_emod_of_nonneg (by omega)
  have e3 : IntKind.wrap .i64 ((t % 86400).tdiv 3600) = (t % 86400) / 3600 := quo_id (by omega) (by omega) (by omega)
  have e4 : IntKind.wrap .i64 ((t / 86400) % 7 * 24) = (t / 86400) % 7 * 24 := wrap_id ⟨by omega, by omega⟩
  have e5 : IntKind.wrap .i64 ((t / 86400) % 7 * 24 + (t % 86400) / 3600) = (t / 3600) % 168 := by
    rw [wrap_id ⟨by omega, by omega⟩]; omega
  simp only [quo_id (show 0 ≤ t by omega) (show t ≤ 4294943999 by omega) (show (0 : Int) < 86400 by omega), e1, e2, e3, e4, e5, slotP, h, intP, AW, Nat.reduceAdd, reduceCtorEq, Nat.reduceEqDiff, ↓reduceIte, Nat.reduceLT, Nat.reduceLeDiff, Nat.reduceSub, Nat.reducePow, Nat.reduceMul, Int.reduceToNat, Int.reduceLE, Int.reduceEq, Int.reduceLT, Int.reduceBEq, Int.reduceBNe]


end Go.Proofs.Ytjobpjhmdbmdgaa
