/-
  Wear: the program's check of a description.
-/
import Derived.Test.YthgnbkcopapbmaaI7
namespace Go.Proofs.Ythgnbkcopapbmaa
open Go.RowKit
open Nat (reduceAdd reduceEqDiff reduceLT reduceLeDiff reduceSub reducePow reduceMul)
open Int (reduceToNat reduceLE reduceEq)
set_option linter.unusedVariables false
set_option linter.unusedSimpArgs false
set_option linter.unnecessarySimpa false


theorem okN_no {x : Int} (h : okN x = false) : x < 0 ∨ 1000000 < x := by
  simp only [okN, Bool.and_eq_false_iff, decide_eq_false_iff_not] at h; omega
set_option maxHeartbeats 2000000 in
theorem wearC_g (w : WearS) : Good Try.prog 31 [w.pv] (intP (wearC w)) := by
  refine good31 (by simp) ?_
  simp only [ac31, WearS.pv, intP, AW, reduceAdd, reduceCtorEq, reduceEqDiff, ↓reduceIte, reduceLT, reduceLeDiff, reduceSub, reducePow, reduceMul, reduceToNat, reduceLE, reduceEq, Int.reduceLT, Int.reduceBEq, Int.reduceBNe]
  cases c0 : ((w.hour.length : Int) != (w.ride.length : Int))
  rotate_left
  · (try simp only [AW, reduceAdd, reduceCtorEq, reduceEqDiff, ↓reduceIte, reduceLT, reduceLeDiff, reduceSub, reducePow, reduceMul, reduceToNat, reduceLE, reduceEq, Int.reduceLT, Int.reduceBEq, Int.reduceBNe])
    rw [wearC_form (by have : w.hour.length ≠ w.ride.length := by rw [bne_iff_ne] at c0; omega
                       omega)]
  (try simp only [AW, reduceAdd, reduceCtorEq, reduceEqDiff, ↓reduceIte, reduceLT, reduceLeDiff, reduceSub, reducePow, reduceMul, reduceToNat, reduceLE, reduceEq, Int.reduceLT, Int.reduceBEq, Int.reduceBNe])
  have n0 : ¬ (w.hour.length ≠ w.ride.length) := by rw [bne_eq_false_iff_eq] at c0; omega
  cases c1 : decide ((w.hour.length : Int) < 1)
  rotate_left
  · (try simp only [AW, reduceAdd, reduceCtorEq, reduceEqDiff, ↓reduceIte, reduceLT, reduceLeDiff, reduceSub, reducePow, reduceMul, reduceToNat, reduceLE, reduceEq, Int.reduceLT, Int.reduceBEq, Int.reduceBNe])
    rw [wearC_form (by have : w.hour.length < 1 := by rw [decide_eq_true_eq] at c1; omega
                       omega)]
  (try simp only [AW, reduceAdd, reduceCtorEq, reduceEqDiff, ↓reduceIte, reduceLT, reduceLeDiff, reduceSub, reducePow, reduceMul, reduceToNat, reduceLE, reduceEq, Int.reduceLT, Int.reduceBEq, Int.reduceBNe])
  have n1 : ¬ (w.hour.length < 1) := by rw [decide_eq_false_iff_not] at c1; omega
  cases c2 : decide (8 < (w.hour.length : Int))
  rotate_left
  · (try simp only [AW, reduceAdd, reduceCtorEq, reduceEqDiff, ↓reduceIte, reduceLT, reduceLeDiff, reduceSub, reducePow, reduceMul, reduceToNat, reduceLE, reduceEq, Int.reduceLT, Int.reduceBEq, Int.reduceBNe])
    rw [wearC_form (by have : 8 < w.hour.length := by rw [decide_eq_true_eq] at c2; omega
                       omega)]
  (try simp only [AW, reduceAdd, reduceCtorEq, reduceEqDiff, ↓reduceIte, reduceLT, reduceLeDiff, reduceSub, reducePow, reduceMul, reduceToNat, reduceLE, reduceEq, Int.reduceLT, Int.reduceBEq, Int.reduceBNe])
  have n2 : ¬ (8 < w.hour.length) := by rw [decide_eq_false_iff_not] at c2; omega
  have w0 : ¬(w.hour.length ≠ w.ride.length ∨ w.hour.length < 1 ∨ 8 < w.hour.length) := by omega
  have ht : totL [w.hour, w.ride] [w.hour, w.ride].length = w.hour.length + w.ride.length := by simp [totL]
  refine ops_call (concat_g [w.hour, w.ride] (by rw [ht]; omega) (by rw [ht]; omega) (by simp)) (by simp only [List.map_cons, List.map_nil, intsP, AW, reduceAdd, reduceCtorEq, reduceEqDiff, ↓reduceIte, reduceLT, reduceLeDiff, reduceSub, reducePow, reduceMul, reduceToNat, reduceLE, reduceEq, Int.reduceLT, Int.reduceBEq, Int.reduceBNe]) ?_; simp only [List.map_cons, List.map_nil, intsP, AW, reduceAdd, reduceCtorEq, reduceEqDiff, ↓reduceIte, reduceLT, reduceLeDiff, reduceSub, reducePow, reduceMul, reduceToNat, reduceLE, reduceEq, Int.reduceLT, Int.reduceBEq, Int.reduceBNe]
  generalize hm : [w.hour, w.ride].flatten = m
  have hm' : m = w.hour ++ w.ride := by rw [← hm]; simp
  have hl : m.length ≤ 16 := by rw [hm', List.length_append]; omega
  have hlen : m.length ≤ maxLen := by unfold maxLen; omega
  have hb : ∀ x ∈ m, okN x = false → wearC w = 1 := fun x hx h => wearC_bad w0 (fun hh => by
    rw [hm'] at hx
    rcases List.mem_append.1 hx with h1 | h1
    · have := List.all_eq_true.1 hh.1 x h1; rw [h] at this; cases this
    · have := List.all_eq_true.1 hh.2 x h1; rw [h] at this; cases this)
  refine run_loop (ι := Nat) (fun k => ⟨[(29, .sl (m.map intP)), (30, .sc (.int .i64 (m.length : Int))), (31, .sc (.int .i64 (k : Int)))], [(0, .var [.sl (w.hour.map intP), .sl (w.ride.map intP)]), (25, .frz 0 [.sl (w.hour.map intP), .sl (w.ride.map intP)])], 29, 42⟩) (fun k => k ≤ m.length ∧ (∀ j (hj : j < m.length), j < k → okN m[j] = true)) (fun k => m.length - k) 29 (fun _ => rfl) 0 (by simp only [LW, Nat.reduceMod, Nat.reduceDiv, Int.natCast_zero, AW, reduceAdd, reduceCtorEq, reduceEqDiff, ↓reduceIte, reduceLT, reduceLeDiff, reduceSub, reducePow, reduceMul, reduceToNat, reduceLE, reduceEq, Int.reduceLT, Int.reduceBEq, Int.reduceBNe]) ⟨Nat.zero_le _, fun j _ h => absurd h (Nat.not_lt_zero _)⟩ (fun k hk => ?_)
  obtain ⟨gk, ik⟩ := hk
  by_cases hltk : k < m.length
  rotate_left
  · have dk : decide ((k : Int) < ((m.length : Nat) : Int)) = false := by rw [decide_eq_false_iff_not]; exact fun h => hltk (Int.ofNat_lt.1 h)
    have ek : k = m.length := Nat.le_antisymm gk (Nat.le_of_not_lt hltk)
    subst ek
    simp only [dk, AW, reduceAdd, reduceCtorEq, reduceEqDiff, ↓reduceIte, reduceLT, reduceLeDiff, reduceSub, reducePow, reduceMul, reduceToNat, reduceLE, reduceEq, Int.reduceLT, Int.reduceBEq, Int.reduceBNe]
    have ha : ∀ x ∈ m, okN x = true := fun x hx => by
      obtain ⟨j, hj, rfl⟩ := List.mem_iff_getElem.1 hx
      exact ik j hj hj
    rw [hm'] at ha
    rw [wearC_ok w0 ⟨List.all_eq_true.2 fun x hx => ha x (List.mem_append_left _ hx), List.all_eq_true.2 fun x hx => ha x (List.mem_append_right _ hx)⟩]
  have dk : decide ((k : Int) < ((m.length : Nat) : Int)) = true := by rw [decide_eq_true_eq]; exact Int.ofNat_lt.2 hltk
  simp only [dk, map_getD hltk, hltk, intP, AW, reduceAdd, reduceCtorEq, reduceEqDiff, ↓reduceIte, reduceLT, reduceLeDiff, reduceSub, reducePow, reduceMul, reduceToNat, reduceLE, reduceEq, Int.reduceLT, Int.reduceBEq, Int.reduceBNe]
  cases d0 : decide (m[k] < 0)
  rotate_left
  · (try simp only [AW, reduceAdd, reduceCtorEq, reduceEqDiff, ↓reduceIte, reduceLT, reduceLeDiff, reduceSub, reducePow, reduceMul, reduceToNat, reduceLE, reduceEq, Int.reduceLT, Int.reduceBEq, Int.reduceBNe])
    rw [hb _ (List.getElem_mem hltk) (by rw [decide_eq_true_eq] at d0; simp only [okN, Bool.and_eq_false_iff, decide_eq_false_iff_not]; omega)]
  (try simp only [AW, reduceAdd, reduceCtorEq, reduceEqDiff, ↓reduceIte, reduceLT, reduceLeDiff, reduceSub, reducePow, reduceMul, reduceToNat, reduceLE, reduceEq, Int.reduceLT, Int.reduceBEq, Int.reduceBNe])
  cases d1 : decide (1000000 < m[k])
  rotate_left
  · (try simp only [AW, reduceAdd, reduceCtorEq, reduceEqDiff, ↓reduceIte, reduceLT, reduceLeDiff, reduceSub, reducePow, reduceMul, reduceToNat, reduceLE, reduceEq, Int.reduceLT, Int.reduceBEq, Int.reduceBNe])
    rw [hb _ (List.getElem_mem hltk) (by rw [decide_eq_true_eq] at d1; simp only [okN, Bool.and_eq_false_iff, decide_eq_false_iff_not]; omega)]
  (try simp only [AW, reduceAdd, reduceCtorEq, reduceEqDiff, ↓reduceIte, reduceLT, reduceLeDiff, reduceSub, reducePow, reduceMul, reduceToNat, reduceLE, reduceEq, Int.reduceLT, Int.reduceBEq, Int.reduceBNe])
  rw [decide_eq_false_iff_not] at d0 d1
  (try refine drawnK rfl ?_); (try simp only [wrap_succ hltk hlen, AW, reduceAdd, reduceCtorEq, reduceEqDiff, ↓reduceIte, reduceLT, reduceLeDiff, reduceSub, reducePow, reduceMul, reduceToNat, reduceLE, reduceEq, Int.reduceLT, Int.reduceBEq, Int.reduceBNe])
  refine ⟨k + 1, ⟨hltk, step_all (p := fun x => okN x = true) hltk ik (by simp only [okN, Bool.and_eq_true, decide_eq_true_eq]; omega)⟩, ?_, meas_lt hltk⟩
  simp only [LW, Nat.reduceMod, Nat.reduceDiv, AW, reduceAdd, reduceCtorEq, reduceEqDiff, ↓reduceIte, reduceLT, reduceLeDiff, reduceSub, reducePow, reduceMul, reduceToNat, reduceLE, reduceEq, Int.reduceLT, Int.reduceBEq, Int.reduceBNe]


end Go.Proofs.Ythgnbkcopapbmaa
