/-
  Wear: the errors of a question, and of the description.
-/
import Derived.Test.YthgnbkcopapbmaaI5
namespace Go.Proofs.Ythgnbkcopapbmaa
open Go.RowKit
open Nat (reduceAdd reduceEqDiff reduceLT reduceLeDiff reduceSub reducePow reduceMul)
open Int (reduceToNat reduceLE reduceEq)
set_option linter.unusedVariables false
set_option linter.unusedSimpArgs false
set_option linter.unnecessarySimpa false


def okN (x : Int) : Bool := decide (0 ≤ x) && decide (x ≤ 1000000)
def wearC (w : WearS) : Int := if w.hour.length ≠ w.ride.length ∨ w.hour.length < 1 ∨ 8 < w.hour.length then 3 else if w.hour.all okN = true ∧ w.ride.all okN = true then 0 else 1
set_option maxHeartbeats 2000000 in
theorem win_g (rs : List RideS) (b f t : Int) : Good Try.prog 32 [.sl (rs.map RideS.pv), intP b, .agg [intP f, intP t]] (intP (winE b f t rs)) := by
  refine .len (es := rs.map RideS.pv) (by simp) (fun hlen => ?_)
  rw [List.length_map] at hlen
  refine good32 (by simp) ?_
  simp only [ac32, intP, AW, reduceAdd, reduceCtorEq, reduceEqDiff, ↓reduceIte, reduceLT, reduceLeDiff, reduceSub, reducePow, reduceMul, reduceToNat, reduceLE, reduceEq, Int.reduceLT, Int.reduceBEq, Int.reduceBNe]
  cases c0 : decide (b < 0)
  rotate_left
  · (try simp only [AW, reduceAdd, reduceCtorEq, reduceEqDiff, ↓reduceIte, reduceLT, reduceLeDiff, reduceSub, reducePow, reduceMul, reduceToNat, reduceLE, reduceEq, Int.reduceLT, Int.reduceBEq, Int.reduceBNe])
    have e : winE b f t rs = 1 := by rw [decide_eq_true_eq] at c0; unfold winE; rw [if_pos (by omega)]
    rw [e]
  (try simp only [AW, reduceAdd, reduceCtorEq, reduceEqDiff, ↓reduceIte, reduceLT, reduceLeDiff, reduceSub, reducePow, reduceMul, reduceToNat, reduceLE, reduceEq, Int.reduceLT, Int.reduceBEq, Int.reduceBNe])
  rw [decide_eq_false_iff_not] at c0
  cases c1 : decide (128 ≤ b)
  rotate_left
  · (try simp only [AW, reduceAdd, reduceCtorEq, reduceEqDiff, ↓reduceIte, reduceLT, reduceLeDiff, reduceSub, reducePow, reduceMul, reduceToNat, reduceLE, reduceEq, Int.reduceLT, Int.reduceBEq, Int.reduceBNe])
    have e : winE b f t rs = 1 := by rw [decide_eq_true_eq] at c1; unfold winE; rw [if_pos (by omega)]
    rw [e]
  (try simp only [AW, reduceAdd, reduceCtorEq, reduceEqDiff, ↓reduceIte, reduceLT, reduceLeDiff, reduceSub, reducePow, reduceMul, reduceToNat, reduceLE, reduceEq, Int.reduceLT, Int.reduceBEq, Int.reduceBNe])
  rw [decide_eq_false_iff_not] at c1
  cases c2 : decide (f < 0)
  rotate_left
  · (try simp only [AW, reduceAdd, reduceCtorEq, reduceEqDiff, ↓reduceIte, reduceLT, reduceLeDiff, reduceSub, reducePow, reduceMul, reduceToNat, reduceLE, reduceEq, Int.reduceLT, Int.reduceBEq, Int.reduceBNe])
    have e : winE b f t rs = 1 := by rw [decide_eq_true_eq] at c2; unfold winE; rw [if_pos (by omega)]
    rw [e]
  (try simp only [AW, reduceAdd, reduceCtorEq, reduceEqDiff, ↓reduceIte, reduceLT, reduceLeDiff, reduceSub, reducePow, reduceMul, reduceToNat, reduceLE, reduceEq, Int.reduceLT, Int.reduceBEq, Int.reduceBNe])
  rw [decide_eq_false_iff_not] at c2
  cases c3 : decide (t < f)
  rotate_left
  · (try simp only [AW, reduceAdd, reduceCtorEq, reduceEqDiff, ↓reduceIte, reduceLT, reduceLeDiff, reduceSub, reducePow, reduceMul, reduceToNat, reduceLE, reduceEq, Int.reduceLT, Int.reduceBEq, Int.reduceBNe])
    have e : winE b f t rs = 1 := by rw [decide_eq_true_eq] at c3; unfold winE; rw [if_pos (by omega)]
    rw [e]
  (try simp only [AW, reduceAdd, reduceCtorEq, reduceEqDiff, ↓reduceIte, reduceLT, reduceLeDiff, reduceSub, reducePow, reduceMul, reduceToNat, reduceLE, reduceEq, Int.reduceLT, Int.reduceBEq, Int.reduceBNe])
  rw [decide_eq_false_iff_not] at c3
  cases c4 : decide (4294944000 < t)
  rotate_left
  · (try simp only [AW, reduceAdd, reduceCtorEq, reduceEqDiff, ↓reduceIte, reduceLT, reduceLeDiff, reduceSub, reducePow, reduceMul, reduceToNat, reduceLE, reduceEq, Int.reduceLT, Int.reduceBEq, Int.reduceBNe])
    have e : winE b f t rs = 1 := by rw [decide_eq_true_eq] at c4; unfold winE; rw [if_pos (by omega)]
    rw [e]
  (try simp only [AW, reduceAdd, reduceCtorEq, reduceEqDiff, ↓reduceIte, reduceLT, reduceLeDiff, reduceSub, reducePow, reduceMul, reduceToNat, reduceLE, reduceEq, Int.reduceLT, Int.reduceBEq, Int.reduceBNe])
  rw [decide_eq_false_iff_not] at c4
  have w0 : ¬ (b < 0 ∨ 128 ≤ b ∨ f < 0 ∨ t < f ∨ 4294944000 < t) := by omega
  cases c5 : decide (256 < (rs.length : Int))
  rotate_left
  · (try simp only [AW, reduceAdd, reduceCtorEq, reduceEqDiff, ↓reduceIte, reduceLT, reduceLeDiff, reduceSub, reducePow, reduceMul, reduceToNat, reduceLE, reduceEq, Int.reduceLT, Int.reduceBEq, Int.reduceBNe])
    have e : winE b f t rs = 8 := by rw [decide_eq_true_eq] at c5; unfold winE; rw [if_neg w0, if_pos (by omega)]
    rw [e]
  (try simp only [AW, reduceAdd, reduceCtorEq, reduceEqDiff, ↓reduceIte, reduceLT, reduceLeDiff, reduceSub, reducePow, reduceMul, reduceToNat, reduceLE, reduceEq, Int.reduceLT, Int.reduceBEq, Int.reduceBNe])
  rw [decide_eq_false_iff_not] at c5
  have w1 : ¬ (256 < rs.length) := by omega
  refine run_loop (ι := Nat) (fun k => ⟨[(36, .sl (rs.map RideS.pv)), (37, .sc (.int .i64 (rs.length : Int))), (38, .sc (.int .i64 (k : Int)))], [(0, .var [.sc (.int .i64 f), .sc (.int .i64 t)])], 31, 48⟩) (fun k => k ≤ rs.length ∧ (∀ j (hj : j < rs.length), j < k → checkL rs[j] = 0)) (fun k => rs.length - k) 31 (fun _ => rfl) 0 (by simp only [LW, Nat.reduceMod, Nat.reduceDiv, Int.natCast_zero, AW, reduceAdd, reduceCtorEq, reduceEqDiff, ↓reduceIte, reduceLT, reduceLeDiff, reduceSub, reducePow, reduceMul, reduceToNat, reduceLE, reduceEq, Int.reduceLT, Int.reduceBEq, Int.reduceBNe]) ⟨Nat.zero_le _, fun j _ h => absurd h (Nat.not_lt_zero _)⟩ (fun k hk => ?_)
  obtain ⟨gk, ik⟩ := hk
  by_cases hltk : k < rs.length
  rotate_left
  · have dk : decide ((k : Int) < ((rs.length : Nat) : Int)) = false := by rw [decide_eq_false_iff_not]; exact fun h => hltk (Int.ofNat_lt.1 h)
    have ek : k = rs.length := Nat.le_antisymm gk (Nat.le_of_not_lt hltk)
    subst ek
    simp only [dk, AW, reduceAdd, reduceCtorEq, reduceEqDiff, ↓reduceIte, reduceLT, reduceLeDiff, reduceSub, reducePow, reduceMul, reduceToNat, reduceLE, reduceEq, Int.reduceLT, Int.reduceBEq, Int.reduceBNe]
    have e : winE b f t rs = 0 := by unfold winE; rw [if_neg w0, if_neg w1]; exact firstE_none fun j hj => ik j hj hj
    rw [e]
  have dk : decide ((k : Int) < ((rs.length : Nat) : Int)) = true := by rw [decide_eq_true_eq]; exact Int.ofNat_lt.2 hltk
  simp only [dk, map_getD hltk, hltk, RideS.pv, AW, reduceAdd, reduceCtorEq, reduceEqDiff, ↓reduceIte, reduceLT, reduceLeDiff, reduceSub, reducePow, reduceMul, reduceToNat, reduceLE, reduceEq, Int.reduceLT, Int.reduceBEq, Int.reduceBNe]
  refine ops_call (rcheck_g rs[k]) (by simp only [RideS.pv, AW, reduceAdd, reduceCtorEq, reduceEqDiff, ↓reduceIte, reduceLT, reduceLeDiff, reduceSub, reducePow, reduceMul, reduceToNat, reduceLE, reduceEq, Int.reduceLT, Int.reduceBEq, Int.reduceBNe]) ?_; simp only [RideS.pv, AW, reduceAdd, reduceCtorEq, reduceEqDiff, ↓reduceIte, reduceLT, reduceLeDiff, reduceSub, reducePow, reduceMul, reduceToNat, reduceLE, reduceEq, Int.reduceLT, Int.reduceBEq, Int.reduceBNe]
  cases ce : (checkL rs[k] != 0)
  · have ce' : checkL rs[k] = 0 := by simpa using ce
    (try simp only [ce', wrap_succ hltk hlen, AW, reduceAdd, reduceCtorEq, reduceEqDiff, ↓reduceIte, reduceLT, reduceLeDiff, reduceSub, reducePow, reduceMul, reduceToNat, reduceLE, reduceEq, Int.reduceLT, Int.reduceBEq, Int.reduceBNe])
    refine ⟨k + 1, ⟨hltk, step_all (p := fun r => checkL r = 0) hltk ik ce'⟩, ?_, meas_lt hltk⟩
    simp only [LW, Nat.reduceMod, Nat.reduceDiv, AW, reduceAdd, reduceCtorEq, reduceEqDiff, ↓reduceIte, reduceLT, reduceLeDiff, reduceSub, reducePow, reduceMul, reduceToNat, reduceLE, reduceEq, Int.reduceLT, Int.reduceBEq, Int.reduceBNe]
  · (try simp only [AW, reduceAdd, reduceCtorEq, reduceEqDiff, ↓reduceIte, reduceLT, reduceLeDiff, reduceSub, reducePow, reduceMul, reduceToNat, reduceLE, reduceEq, Int.reduceLT, Int.reduceBEq, Int.reduceBNe])
    have e : winE b f t rs = checkL rs[k] := by unfold winE; rw [if_neg w0, if_neg w1]; exact firstE_hit hltk ik (by simpa using ce)
    rw [e]
theorem wearC_form {w : WearS} (h : w.hour.length ≠ w.ride.length ∨ w.hour.length < 1 ∨ 8 < w.hour.length) : wearC w = 3 := by unfold wearC; rw [if_pos h]
theorem wearC_bad {w : WearS} (h : ¬(w.hour.length ≠ w.ride.length ∨ w.hour.length < 1 ∨ 8 < w.hour.length)) (h2 : ¬ (w.hour.all okN = true ∧ w.ride.all okN = true)) : wearC w = 1 := by unfold wearC; rw [if_neg h, if_neg h2]
theorem wearC_ok {w : WearS} (h : ¬(w.hour.length ≠ w.ride.length ∨ w.hour.length < 1 ∨ 8 < w.hour.length)) (h2 : w.hour.all okN = true ∧ w.ride.all okN = true) : wearC w = 0 := by unfold wearC; rw [if_neg h, if_pos h2]
theorem all_get {l : List Int} (h : l.all okN = true) {k : Nat} (hk : k < l.length) : okN l[k] = true := List.all_eq_true.1 h _ (List.getElem_mem hk)
theorem all_of {l : List Int} (h : ∀ j (hj : j < l.length), okN l[j] = true) : l.all okN = true := List.all_eq_true.2 fun x hx => by
  obtain ⟨j, hj, rfl⟩ := List.mem_iff_getElem.1 hx
  exact h j hj
end Go.Proofs.Ythgnbkcopapbmaa
