/-
  Wear: the wear of a component in a window.
-/
import Derived.Test.YthgnbkcopapbmaaIj
import Derived.Test.YthgnbkcopapbmaaRq
namespace Go.Proofs.Ythgnbkcopapbmaa
open Go.RowKit
open Nat (reduceAdd reduceEqDiff reduceLT reduceLeDiff reduceSub reducePow reduceMul)
open Int (reduceToNat reduceLE reduceEq)
set_option linter.unusedVariables false
set_option linter.unusedSimpArgs false
set_option linter.unnecessarySimpa false


noncomputable def ofW (w : WearS) (rs : List RideS) (b k f t : Int) : Int × Int :=
  if wearC w ≠ 0 then (0, wearC w) else if k < 0 ∨ (w.hour.length : Int) ≤ k then (0, 7) else if winE b f t rs ≠ 0 then (0, winE b f t rs)
  else (wornL w k.toNat (useN b f t rs rs.length) (useS b f t rs rs.length), 0)
def pairP (p : Int × Int) : PV := .tup [intP p.1, intP p.2]
theorem ofW_1 {w : WearS} {rs : List RideS} {b k f t : Int} (h : wearC w ≠ 0) : ofW w rs b k f t = (0, wearC w) := by unfold ofW; rw [if_pos h]
theorem ofW_2 {w : WearS} {rs : List RideS} {b k f t : Int} (h : wearC w = 0) (h2 : k < 0 ∨ (w.hour.length : Int) ≤ k) : ofW w rs b k f t = (0, 7) := by unfold ofW; rw [if_neg (by omega), if_pos h2]
theorem ofW_3 {w : WearS} {rs : List RideS} {b k f t : Int} (h : wearC w = 0) (h2 : ¬(k < 0 ∨ (w.hour.length : Int) ≤ k)) (h3 : winE b f t rs ≠ 0) : ofW w rs b k f t = (0, winE b f t rs) := by unfold ofW; rw [if_neg (by omega), if_neg h2, if_pos h3]
theorem ofW_4 {w : WearS} {rs : List RideS} {b k f t : Int} (h : wearC w = 0) (h2 : ¬(k < 0 ∨ (w.hour.length : Int) ≤ k)) (h3 : winE b f t rs = 0) : ofW w rs b k f t = (wornL w k.toNat (useN b f t rs rs.length) (useS b f t rs rs.length), 0) := by unfold ofW; rw [if_neg (by omega), if_neg h2, if_neg (by omega)]
/-- What is known of a description of wear that is in order. -/
theorem wear_ok {w : WearS} (h : wearC w = 0) : w.hour.length = w.ride.length ∧ 1 ≤ w.hour.length ∧ w.hour.length ≤ 8 ∧ (∀ x ∈ w.hour, 0 ≤ x ∧ x ≤ 1000000) ∧ (∀ x ∈ w.ride, 0 ≤ x ∧ x ≤ 1000000) := by
  unfold wearC at h
  split at h
  · simp at h
  rename_i h1
  split at h
  rotate_left
  · simp at h
  rename_i h2
  refine ⟨by omega, by omega, by omega, fun x hx => ?_, fun x hx => ?_⟩
  · have := List.all_eq_true.1 h2.1 x hx
    simp only [okN, Bool.and_eq_true, decide_eq_true_eq] at this; exact this
  · have := List.all_eq_true.1 h2.2 x hx
    simp only [okN, Bool.and_eq_true, decide_eq_true_eq] at this; exact this
/-- What is known of a question that is in order. -/
theorem win_ok {b f t : Int} {rs : List RideS} (h : winE b f t rs = 0) : 0 ≤ b ∧ b < 128 ∧ 0 ≤ f ∧ f ≤ t ∧ t ≤ 4294944000 ∧ rs.length ≤ 256 ∧ ∀ r ∈ rs, checkL r = 0 := by
  unfold winE at h
  split at h
  · simp at h
  rename_i h1
  split at h
  · simp at h
  exact ⟨by omega, by omega, by omega, by omega, by omega, by omega, firstE_zero h⟩
set_option maxHeartbeats 2000000 in
theorem of_g (w : WearS) (rs : List RideS) (b k f t : Int) : Good Try.prog 15 [w.pv, .sl (rs.map RideS.pv), intP b, intP k, .agg [intP f, intP t]] (pairP (ofW w rs b k f t)) := by
  refine good15 (by simp) ?_
  simp only [ac15, WearS.pv, intP, AW, reduceAdd, reduceCtorEq, reduceEqDiff, ↓reduceIte, reduceLT, reduceLeDiff, reduceSub, reducePow, reduceMul, reduceToNat, reduceLE, reduceEq, Int.reduceLT, Int.reduceBEq, Int.reduceBNe]
  refine ops_call (wearC_g w) (by simp only [WearS.pv, intP, AW, reduceAdd, reduceCtorEq, reduceEqDiff, ↓reduceIte, reduceLT, reduceLeDiff, reduceSub, reducePow, reduceMul, reduceToNat, reduceLE, reduceEq, Int.reduceLT, Int.reduceBEq, Int.reduceBNe]) ?_; simp only [WearS.pv, intP, AW, reduceAdd, reduceCtorEq, reduceEqDiff, ↓reduceIte, reduceLT, reduceLeDiff, reduceSub, reducePow, reduceMul, reduceToNat, reduceLE, reduceEq, Int.reduceLT, Int.reduceBEq, Int.reduceBNe]
  cases c1 : (wearC w != 0)
  rotate_left
  · simp only [AW, reduceAdd, reduceCtorEq, reduceEqDiff, ↓reduceIte, reduceLT, reduceLeDiff, reduceSub, reducePow, reduceMul, reduceToNat, reduceLE, reduceEq, Int.reduceLT, Int.reduceBEq, Int.reduceBNe]
    rw [ofW_1 (by simpa using c1)]
    simp only [pairP, intP, AW, reduceAdd, reduceCtorEq, reduceEqDiff, ↓reduceIte, reduceLT, reduceLeDiff, reduceSub, reducePow, reduceMul, reduceToNat, reduceLE, reduceEq, Int.reduceLT, Int.reduceBEq, Int.reduceBNe]
  have w0 : wearC w = 0 := by simpa using c1
  obtain ⟨q1, q2, q3, q4, q5⟩ := wear_ok w0
  simp only [AW, reduceAdd, reduceCtorEq, reduceEqDiff, ↓reduceIte, reduceLT, reduceLeDiff, reduceSub, reducePow, reduceMul, reduceToNat, reduceLE, reduceEq, Int.reduceLT, Int.reduceBEq, Int.reduceBNe]
  cases c2 : decide (k < 0)
  rotate_left
  · (try simp only [AW, reduceAdd, reduceCtorEq, reduceEqDiff, ↓reduceIte, reduceLT, reduceLeDiff, reduceSub, reducePow, reduceMul, reduceToNat, reduceLE, reduceEq, Int.reduceLT, Int.reduceBEq, Int.reduceBNe])
    rw [decide_eq_true_eq] at c2
    rw [ofW_2 w0 (.inl c2)]
    simp only [pairP, intP, AW, reduceAdd, reduceCtorEq, reduceEqDiff, ↓reduceIte, reduceLT, reduceLeDiff, reduceSub, reducePow, reduceMul, reduceToNat, reduceLE, reduceEq, Int.reduceLT, Int.reduceBEq, Int.reduceBNe]
  rw [decide_eq_false_iff_not] at c2
  (try simp only [AW, reduceAdd, reduceCtorEq, reduceEqDiff, ↓reduceIte, reduceLT, reduceLeDiff, reduceSub, reducePow, reduceMul, reduceToNat, reduceLE, reduceEq, Int.reduceLT, Int.reduceBEq, Int.reduceBNe])
  cases c3 : decide ((w.hour.length : Int) ≤ k)
  rotate_left
  · (try simp only [AW, reduceAdd, reduceCtorEq, reduceEqDiff, ↓reduceIte, reduceLT, reduceLeDiff, reduceSub, reducePow, reduceMul, reduceToNat, reduceLE, reduceEq, Int.reduceLT, Int.reduceBEq, Int.reduceBNe])
    rw [decide_eq_true_eq] at c3
    rw [ofW_2 w0 (.inr c3)]
    simp only [pairP, intP, AW, reduceAdd, reduceCtorEq, reduceEqDiff, ↓reduceIte, reduceLT, reduceLeDiff, reduceSub, reducePow, reduceMul, reduceToNat, reduceLE, reduceEq, Int.reduceLT, Int.reduceBEq, Int.reduceBNe]
  rw [decide_eq_false_iff_not] at c3
  (try simp only [AW, reduceAdd, reduceCtorEq, reduceEqDiff, ↓reduceIte, reduceLT, reduceLeDiff, reduceSub, reducePow, reduceMul, reduceToNat, reduceLE, reduceEq, Int.reduceLT, Int.reduceBEq, Int.reduceBNe])
  refine ops_call (win_g rs b f t) (by simp only [intP, AW, reduceAdd, reduceCtorEq, reduceEqDiff, ↓reduceIte, reduceLT, reduceLeDiff, reduceSub, reducePow, reduceMul, reduceToNat, reduceLE, reduceEq, Int.reduceLT, Int.reduceBEq, Int.reduceBNe]) ?_; simp only [intP, AW, reduceAdd, reduceCtorEq, reduceEqDiff, ↓reduceIte, reduceLT, reduceLeDiff, reduceSub, reducePow, reduceMul, reduceToNat, reduceLE, reduceEq, Int.reduceLT, Int.reduceBEq, Int.reduceBNe]
  cases c4 : (winE b f t rs != 0)
  rotate_left
  · simp only [AW, reduceAdd, reduceCtorEq, reduceEqDiff, ↓reduceIte, reduceLT, reduceLeDiff, reduceSub, reducePow, reduceMul, reduceToNat, reduceLE, reduceEq, Int.reduceLT, Int.reduceBEq, Int.reduceBNe]
    rw [ofW_3 w0 (by omega) (by simpa using c4)]
    simp only [pairP, intP, AW, reduceAdd, reduceCtorEq, reduceEqDiff, ↓reduceIte, reduceLT, reduceLeDiff, reduceSub, reducePow, reduceMul, reduceToNat, reduceLE, reduceEq, Int.reduceLT, Int.reduceBEq, Int.reduceBNe]
  have z0 : winE b f t rs = 0 := by simpa using c4
  obtain ⟨p1, p2, p3, p4, p5, p6, p7⟩ := win_ok z0
  have ho : ∀ r ∈ rs, LegsOk r := fun r hr => legs_ok (p7 r hr)
  have n1 := useN_b (b := b) (f := f) (t := t) ho rs.length (Nat.le_refl _)
  have n2 := use_sec (b := b) (f := f) (t := t) p7 rs.length (Nat.le_refl _)
  obtain ⟨kk, rfl⟩ : ∃ kk : Nat, k = kk := ⟨k.toNat, by omega⟩
  have hk : kk < w.hour.length := by omega
  have hk2 : kk < w.ride.length := by omega
  have hr := q5 _ (List.getElem_mem hk2)
  have hh := q4 _ (List.getElem_mem hk)
  rw [ofW_4 w0 (by omega) z0]
  simp only [AW, reduceAdd, reduceCtorEq, reduceEqDiff, ↓reduceIte, reduceLT, reduceLeDiff, reduceSub, reducePow, reduceMul, reduceToNat, reduceLE, reduceEq, Int.reduceLT, Int.reduceBEq, Int.reduceBNe]
  refine ops_call (use_g rs b f t ho p6) (by simp only [intP, AW, reduceAdd, reduceCtorEq, reduceEqDiff, ↓reduceIte, reduceLT, reduceLeDiff, reduceSub, reducePow, reduceMul, reduceToNat, reduceLE, reduceEq, Int.reduceLT, Int.reduceBEq, Int.reduceBNe]) ?_; simp only [intP, AW, reduceAdd, reduceCtorEq, reduceEqDiff, ↓reduceIte, reduceLT, reduceLeDiff, reduceSub, reducePow, reduceMul, reduceToNat, reduceLE, reduceEq, Int.reduceLT, Int.reduceBEq, Int.reduceBNe]
  refine ops_call (worn_g w kk (useN b f t rs rs.length) (useS b f t rs rs.length) hk hk2 hr hh (by omega) (by omega)) (by simp only [WearS.pv, intP, AW, reduceAdd, reduceCtorEq, reduceEqDiff, ↓reduceIte, reduceLT, reduceLeDiff, reduceSub, reducePow, reduceMul, reduceToNat, reduceLE, reduceEq, Int.reduceLT, Int.reduceBEq, Int.reduceBNe]) ?_; simp only [WearS.pv, intP, AW, reduceAdd, reduceCtorEq, reduceEqDiff, ↓reduceIte, reduceLT, reduceLeDiff, reduceSub, reducePow, reduceMul, reduceToNat, reduceLE, reduceEq, Int.reduceLT, Int.reduceBEq, Int.reduceBNe]
  (try refine drawnK rfl ?_); (try simp only [AW, reduceAdd, reduceCtorEq, reduceEqDiff, ↓reduceIte, reduceLT, reduceLeDiff, reduceSub, reducePow, reduceMul, reduceToNat, reduceLE, reduceEq, Int.reduceLT, Int.reduceBEq, Int.reduceBNe])
  (try refine ⟨rfl, ?_⟩)
  simp only [pairP, intP, Int.toNat_natCast, AW, reduceAdd, reduceCtorEq, reduceEqDiff, ↓reduceIte, reduceLT, reduceLeDiff, reduceSub, reducePow, reduceMul, reduceToNat, reduceLE, reduceEq, Int.reduceLT, Int.reduceBEq, Int.reduceBNe]
end Go.Proofs.Ythgnbkcopapbmaa
