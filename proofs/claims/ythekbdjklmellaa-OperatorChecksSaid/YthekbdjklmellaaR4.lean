/-
  Rides as abstract values: the reference's check.
-/
import Derived.Test.YthekbdjklmellaaR3
namespace Go.Proofs.Ythekbdjklmellaa
open Go.RowKit
open Nat (reduceAdd reduceEqDiff reduceLT reduceLeDiff reduceSub reducePow reduceMul)
open Int (reduceToNat reduceLE reduceEq)
set_option linter.unusedVariables false
set_option linter.unusedSimpArgs false
set_option linter.unnecessarySimpa false

theorem last_get {l : List Int} (h : 0 < l.length) : l.getLast? = some (l[l.length - 1]'(by omega)) := by
  rw [List.getLast?_eq_getElem?, List.getElem?_eq_getElem (by omega)]
set_option maxHeartbeats 2000000 in
theorem marks_g (r : RideS) (hlim : r.pauses.length ≤ 512) : Good Try.prog 50 [r.pv] (intsP (marksL r)) := by
  have Hpauses : r.pauses.length ≤ maxLen := by unfold maxLen; omega
  refine good50 (by simp) ?_
  simp only [ac50, RideS.pv, AW, reduceAdd, reduceCtorEq, reduceEqDiff, ↓reduceIte, reduceLT, reduceLeDiff, reduceSub, reducePow, reduceMul, reduceToNat, reduceLE, reduceEq, Int.reduceLT, Int.reduceBEq, Int.reduceBNe]
  refine run_loop (ι := Nat) (fun k => ⟨[(1, .ptr 0 0), (3, .own 4 0), (4, .sc (.int .i64 (k : Int)))], [(0, .var [.sc (.int .i64 r.id), .sc (.int .i64 r.rider), .sc (.int .i64 r.start.lo), .sc (.int .i64 r.start.hi), .sc (.int .i64 r.end_.lo), .sc (.int .i64 r.end_.hi), .sc (.bool r.open_), .sl (r.legs.map LegS.pv), .sl (r.pauses.map PauseS.pv), .sc (.int .i64 r.fromWhere), .sc (.int .i64 r.fromPlace), .sc (.int .i64 r.where_), .sc (.int .i64 r.place)]), (4, .row 3 1 0 ((marksOf (r.pauses.take k)).map intP))], 5, 51⟩) (fun k => k ≤ r.pauses.length) (fun k => r.pauses.length - k) 5 (fun _ => rfl) 0 (by simp only [LW, Nat.reduceMod, Nat.reduceDiv, Int.natCast_zero, List.take_zero, marksOf, List.flatMap_nil, AW, reduceAdd, reduceCtorEq, reduceEqDiff, ↓reduceIte, reduceLT, reduceLeDiff, reduceSub, reducePow, reduceMul, reduceToNat, reduceLE, reduceEq, Int.reduceLT, Int.reduceBEq, Int.reduceBNe]) (Nat.zero_le _) (fun k g1 => ?_)
  by_cases hlt : k < r.pauses.length
  · have d1 : decide ((k : Int) < r.pauses.length) = true := by simp [hlt]
    have hl : (marksOf (r.pauses.take k)).length = 2 * k := by rw [marks_len, List.length_take]; omega
    have f1 : 2 * k + 2 ≤ maxLen := by unfold maxLen; omega
    have f2 : (2 * k + 2) * 8 ≤ 140737488355328 := by omega
    simp only [d1, map_getD hlt, hlt, PauseS.pv, PauseS.vals, hl, f1, f2, AW, reduceAdd, reduceCtorEq, reduceEqDiff, ↓reduceIte, reduceLT, reduceLeDiff, reduceSub, reducePow, reduceMul, reduceToNat, reduceLE, reduceEq, Int.reduceLT, Int.reduceBEq, Int.reduceBNe]
    refine ⟨rfl, ?_⟩
    simp only [wrap_succ hlt Hpauses, AW, reduceAdd, reduceCtorEq, reduceEqDiff, ↓reduceIte, reduceLT, reduceLeDiff, reduceSub, reducePow, reduceMul, reduceToNat, reduceLE, reduceEq, Int.reduceLT, Int.reduceBEq, Int.reduceBNe]
    refine ⟨k + 1, hlt, ?_, by omega⟩
    simp only [LW, Nat.reduceMod, Nat.reduceDiv, marks_snoc r.pauses k hlt, List.map_append, intP, AW, reduceAdd, reduceCtorEq, reduceEqDiff, ↓reduceIte, reduceLT, reduceLeDiff, reduceSub, reducePow, reduceMul, reduceToNat, reduceLE, reduceEq, Int.reduceLT, Int.reduceBEq, Int.reduceBNe]
  have d1 : decide ((k : Int) < r.pauses.length) = false := by simp; omega
  obtain rfl : k = r.pauses.length := by omega
  have hl : (marksOf r.pauses).length = 2 * r.pauses.length := marks_len _
  simp only [d1, List.take_length, AW, reduceAdd, reduceCtorEq, reduceEqDiff, ↓reduceIte, reduceLT, reduceLeDiff, reduceSub, reducePow, reduceMul, reduceToNat, reduceLE, reduceEq, Int.reduceLT, Int.reduceBEq, Int.reduceBNe]
  cases c1 : decide ((0 : Int) < ((marksOf r.pauses).length : Int))
  · simp only [AW, reduceAdd, reduceCtorEq, reduceEqDiff, ↓reduceIte, reduceLT, reduceLeDiff, reduceSub, reducePow, reduceMul, reduceToNat, reduceLE, reduceEq, Int.reduceLT, Int.reduceBEq, Int.reduceBNe]
    have : marksL r = marksOf r.pauses := by
      unfold marksL; rw [if_neg (fun h => by rw [decide_eq_false_iff_not] at c1; have := h.1; omega)]
    rw [this]; simp only [intsP, AW, reduceAdd, reduceCtorEq, reduceEqDiff, ↓reduceIte, reduceLT, reduceLeDiff, reduceSub, reducePow, reduceMul, reduceToNat, reduceLE, reduceEq, Int.reduceLT, Int.reduceBEq, Int.reduceBNe]
  have hp : 0 < (marksOf r.pauses).length := by rw [decide_eq_true_eq] at c1; omega
  have hm : (marksOf r.pauses).length ≤ maxLen := Nat.le_trans (Nat.le_of_eq hl) (by unfold maxLen; omega)
  have hq : (marksOf r.pauses).length - 1 < (marksOf r.pauses).length := by omega
  simp only [AW, reduceAdd, reduceCtorEq, reduceEqDiff, ↓reduceIte, reduceLT, reduceLeDiff, reduceSub, reducePow, reduceMul, reduceToNat, reduceLE, reduceEq, Int.reduceLT, Int.reduceBEq, Int.reduceBNe]
  cases ho : r.open_
  · simp only [AW, reduceAdd, reduceCtorEq, reduceEqDiff, ↓reduceIte, reduceLT, reduceLeDiff, reduceSub, reducePow, reduceMul, reduceToNat, reduceLE, reduceEq, Int.reduceLT, Int.reduceBEq, Int.reduceBNe]
    have : marksL r = marksOf r.pauses := by
      unfold marksL; rw [if_neg (fun h => by rw [ho] at h; exact absurd h.2.1 (by simp))]
    rw [this]; simp only [intsP, AW, reduceAdd, reduceCtorEq, reduceEqDiff, ↓reduceIte, reduceLT, reduceLeDiff, reduceSub, reducePow, reduceMul, reduceToNat, reduceLE, reduceEq, Int.reduceLT, Int.reduceBEq, Int.reduceBNe]
  simp only [wrap_pred hp hm, map_getD hq, hq, intP, AW, reduceAdd, reduceCtorEq, reduceEqDiff, ↓reduceIte, reduceLT, reduceLeDiff, reduceSub, reducePow, reduceMul, reduceToNat, reduceLE, reduceEq, Int.reduceLT, Int.reduceBEq, Int.reduceBNe]
  cases c2 : ((marksOf r.pauses)[(marksOf r.pauses).length - 1] == 0)
  · simp only [AW, reduceAdd, reduceCtorEq, reduceEqDiff, ↓reduceIte, reduceLT, reduceLeDiff, reduceSub, reducePow, reduceMul, reduceToNat, reduceLE, reduceEq, Int.reduceLT, Int.reduceBEq, Int.reduceBNe]
    have : marksL r = marksOf r.pauses := by
      unfold marksL; rw [if_neg (fun h => by rw [last_get hp] at h; simp at c2; exact c2 (by simpa using h.2.2))]
    rw [this]; simp only [intsP, AW, reduceAdd, reduceCtorEq, reduceEqDiff, ↓reduceIte, reduceLT, reduceLeDiff, reduceSub, reducePow, reduceMul, reduceToNat, reduceLE, reduceEq, Int.reduceLT, Int.reduceBEq, Int.reduceBNe]
  have : marksL r = (marksOf r.pauses).dropLast := by
    unfold marksL; rw [if_pos ⟨hp, ho, by rw [last_get hp]; simpa using c2⟩]
  rw [this]
  have f3 : (marksOf r.pauses).length - 1 ≤ (marksOf r.pauses).length := by omega
  have f4 : ((marksOf r.pauses).map intP).all (fun p => p.flat.length == 1) = true := by simp [List.all_eq_true, intP, PV.flat]
  simp only [wrap_pred hp hm, f3, List.all_map, Function.comp_def, intP, List.all_eq_true, implies_true, or_self, intsP, List.dropLast_eq_take, List.map_take, AW, reduceAdd, reduceCtorEq, reduceEqDiff, ↓reduceIte, reduceLT, reduceLeDiff, reduceSub, reducePow, reduceMul, reduceToNat, reduceLE, reduceEq, Int.reduceLT, Int.reduceBEq, Int.reduceBNe]
set_option maxHeartbeats 2000000 in
theorem qordered_g (r : RideS) (Hl : 0 < r.legs.length) (hlim : r.pauses.length ≤ 512) : Good Try.prog 43 [r.pv] (.sc (.bool (orderedL r))) := by
  rw [← qordered_eq_L]
  refine .rideLen (fun Hlegs Hpauses => ?_)
  refine good43 (by simp) ?_
  simp only [ac43, RideS.pv, AW, reduceAdd, reduceCtorEq, reduceEqDiff, ↓reduceIte, reduceLT, reduceLeDiff, reduceSub, reducePow, reduceMul, reduceToNat, reduceLE, reduceEq, Int.reduceLT, Int.reduceBEq, Int.reduceBNe]
  refine run_loop (ι := Nat) (fun k => ⟨[(1, .ptr 0 0), (3, .sc (.int .i64 (k : Int)))], [(0, .var [.sc (.int .i64 r.id), .sc (.int .i64 r.rider), .sc (.int .i64 r.start.lo), .sc (.int .i64 r.start.hi), .sc (.int .i64 r.end_.lo), .sc (.int .i64 r.end_.hi), .sc (.bool r.open_), .sl (r.legs.map LegS.pv), .sl (r.pauses.map PauseS.pv), .sc (.int .i64 r.fromWhere), .sc (.int .i64 r.fromPlace), .sc (.int .i64 r.where_), .sc (.int .i64 r.place)])], 3, 94⟩) (fun k => k ≤ r.legs.length ∧ ∀ j, j < k → legOrd r j) (fun k => r.legs.length - k) 3 (fun _ => rfl) 0 (by simp only [LW, Nat.reduceMod, Nat.reduceDiv, Int.natCast_zero, AW, reduceAdd, reduceCtorEq, reduceEqDiff, ↓reduceIte, reduceLT, reduceLeDiff, reduceSub, reducePow, reduceMul, reduceToNat, reduceLE, reduceEq, Int.reduceLT, Int.reduceBEq, Int.reduceBNe]) ⟨Nat.zero_le _, nofun⟩ (fun k hk => ?_)
  obtain ⟨g1, g2⟩ := hk
  by_cases hlt : k < r.legs.length
  · have d1 : decide ((k : Int) < r.legs.length) = true := by simp [hlt]
    have next : legOrd r k → ∀ j, j < k + 1 → legOrd r j := fun h j hj => by
      by_cases e : j = k
      · subst e; exact h
      · exact g2 j (by omega)
    simp only [d1, wrap_pred Hl Hlegs, AW, reduceAdd, reduceCtorEq, reduceEqDiff, ↓reduceIte, reduceLT, reduceLeDiff, reduceSub, reducePow, reduceMul, reduceToNat, reduceLE, reduceEq, Int.reduceLT, Int.reduceBEq, Int.reduceBNe]
    cases a2 : ((k : Int) == ((r.legs.length - 1 : Nat) : Int))
    · simp only [map_getD hlt, hlt, LegS.pv, LegS.vals, AW, reduceAdd, reduceCtorEq, reduceEqDiff, ↓reduceIte, reduceLT, reduceLeDiff, reduceSub, reducePow, reduceMul, reduceToNat, reduceLE, reduceEq, Int.reduceLT, Int.reduceBEq, Int.reduceBNe]
      cases a1 : decide (r.legs[k].to_.lo < r.legs[k].from_.lo)
      · refine ⟨rfl, ?_⟩; simp only [wrap_succ hlt Hlegs, AW, reduceAdd, reduceCtorEq, reduceEqDiff, ↓reduceIte, reduceLT, reduceLeDiff, reduceSub, reducePow, reduceMul, reduceToNat, reduceLE, reduceEq, Int.reduceLT, Int.reduceBEq, Int.reduceBNe]
        refine ⟨k + 1, ⟨hlt, next (fun _ => .inl (by simp at a1; omega))⟩, ?_, by omega⟩
        simp only [LW, Nat.reduceMod, Nat.reduceDiv, AW, reduceAdd, reduceCtorEq, reduceEqDiff, ↓reduceIte, reduceLT, reduceLeDiff, reduceSub, reducePow, reduceMul, reduceToNat, reduceLE, reduceEq, Int.reduceLT, Int.reduceBEq, Int.reduceBNe]
      · refine ⟨rfl, ?_⟩; simp only [AW, reduceAdd, reduceCtorEq, reduceEqDiff, ↓reduceIte, reduceLT, reduceLeDiff, reduceSub, reducePow, reduceMul, reduceToNat, reduceLE, reduceEq, Int.reduceLT, Int.reduceBEq, Int.reduceBNe]
        rw [qordered_noleg k (fun h => by
          rcases h hlt with h | ⟨_, h⟩
          · simp at a1; omega
          · simp at a2; omega)]
    simp only [AW, reduceAdd, reduceCtorEq, reduceEqDiff, ↓reduceIte, reduceLT, reduceLeDiff, reduceSub, reducePow, reduceMul, reduceToNat, reduceLE, reduceEq, Int.reduceLT, Int.reduceBEq, Int.reduceBNe]
    cases ho : r.open_
    · simp only [map_getD hlt, hlt, LegS.pv, LegS.vals, AW, reduceAdd, reduceCtorEq, reduceEqDiff, ↓reduceIte, reduceLT, reduceLeDiff, reduceSub, reducePow, reduceMul, reduceToNat, reduceLE, reduceEq, Int.reduceLT, Int.reduceBEq, Int.reduceBNe]
      cases a1 : decide (r.legs[k].to_.lo < r.legs[k].from_.lo)
      · refine ⟨rfl, ?_⟩; simp only [wrap_succ hlt Hlegs, AW, reduceAdd, reduceCtorEq, reduceEqDiff, ↓reduceIte, reduceLT, reduceLeDiff, reduceSub, reducePow, reduceMul, reduceToNat, reduceLE, reduceEq, Int.reduceLT, Int.reduceBEq, Int.reduceBNe]
        refine ⟨k + 1, ⟨hlt, next (fun _ => .inl (by simp at a1; omega))⟩, ?_, by omega⟩
        simp only [LW, Nat.reduceMod, Nat.reduceDiv, ho, AW, reduceAdd, reduceCtorEq, reduceEqDiff, ↓reduceIte, reduceLT, reduceLeDiff, reduceSub, reducePow, reduceMul, reduceToNat, reduceLE, reduceEq, Int.reduceLT, Int.reduceBEq, Int.reduceBNe]
      · refine ⟨rfl, ?_⟩; simp only [AW, reduceAdd, reduceCtorEq, reduceEqDiff, ↓reduceIte, reduceLT, reduceLeDiff, reduceSub, reducePow, reduceMul, reduceToNat, reduceLE, reduceEq, Int.reduceLT, Int.reduceBEq, Int.reduceBNe]
        rw [qordered_noleg k (fun h => by
          rcases h hlt with h | ⟨h, _⟩
          · simp at a1; omega
          · rw [ho] at h; cases h)]
    simp only [AW, reduceAdd, reduceCtorEq, reduceEqDiff, ↓reduceIte, reduceLT, reduceLeDiff, reduceSub, reducePow, reduceMul, reduceToNat, reduceLE, reduceEq, Int.reduceLT, Int.reduceBEq, Int.reduceBNe]
    refine ⟨rfl, ?_⟩; simp only [wrap_succ hlt Hlegs, AW, reduceAdd, reduceCtorEq, reduceEqDiff, ↓reduceIte, reduceLT, reduceLeDiff, reduceSub, reducePow, reduceMul, reduceToNat, reduceLE, reduceEq, Int.reduceLT, Int.reduceBEq, Int.reduceBNe]
    refine ⟨k + 1, ⟨hlt, next (fun _ => .inr ⟨ho, by simp at a2; omega⟩)⟩, ?_, by omega⟩
    simp only [LW, Nat.reduceMod, Nat.reduceDiv, ho, AW, reduceAdd, reduceCtorEq, reduceEqDiff, ↓reduceIte, reduceLT, reduceLeDiff, reduceSub, reducePow, reduceMul, reduceToNat, reduceLE, reduceEq, Int.reduceLT, Int.reduceBEq, Int.reduceBNe]
  have d1 : decide ((k : Int) < r.legs.length) = false := by simp; omega
  have A : ∀ k, legOrd r k := fun j hj => g2 j (by omega) hj
  clear g1 g2 hlt
  simp only [d1, AW, reduceAdd, reduceCtorEq, reduceEqDiff, ↓reduceIte, reduceLT, reduceLeDiff, reduceSub, reducePow, reduceMul, reduceToNat, reduceLE, reduceEq, Int.reduceLT, Int.reduceBEq, Int.reduceBNe]
  refine ops_call (marks_g r hlim) (by simp only [RideS.pv, intsP, AW, reduceAdd, reduceCtorEq, reduceEqDiff, ↓reduceIte, reduceLT, reduceLeDiff, reduceSub, reducePow, reduceMul, reduceToNat, reduceLE, reduceEq, Int.reduceLT, Int.reduceBEq, Int.reduceBNe]) ?_; simp only [RideS.pv, intsP, AW, reduceAdd, reduceCtorEq, reduceEqDiff, ↓reduceIte, reduceLT, reduceLeDiff, reduceSub, reducePow, reduceMul, reduceToNat, reduceLE, reduceEq, Int.reduceLT, Int.reduceBEq, Int.reduceBNe]
  have HL : (marksL r).length ≤ maxLen := by
    have h1 : (marksL r).length ≤ (marksOf r.pauses).length := by unfold marksL; split <;> simp
    rw [marks_len] at h1
    exact Nat.le_trans h1 (by unfold maxLen; omega)
  refine run_loop (ι := Nat) (fun k => ⟨[(1, .ptr 0 0), (5, .sl ((marksL r).map intP)), (6, .sc (.int .i64 (k : Int)))], [(0, .var [.sc (.int .i64 r.id), .sc (.int .i64 r.rider), .sc (.int .i64 r.start.lo), .sc (.int .i64 r.start.hi), .sc (.int .i64 r.end_.lo), .sc (.int .i64 r.end_.hi), .sc (.bool r.open_), .sl (r.legs.map LegS.pv), .sl (r.pauses.map PauseS.pv), .sc (.int .i64 r.fromWhere), .sc (.int .i64 r.fromPlace), .sc (.int .i64 r.where_), .sc (.int .i64 r.place)])], 12, 94⟩) (fun k => k ≤ (marksL r).length ∧ ∀ j, j < k → markOrd r j) (fun k => (marksL r).length - k) 12 (fun _ => rfl) 0 (by simp only [LW, Nat.reduceMod, Nat.reduceDiv, Int.natCast_zero, AW, reduceAdd, reduceCtorEq, reduceEqDiff, ↓reduceIte, reduceLT, reduceLeDiff, reduceSub, reducePow, reduceMul, reduceToNat, reduceLE, reduceEq, Int.reduceLT, Int.reduceBEq, Int.reduceBNe]) ⟨Nat.zero_le _, nofun⟩ (fun k hk => ?_)
  obtain ⟨g1, g2⟩ := hk
  by_cases hlt : k < (marksL r).length
  · have d1 : decide ((k : Int) < (marksL r).length) = true := by simp [hlt]
    have next : markOrd r k → ∀ j, j < k + 1 → markOrd r j := fun h j hj => by
      by_cases e : j = k
      · subst e; exact h
      · exact g2 j (by omega)
    by_cases hz : k = 0
    · have z1 : ((k : Int) == 0) = true := by simp [hz]
      have z2 : decide ((0 : Int) < (k : Int)) = false := by simp [hz]
      simp only [d1, z1, map_getD hlt, hlt, intP, AW, reduceAdd, reduceCtorEq, reduceEqDiff, ↓reduceIte, reduceLT, reduceLeDiff, reduceSub, reducePow, reduceMul, reduceToNat, reduceLE, reduceEq, Int.reduceLT, Int.reduceBEq, Int.reduceBNe]
      cases e1 : decide ((marksL r)[k] < r.start.lo)
      rotate_left
      · simp only [AW, reduceAdd, reduceCtorEq, reduceEqDiff, ↓reduceIte, reduceLT, reduceLeDiff, reduceSub, reducePow, reduceMul, reduceToNat, reduceLE, reduceEq, Int.reduceLT, Int.reduceBEq, Int.reduceBNe]; refine ⟨rfl, ?_⟩
        rw [qordered_nomark k (fun h => by have := (h hlt).1 hz; rw [decide_eq_true_eq] at e1; omega)]
      rw [decide_eq_false_iff_not] at e1
      simp only [z2, AW, reduceAdd, reduceCtorEq, reduceEqDiff, ↓reduceIte, reduceLT, reduceLeDiff, reduceSub, reducePow, reduceMul, reduceToNat, reduceLE, reduceEq, Int.reduceLT, Int.reduceBEq, Int.reduceBNe]
      cases ho : r.open_
      · simp only [map_getD hlt, hlt, intP, AW, reduceAdd, reduceCtorEq, reduceEqDiff, ↓reduceIte, reduceLT, reduceLeDiff, reduceSub, reducePow, reduceMul, reduceToNat, reduceLE, reduceEq, Int.reduceLT, Int.reduceBEq, Int.reduceBNe]
        cases e3 : decide (r.end_.lo < (marksL r)[k])
        · rw [decide_eq_false_iff_not] at e3
          refine ⟨rfl, ?_⟩; simp only [wrap_succ hlt HL, AW, reduceAdd, reduceCtorEq, reduceEqDiff, ↓reduceIte, reduceLT, reduceLeDiff, reduceSub, reducePow, reduceMul, reduceToNat, reduceLE, reduceEq, Int.reduceLT, Int.reduceBEq, Int.reduceBNe]
          refine ⟨k + 1, ⟨hlt, next (fun _ => ⟨fun _ => by omega, fun h => absurd hz (by omega), fun _ => by omega⟩)⟩, ?_, by omega⟩
          simp only [LW, Nat.reduceMod, Nat.reduceDiv, ho, AW, reduceAdd, reduceCtorEq, reduceEqDiff, ↓reduceIte, reduceLT, reduceLeDiff, reduceSub, reducePow, reduceMul, reduceToNat, reduceLE, reduceEq, Int.reduceLT, Int.reduceBEq, Int.reduceBNe]
        · rw [decide_eq_true_eq] at e3
          refine ⟨rfl, ?_⟩; simp only [AW, reduceAdd, reduceCtorEq, reduceEqDiff, ↓reduceIte, reduceLT, reduceLeDiff, reduceSub, reducePow, reduceMul, reduceToNat, reduceLE, reduceEq, Int.reduceLT, Int.reduceBEq, Int.reduceBNe]
          rw [qordered_nomark k (fun h => by have := (h hlt).2.2 ho; omega)]
      simp only [AW, reduceAdd, reduceCtorEq, reduceEqDiff, ↓reduceIte, reduceLT, reduceLeDiff, reduceSub, reducePow, reduceMul, reduceToNat, reduceLE, reduceEq, Int.reduceLT, Int.reduceBEq, Int.reduceBNe]
      refine ⟨rfl, ?_⟩; simp only [wrap_succ hlt HL, AW, reduceAdd, reduceCtorEq, reduceEqDiff, ↓reduceIte, reduceLT, reduceLeDiff, reduceSub, reducePow, reduceMul, reduceToNat, reduceLE, reduceEq, Int.reduceLT, Int.reduceBEq, Int.reduceBNe]
      refine ⟨k + 1, ⟨hlt, next (fun _ => ⟨fun _ => by omega, fun h => absurd hz (by omega), fun h => by rw [ho] at h; cases h⟩)⟩, ?_, by omega⟩
      simp only [LW, Nat.reduceMod, Nat.reduceDiv, ho, AW, reduceAdd, reduceCtorEq, reduceEqDiff, ↓reduceIte, reduceLT, reduceLeDiff, reduceSub, reducePow, reduceMul, reduceToNat, reduceLE, reduceEq, Int.reduceLT, Int.reduceBEq, Int.reduceBNe]
    have z1 : ((k : Int) == 0) = false := by simp; omega
    have z2 : decide ((0 : Int) < (k : Int)) = true := by simp; omega
    have hk0 : 0 < k := by omega
    have hkm : k ≤ maxLen := by omega
    have hq : k - 1 < (marksL r).length := by omega
    simp only [d1, z1, z2, wrap_pred hk0 hkm, map_getD hlt, hlt, map_getD hq, hq, intP, AW, reduceAdd, reduceCtorEq, reduceEqDiff, ↓reduceIte, reduceLT, reduceLeDiff, reduceSub, reducePow, reduceMul, reduceToNat, reduceLE, reduceEq, Int.reduceLT, Int.reduceBEq, Int.reduceBNe]
    cases e2 : decide ((marksL r)[k] < (marksL r)[k - 1])
    rotate_left
    · simp only [AW, reduceAdd, reduceCtorEq, reduceEqDiff, ↓reduceIte, reduceLT, reduceLeDiff, reduceSub, reducePow, reduceMul, reduceToNat, reduceLE, reduceEq, Int.reduceLT, Int.reduceBEq, Int.reduceBNe]; refine ⟨rfl, ?_⟩
      rw [qordered_nomark k (fun h => by have := (h hlt).2.1 hk0; rw [decide_eq_true_eq] at e2; omega)]
    rw [decide_eq_false_iff_not] at e2
    simp only [AW, reduceAdd, reduceCtorEq, reduceEqDiff, ↓reduceIte, reduceLT, reduceLeDiff, reduceSub, reducePow, reduceMul, reduceToNat, reduceLE, reduceEq, Int.reduceLT, Int.reduceBEq, Int.reduceBNe]
    cases ho : r.open_
    · simp only [map_getD hlt, hlt, intP, AW, reduceAdd, reduceCtorEq, reduceEqDiff, ↓reduceIte, reduceLT, reduceLeDiff, reduceSub, reducePow, reduceMul, reduceToNat, reduceLE, reduceEq, Int.reduceLT, Int.reduceBEq, Int.reduceBNe]
      cases e3 : decide (r.end_.lo < (marksL r)[k])
      · rw [decide_eq_false_iff_not] at e3
        refine ⟨rfl, ?_⟩; simp only [wrap_succ hlt HL, AW, reduceAdd, reduceCtorEq, reduceEqDiff, ↓reduceIte, reduceLT, reduceLeDiff, reduceSub, reducePow, reduceMul, reduceToNat, reduceLE, reduceEq, Int.reduceLT, Int.reduceBEq, Int.reduceBNe]
        refine ⟨k + 1, ⟨hlt, next (fun _ => ⟨fun h => absurd h hz, fun _ => by omega, fun _ => by omega⟩)⟩, ?_, by omega⟩
        simp only [LW, Nat.reduceMod, Nat.reduceDiv, ho, AW, reduceAdd, reduceCtorEq, reduceEqDiff, ↓reduceIte, reduceLT, reduceLeDiff, reduceSub, reducePow, reduceMul, reduceToNat, reduceLE, reduceEq, Int.reduceLT, Int.reduceBEq, Int.reduceBNe]
      · rw [decide_eq_true_eq] at e3
        refine ⟨rfl, ?_⟩; simp only [AW, reduceAdd, reduceCtorEq, reduceEqDiff, ↓reduceIte, reduceLT, reduceLeDiff, reduceSub, reducePow, reduceMul, reduceToNat, reduceLE, reduceEq, Int.reduceLT, Int.reduceBEq, Int.reduceBNe]
        rw [qordered_nomark k (fun h => by have := (h hlt).2.2 ho; omega)]
    simp only [AW, reduceAdd, reduceCtorEq, reduceEqDiff, ↓reduceIte, reduceLT, reduceLeDiff, reduceSub, reducePow, reduceMul, reduceToNat, reduceLE, reduceEq, Int.reduceLT, Int.reduceBEq, Int.reduceBNe]
    refine ⟨rfl, ?_⟩; simp only [wrap_succ hlt HL, AW, reduceAdd, reduceCtorEq, reduceEqDiff, ↓reduceIte, reduceLT, reduceLeDiff, reduceSub, reducePow, reduceMul, reduceToNat, reduceLE, reduceEq, Int.reduceLT, Int.reduceBEq, Int.reduceBNe]
    refine ⟨k + 1, ⟨hlt, next (fun _ => ⟨fun h => absurd h hz, fun _ => by omega, fun h => by rw [ho] at h; cases h⟩)⟩, ?_, by omega⟩
    simp only [LW, Nat.reduceMod, Nat.reduceDiv, ho, AW, reduceAdd, reduceCtorEq, reduceEqDiff, ↓reduceIte, reduceLT, reduceLeDiff, reduceSub, reducePow, reduceMul, reduceToNat, reduceLE, reduceEq, Int.reduceLT, Int.reduceBEq, Int.reduceBNe]
  have d1 : decide ((k : Int) < (marksL r).length) = false := by simp; omega
  simp only [d1, AW, reduceAdd, reduceCtorEq, reduceEqDiff, ↓reduceIte, reduceLT, reduceLeDiff, reduceSub, reducePow, reduceMul, reduceToNat, reduceLE, reduceEq, Int.reduceLT, Int.reduceBEq, Int.reduceBNe]
  rw [qordered_yes A (fun j hj => g2 j (by omega) hj)]
set_option maxHeartbeats 2000000 in
theorem qcheck_g (r : RideS) : Good Try.prog 31 [r.pv] (.sc (.int .i64 (checkL r))) := by
  refine good31 (by simp) ?_
  simp only [ac31, RideS.pv, AW, reduceAdd, reduceCtorEq, reduceEqDiff, ↓reduceIte, reduceLT, reduceLeDiff, reduceSub, reducePow, reduceMul, reduceToNat, reduceLE, reduceEq, Int.reduceLT, Int.reduceBEq, Int.reduceBNe]
  refine ops_call (qranged_g r) (by simp only [RideS.pv, AW, reduceAdd, reduceCtorEq, reduceEqDiff, ↓reduceIte, reduceLT, reduceLeDiff, reduceSub, reducePow, reduceMul, reduceToNat, reduceLE, reduceEq, Int.reduceLT, Int.reduceBEq, Int.reduceBNe]) ?_; simp only [RideS.pv, AW, reduceAdd, reduceCtorEq, reduceEqDiff, ↓reduceIte, reduceLT, reduceLeDiff, reduceSub, reducePow, reduceMul, reduceToNat, reduceLE, reduceEq, Int.reduceLT, Int.reduceBEq, Int.reduceBNe]
  cases h1 : rangedL r
  · simp only [AW, reduceAdd, reduceCtorEq, reduceEqDiff, ↓reduceIte, reduceLT, reduceLeDiff, reduceSub, reducePow, reduceMul, reduceToNat, reduceLE, reduceEq, Int.reduceLT, Int.reduceBEq, Int.reduceBNe]; simp [checkL, h1]
  simp only [AW, reduceAdd, reduceCtorEq, reduceEqDiff, ↓reduceIte, reduceLT, reduceLeDiff, reduceSub, reducePow, reduceMul, reduceToNat, reduceLE, reduceEq, Int.reduceLT, Int.reduceBEq, Int.reduceBNe]
  refine ops_call (qjoined_g r) (by simp only [RideS.pv, AW, reduceAdd, reduceCtorEq, reduceEqDiff, ↓reduceIte, reduceLT, reduceLeDiff, reduceSub, reducePow, reduceMul, reduceToNat, reduceLE, reduceEq, Int.reduceLT, Int.reduceBEq, Int.reduceBNe]) ?_; simp only [RideS.pv, AW, reduceAdd, reduceCtorEq, reduceEqDiff, ↓reduceIte, reduceLT, reduceLeDiff, reduceSub, reducePow, reduceMul, reduceToNat, reduceLE, reduceEq, Int.reduceLT, Int.reduceBEq, Int.reduceBNe]
  cases h2 : joinedL r
  · simp only [AW, reduceAdd, reduceCtorEq, reduceEqDiff, ↓reduceIte, reduceLT, reduceLeDiff, reduceSub, reducePow, reduceMul, reduceToNat, reduceLE, reduceEq, Int.reduceLT, Int.reduceBEq, Int.reduceBNe]; simp [checkL, h1, h2]
  have hp : 0 < r.legs.length ∧ r.pauses.length ≤ 512 := by
    simp only [joinedL, lensL, Bool.and_eq_true, decide_eq_true_eq] at h2; omega
  simp only [AW, reduceAdd, reduceCtorEq, reduceEqDiff, ↓reduceIte, reduceLT, reduceLeDiff, reduceSub, reducePow, reduceMul, reduceToNat, reduceLE, reduceEq, Int.reduceLT, Int.reduceBEq, Int.reduceBNe]
  refine ops_call (qordered_g r hp.1 hp.2) (by simp only [RideS.pv, AW, reduceAdd, reduceCtorEq, reduceEqDiff, ↓reduceIte, reduceLT, reduceLeDiff, reduceSub, reducePow, reduceMul, reduceToNat, reduceLE, reduceEq, Int.reduceLT, Int.reduceBEq, Int.reduceBNe]) ?_; simp only [RideS.pv, AW, reduceAdd, reduceCtorEq, reduceEqDiff, ↓reduceIte, reduceLT, reduceLeDiff, reduceSub, reducePow, reduceMul, reduceToNat, reduceLE, reduceEq, Int.reduceLT, Int.reduceBEq, Int.reduceBNe]
  cases h3 : orderedL r
  · simp only [AW, reduceAdd, reduceCtorEq, reduceEqDiff, ↓reduceIte, reduceLT, reduceLeDiff, reduceSub, reducePow, reduceMul, reduceToNat, reduceLE, reduceEq, Int.reduceLT, Int.reduceBEq, Int.reduceBNe]; simp [checkL, h1, h2, h3]
  simp only [AW, reduceAdd, reduceCtorEq, reduceEqDiff, ↓reduceIte, reduceLT, reduceLeDiff, reduceSub, reducePow, reduceMul, reduceToNat, reduceLE, reduceEq, Int.reduceLT, Int.reduceBEq, Int.reduceBNe]
  cases ho : r.open_
  · simp only [AW, reduceAdd, reduceCtorEq, reduceEqDiff, ↓reduceIte, reduceLT, reduceLeDiff, reduceSub, reducePow, reduceMul, reduceToNat, reduceLE, reduceEq, Int.reduceLT, Int.reduceBEq, Int.reduceBNe]
    cases hw : (r.where_ == 3)
    · simp only [AW, reduceAdd, reduceCtorEq, reduceEqDiff, ↓reduceIte, reduceLT, reduceLeDiff, reduceSub, reducePow, reduceMul, reduceToNat, reduceLE, reduceEq, Int.reduceLT, Int.reduceBEq, Int.reduceBNe]; simp [checkL, badL, h1, h2, h3, ho, hw]
    · simp only [AW, reduceAdd, reduceCtorEq, reduceEqDiff, ↓reduceIte, reduceLT, reduceLeDiff, reduceSub, reducePow, reduceMul, reduceToNat, reduceLE, reduceEq, Int.reduceLT, Int.reduceBEq, Int.reduceBNe]; simp [checkL, badL, h1, h2, h3, ho, hw]
  simp only [AW, reduceAdd, reduceCtorEq, reduceEqDiff, ↓reduceIte, reduceLT, reduceLeDiff, reduceSub, reducePow, reduceMul, reduceToNat, reduceLE, reduceEq, Int.reduceLT, Int.reduceBEq, Int.reduceBNe]
  cases he : (r.end_.lo == 0 && r.end_.hi == 0)
  · simp only [AW, reduceAdd, reduceCtorEq, reduceEqDiff, ↓reduceIte, reduceLT, reduceLeDiff, reduceSub, reducePow, reduceMul, reduceToNat, reduceLE, reduceEq, Int.reduceLT, Int.reduceBEq, Int.reduceBNe]
    have : eqS r.end_ ⟨0, 0⟩ = false := he
    simp [checkL, badL, h1, h2, h3, ho, this]
  have he' : eqS r.end_ ⟨0, 0⟩ = true := he
  simp only [AW, reduceAdd, reduceCtorEq, reduceEqDiff, ↓reduceIte, reduceLT, reduceLeDiff, reduceSub, reducePow, reduceMul, reduceToNat, reduceLE, reduceEq, Int.reduceLT, Int.reduceBEq, Int.reduceBNe]
  cases hw : (r.where_ == 3)
  · simp only [AW, reduceAdd, reduceCtorEq, reduceEqDiff, ↓reduceIte, reduceLT, reduceLeDiff, reduceSub, reducePow, reduceMul, reduceToNat, reduceLE, reduceEq, Int.reduceLT, Int.reduceBEq, Int.reduceBNe]; simp [checkL, badL, h1, h2, h3, ho, hw, he']
  · simp only [AW, reduceAdd, reduceCtorEq, reduceEqDiff, ↓reduceIte, reduceLT, reduceLeDiff, reduceSub, reducePow, reduceMul, reduceToNat, reduceLE, reduceEq, Int.reduceLT, Int.reduceBEq, Int.reduceBNe]; simp [checkL, badL, h1, h2, h3, ho, hw, he']


end Go.Proofs.Ythekbdjklmellaa
