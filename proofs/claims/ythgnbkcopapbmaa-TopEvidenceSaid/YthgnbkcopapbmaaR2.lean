/-
  Rides as abstract values: whether the legs of a ride join.
-/
import Derived.Test.YthgnbkcopapbmaaR1
namespace Go.Proofs.Ythgnbkcopapbmaa
open Go.RowKit
open Nat (reduceAdd reduceEqDiff reduceLT reduceLeDiff reduceSub reducePow reduceMul)
open Int (reduceToNat reduceLE reduceEq)
set_option linter.unusedVariables false
set_option linter.unusedSimpArgs false
set_option linter.unnecessarySimpa false


theorem wrap_pred {n : Nat} (h : 0 < n) (hn : n ≤ maxLen) : IntKind.wrap .i64 ((n : Int) - 1) = ((n - 1 : Nat) : Int) := by
  unfold maxLen at hn
  simp [IntKind.wrap, IntKind.bits, IntKind.signed, IntKind.min, IntKind.max]
  omega
theorem eqS_def (a b : SpanS) : (a.lo == b.lo && a.hi == b.hi) = eqS a b := rfl
set_option maxHeartbeats 2000000 in
theorem rjoined_g (r : RideS) : Good Try.prog 39 [r.pv] (.sc (.bool (joinedL r))) := by
  refine .rideLen (fun Hlegs Hpauses => ?_)
  refine good39 (by simp) ?_
  simp only [ac39, RideS.pv, AW, reduceAdd, reduceCtorEq, reduceEqDiff, ↓reduceIte, reduceLT, reduceLeDiff, reduceSub, reducePow, reduceMul, reduceToNat, reduceLE, reduceEq, Int.reduceLT, Int.reduceBEq, Int.reduceBNe]
  cases h1 : decide ((r.legs.length : Int) < 1)
  rotate_left
  · simp only [AW, reduceAdd, reduceCtorEq, reduceEqDiff, ↓reduceIte, reduceLT, reduceLeDiff, reduceSub, reducePow, reduceMul, reduceToNat, reduceLE, reduceEq, Int.reduceLT, Int.reduceBEq, Int.reduceBNe]
    rw [joined_of_lens (by simp at h1; simp [lensL]; omega)]
  simp only [AW, reduceAdd, reduceCtorEq, reduceEqDiff, ↓reduceIte, reduceLT, reduceLeDiff, reduceSub, reducePow, reduceMul, reduceToNat, reduceLE, reduceEq, Int.reduceLT, Int.reduceBEq, Int.reduceBNe]
  cases h2 : decide ((512 : Int) < r.legs.length)
  rotate_left
  · simp only [AW, reduceAdd, reduceCtorEq, reduceEqDiff, ↓reduceIte, reduceLT, reduceLeDiff, reduceSub, reducePow, reduceMul, reduceToNat, reduceLE, reduceEq, Int.reduceLT, Int.reduceBEq, Int.reduceBNe]
    rw [joined_of_lens (by simp at h2; simp [lensL]; omega)]
  simp only [AW, reduceAdd, reduceCtorEq, reduceEqDiff, ↓reduceIte, reduceLT, reduceLeDiff, reduceSub, reducePow, reduceMul, reduceToNat, reduceLE, reduceEq, Int.reduceLT, Int.reduceBEq, Int.reduceBNe]
  cases h3 : decide ((512 : Int) < r.pauses.length)
  rotate_left
  · simp only [AW, reduceAdd, reduceCtorEq, reduceEqDiff, ↓reduceIte, reduceLT, reduceLeDiff, reduceSub, reducePow, reduceMul, reduceToNat, reduceLE, reduceEq, Int.reduceLT, Int.reduceBEq, Int.reduceBNe]
    rw [joined_of_lens (by simp at h3; simp [lensL]; omega)]
  have hl : lensL r = true := by simp at h1 h2 h3; simp [lensL]; omega
  have hp : 0 < r.legs.length := by simp at h1; omega
  simp only [AW, reduceAdd, reduceCtorEq, reduceEqDiff, ↓reduceIte, reduceLT, reduceLeDiff, reduceSub, reducePow, reduceMul, reduceToNat, reduceLE, reduceEq, Int.reduceLT, Int.reduceBEq, Int.reduceBNe]
  refine run_loop (ι := Nat) (fun k => ⟨[(1, .ptr 0 0), (3, .ptr 20 0), (25, .sl (r.legs.map LegS.pv)), (26, .sc (.int .i64 (r.legs.length : Int))), (27, .sc (.int .i64 (k : Int)))], [(0, .var [.sc (.int .i64 r.id), .sc (.int .i64 r.rider), .sc (.int .i64 r.start.lo), .sc (.int .i64 r.start.hi), .sc (.int .i64 r.end_.lo), .sc (.int .i64 r.end_.hi), .sc (.bool r.open_), .sl (r.legs.map LegS.pv), .sl (r.pauses.map PauseS.pv), .sc (.int .i64 r.fromWhere), .sc (.int .i64 r.fromPlace), .sc (.int .i64 r.where_), .sc (.int .i64 r.place)]), (20, .var [.sc (.int .i64 (prevS r k).lo), .sc (.int .i64 (prevS r k).hi)])], 26, 42⟩) (fun k => k ≤ r.legs.length ∧ ∀ j (hj : j < r.legs.length), j < k → r.legs[j].from_ = prevS r j) (fun k => r.legs.length - k) 26 (fun _ => rfl) 0 ?_ ⟨Nat.zero_le _, nofun⟩ (fun k hk => ?_)
  · simp only [LW, Nat.reduceMod, Nat.reduceDiv, Int.natCast_zero, prevS, AW, reduceAdd, reduceCtorEq, reduceEqDiff, ↓reduceIte, reduceLT, reduceLeDiff, reduceSub, reducePow, reduceMul, reduceToNat, reduceLE, reduceEq, Int.reduceLT, Int.reduceBEq, Int.reduceBNe]
  obtain ⟨g1, g2⟩ := hk
  by_cases hlt : k < r.legs.length
  · have d1 : decide ((k : Int) < r.legs.length) = true := by simp [hlt]
    simp only [d1, map_getD hlt, hlt, LegS.pv, LegS.vals, eqS_def, AW, reduceAdd, reduceCtorEq, reduceEqDiff, ↓reduceIte, reduceLT, reduceLeDiff, reduceSub, reducePow, reduceMul, reduceToNat, reduceLE, reduceEq, Int.reduceLT, Int.reduceBEq, Int.reduceBNe]
    cases h6 : eqS r.legs[k].from_ (prevS r k)
    · simp only [AW, reduceAdd, reduceCtorEq, reduceEqDiff, ↓reduceIte, reduceLT, reduceLeDiff, reduceSub, reducePow, reduceMul, reduceToNat, reduceLE, reduceEq, Int.reduceLT, Int.reduceBEq, Int.reduceBNe]
      rw [joined_no k hlt (eqS_false.1 h6)]
    simp only [wrap_succ hlt Hlegs, AW, reduceAdd, reduceCtorEq, reduceEqDiff, ↓reduceIte, reduceLT, reduceLeDiff, reduceSub, reducePow, reduceMul, reduceToNat, reduceLE, reduceEq, Int.reduceLT, Int.reduceBEq, Int.reduceBNe]
    refine ⟨k + 1, ⟨hlt, fun j hj hjk => ?_⟩, ?_, by omega⟩
    · by_cases e : j = k
      · subst e; exact eqS_iff.1 h6
      · exact g2 j hj (by omega)
    · simp only [LW, Nat.reduceMod, Nat.reduceDiv, prevS_succ r k hlt, AW, reduceAdd, reduceCtorEq, reduceEqDiff, ↓reduceIte, reduceLT, reduceLeDiff, reduceSub, reducePow, reduceMul, reduceToNat, reduceLE, reduceEq, Int.reduceLT, Int.reduceBEq, Int.reduceBNe]
  have d1 : decide ((k : Int) < r.legs.length) = false := by simp; omega
  obtain rfl : k = r.legs.length := by omega
  simp only [d1, eqS_def, AW, reduceAdd, reduceCtorEq, reduceEqDiff, ↓reduceIte, reduceLT, reduceLeDiff, reduceSub, reducePow, reduceMul, reduceToNat, reduceLE, reduceEq, Int.reduceLT, Int.reduceBEq, Int.reduceBNe]
  rw [joined_yes hl (fun j hj => g2 j hj (by omega))]


end Go.Proofs.Ythgnbkcopapbmaa
