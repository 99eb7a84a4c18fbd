/-
  Wear of a kind.
-/
import Derived.Test.YthgnbkcopapbmaaI9
namespace Go.Proofs.Ythgnbkcopapbmaa
open Go.RowKit
open Nat (reduceAdd reduceEqDiff reduceLT reduceLeDiff reduceSub reducePow reduceMul)
open Int (reduceToNat reduceLE reduceEq)
set_option linter.unusedVariables false
set_option linter.unusedSimpArgs false
set_option linter.unnecessarySimpa false


def wornL (w : WearS) (k : Nat) (n s : Int) : Int := w.ride.getD k 0 * n + w.hour.getD k 0 * s / 3600
theorem mul_bnd {a b A B : Int} (ha : 0 ≤ a ∧ a ≤ A) (hb : 0 ≤ b ∧ b ≤ B) : 0 ≤ a * b ∧ a * b ≤ A * B :=
  ⟨Int.mul_nonneg ha.1 hb.1, Int.mul_le_mul ha.2 hb.2 hb.1 (by omega)⟩
set_option maxHeartbeats 2000000 in
theorem worn_g (w : WearS) (k : Nat) (n s : Int) (hk : k < w.hour.length) (hk2 : k < w.ride.length) (hr : 0 ≤ w.ride[k] ∧ w.ride[k] ≤ 1000000) (hh : 0 ≤ w.hour[k] ∧ w.hour[k] ≤ 1000000) (hn : 0 ≤ n ∧ n ≤ 131072) (hs : 0 ≤ s ∧ s ≤ 1099505663744) : Good Try.prog 20 [w.pv, intP (k : Int), .agg [intP n, intP s]] (intP (wornL w k n s)) := by
  refine good20 (by simp) ?_
  simp only [ac20, WearS.pv, intP, map_getD hk, hk, map_getD hk2, hk2, AW, reduceAdd, reduceCtorEq, reduceEqDiff, ↓reduceIte, reduceLT, reduceLeDiff, reduceSub, reducePow, reduceMul, reduceToNat, reduceLE, reduceEq, Int.reduceLT, Int.reduceBEq, Int.reduceBNe]
  refine ⟨rfl, ?_⟩
  have m1 := mul_bnd hr hn
  have hq : 0 ≤ s / 3600 ∧ s / 3600 ≤ 1099505663744 := ⟨by omega, by omega⟩
  have hm : 0 ≤ s % 3600 ∧ s % 3600 ≤ 3600 := ⟨by omega, by omega⟩
  have m2 := mul_bnd hh hq
  have m3 := mul_bnd hh hm
  have e1 : wornL w k n s = w.ride[k] * n + (w.hour[k] * (s / 3600) + w.hour[k] * (s % 3600) / 3600) := by
    rw [hour_split _ _ hs.1]
    simp only [wornL, List.getD_eq_getElem?_getD, List.getElem?_eq_getElem hk, List.getElem?_eq_getElem hk2, Option.getD_some]
  rw [Int.tdiv_eq_ediv_of_nonneg hs.1, Int.tmod_eq_emod_of_nonneg hs.1, wrap_id (n := s / 3600) ⟨by omega, by omega⟩]
  rw [e1]
  generalize w.ride[k] * n = A at *
  generalize w.hour[k] * (s / 3600) = B at *
  generalize w.hour[k] * (s % 3600) = D at *
  rw [wrap_id (n := A) ⟨by omega, by omega⟩, wrap_id (n := B) ⟨by omega, by omega⟩, wrap_id (n := D) ⟨by omega, by omega⟩, Int.tdiv_eq_ediv_of_nonneg m3.1, wrap_id (n := D / 3600) ⟨by omega, by omega⟩, wrap_id (n := A + B) ⟨by omega, by omega⟩, wrap_id ⟨by omega, by omega⟩, Int.add_assoc]


end Go.Proofs.Ythgnbkcopapbmaa
