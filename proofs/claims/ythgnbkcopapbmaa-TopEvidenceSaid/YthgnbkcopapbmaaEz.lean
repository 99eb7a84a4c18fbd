/-
  How long the windows' lists are.
-/
import Derived.Test.YthgnbkcopapbmaaEy
namespace Go.Proofs.Ythgnbkcopapbmaa
open Go.RowKit
open Nat (reduceAdd reduceEqDiff reduceLT reduceLeDiff reduceSub reducePow reduceMul)
open Int (reduceToNat reduceLE reduceEq)
set_option linter.unusedVariables false
set_option linter.unusedSimpArgs false
set_option linter.unnecessarySimpa false

theorem ridL_len (r : RideS) (h : r.pauses.length ≤ 900) : (ridL r).length ≤ 100000 := by
  have h1 := unionL_len [sureW r]
  have h2 := unionL_len (possWs r)
  have h3 : (possWs r).length = r.pauses.length := by unfold possWs; rw [List.length_map]
  simp only [List.length_cons, List.length_nil] at h1
  have h4 := (minusM_len (x := unionL [sureW r]) (y := unionL (possWs r)) (by omega) (unionL [sureW r]).length (Nat.le_refl _)).2
  rw [List.take_length] at h4
  have h5 : (unionL [sureW r]).length * 1001 ≤ 1 * 1001 := Nat.mul_le_mul_right _ (by omega)
  unfold ridL; omega
theorem commonM_len (x y ou : List WinS) : (commonM x y ou).length ≤ ou.length + x.length + y.length := by
  fun_induction commonM x y ou with
  | case1 ou a x b y h ih => have := putW_len ou (midW a b); simp only [List.length_cons] at ih ⊢; omega
  | case2 ou a x b y h ih => have := putW_len ou (midW a b); simp only [List.length_cons] at ih ⊢; omega
  | case3 => omega
  | case4 => omega
theorem pauL_len (r : RideS) (h : r.pauses.length ≤ 900) : (pauL r).length ≤ 100000 := by
  have h1 := unionL_len [sureW r]
  have h2 := unionL_len (sureWs r)
  have h3 : (sureWs r).length = r.pauses.length := by unfold sureWs; rw [List.length_map]
  simp only [List.length_cons, List.length_nil] at h1
  have h4 := commonM_len (unionL [sureW r]) (unionL (sureWs r)) []
  simp only [List.length_nil] at h4
  unfold pauL; omega


end Go.Proofs.Ythgnbkcopapbmaa
