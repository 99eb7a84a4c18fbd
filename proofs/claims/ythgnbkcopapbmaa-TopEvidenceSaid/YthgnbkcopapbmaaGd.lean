/-
  Evidence: the example that every statement asks.
-/
import Derived.Test.YthgnbkcopapbmaaGa
import Derived.Test.YthgnbkcopapbmaaGc
import Derived.Test.YthgnbkcopapbmaaRq
namespace Go.Proofs.Ythgnbkcopapbmaa
open Go.RowKit
open Nat (reduceAdd reduceEqDiff reduceLT reduceLeDiff reduceSub reducePow reduceMul)
open Int (reduceToNat reduceLE reduceEq)
set_option linter.unusedVariables false
set_option linter.unusedSimpArgs false
set_option linter.unnecessarySimpa false

theorem sortW_one (w : WinS) : sortW [w] = [w] := List.perm_singleton.1 (sortW_perm [w])
theorem sortW_nil : sortW [] = [] := List.perm_nil.1 (sortW_perm [])
def rideE : RideS := ⟨1, 0, ⟨10, 20⟩, ⟨100, 140⟩, false, [⟨0, ⟨10, 20⟩, ⟨100, 140⟩⟩], [], 2, 0, 2, 0⟩
def evE : EvS := ⟨1, ⟨130, 200⟩⟩
def rideX : RideS := ⟨1, 0, ⟨10, 20⟩, ⟨130, 140⟩, false, [⟨0, ⟨10, 20⟩, ⟨130, 140⟩⟩], [], 2, 0, 2, 0⟩
theorem ckE : checkL rideE = 0 := by rw [checkD_eq]; decide +kernel
theorem ckX : checkL rideX = 0 := by rw [checkD_eq]; decide +kernel
theorem narE : narrowL rideE evE = (rideX, 0) := by
  unfold narrowL
  rw [if_neg (fun hh => hh ckE), if_neg (by decide), if_neg (by decide), if_neg (by decide), if_neg (by decide)]
  rfl
theorem sureX : sureE rideX = 0 := by unfold sureE; rw [if_neg (fun hh => hh ckX)]; rfl
theorem uni_one (w : WinS) : unionL [w] = mergeU [w] := by unfold unionL; rw [sortW_one]
theorem ridX : ridL rideX = [⟨20, 130⟩] := by
  have h1 : possWs rideX = [] := rfl
  have h2 : unionL [] = [] := by unfold unionL; rw [sortW_nil]; rfl
  unfold ridL
  rw [h1, h2, uni_one]; rfl
theorem sumX : sumW (unionL (ridL rideX)) = 110 := by rw [ridX, uni_one]; rfl
theorem secX : ∃ b, Good Try.prog 12 [rideX.pv] (.tup [intP 110, intP b, intP 0]) := by
  have h := seconds_ok rideX ckX sureX (by decide)
  rw [sumX] at h
  exact ⟨_, h⟩
def tarE : TariffS := ⟨0, 0, 60, 0, 20, 0⟩
theorem timX : timeP tarE 110 = .tup [intP 40, intP 0] := by
  have h : timeE tarE 110 = 0 := by decide
  have h2 : ridingT (t0 tarE) 110 = 40 := by decide
  unfold timeP
  rw [if_pos h, h2]
set_option maxHeartbeats 4000000 in
theorem evAwake : Good Try.prog 8 [] (.sc (.bool true)) := by
  have gn := narrow_g rideE evE
  unfold narrowP at gn
  rw [narE] at gn
  obtain ⟨b, gs⟩ := secX
  have gt := time_g tarE 110
  rw [timX] at gt
  refine good8 (by simp) ?_
  simp only [ac8, AW, reduceAdd, reduceCtorEq, reduceEqDiff, ↓reduceIte, reduceLT, reduceLeDiff, reduceSub, reducePow, reduceMul, reduceToNat, reduceLE, reduceEq, Int.reduceLT, Int.reduceBEq, Int.reduceBNe]
  refine ops_call (gn) (by simp only [rideE, rideX, evE, RideS.pv, LegS.pv, LegS.vals, List.map_cons, List.map_nil, EvS.pv, EvS.vals, intP, AW, reduceAdd, reduceCtorEq, reduceEqDiff, ↓reduceIte, reduceLT, reduceLeDiff, reduceSub, reducePow, reduceMul, reduceToNat, reduceLE, reduceEq, Int.reduceLT, Int.reduceBEq, Int.reduceBNe]) ?_; simp only [rideE, rideX, evE, RideS.pv, LegS.pv, LegS.vals, List.map_cons, List.map_nil, EvS.pv, EvS.vals, intP, AW, reduceAdd, reduceCtorEq, reduceEqDiff, ↓reduceIte, reduceLT, reduceLeDiff, reduceSub, reducePow, reduceMul, reduceToNat, reduceLE, reduceEq, Int.reduceLT, Int.reduceBEq, Int.reduceBNe]
  refine ops_call (gs) (by simp only [rideX, RideS.pv, LegS.pv, LegS.vals, List.map_cons, List.map_nil, intP, AW, reduceAdd, reduceCtorEq, reduceEqDiff, ↓reduceIte, reduceLT, reduceLeDiff, reduceSub, reducePow, reduceMul, reduceToNat, reduceLE, reduceEq, Int.reduceLT, Int.reduceBEq, Int.reduceBNe]) ?_; simp only [rideX, RideS.pv, LegS.pv, LegS.vals, List.map_cons, List.map_nil, intP, AW, reduceAdd, reduceCtorEq, reduceEqDiff, ↓reduceIte, reduceLT, reduceLeDiff, reduceSub, reducePow, reduceMul, reduceToNat, reduceLE, reduceEq, Int.reduceLT, Int.reduceBEq, Int.reduceBNe]
  refine ops_call (gt) (by simp only [tarE, TariffS.pv, TariffS.vals, List.map_cons, List.map_nil, intP, AW, reduceAdd, reduceCtorEq, reduceEqDiff, ↓reduceIte, reduceLT, reduceLeDiff, reduceSub, reducePow, reduceMul, reduceToNat, reduceLE, reduceEq, Int.reduceLT, Int.reduceBEq, Int.reduceBNe]) ?_; simp only [tarE, TariffS.pv, TariffS.vals, List.map_cons, List.map_nil, intP, AW, reduceAdd, reduceCtorEq, reduceEqDiff, ↓reduceIte, reduceLT, reduceLeDiff, reduceSub, reducePow, reduceMul, reduceToNat, reduceLE, reduceEq, Int.reduceLT, Int.reduceBEq, Int.reduceBNe]


end Go.Proofs.Ythgnbkcopapbmaa
