/-
  Riding and Pausing of a valid, closed ride.
-/
import Derived.Test.YthgnbkcopapbmaaEz
import Derived.Test.YthgnbkcopapbmaaEc
import Derived.Test.YthgnbkcopapbmaaEd
namespace Go.Proofs.Ythgnbkcopapbmaa
open Go.RowKit
open Nat (reduceAdd reduceEqDiff reduceLT reduceLeDiff reduceSub reducePow reduceMul)
open Int (reduceToNat reduceLE reduceEq)
set_option linter.unusedVariables false
set_option linter.unusedSimpArgs false
set_option linter.unnecessarySimpa false

set_option maxHeartbeats 2000000 in
theorem part_g (r : RideS) (h0 : sureE r = 0) (g h : FuncId) (fg fh : Func) (hg : Try.prog.funcs[g]? = some fg) (hg1 : (fg.name == "runtime.NumGoroutine") = false) (hg2 : fg.body.isNone = false) (hh : Try.prog.funcs[h]? = some fh) (hh1 : (fh.name == "runtime.NumGoroutine") = false) (hh2 : fh.body.isNone = false) (wins : List WinS) (out : List PV)
    (gw : Good Try.prog h [.sl (r.pauses.map PauseS.pv)] (.sl (wins.map WinS.pv))) (gc : Good Try.prog g [.sl [(sureW r).pv], .sl (wins.map WinS.pv)] (.tup [.sl out, intP 0])) :
    Good Try.prog 43 [r.pv, .sc (.func (.func g) #[] #[]), .clf h [.sl (r.pauses.map PauseS.pv)]] (.tup [.sl out, intP 0]) := by
  have gs := sure_g r
  unfold sureP at gs
  rw [if_pos h0] at gs
  refine good43 (by simp) ?_
  simp only [ac43, RideS.pv, AW, reduceAdd, reduceCtorEq, reduceEqDiff, ↓reduceIte, reduceLT, reduceLeDiff, reduceSub, reducePow, reduceMul, reduceToNat, reduceLE, reduceEq, Int.reduceLT, Int.reduceBEq, Int.reduceBNe]
  refine ops_call (gs) (by simp only [RideS.pv, WinS.pv, WinS.vals, List.map_cons, List.map_nil, intP, AW, reduceAdd, reduceCtorEq, reduceEqDiff, ↓reduceIte, reduceLT, reduceLeDiff, reduceSub, reducePow, reduceMul, reduceToNat, reduceLE, reduceEq, Int.reduceLT, Int.reduceBEq, Int.reduceBNe]) ?_; simp only [RideS.pv, WinS.pv, WinS.vals, List.map_cons, List.map_nil, intP, AW, reduceAdd, reduceCtorEq, reduceEqDiff, ↓reduceIte, reduceLT, reduceLeDiff, reduceSub, reducePow, reduceMul, reduceToNat, reduceLE, reduceEq, Int.reduceLT, Int.reduceBEq, Int.reduceBNe]
  refine ops_callF (cs := [.sl (r.pauses.map PauseS.pv)]) hh hh1 hh2 (by simp only [AW, reduceAdd, reduceCtorEq, reduceEqDiff, ↓reduceIte, reduceLT, reduceLeDiff, reduceSub, reducePow, reduceMul, reduceToNat, reduceLE, reduceEq, Int.reduceLT, Int.reduceBEq, Int.reduceBNe]) (gw) (by simp only [AW, reduceAdd, reduceCtorEq, reduceEqDiff, ↓reduceIte, reduceLT, reduceLeDiff, reduceSub, reducePow, reduceMul, reduceToNat, reduceLE, reduceEq, Int.reduceLT, Int.reduceBEq, Int.reduceBNe]) ?_; simp only [AW, reduceAdd, reduceCtorEq, reduceEqDiff, ↓reduceIte, reduceLT, reduceLeDiff, reduceSub, reducePow, reduceMul, reduceToNat, reduceLE, reduceEq, Int.reduceLT, Int.reduceBEq, Int.reduceBNe]
  refine ops_callV hg hg1 hg2 (by simp only [AW, reduceAdd, reduceCtorEq, reduceEqDiff, ↓reduceIte, reduceLT, reduceLeDiff, reduceSub, reducePow, reduceMul, reduceToNat, reduceLE, reduceEq, Int.reduceLT, Int.reduceBEq, Int.reduceBNe]) (gc) (by simp only [WinS.pv, WinS.vals, List.map_cons, List.map_nil, AW, reduceAdd, reduceCtorEq, reduceEqDiff, ↓reduceIte, reduceLT, reduceLeDiff, reduceSub, reducePow, reduceMul, reduceToNat, reduceLE, reduceEq, Int.reduceLT, Int.reduceBEq, Int.reduceBNe]) ?_; simp only [intP, AW, reduceAdd, reduceCtorEq, reduceEqDiff, ↓reduceIte, reduceLT, reduceLeDiff, reduceSub, reducePow, reduceMul, reduceToNat, reduceLE, reduceEq, Int.reduceLT, Int.reduceBEq, Int.reduceBNe]
  (first | (refine drawnK rfl ?_; (try simp only [AW, reduceAdd, reduceCtorEq, reduceEqDiff, ↓reduceIte, reduceLT, reduceLeDiff, reduceSub, reducePow, reduceMul, reduceToNat, reduceLE, reduceEq, Int.reduceLT, Int.reduceBEq, Int.reduceBNe])) | rfl | skip)
set_option maxHeartbeats 2000000 in
theorem riding_ok (r : RideS) (hc : checkL r = 0) (h0 : sureE r = 0) (hp : r.pauses.length ≤ 900) : Good Try.prog 26 [r.pv] (.tup [.sl ((ridL r).map WinS.pv), intP 0]) := by
  have gp := possV_g r.pauses (by omega)
  have gm := minus_g [sureW r] (possWs r) (by simp) (by unfold possWs; rw [List.length_map]; omega)
  have b1 : badW [sureW r] = false := bad_of (fun w hw => by rw [List.mem_singleton] at hw; subst hw; exact sureW_ok hc)
  have b2 : badW (possWs r) = false := bad_of (possWs_ok hc)
  unfold minusP at gm
  rw [b1, b2, if_neg (by decide), List.map_cons, List.map_nil] at gm
  have gt := part_g r h0 44 45 Try.f44 Try.f45 Try.func44 (by kernel_rfl) (by kernel_rfl) Try.func45 (by kernel_rfl) (by kernel_rfl) (possWs r) _ gp gm
  refine good26 (by simp) ?_
  simp only [ac26, RideS.pv, AW, reduceAdd, reduceCtorEq, reduceEqDiff, ↓reduceIte, reduceLT, reduceLeDiff, reduceSub, reducePow, reduceMul, reduceToNat, reduceLE, reduceEq, Int.reduceLT, Int.reduceBEq, Int.reduceBNe]
  refine ops_call (gt) (by simp only [RideS.pv, intP, AW, reduceAdd, reduceCtorEq, reduceEqDiff, ↓reduceIte, reduceLT, reduceLeDiff, reduceSub, reducePow, reduceMul, reduceToNat, reduceLE, reduceEq, Int.reduceLT, Int.reduceBEq, Int.reduceBNe]) ?_; simp only [RideS.pv, intP, AW, reduceAdd, reduceCtorEq, reduceEqDiff, ↓reduceIte, reduceLT, reduceLeDiff, reduceSub, reducePow, reduceMul, reduceToNat, reduceLE, reduceEq, Int.reduceLT, Int.reduceBEq, Int.reduceBNe]
  rfl
set_option maxHeartbeats 2000000 in
theorem pausing_ok (r : RideS) (hc : checkL r = 0) (h0 : sureE r = 0) (hp : r.pauses.length ≤ 900) : Good Try.prog 27 [r.pv] (.tup [.sl ((pauL r).map WinS.pv), intP 0]) := by
  have gp := sureV_g r.pauses (by omega)
  have gm := common2_g [sureW r] (sureWs r) (by simp) (by unfold sureWs; rw [List.length_map]; omega)
  have b1 : badW [sureW r] = false := bad_of (fun w hw => by rw [List.mem_singleton] at hw; subst hw; exact sureW_ok hc)
  have b2 : badW (sureWs r) = false := bad_of (sureWs_ok hc)
  unfold commonP at gm
  rw [b1, b2, if_neg (by decide), List.map_cons, List.map_nil] at gm
  have gt := part_g r h0 46 47 Try.f46 Try.f47 Try.func46 (by kernel_rfl) (by kernel_rfl) Try.func47 (by kernel_rfl) (by kernel_rfl) (sureWs r) _ gp gm
  refine good27 (by simp) ?_
  simp only [ac27, RideS.pv, AW, reduceAdd, reduceCtorEq, reduceEqDiff, ↓reduceIte, reduceLT, reduceLeDiff, reduceSub, reducePow, reduceMul, reduceToNat, reduceLE, reduceEq, Int.reduceLT, Int.reduceBEq, Int.reduceBNe]
  refine ops_call (gt) (by simp only [RideS.pv, intP, AW, reduceAdd, reduceCtorEq, reduceEqDiff, ↓reduceIte, reduceLT, reduceLeDiff, reduceSub, reducePow, reduceMul, reduceToNat, reduceLE, reduceEq, Int.reduceLT, Int.reduceBEq, Int.reduceBNe]) ?_; simp only [RideS.pv, intP, AW, reduceAdd, reduceCtorEq, reduceEqDiff, ↓reduceIte, reduceLT, reduceLeDiff, reduceSub, reducePow, reduceMul, reduceToNat, reduceLE, reduceEq, Int.reduceLT, Int.reduceBEq, Int.reduceBNe]
  rfl
/-- The seconds of riding and of pausing. -/
theorem seconds_ok (r : RideS) (hc : checkL r = 0) (h0 : sureE r = 0) (hp : r.pauses.length ≤ 900) : Good Try.prog 12 [r.pv] (.tup [intP (sumW (unionL (ridL r))), intP (sumW (unionL (pauL r))), intP 0]) :=
  seconds_of r (riding_ok r hc h0 hp) (pausing_ok r hc h0 hp) (ridL_len r hp) (pauL_len r hp) (ridL_ok hc).1 (ridL_ok hc).2


end Go.Proofs.Ythgnbkcopapbmaa
