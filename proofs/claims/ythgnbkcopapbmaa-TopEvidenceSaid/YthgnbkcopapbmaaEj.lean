/-
  Evidence: the models; Sure, Possible, common.
-/
import Derived.Test.YthgnbkcopapbmaaEi
namespace Go.Proofs.Ythgnbkcopapbmaa
open Go.RowKit
open Nat (reduceAdd reduceEqDiff reduceLT reduceLeDiff reduceSub reducePow reduceMul)
open Int (reduceToNat reduceLE reduceEq)
set_option linter.unusedVariables false
set_option linter.unusedSimpArgs false
set_option linter.unnecessarySimpa false

def RideS.norm (r : RideS) : RideS := ⟨r.id, r.rider, r.start, r.end_, r.open_, r.legs, r.pauses, r.fromWhere, r.fromPlace, r.where_, r.place⟩
def zeroR : RideS := ⟨0, 0, ⟨0, 0⟩, ⟨0, 0⟩, false, [], [], 0, 0, 0, 0⟩
noncomputable def narrowL (r : RideS) (e : EvS) : RideS × Int :=
  if checkL r ≠ 0 then (zeroR, checkL r) else if e.ride ≠ r.id then (zeroR, 7) else if r.open_ = true then (zeroR, 26) else if validL e.end_ = false then (zeroR, 1)
  else if (commonL r.end_ e.end_).hi < (commonL r.end_ e.end_).lo then (zeroR, 34)
  else ({ r.norm with end_ := commonL r.end_ e.end_, legs := r.legs.modify (r.legs.length - 1) (fun x => { x with to_ := commonL r.end_ e.end_ }) }, 0)
theorem narrow_norm (r : RideS) (e : EvS) : narrowL r.norm e = narrowL r e := rfl
noncomputable def allF : RideS → Nat → List EvS → List Int → RideS × List Int
  | x, _, [], acc => (x, acc)
  | x, i, e :: l, acc => if (narrowL x e).2 = 0 then allF (narrowL x e).1 (i + 1) l acc else allF x (i + 1) l (acc ++ [(i : Int)])
noncomputable def allL (r : RideS) (l : List EvS) : RideS × List Int × Int :=
  if checkL r ≠ 0 then (zeroR, [], checkL r) else if 512 < l.length then (zeroR, [], 8) else ((allF r.norm 0 l []).1, (allF r.norm 0 l []).2, 0)
noncomputable def sureE (r : RideS) : Int := if checkL r ≠ 0 then checkL r else if r.open_ = true then 26 else 0
def sureW (r : RideS) : WinS := ⟨r.start.hi, max r.start.hi r.end_.lo⟩
def possW (r : RideS) : WinS := ⟨r.start.lo, r.end_.hi⟩
noncomputable def sureP (r : RideS) : PV := if sureE r = 0 then .tup [(sureW r).pv, intP 0] else .tup [WinS.pv ⟨0, 0⟩, intP (sureE r)]
noncomputable def possP (r : RideS) : PV := if sureE r = 0 then .tup [(possW r).pv, intP 0] else .tup [WinS.pv ⟨0, 0⟩, intP (sureE r)]
set_option maxHeartbeats 2000000 in
theorem sure_g (r : RideS) : Good Try.prog 10 [r.pv] (sureP r) := by
  have gc := rcheck_g r
  refine good10 (by simp) ?_
  simp only [ac10, RideS.pv, AW, reduceAdd, reduceCtorEq, reduceEqDiff, ↓reduceIte, reduceLT, reduceLeDiff, reduceSub, reducePow, reduceMul, reduceToNat, reduceLE, reduceEq, Int.reduceLT, Int.reduceBEq, Int.reduceBNe]
  refine ops_call (gc) (by simp only [RideS.pv, intP, AW, reduceAdd, reduceCtorEq, reduceEqDiff, ↓reduceIte, reduceLT, reduceLeDiff, reduceSub, reducePow, reduceMul, reduceToNat, reduceLE, reduceEq, Int.reduceLT, Int.reduceBEq, Int.reduceBNe]) ?_; simp only [RideS.pv, intP, AW, reduceAdd, reduceCtorEq, reduceEqDiff, ↓reduceIte, reduceLT, reduceLeDiff, reduceSub, reducePow, reduceMul, reduceToNat, reduceLE, reduceEq, Int.reduceLT, Int.reduceBEq, Int.reduceBNe]
  by_cases h : checkL r = 0
  rotate_left
  · have d : (checkL r != 0) = true := by rw [bne_iff_ne]; exact h
    have e : sureE r = checkL r := by unfold sureE; rw [if_pos h]
    unfold sureP
    rw [e, if_neg h]
    simp only [d, WinS.pv, WinS.vals, List.map_cons, List.map_nil, intP, AW, reduceAdd, reduceCtorEq, reduceEqDiff, ↓reduceIte, reduceLT, reduceLeDiff, reduceSub, reducePow, reduceMul, reduceToNat, reduceLE, reduceEq, Int.reduceLT, Int.reduceBEq, Int.reduceBNe]
  have d : (checkL r != 0) = false := by rw [h]; rfl
  cases ho : r.open_
  · have e : sureE r = 0 := by unfold sureE; rw [if_neg (fun hh => hh h), ho]; rfl
    unfold sureP
    rw [if_pos e]
    simp only [d, ho, WinS.pv, WinS.vals, List.map_cons, List.map_nil, intP, sureW, mx_eq, AW, reduceAdd, reduceCtorEq, reduceEqDiff, ↓reduceIte, reduceLT, reduceLeDiff, reduceSub, reducePow, reduceMul, reduceToNat, reduceLE, reduceEq, Int.reduceLT, Int.reduceBEq, Int.reduceBNe]
  · have e : sureE r = 26 := by unfold sureE; rw [if_neg (fun hh => hh h), ho]; rfl
    unfold sureP
    rw [e, if_neg (by decide)]
    simp only [d, ho, WinS.pv, WinS.vals, List.map_cons, List.map_nil, intP, AW, reduceAdd, reduceCtorEq, reduceEqDiff, ↓reduceIte, reduceLT, reduceLeDiff, reduceSub, reducePow, reduceMul, reduceToNat, reduceLE, reduceEq, Int.reduceLT, Int.reduceBEq, Int.reduceBNe]
set_option maxHeartbeats 2000000 in
theorem poss_g (r : RideS) : Good Try.prog 11 [r.pv] (possP r) := by
  have gs := sure_g r
  unfold sureP at gs
  refine good11 (by simp) ?_
  simp only [ac11, RideS.pv, AW, reduceAdd, reduceCtorEq, reduceEqDiff, ↓reduceIte, reduceLT, reduceLeDiff, reduceSub, reducePow, reduceMul, reduceToNat, reduceLE, reduceEq, Int.reduceLT, Int.reduceBEq, Int.reduceBNe]
  unfold possP
  by_cases h : sureE r = 0
  · rw [if_pos h] at gs
    rw [if_pos h]
    refine ops_call (gs) (by simp only [RideS.pv, WinS.pv, WinS.vals, List.map_cons, List.map_nil, intP, AW, reduceAdd, reduceCtorEq, reduceEqDiff, ↓reduceIte, reduceLT, reduceLeDiff, reduceSub, reducePow, reduceMul, reduceToNat, reduceLE, reduceEq, Int.reduceLT, Int.reduceBEq, Int.reduceBNe]) ?_; simp only [RideS.pv, WinS.pv, WinS.vals, List.map_cons, List.map_nil, intP, AW, reduceAdd, reduceCtorEq, reduceEqDiff, ↓reduceIte, reduceLT, reduceLeDiff, reduceSub, reducePow, reduceMul, reduceToNat, reduceLE, reduceEq, Int.reduceLT, Int.reduceBEq, Int.reduceBNe]
    (try simp only [possW, WinS.pv, WinS.vals, List.map_cons, List.map_nil, AW, reduceAdd, reduceCtorEq, reduceEqDiff, ↓reduceIte, reduceLT, reduceLeDiff, reduceSub, reducePow, reduceMul, reduceToNat, reduceLE, reduceEq, Int.reduceLT, Int.reduceBEq, Int.reduceBNe])
  · rw [if_neg h] at gs
    rw [if_neg h]
    refine ops_call (gs) (by simp only [RideS.pv, WinS.pv, WinS.vals, List.map_cons, List.map_nil, intP, AW, reduceAdd, reduceCtorEq, reduceEqDiff, ↓reduceIte, reduceLT, reduceLeDiff, reduceSub, reducePow, reduceMul, reduceToNat, reduceLE, reduceEq, Int.reduceLT, Int.reduceBEq, Int.reduceBNe]) ?_; simp only [RideS.pv, WinS.pv, WinS.vals, List.map_cons, List.map_nil, intP, AW, reduceAdd, reduceCtorEq, reduceEqDiff, ↓reduceIte, reduceLT, reduceLeDiff, reduceSub, reducePow, reduceMul, reduceToNat, reduceLE, reduceEq, Int.reduceLT, Int.reduceBEq, Int.reduceBNe]
    have d : (sureE r != 0) = true := by rw [bne_iff_ne]; exact h
    simp only [d, WinS.pv, WinS.vals, List.map_cons, List.map_nil, intP, AW, reduceAdd, reduceCtorEq, reduceEqDiff, ↓reduceIte, reduceLT, reduceLeDiff, reduceSub, reducePow, reduceMul, reduceToNat, reduceLE, reduceEq, Int.reduceLT, Int.reduceBEq, Int.reduceBNe]
theorem mn_eq (a b : Int) : (if b < a then b else a) = min a b := by
  rw [Int.min_def]; split <;> split <;> omega
theorem common_g (a b : SpanS) : Good Try.prog 37 [a.pv, b.pv] (commonL a b).pv := by
  refine good37 (by simp) ?_
  simp only [ac37, SpanS.pv, SpanS.vals, List.map_cons, List.map_nil, mx_eq, mn_eq, commonL, AW, reduceAdd, reduceCtorEq, reduceEqDiff, ↓reduceIte, reduceLT, reduceLeDiff, reduceSub, reducePow, reduceMul, reduceToNat, reduceLE, reduceEq, Int.reduceLT, Int.reduceBEq, Int.reduceBNe]


end Go.Proofs.Ythgnbkcopapbmaa
