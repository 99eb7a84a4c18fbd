/-
  Narrow, walked.
-/
import Derived.Test.YthgnbkcopapbmaaEp
import Derived.Test.YthgnbkcopapbmaaDa
namespace Go.Proofs.Ythgnbkcopapbmaa
open Go.RowKit
open Nat (reduceAdd reduceEqDiff reduceLT reduceLeDiff reduceSub reducePow reduceMul)
open Int (reduceToNat reduceLE reduceEq)
set_option linter.unusedVariables false
set_option linter.unusedSimpArgs false
set_option linter.unnecessarySimpa false

theorem lens_of {r : RideS} (h : checkL r = 0) : 0 < r.legs.length ∧ r.legs.length ≤ 1000000 ∧ r.pauses.length ≤ 1000000 := by
  have hj := (check_parts h).2.1
  have hl := (joined_parts hj).1
  have hp := legs_pos hj
  simp only [lensL, Bool.and_eq_true, decide_eq_true_eq] at hl
  omega
theorem set_last (l : List LegS) (h : 0 < l.length) (c : SpanS) : (l.map LegS.pv).set (l.length - 1) (.agg ((((l.map LegS.pv).getD (l.length - 1) .dead).flat.set 3 (.sc (.int .i64 c.lo))).set 4 (.sc (.int .i64 c.hi)))) = (l.modify (l.length - 1) (fun x => { x with to_ := c })).map LegS.pv := by
  have hlt : l.length - 1 < l.length := by omega
  rw [map_getD hlt]
  refine List.ext_getElem (by simp) (fun i h1 h2 => ?_)
  rw [List.getElem_set, List.getElem_map, List.getElem_map, List.getElem_modify]
  by_cases e : l.length - 1 = i
  · subst e; rw [if_pos rfl, if_pos rfl]; rfl
  · rw [if_neg e, if_neg e]
noncomputable def narrowP (r : RideS) (e : EvS) : PV := .tup [(narrowL r e).1.pv, intP (narrowL r e).2]
theorem nar_err {r : RideS} {e : EvS} {k : Int} (h : narrowL r e = (zeroR, k)) : narrowP r e = .tup [zeroR.pv, intP k] := by unfold narrowP; rw [h]
set_option maxHeartbeats 4000000 in
theorem narrow_g (r : RideS) (e : EvS) : Good Try.prog 22 [r.pv, e.pv] (narrowP r e) := by
  have gc := rcheck_g r
  have gm := common_g r.end_ e.end_
  refine good22 (by simp) ?_
  simp only [ac22, RideS.pv, EvS.pv, EvS.vals, SpanS.pv, SpanS.vals, List.map_cons, List.map_nil, AW, reduceAdd, reduceCtorEq, reduceEqDiff, ↓reduceIte, reduceLT, reduceLeDiff, reduceSub, reducePow, reduceMul, reduceToNat, reduceLE, reduceEq, Int.reduceLT, Int.reduceBEq, Int.reduceBNe]
  refine ops_call (gc) (by simp only [RideS.pv, intP, AW, reduceAdd, reduceCtorEq, reduceEqDiff, ↓reduceIte, reduceLT, reduceLeDiff, reduceSub, reducePow, reduceMul, reduceToNat, reduceLE, reduceEq, Int.reduceLT, Int.reduceBEq, Int.reduceBNe]) ?_; simp only [RideS.pv, intP, AW, reduceAdd, reduceCtorEq, reduceEqDiff, ↓reduceIte, reduceLT, reduceLeDiff, reduceSub, reducePow, reduceMul, reduceToNat, reduceLE, reduceEq, Int.reduceLT, Int.reduceBEq, Int.reduceBNe]
  by_cases h : checkL r = 0
  rotate_left
  · have d : (checkL r != 0) = true := by rw [bne_iff_ne]; exact h
    rw [nar_err (show narrowL r e = (zeroR, checkL r) by unfold narrowL; rw [if_pos h])]
    simp only [d, RideS.pv, zeroR, List.map_nil, intP, AW, reduceAdd, reduceCtorEq, reduceEqDiff, ↓reduceIte, reduceLT, reduceLeDiff, reduceSub, reducePow, reduceMul, reduceToNat, reduceLE, reduceEq, Int.reduceLT, Int.reduceBEq, Int.reduceBNe]
  have d : (checkL r != 0) = false := by rw [h]; rfl
  obtain ⟨hp, hl1, hl2⟩ := lens_of h
  simp only [d, AW, reduceAdd, reduceCtorEq, reduceEqDiff, ↓reduceIte, reduceLT, reduceLeDiff, reduceSub, reducePow, reduceMul, reduceToNat, reduceLE, reduceEq, Int.reduceLT, Int.reduceBEq, Int.reduceBNe]
  refine ops_call (gm) (by simp only [EvS.pv, EvS.vals, SpanS.pv, SpanS.vals, List.map_cons, List.map_nil, AW, reduceAdd, reduceCtorEq, reduceEqDiff, ↓reduceIte, reduceLT, reduceLeDiff, reduceSub, reducePow, reduceMul, reduceToNat, reduceLE, reduceEq, Int.reduceLT, Int.reduceBEq, Int.reduceBNe]) ?_; simp only [EvS.pv, EvS.vals, SpanS.pv, SpanS.vals, List.map_cons, List.map_nil, AW, reduceAdd, reduceCtorEq, reduceEqDiff, ↓reduceIte, reduceLT, reduceLeDiff, reduceSub, reducePow, reduceMul, reduceToNat, reduceLE, reduceEq, Int.reduceLT, Int.reduceBEq, Int.reduceBNe]
  generalize hcm : commonL r.end_ e.end_ = c
  by_cases h1 : e.ride = r.id
  rotate_left
  · have d1 : (e.ride != r.id) = true := by rw [bne_iff_ne]; exact h1
    rw [nar_err (show narrowL r e = (zeroR, 7) by unfold narrowL; rw [if_neg (fun hh => hh h), if_pos h1])]
    simp only [d1, RideS.pv, zeroR, List.map_nil, intP, AW, reduceAdd, reduceCtorEq, reduceEqDiff, ↓reduceIte, reduceLT, reduceLeDiff, reduceSub, reducePow, reduceMul, reduceToNat, reduceLE, reduceEq, Int.reduceLT, Int.reduceBEq, Int.reduceBNe]
  have d1 : (e.ride != r.id) = false := by rw [h1]; simp
  cases ho : r.open_
  rotate_left
  · rw [nar_err (show narrowL r e = (zeroR, 26) by unfold narrowL; rw [if_neg (fun hh => hh h), if_neg (fun hh => hh h1), if_pos ho])]
    simp only [d1, ho, RideS.pv, zeroR, List.map_nil, intP, AW, reduceAdd, reduceCtorEq, reduceEqDiff, ↓reduceIte, reduceLT, reduceLeDiff, reduceSub, reducePow, reduceMul, reduceToNat, reduceLE, reduceEq, Int.reduceLT, Int.reduceBEq, Int.reduceBNe]
  have bad : validL e.end_ = false → narrowP r e = .tup [zeroR.pv, intP 1] := fun hv => nar_err (by unfold narrowL; rw [if_neg (fun hh => hh h), if_neg (fun hh => hh h1), if_neg (by rw [ho]; decide), if_pos hv])
  simp only [d1, ho, AW, reduceAdd, reduceCtorEq, reduceEqDiff, ↓reduceIte, reduceLT, reduceLeDiff, reduceSub, reducePow, reduceMul, reduceToNat, reduceLE, reduceEq, Int.reduceLT, Int.reduceBEq, Int.reduceBNe]
  cases v1 : decide (e.end_.lo < 0)
  rotate_left
  · have v1' := of_decide_eq_true v1
    rw [bad (by unfold validL; rw [decide_eq_false (show ¬ 0 ≤ e.end_.lo by omega)]; rfl)]
    simp only [RideS.pv, zeroR, List.map_nil, intP, AW, reduceAdd, reduceCtorEq, reduceEqDiff, ↓reduceIte, reduceLT, reduceLeDiff, reduceSub, reducePow, reduceMul, reduceToNat, reduceLE, reduceEq, Int.reduceLT, Int.reduceBEq, Int.reduceBNe]
  have v1' := of_decide_eq_false v1
  simp only [AW, reduceAdd, reduceCtorEq, reduceEqDiff, ↓reduceIte, reduceLT, reduceLeDiff, reduceSub, reducePow, reduceMul, reduceToNat, reduceLE, reduceEq, Int.reduceLT, Int.reduceBEq, Int.reduceBNe]
  cases v2 : decide (e.end_.hi < e.end_.lo)
  rotate_left
  · have v2' := of_decide_eq_true v2
    rw [bad (by unfold validL; rw [decide_eq_false (show ¬ e.end_.lo ≤ e.end_.hi by omega)]; simp)]
    simp only [RideS.pv, zeroR, List.map_nil, intP, AW, reduceAdd, reduceCtorEq, reduceEqDiff, ↓reduceIte, reduceLT, reduceLeDiff, reduceSub, reducePow, reduceMul, reduceToNat, reduceLE, reduceEq, Int.reduceLT, Int.reduceBEq, Int.reduceBNe]
  have v2' := of_decide_eq_false v2
  simp only [AW, reduceAdd, reduceCtorEq, reduceEqDiff, ↓reduceIte, reduceLT, reduceLeDiff, reduceSub, reducePow, reduceMul, reduceToNat, reduceLE, reduceEq, Int.reduceLT, Int.reduceBEq, Int.reduceBNe]
  cases v3 : decide (4294943999 < e.end_.hi)
  rotate_left
  · have v3' := of_decide_eq_true v3
    rw [bad (by unfold validL; simp; omega)]
    simp only [RideS.pv, zeroR, List.map_nil, intP, AW, reduceAdd, reduceCtorEq, reduceEqDiff, ↓reduceIte, reduceLT, reduceLeDiff, reduceSub, reducePow, reduceMul, reduceToNat, reduceLE, reduceEq, Int.reduceLT, Int.reduceBEq, Int.reduceBNe]
  have v3' := of_decide_eq_false v3
  have hv : validL e.end_ = true := by unfold validL; simp; omega
  simp only [AW, reduceAdd, reduceCtorEq, reduceEqDiff, ↓reduceIte, reduceLT, reduceLeDiff, reduceSub, reducePow, reduceMul, reduceToNat, reduceLE, reduceEq, Int.reduceLT, Int.reduceBEq, Int.reduceBNe]
  cases v4 : decide (c.hi < c.lo)
  rotate_left
  · have v4' := of_decide_eq_true v4
    rw [nar_err (show narrowL r e = (zeroR, 34) by unfold narrowL; rw [if_neg (fun hh => hh h), if_neg (fun hh => hh h1), if_neg (by rw [ho]; decide), if_neg (by rw [hv]; decide), hcm, if_pos v4'])]
    simp only [RideS.pv, zeroR, List.map_nil, intP, AW, reduceAdd, reduceCtorEq, reduceEqDiff, ↓reduceIte, reduceLT, reduceLeDiff, reduceSub, reducePow, reduceMul, reduceToNat, reduceLE, reduceEq, Int.reduceLT, Int.reduceBEq, Int.reduceBNe]
  have v4' := of_decide_eq_false v4
  have hn : narrowL r e = (setE r c, 0) := by unfold narrowL setE; rw [if_neg (fun hh => hh h), if_neg (fun hh => hh h1), if_neg (by rw [ho]; decide), if_neg (by rw [hv]; decide), hcm, if_neg v4']
  have hnp : narrowP r e = .tup [(setE r c).pv, intP 0] := by unfold narrowP; rw [hn]
  rw [hnp]
  have go := own_o r hl1 hl2
  have wn : IntKind.i64.wrap ((r.legs.length : Int) - 1) = ((r.legs.length - 1 : Nat) : Int) := by rw [wrap_id ⟨by omega, by omega⟩]; omega
  have hlt : r.legs.length - 1 < r.legs.length := by omega
  simp only [AW, reduceAdd, reduceCtorEq, reduceEqDiff, ↓reduceIte, reduceLT, reduceLeDiff, reduceSub, reducePow, reduceMul, reduceToNat, reduceLE, reduceEq, Int.reduceLT, Int.reduceBEq, Int.reduceBNe]
  refine ops_callO (go) (by simp only [RideS.pv, ho, AW, reduceAdd, reduceCtorEq, reduceEqDiff, ↓reduceIte, reduceLT, reduceLeDiff, reduceSub, reducePow, reduceMul, reduceToNat, reduceLE, reduceEq, Int.reduceLT, Int.reduceBEq, Int.reduceBNe]) ?_; simp only [copyPv, AW, reduceAdd, reduceCtorEq, reduceEqDiff, ↓reduceIte, reduceLT, reduceLeDiff, reduceSub, reducePow, reduceMul, reduceToNat, reduceLE, reduceEq, Int.reduceLT, Int.reduceBEq, Int.reduceBNe]
  simp only [wn, hlt, List.length_map, AW, reduceAdd, reduceCtorEq, reduceEqDiff, ↓reduceIte, reduceLT, reduceLeDiff, reduceSub, reducePow, reduceMul, reduceToNat, reduceLE, reduceEq, Int.reduceLT, Int.reduceBEq, Int.reduceBNe]
  rw [set_last _ hp]
  rfl


end Go.Proofs.Ythgnbkcopapbmaa
