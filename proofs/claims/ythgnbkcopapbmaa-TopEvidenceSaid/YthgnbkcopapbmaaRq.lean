/-
  Whether a ride is in order, by a plain computation.
-/
import Derived.Test.YthgnbkcopapbmaaRp
namespace Go.Proofs.Ythgnbkcopapbmaa
open Go.RowKit
open Nat (reduceAdd reduceEqDiff reduceLT reduceLeDiff reduceSub reducePow reduceMul)
open Int (reduceToNat reduceLE reduceEq)
set_option linter.unusedVariables false
set_option linter.unusedSimpArgs false
set_option linter.unnecessarySimpa false


def joinedD (r : RideS) : Bool := lensL r && (List.range r.legs.length).all (fun k => match r.legs[k]? with
  | some x => eqS x.from_ (prevS r k)
  | none => true) && eqS (prevS r r.legs.length) r.end_
open Classical in
theorem joinedD_eq (r : RideS) : joinedL r = joinedD r := by
  have h : (decide (∀ k, joinK r k) : Bool) = (List.range r.legs.length).all (fun k => match r.legs[k]? with
      | some x => eqS x.from_ (prevS r k)
      | none => true) := by
    by_cases hc : ∀ k, joinK r k
    · rw [decide_eq_true hc]
      symm
      rw [List.all_eq_true]
      intro k hk
      have hk := List.mem_range.1 hk
      simp only [List.getElem?_eq_getElem hk]
      exact eqS_iff.2 (hc k hk)
    · rw [decide_eq_false hc]
      symm
      rw [List.all_eq_false]
      simp only [Classical.not_forall] at hc
      obtain ⟨k, hk⟩ := hc
      simp only [joinK, Classical.not_forall] at hk
      obtain ⟨h1, h2⟩ := hk
      refine ⟨k, List.mem_range.2 h1, ?_⟩
      simp only [List.getElem?_eq_getElem h1]
      rw [eqS_iff]; exact h2
  unfold joinedL joinedD
  rw [h]
def orderedD (r : RideS) : Bool := (List.range r.legs.length).all (fun k => match r.legs[k]? with
  | some x => decide (x.from_.lo ≤ x.to_.lo) || (r.open_ && decide (k + 1 = r.legs.length))
  | none => true) && (List.range r.pauses.length).all (fun k => match r.pauses[k]? with
  | some x => decide (lastS r k ≤ x.from_.lo) && (decide (x.from_.lo ≤ x.to_.lo) || (r.open_ && (decide (k + 1 = r.pauses.length) && decide (x.to_.lo = 0))))
  | none => true) && (r.open_ || decide (r.pauses.length = 0) || decide (lastS r r.pauses.length ≤ r.end_.lo))
open Classical in
theorem orderedD_eq (r : RideS) : orderedL r = orderedD r := by
  have h1 : (decide (∀ k, legOrd r k) : Bool) = (List.range r.legs.length).all (fun k => match r.legs[k]? with
      | some x => decide (x.from_.lo ≤ x.to_.lo) || (r.open_ && decide (k + 1 = r.legs.length))
      | none => true) := by
    by_cases hc : ∀ k, legOrd r k
    · rw [decide_eq_true hc]
      symm
      rw [List.all_eq_true]
      intro k hk
      have hk := List.mem_range.1 hk
      simp only [List.getElem?_eq_getElem hk]
      have := hc k hk
      simpa using this
    · rw [decide_eq_false hc]
      symm
      rw [List.all_eq_false]
      simp only [Classical.not_forall] at hc
      obtain ⟨k, hk⟩ := hc
      simp only [legOrd, Classical.not_forall] at hk
      obtain ⟨h1, h2⟩ := hk
      refine ⟨k, List.mem_range.2 h1, ?_⟩
      simp only [List.getElem?_eq_getElem h1]
      simpa using h2
  have h2 : (decide (∀ k, pauseOrd r k) : Bool) = (List.range r.pauses.length).all (fun k => match r.pauses[k]? with
      | some x => decide (lastS r k ≤ x.from_.lo) && (decide (x.from_.lo ≤ x.to_.lo) || (r.open_ && (decide (k + 1 = r.pauses.length) && decide (x.to_.lo = 0))))
      | none => true) := by
    by_cases hc : ∀ k, pauseOrd r k
    · rw [decide_eq_true hc]
      symm
      rw [List.all_eq_true]
      intro k hk
      have hk := List.mem_range.1 hk
      simp only [List.getElem?_eq_getElem hk]
      have := hc k hk
      simpa using this
    · rw [decide_eq_false hc]
      symm
      rw [List.all_eq_false]
      simp only [Classical.not_forall] at hc
      obtain ⟨k, hk⟩ := hc
      simp only [pauseOrd, Classical.not_forall] at hk
      obtain ⟨h1, h2⟩ := hk
      refine ⟨k, List.mem_range.2 h1, ?_⟩
      simp only [List.getElem?_eq_getElem h1]
      simpa using h2
  unfold orderedL orderedD
  rw [h1, h2]
def checkD (r : RideS) : Int := if rangedL r = false then 1 else if joinedD r = false then 3 else if orderedD r = false then 9 else if badL r = true then 12 else 0
theorem checkD_eq (r : RideS) : checkL r = checkD r := by unfold checkL checkD; rw [joinedD_eq, orderedD_eq]


end Go.Proofs.Ythgnbkcopapbmaa
