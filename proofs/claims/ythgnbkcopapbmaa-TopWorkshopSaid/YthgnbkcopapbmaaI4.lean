/-
  Inspections: the last one, whether a bicycle is blocked.
-/
import Derived.Test.YthgnbkcopapbmaaI3
namespace Go.Proofs.Ythgnbkcopapbmaa
open Go.RowKit
open Nat (reduceAdd reduceEqDiff reduceLT reduceLeDiff reduceSub reducePow reduceMul)
open Int (reduceToNat reduceLE reduceEq)
set_option linter.unusedVariables false
set_option linter.unusedSimpArgs false
set_option linter.unnecessarySimpa false


def matchB (bike kind now : Int) (c : CheckS) : Bool := c.bike == bike && (c.kind == kind && decide (c.at_ ≤ now))
def stepB (bike kind now : Int) (m : Option CheckS) (c : CheckS) : Option CheckS :=
  if matchB bike kind now c && (match m with
    | none => true
    | some b => decide (b.at_ < c.at_)) then some c else m
def lastL (l : List CheckS) (bike kind now : Int) : Option CheckS := l.foldl (stepB bike kind now) none
theorem lastL_succ (l : List CheckS) (bike kind now : Int) (k : Nat) (h : k < l.length) : lastL (l.take (k + 1)) bike kind now = stepB bike kind now (lastL (l.take k) bike kind now) l[k] := by
  unfold lastL; rw [List.take_succ_eq_append_getElem h, List.foldl_append]; rfl
def zeroK : CheckS := ⟨0, 0, 0, false⟩
def lastP (m : Option CheckS) : PV := match m with
  | none => .tup [zeroK.pv, .sc (.bool false)]
  | some c => .tup [c.pv, .sc (.bool true)]
def bestN (b : Option Nat) : Int := match b with
  | none => -1
  | some j => j
def BestOf (l : List CheckS) (m : Option CheckS) (b : Option Nat) : Prop := match b with
  | none => m = none
  | some j => ∃ h : j < l.length, m = some l[j]
def blockedL (l : List CheckS) (bike now : Int) : Bool := (List.range 8).any fun (k : Nat) => match lastL l bike k now with
  | some c => !c.good
  | none => false
theorem few_no (l : List RideS) (most : Int) (k : Nat) (h : k < l.length) (h2 : ¬ (l[k].legs.length ≤ 40 ∧ l[k].pauses.length ≤ 40)) : fewRL l most = false := fewRL_no l most k h h2
theorem blocked_no {l : List CheckS} {bike now : Int} (h : ∀ i, i < 8 → (match lastL l bike (i : Nat) now with | some c => !c.good | none => false) = false) : blockedL l bike now = false := by
  unfold blockedL; rw [List.any_eq_false]; intro i hi
  rw [h i (List.mem_range.1 hi)]; simp
theorem blocked_yes {l : List CheckS} {bike now : Int} {i : Nat} (hi : i < 8) (h : (match lastL l bike (i : Nat) now with | some c => !c.good | none => false) = true) : blockedL l bike now = true := by
  unfold blockedL; rw [List.any_eq_true]; exact ⟨i, List.mem_range.2 hi, h⟩
end Go.Proofs.Ythgnbkcopapbmaa
