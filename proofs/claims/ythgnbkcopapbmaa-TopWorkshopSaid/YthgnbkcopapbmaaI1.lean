/-
  Inspections: rules in order; small lists.
-/
import Derived.Test.YthgnbkcopapbmaaR4
import Derived.Test.YthgnbkcopapbmaaRq
import Derived.Test.YthgnbkcopapbmaaIa
import Derived.Test.YthgnbkcopapbmaaIb
namespace Go.Proofs.Ythgnbkcopapbmaa
open Go.RowKit
open Nat (reduceAdd reduceEqDiff reduceLT reduceLeDiff reduceSub reducePow reduceMul)
open Int (reduceToNat reduceLE reduceEq)
set_option linter.unusedVariables false
set_option linter.unusedSimpArgs false
set_option linter.unnecessarySimpa false


theorem meas_lt {n k : Nat} (h : k < n) : n - (k + 1) < n - k := by omega
/-- The first error of a list. -/
def firstE {α : Type} (f : α → Int) (l : List α) : Int := match l.find? (fun x => f x != 0) with
  | some x => f x
  | none => 0
theorem firstE_hit {α : Type} {f : α → Int} {l : List α} {k : Nat} (hk : k < l.length) (h3 : ∀ j (hj : j < l.length), j < k → f l[j] = 0) (h4 : f l[k] ≠ 0) : firstE f l = f l[k] := by
  have e : l.find? (fun x => f x != 0) = some l[k] := by
    rw [List.find?_eq_some_iff_getElem]
    exact ⟨by simpa using h4, k, hk, rfl, fun j hj => by simpa using h3 j (by omega) hj⟩
  unfold firstE; rw [e]
theorem firstE_none {α : Type} {f : α → Int} {l : List α} (h3 : ∀ j (hj : j < l.length), f l[j] = 0) : firstE f l = 0 := by
  have e : l.find? (fun x => f x != 0) = none := by
    rw [List.find?_eq_none]
    intro x hx
    obtain ⟨j, hj, rfl⟩ := List.getElem_of_mem hx
    simp [h3 j hj]
  unfold firstE; rw [e]
theorem firstE_zero {α : Type} {f : α → Int} {l : List α} (h : firstE f l = 0) : ∀ x ∈ l, f x = 0 := by
  intro x hx
  unfold firstE at h
  split at h
  · rename_i y hy; have := List.find?_some hy; simp [h] at this
  · rename_i hn; have := List.find?_eq_none.1 hn x hx; simpa using this
theorem step_all {α : Type} {l : List α} {p : α → Prop} {k : Nat} (hk : k < l.length) (h : ∀ j (hj : j < l.length), j < k → p l[j]) (hp : p l[k]) : ∀ j (hj : j < l.length), j < k + 1 → p l[j] := by
  intro j hj hjk
  by_cases e : j = k
  · subst e; exact hp
  · exact h j hj (by omega)
def kindB (n : Int) : Bool := decide (0 ≤ n) && decide (n < 8)
def ruleE (r : RuleS) : Int := if kindB r.kind = false then 14 else if r.limit < 1 ∨ 1125899906842624 < r.limit ∨ r.days < 1 ∨ 49709 < r.days then 1 else 0
def rulesL (l : List RuleS) : Int := if 8 < l.length then 8 else if firstE ruleE l ≠ 0 then firstE ruleE l else if (l.map RuleS.kind).Nodup then 0 else 6
def hasL (l : List Int) (n : Int) : Bool := l.contains n
theorem kind_g (n : Int) : Good Try.prog 33 [intP n] (.sc (.bool (kindB n))) := by
  refine good33 (by simp) ?_
  simp only [ac33, intP, AW, reduceAdd, reduceCtorEq, reduceEqDiff, ↓reduceIte, reduceLT, reduceLeDiff, reduceSub, reducePow, reduceMul, reduceToNat, reduceLE, reduceEq, Int.reduceLT, Int.reduceBEq, Int.reduceBNe]
  cases h1 : decide (0 ≤ n)
  · simp only [AW, reduceAdd, reduceCtorEq, reduceEqDiff, ↓reduceIte, reduceLT, reduceLeDiff, reduceSub, reducePow, reduceMul, reduceToNat, reduceLE, reduceEq, Int.reduceLT, Int.reduceBEq, Int.reduceBNe]; simp [kindB, h1]
  simp only [AW, reduceAdd, reduceCtorEq, reduceEqDiff, ↓reduceIte, reduceLT, reduceLeDiff, reduceSub, reducePow, reduceMul, reduceToNat, reduceLE, reduceEq, Int.reduceLT, Int.reduceBEq, Int.reduceBNe]; simp [kindB, h1]
end Go.Proofs.Ythgnbkcopapbmaa
