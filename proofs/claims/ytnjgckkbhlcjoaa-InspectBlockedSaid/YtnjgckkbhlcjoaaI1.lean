/-
  Inspections: rules in order; small lists.
-/
import Derived.Test.YtnjgckkbhlcjoaaR4
import Derived.Test.YtnjgckkbhlcjoaaRq
import Derived.Test.YtnjgckkbhlcjoaaIa
import Derived.Test.YtnjgckkbhlcjoaaIb
namespace Go.Proofs.Ytnjgckkbhlcjoaa
open Go.RowKit
set_option linter.unusedVariables false
set_option linter.unusedSimpArgs false
set_option linter.unnecessarySimpa false

theorem meas_lt {n k : Nat} (h : k < n) : n - (k + 1) < n - k := by omega
/-- The first error of a list. -/
def firstE {α : Type} (f : α → Int) (l : List α) : Int := match l.find? (fun x => f x != 0) with
  | some x => f x
  | none => 0
theorem firstE_hit {α : Type} {f : α → Int} {l : List α} {k : Nat} (hk : k < l.length) (h3 : ∀ j (hj : j < l.length), j < k → f l[j] = 0) (h4 : f l[k] ≠ 0) : firstE f l = f l[k] := by
  have e : l.find? (fun x => f x != 0) = some l[k] := by
    rw [List.find?_eq_some_iff_getElem]
    exact ⟨by simpa using h4, k, hk, rfl, fun j hj => by simpa using h3 j (by omega) hj⟩
  unfold firstE; rw [e]
theorem firstE_none {α : Type} {f : α → Int} {l : List α} (h3 : ∀ j (hj : j < l.length), f l[j] = 0) : firstE f l = 0 := by
  have e : l.find? (fun x => f x != 0) = none := by
    rw [List.find?_eq_none]
    intro x hx
    obtain ⟨j, hj, rfl⟩ := List.getElem_of_mem hx
    simp [h3 j hj]
  unfold firstE; rw [e]
theorem firstE_zero {α : Type} {f : α → Int} {l : List α} (h : firstE f l = 0) : ∀ x ∈ l, f x = 0 := by
  intro x hx
  unfold firstE at h
  split at h
  · rename_i y hy; have := List.find?_some hy; simp [h] at this
  · rename_i hn; have := List.find?_eq_none.1 hn x hx; simpa using this
theorem step_all {α : Type} {l : List α} {p : α → Prop} {k : Nat} (hk : k < l.length) (h : ∀ j (hj : j < l.length), j < k → p l[j]) (hp : p l[k]) : ∀ j (hj : j < l.length), j < k + 1 → p l[j] := by
  intro j hj hjk
  by_cases e : j = k
  · subst e; exact hp
  · exact h j hj (by omega)
def kindB (n : Int) : Bool := decide (0 ≤ n) && decide (n < 8)
def ruleE (r : RuleS) : Int := if kindB r.kind = false then 14 else if r.limit < 1 ∨ 1125899906842624 < r.limit ∨ r.days < 1 ∨ 49709 < r.days then 1 else 0
def rulesL (l : List RuleS) : Int := if 8 < l.length then 8 else if firstE ruleE l ≠ 0 then firstE ruleE l else if (l.map RuleS.kind).Nodup then 0 else 6
def hasL (l : List Int) (n : Int) : Bool := l.contains n
theorem kind_g (n : Int) : Good Try.prog 27 [intP n] (.sc (.bool (kindB n))) := by
  refine good27 (by simp) ?_
  simp only [ac27, intP, AW, Nat.reduceAdd, reduceCtorEq, Nat.reduceEqDiff, ↓reduceIte, Nat.reduceLT, Nat.reduceLeDiff, Nat.reduceSub, Nat.reducePow, Nat.reduceMul, Int.reduceToNat, Int.reduceLE, Int.reduceEq, Int.reduceLT, Int.reduceBEq, Int.reduceBNe]
  cases h1 : decide (0 ≤ n)
  · simp only [AW, Nat.reduceAdd, reduceCtorEq, Nat.reduceEqDiff, ↓reduceIte, Nat.reduceLT, Nat.reduceLeDiff, Nat.reduceSub, Nat.reducePow, Nat.reduceMul, Int.reduceToNat, Int.reduceLE, Int.reduceEq, Int.reduceLT, Int.reduceBEq, Int.reduceBNe]; simp [kindB, h1]
  simp only [AW, Nat.reduceAdd, reduceCtorEq, Nat.reduceEqDiff, ↓reduceIte, Nat.reduceLT, Nat.reduceLeDiff, Nat.reduceSub, Nat.reducePow, Nat.reduceMul, Int.reduceToNat, Int.reduceLE, Int.reduceEq, Int.reduceLT, Int.reduceBEq, Int.reduceBNe]; simp [kindB, h1]
theorem qkind_g (n : Int) : Good Try.prog 28 [intP n] (.sc (.bool (kindB n))) := by
  refine good28 (by simp) ?_
  simp only [ac28, intP, AW, Nat.reduceAdd, reduceCtorEq, Nat.reduceEqDiff, ↓reduceIte, Nat.reduceLT, Nat.reduceLeDiff, Nat.reduceSub, Nat.reducePow, Nat.reduceMul, Int.reduceToNat, Int.reduceLE, Int.reduceEq, Int.reduceLT, Int.reduceBEq, Int.reduceBNe]
  cases h1 : decide (0 ≤ n)
  · simp only [AW, Nat.reduceAdd, reduceCtorEq, Nat.reduceEqDiff, ↓reduceIte, Nat.reduceLT, Nat.reduceLeDiff, Nat.reduceSub, Nat.reducePow, Nat.reduceMul, Int.reduceToNat, Int.reduceLE, Int.reduceEq, Int.reduceLT, Int.reduceBEq, Int.reduceBNe]; simp [kindB, h1]
  simp only [AW, Nat.reduceAdd, reduceCtorEq, Nat.reduceEqDiff, ↓reduceIte, Nat.reduceLT, Nat.reduceLeDiff, Nat.reduceSub, Nat.reducePow, Nat.reduceMul, Int.reduceToNat, Int.reduceLE, Int.reduceEq, Int.reduceLT, Int.reduceBEq, Int.reduceBNe]; simp [kindB, h1]
set_option maxHeartbeats 1000000 in
theorem ints_g (l m : List Int) : Good Try.prog 23 [intsP l, intsP m] (.sc (.bool (decide (l = m)))) := by
  refine .len (es := l.map intP) (by simp [intsP]) (fun hlen => ?_)
  rw [List.length_map] at hlen
  refine good23 (by simp) ?_
  by_cases he : l.length = m.length
  rotate_left
  · have d0 : ((l.length : Int) != m.length) = true := by simp; omega
    simp only [ac23, intsP, d0, AW, Nat.reduceAdd, reduceCtorEq, Nat.reduceEqDiff, ↓reduceIte, Nat.reduceLT, Nat.reduceLeDiff, Nat.reduceSub, Nat.reducePow, Nat.reduceMul, Int.reduceToNat, Int.reduceLE, Int.reduceEq, Int.reduceLT, Int.reduceBEq, Int.reduceBNe]
    have : decide (l = m) = false := by
      rw [decide_eq_false_iff_not]; intro e; subst e; exact he rfl
    rw [this]
  have d0 : ((l.length : Int) != m.length) = false := by simp [he]
  simp only [ac23, intsP, d0, AW, Nat.reduceAdd, reduceCtorEq, Nat.reduceEqDiff, ↓reduceIte, Nat.reduceLT, Nat.reduceLeDiff, Nat.reduceSub, Nat.reducePow, Nat.reduceMul, Int.reduceToNat, Int.reduceLE, Int.reduceEq, Int.reduceLT, Int.reduceBEq, Int.reduceBNe]
  refine run_loop (ι := Nat) (fun k => ⟨[(0, .sl (l.map intP)), (1, .sl (m.map intP)), (5, .sc (.int .i64 (k : Int)))], [], 7, 26⟩) (fun k => k ≤ l.length ∧ (∀ j (hj : j < l.length), j < k → l[j] = m[j]'(by omega))) (fun k => l.length - k) 7 (fun _ => rfl) 0 (by simp only [LW, Nat.reduceMod, Nat.reduceDiv, Int.natCast_zero, AW, Nat.reduceAdd, reduceCtorEq, Nat.reduceEqDiff, ↓reduceIte, Nat.reduceLT, Nat.reduceLeDiff, Nat.reduceSub, Nat.reducePow, Nat.reduceMul, Int.reduceToNat, Int.reduceLE, Int.reduceEq, Int.reduceLT, Int.reduceBEq, Int.reduceBNe]) ⟨Nat.zero_le _, nofun⟩ (fun k hk => ?_)
  obtain ⟨gk, ik⟩ := hk
  by_cases hltk : k < l.length
  rotate_left
  · have dk : decide ((k : Int) < ((l.length : Nat) : Int)) = false := by rw [decide_eq_false_iff_not]; exact fun h => hltk (Int.ofNat_lt.1 h)
    have ek : k = l.length := Nat.le_antisymm gk (Nat.le_of_not_lt hltk)
    subst ek
    simp only [dk, AW, Nat.reduceAdd, reduceCtorEq, Nat.reduceEqDiff, ↓reduceIte, Nat.reduceLT, Nat.reduceLeDiff, Nat.reduceSub, Nat.reducePow, Nat.reduceMul, Int.reduceToNat, Int.reduceLE, Int.reduceEq, Int.reduceLT, Int.reduceBEq, Int.reduceBNe]
    have : l = m := List.ext_getElem he (fun j hj _ => ik j hj (by omega))
    subst this; simp
  have dk : decide ((k : Int) < ((l.length : Nat) : Int)) = true := by rw [decide_eq_true_eq]; exact Int.ofNat_lt.2 hltk
  have hlt2 : k < m.length := by omega
  simp only [dk, map_getD hltk, map_getD hlt2, hltk, hlt2, intP, AW, Nat.reduceAdd, reduceCtorEq, Nat.reduceEqDiff, ↓reduceIte, Nat.reduceLT, Nat.reduceLeDiff, Nat.reduceSub, Nat.reducePow, Nat.reduceMul, Int.reduceToNat, Int.reduceLE, Int.reduceEq, Int.reduceLT, Int.reduceBEq, Int.reduceBNe]
  cases hs : (l[k] != m[k])
  · refine ⟨rfl, ?_⟩; simp only [wrap_succ hltk hlen, AW, Nat.reduceAdd, reduceCtorEq, Nat.reduceEqDiff, ↓reduceIte, Nat.reduceLT, Nat.reduceLeDiff, Nat.reduceSub, Nat.reducePow, Nat.reduceMul, Int.reduceToNat, Int.reduceLE, Int.reduceEq, Int.reduceLT, Int.reduceBEq, Int.reduceBNe]
    refine ⟨k + 1, ⟨hltk, fun j hj hjk => ?_⟩, ?_, by omega⟩
    · by_cases e : j = k
      · subst e; simpa using hs
      · exact ik j hj (by omega)
    · simp only [LW, Nat.reduceMod, Nat.reduceDiv, AW, Nat.reduceAdd, reduceCtorEq, Nat.reduceEqDiff, ↓reduceIte, Nat.reduceLT, Nat.reduceLeDiff, Nat.reduceSub, Nat.reducePow, Nat.reduceMul, Int.reduceToNat, Int.reduceLE, Int.reduceEq, Int.reduceLT, Int.reduceBEq, Int.reduceBNe]
  · refine ⟨rfl, ?_⟩; simp only [AW, Nat.reduceAdd, reduceCtorEq, Nat.reduceEqDiff, ↓reduceIte, Nat.reduceLT, Nat.reduceLeDiff, Nat.reduceSub, Nat.reducePow, Nat.reduceMul, Int.reduceToNat, Int.reduceLE, Int.reduceEq, Int.reduceLT, Int.reduceBEq, Int.reduceBNe]
    have : decide (l = m) = false := by
      rw [decide_eq_false_iff_not]; intro e; subst e; simp at hs
    rw [this]
set_option maxHeartbeats 1000000 in
theorem has_g (l : List Int) (n : Int) : Good Try.prog 25 [intsP l, intP n] (.sc (.bool (hasL l n))) := by
  refine .len (es := l.map intP) (by simp [intsP]) (fun hlen => ?_)
  rw [List.length_map] at hlen
  refine good25 (by simp) ?_
  simp only [ac25, intsP, intP, AW, Nat.reduceAdd, reduceCtorEq, Nat.reduceEqDiff, ↓reduceIte, Nat.reduceLT, Nat.reduceLeDiff, Nat.reduceSub, Nat.reducePow, Nat.reduceMul, Int.reduceToNat, Int.reduceLE, Int.reduceEq, Int.reduceLT, Int.reduceBEq, Int.reduceBNe]
  refine run_loop (ι := Nat) (fun k => ⟨[(0, .sl (l.map intP)), (1, .sc (.int .i64 n)), (5, .sc (.int .i64 (k : Int)))], [], 2, 18⟩) (fun k => k ≤ l.length ∧ (∀ j (hj : j < l.length), j < k → l[j] ≠ n)) (fun k => l.length - k) 2 (fun _ => rfl) 0 (by simp only [LW, Nat.reduceMod, Nat.reduceDiv, Int.natCast_zero, AW, Nat.reduceAdd, reduceCtorEq, Nat.reduceEqDiff, ↓reduceIte, Nat.reduceLT, Nat.reduceLeDiff, Nat.reduceSub, Nat.reducePow, Nat.reduceMul, Int.reduceToNat, Int.reduceLE, Int.reduceEq, Int.reduceLT, Int.reduceBEq, Int.reduceBNe]) ⟨Nat.zero_le _, nofun⟩ (fun k hk => ?_)
  obtain ⟨gk, ik⟩ := hk
  by_cases hltk : k < l.length
  rotate_left
  · have dk : decide ((k : Int) < ((l.length : Nat) : Int)) = false := by rw [decide_eq_false_iff_not]; exact fun h => hltk (Int.ofNat_lt.1 h)
    have ek : k = l.length := Nat.le_antisymm gk (Nat.le_of_not_lt hltk)
    subst ek
    simp only [dk, AW, Nat.reduceAdd, reduceCtorEq, Nat.reduceEqDiff, ↓reduceIte, Nat.reduceLT, Nat.reduceLeDiff, Nat.reduceSub, Nat.reducePow, Nat.reduceMul, Int.reduceToNat, Int.reduceLE, Int.reduceEq, Int.reduceLT, Int.reduceBEq, Int.reduceBNe]
    have : hasL l n = false := by
      unfold hasL; rw [← Bool.not_eq_true, List.contains_iff_mem]; intro h
      obtain ⟨j, hj, e⟩ := List.getElem_of_mem h
      exact ik j hj hj e
    rw [this]
  have dk : decide ((k : Int) < ((l.length : Nat) : Int)) = true := by rw [decide_eq_true_eq]; exact Int.ofNat_lt.2 hltk
  simp only [dk, map_getD hltk, hltk, intP, AW, Nat.reduceAdd, reduceCtorEq, Nat.reduceEqDiff, ↓reduceIte, Nat.reduceLT, Nat.reduceLeDiff, Nat.reduceSub, Nat.reducePow, Nat.reduceMul, Int.reduceToNat, Int.reduceLE, Int.reduceEq, Int.reduceLT, Int.reduceBEq, Int.reduceBNe]
  cases hs : (l[k] == n)
  · simp only [wrap_succ hltk hlen, AW, Nat.reduceAdd, reduceCtorEq, Nat.reduceEqDiff, ↓reduceIte, Nat.reduceLT, Nat.reduceLeDiff, Nat.reduceSub, Nat.reducePow, Nat.reduceMul, Int.reduceToNat, Int.reduceLE, Int.reduceEq, Int.reduceLT, Int.reduceBEq, Int.reduceBNe]
    refine ⟨k + 1, ⟨hltk, step_all (p := fun x => x ≠ n) hltk ik (by simpa using hs)⟩, ?_, meas_lt hltk⟩
    simp only [LW, Nat.reduceMod, Nat.reduceDiv, AW, Nat.reduceAdd, reduceCtorEq, Nat.reduceEqDiff, ↓reduceIte, Nat.reduceLT, Nat.reduceLeDiff, Nat.reduceSub, Nat.reducePow, Nat.reduceMul, Int.reduceToNat, Int.reduceLE, Int.reduceEq, Int.reduceLT, Int.reduceBEq, Int.reduceBNe]
  · simp only [AW, Nat.reduceAdd, reduceCtorEq, Nat.reduceEqDiff, ↓reduceIte, Nat.reduceLT, Nat.reduceLeDiff, Nat.reduceSub, Nat.reducePow, Nat.reduceMul, Int.reduceToNat, Int.reduceLE, Int.reduceEq, Int.reduceLT, Int.reduceBEq, Int.reduceBNe]
    have : hasL l n = true := by
      unfold hasL; rw [List.contains_iff_mem]; have : l[k] = n := by simpa using hs
      rw [← this]; exact List.getElem_mem hltk
    rw [this]


end Go.Proofs.Ytnjgckkbhlcjoaa
