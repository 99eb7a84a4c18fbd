/-
  Releases: whether a table, noise and sums are in order.
-/
import Derived.Test.YtjnfldkcbcfboaaGreatDoorMe
import Derived.Test.YtjnfldkcbcfboaaGreatDoorYd
namespace Go.Proofs.YtjnfldkcbcfboaaGreatDoor
open Go.RowKit
open Nat (reduceAdd reduceEqDiff reduceLT reduceLeDiff reduceSub reducePow reduceMul)
open Int (reduceToNat reduceLE reduceEq)
set_option linter.unusedVariables false
set_option linter.unusedSimpArgs false
set_option linter.unnecessarySimpa false


def inB (n lo hi : Int) : Bool := decide (lo ≤ n) && decide (n ≤ hi)
def sumsB (l : List Int) (n : Int) : Bool := decide ((l.length : Int) = n) && l.all fun x => inB x 0 65536
def cellB (n : Int) : Bool := inB n (-1000000) 1000000
def rcB (t : TableS) : Bool := !(decide (t.rows < 1) || decide (8 < t.rows) || decide (t.cols < 1) || decide (8 < t.cols))
def tabE (t : TableS) : Int := if rcB t = false then 1 else if (t.cells.length : Int) ≠ t.rows * t.cols then 3 else if t.cells.all cellB = true then 0 else 1
def wtB (w : List Int) (i : Nat) : Bool := inB (w.getD i 0) 1 16777216 && (decide (i = 0) || decide (w.getD i 0 ≤ w.getD (i - 1) 0))
def noiB (w : List Int) : Bool := (List.range w.length).all (wtB w)
def noiE (w : List Int) : Int := if w.length < 1 ∨ 33 < w.length then 32 else if noiB w = true then 0 else 32
theorem all_no {α : Type} {p : α → Bool} {l : List α} {k : Nat} (hk : k < l.length) (h : p l[k] = false) : l.all p = false := by
  rw [Bool.eq_false_iff]; intro h2
  rw [List.all_eq_true.1 h2 _ (List.getElem_mem hk)] at h; cases h
theorem all_yes {α : Type} {p : α → Bool} {l : List α} (h : ∀ j (hj : j < l.length), p l[j] = true) : l.all p = true := List.all_eq_true.2 (fun x hx => by
  obtain ⟨j, hj, rfl⟩ := List.getElem_of_mem hx
  exact h j hj)
theorem noi_no {w : List Int} {k : Nat} (hk : k < w.length) (h : wtB w k = false) : noiB w = false := by
  rw [Bool.eq_false_iff]; intro h2
  rw [List.all_eq_true.1 h2 k (List.mem_range.2 hk)] at h; cases h
theorem noi_yes {w : List Int} (h : ∀ j, j < w.length → wtB w j = true) : noiB w = true := List.all_eq_true.2 (fun x hx => h x (List.mem_range.1 hx))
theorem rc_iff {t : TableS} : rcB t = true ↔ 1 ≤ t.rows ∧ t.rows ≤ 8 ∧ 1 ≤ t.cols ∧ t.cols ≤ 8 := by
  simp only [rcB, Bool.not_eq_true', Bool.or_eq_false_iff, decide_eq_false_iff_not, Int.not_lt]
  constructor
  · rintro ⟨⟨⟨a, b⟩, c⟩, d⟩; exact ⟨a, b, c, d⟩
  · rintro ⟨a, b, c, d⟩; exact ⟨⟨⟨a, b⟩, c⟩, d⟩
theorem wrap_mul {a b : Int} (h1 : 1 ≤ a) (h2 : a ≤ 8) (h3 : 1 ≤ b) (h4 : b ≤ 8) : IntKind.i64.wrap (a * b) = a * b := by
  have h5 : a * b ≤ 8 * 8 := Int.mul_le_mul h2 h4 (by omega) (by omega)
  have h6 : 0 ≤ a * b := Int.mul_nonneg (by omega) (by omega)
  exact wrap_id ⟨by omega, by omega⟩
theorem ne_bne {a b : Int} (h : a ≠ b) : (a != b) = true := by simpa using h
theorem eq_bne {a b : Int} (h : a = b) : (a != b) = false := by simpa using h
theorem in_g (n lo hi : Int) : Good Tryz.prog 27 [intP n, intP lo, intP hi] (.sc (.bool (inB n lo hi))) := by
  refine good27 (by simp) ?_
  simp only [ac27, intP, inB, AW, reduceAdd, reduceCtorEq, reduceEqDiff, ↓reduceIte, reduceLT, reduceLeDiff, reduceSub, reducePow, reduceMul, reduceToNat, reduceLE, reduceEq, Int.reduceLT, Int.reduceBEq, Int.reduceBNe]
  cases h1 : decide (lo ≤ n)
  · simp only [AW, reduceAdd, reduceCtorEq, reduceEqDiff, ↓reduceIte, reduceLT, reduceLeDiff, reduceSub, reducePow, reduceMul, reduceToNat, reduceLE, reduceEq, Int.reduceLT, Int.reduceBEq, Int.reduceBNe]
  simp only [AW, reduceAdd, reduceCtorEq, reduceEqDiff, ↓reduceIte, reduceLT, reduceLeDiff, reduceSub, reducePow, reduceMul, reduceToNat, reduceLE, reduceEq, Int.reduceLT, Int.reduceBEq, Int.reduceBNe]
theorem bad_g (n : Int) : Good Tryz.prog 54 [intP n] (.sc (.bool (!inB n 0 65536))) := by
  refine good54 (by simp) ?_
  simp only [ac54, intP, AW, reduceAdd, reduceCtorEq, reduceEqDiff, ↓reduceIte, reduceLT, reduceLeDiff, reduceSub, reducePow, reduceMul, reduceToNat, reduceLE, reduceEq, Int.reduceLT, Int.reduceBEq, Int.reduceBNe]
  refine ops_call (in_g n 0 65536) (by simp only [intP, AW, reduceAdd, reduceCtorEq, reduceEqDiff, ↓reduceIte, reduceLT, reduceLeDiff, reduceSub, reducePow, reduceMul, reduceToNat, reduceLE, reduceEq, Int.reduceLT, Int.reduceBEq, Int.reduceBNe]) ?_; simp only [intP, AW, reduceAdd, reduceCtorEq, reduceEqDiff, ↓reduceIte, reduceLT, reduceLeDiff, reduceSub, reducePow, reduceMul, reduceToNat, reduceLE, reduceEq, Int.reduceLT, Int.reduceBEq, Int.reduceBNe]
set_option maxHeartbeats 1000000 in
theorem idxf_g (f : FuncId) (fn : Func) (q : Int → Bool) (hf : Tryz.prog.funcs[f]? = some fn) (h1 : (fn.name == "runtime.NumGoroutine") = false) (h2 : fn.body.isNone = false) (hq : ∀ n, Good Tryz.prog f [intP n] (.sc (.bool (q n)))) (l : List Int) : Good Tryz.prog 64 [intsP l, .sc (.func (.func f) #[] #[])] (intP (match l.findIdx? q with | some i => (i : Int) | none => -1)) := by
  refine .len (es := l.map intP) (by simp [intsP]) (fun hlen => ?_)
  rw [List.length_map] at hlen
  refine good64 (by simp) ?_
  simp only [ac64, intsP, AW, reduceAdd, reduceCtorEq, reduceEqDiff, ↓reduceIte, reduceLT, reduceLeDiff, reduceSub, reducePow, reduceMul, reduceToNat, reduceLE, reduceEq, Int.reduceLT, Int.reduceBEq, Int.reduceBNe]
  refine run_loop (ι := Nat) (fun k => ⟨[(0, .sl (l.map intP)), (1, .sc (.func (.func f) #[] #[])), (7, .sc (.int .i64 (l.length : Int))), (8, .sc (.int .i64 (k : Int)))], [], 4, 19⟩) (fun k => k ≤ l.length ∧ (∀ j (hj : j < l.length), j < k → q l[j] = false)) (fun k => l.length - k) 4 (fun _ => rfl) 0 (by simp only [LW, Nat.reduceMod, Nat.reduceDiv, Int.natCast_zero, AW, reduceAdd, reduceCtorEq, reduceEqDiff, ↓reduceIte, reduceLT, reduceLeDiff, reduceSub, reducePow, reduceMul, reduceToNat, reduceLE, reduceEq, Int.reduceLT, Int.reduceBEq, Int.reduceBNe]) ⟨Nat.zero_le _, nofun⟩ (fun k hk => ?_)
  obtain ⟨gk, ik⟩ := hk
  by_cases hltk : k < l.length
  rotate_left
  · have dk : decide ((k : Int) < ((l.length : Nat) : Int)) = false := by rw [decide_eq_false_iff_not]; exact fun h => hltk (Int.ofNat_lt.1 h)
    have ek : k = l.length := Nat.le_antisymm gk (Nat.le_of_not_lt hltk)
    subst ek
    have e : l.findIdx? q = none := by
      rw [List.findIdx?_eq_none_iff]; intro x hx
      obtain ⟨j, hj, rfl⟩ := List.getElem_of_mem hx
      exact ik j hj (by omega)
    simp only [dk, e, intP, AW, reduceAdd, reduceCtorEq, reduceEqDiff, ↓reduceIte, reduceLT, reduceLeDiff, reduceSub, reducePow, reduceMul, reduceToNat, reduceLE, reduceEq, Int.reduceLT, Int.reduceBEq, Int.reduceBNe]
  have dk : decide ((k : Int) < ((l.length : Nat) : Int)) = true := by rw [decide_eq_true_eq]; exact Int.ofNat_lt.2 hltk
  simp only [dk, map_getD hltk, hltk, intP, AW, reduceAdd, reduceCtorEq, reduceEqDiff, ↓reduceIte, reduceLT, reduceLeDiff, reduceSub, reducePow, reduceMul, reduceToNat, reduceLE, reduceEq, Int.reduceLT, Int.reduceBEq, Int.reduceBNe]
  refine ops_callV hf h1 h2 (by simp only [AW, reduceAdd, reduceCtorEq, reduceEqDiff, ↓reduceIte, reduceLT, reduceLeDiff, reduceSub, reducePow, reduceMul, reduceToNat, reduceLE, reduceEq, Int.reduceLT, Int.reduceBEq, Int.reduceBNe]) (hq l[k]) (by simp only [intP, AW, reduceAdd, reduceCtorEq, reduceEqDiff, ↓reduceIte, reduceLT, reduceLeDiff, reduceSub, reducePow, reduceMul, reduceToNat, reduceLE, reduceEq, Int.reduceLT, Int.reduceBEq, Int.reduceBNe]) ?_; simp only [AW, reduceAdd, reduceCtorEq, reduceEqDiff, ↓reduceIte, reduceLT, reduceLeDiff, reduceSub, reducePow, reduceMul, reduceToNat, reduceLE, reduceEq, Int.reduceLT, Int.reduceBEq, Int.reduceBNe]
  cases hqk : q l[k]
  · simp only [wrap_succ hltk hlen, AW, reduceAdd, reduceCtorEq, reduceEqDiff, ↓reduceIte, reduceLT, reduceLeDiff, reduceSub, reducePow, reduceMul, reduceToNat, reduceLE, reduceEq, Int.reduceLT, Int.reduceBEq, Int.reduceBNe]
    refine ⟨k + 1, ⟨hltk, fun j hj hjk => ?_⟩, ?_, by omega⟩
    · by_cases e : j = k
      · subst e; exact hqk
      · exact ik j hj (by omega)
    · simp only [LW, Nat.reduceMod, Nat.reduceDiv, AW, reduceAdd, reduceCtorEq, reduceEqDiff, ↓reduceIte, reduceLT, reduceLeDiff, reduceSub, reducePow, reduceMul, reduceToNat, reduceLE, reduceEq, Int.reduceLT, Int.reduceBEq, Int.reduceBNe]
  simp only [AW, reduceAdd, reduceCtorEq, reduceEqDiff, ↓reduceIte, reduceLT, reduceLeDiff, reduceSub, reducePow, reduceMul, reduceToNat, reduceLE, reduceEq, Int.reduceLT, Int.reduceBEq, Int.reduceBNe]
  have e : l.findIdx? q = some k := by
    rw [List.findIdx?_eq_some_iff_getElem]
    exact ⟨hltk, hqk, fun j hj => by simp [ik j (by omega) hj]⟩
  rw [e]
theorem conf_g (f : FuncId) (fn : Func) (q : Int → Bool) (hf : Tryz.prog.funcs[f]? = some fn) (h1 : (fn.name == "runtime.NumGoroutine") = false) (h2 : fn.body.isNone = false) (hq : ∀ n, Good Tryz.prog f [intP n] (.sc (.bool (q n)))) (l : List Int) : Good Tryz.prog 53 [intsP l, .sc (.func (.func f) #[] #[])] (.sc (.bool (l.any q))) := by
  refine good53 (by simp) ?_
  simp only [ac53, intsP, AW, reduceAdd, reduceCtorEq, reduceEqDiff, ↓reduceIte, reduceLT, reduceLeDiff, reduceSub, reducePow, reduceMul, reduceToNat, reduceLE, reduceEq, Int.reduceLT, Int.reduceBEq, Int.reduceBNe]
  refine ops_call (idxf_g f fn q hf h1 h2 hq l) (by simp only [intsP, intP, AW, reduceAdd, reduceCtorEq, reduceEqDiff, ↓reduceIte, reduceLT, reduceLeDiff, reduceSub, reducePow, reduceMul, reduceToNat, reduceLE, reduceEq, Int.reduceLT, Int.reduceBEq, Int.reduceBNe]) ?_; simp only [intsP, intP, AW, reduceAdd, reduceCtorEq, reduceEqDiff, ↓reduceIte, reduceLT, reduceLeDiff, reduceSub, reducePow, reduceMul, reduceToNat, reduceLE, reduceEq, Int.reduceLT, Int.reduceBEq, Int.reduceBNe]
  cases e : l.findIdx? q with
  | none =>
    have : l.any q = false := by
      rw [List.any_eq_false]; intro x hx; simpa using List.findIdx?_eq_none_iff.1 e x hx
    simp only [this, AW, reduceAdd, reduceCtorEq, reduceEqDiff, ↓reduceIte, reduceLT, reduceLeDiff, reduceSub, reducePow, reduceMul, reduceToNat, reduceLE, reduceEq, Int.reduceLT, Int.reduceBEq, Int.reduceBNe]
  | some i =>
    obtain ⟨h3, h4, _⟩ := List.findIdx?_eq_some_iff_getElem.1 e
    have : l.any q = true := List.any_eq_true.2 ⟨_, List.getElem_mem h3, h4⟩
    have d : decide ((0 : Int) ≤ (i : Int)) = true := by rw [decide_eq_true_eq]; exact Int.natCast_nonneg _
    simp only [this, d, AW, reduceAdd, reduceCtorEq, reduceEqDiff, ↓reduceIte, reduceLT, reduceLeDiff, reduceSub, reducePow, reduceMul, reduceToNat, reduceLE, reduceEq, Int.reduceLT, Int.reduceBEq, Int.reduceBNe]
theorem any_bad (l : List Int) : (!l.any fun n => !inB n 0 65536) = l.all fun x => inB x 0 65536 := by
  induction l with
  | nil => rfl
  | cons x l ih => simp only [List.any_cons, List.all_cons, Bool.not_or, Bool.not_not, ih]
theorem sums_g (l : List Int) (n : Int) : Good Tryz.prog 37 [intsP l, intP n] (.sc (.bool (sumsB l n))) := by
  refine good37 (by simp) ?_
  simp only [ac37, intsP, intP, sumsB, AW, reduceAdd, reduceCtorEq, reduceEqDiff, ↓reduceIte, reduceLT, reduceLeDiff, reduceSub, reducePow, reduceMul, reduceToNat, reduceLE, reduceEq, Int.reduceLT, Int.reduceBEq, Int.reduceBNe]
  by_cases h : (l.length : Int) = n
  · have d : ((l.length : Int) == n) = true := by simpa using h
    have d2 : decide ((l.length : Int) = n) = true := by simpa using h
    simp only [d, d2, AW, reduceAdd, reduceCtorEq, reduceEqDiff, ↓reduceIte, reduceLT, reduceLeDiff, reduceSub, reducePow, reduceMul, reduceToNat, reduceLE, reduceEq, Int.reduceLT, Int.reduceBEq, Int.reduceBNe]
    refine ops_call (conf_g 54 Tryz.f54 _ Tryz.func54 (by kernel_rfl) (by kernel_rfl) bad_g l) (by simp only [intsP, any_bad, AW, reduceAdd, reduceCtorEq, reduceEqDiff, ↓reduceIte, reduceLT, reduceLeDiff, reduceSub, reducePow, reduceMul, reduceToNat, reduceLE, reduceEq, Int.reduceLT, Int.reduceBEq, Int.reduceBNe]) ?_; simp only [intsP, any_bad, AW, reduceAdd, reduceCtorEq, reduceEqDiff, ↓reduceIte, reduceLT, reduceLeDiff, reduceSub, reducePow, reduceMul, reduceToNat, reduceLE, reduceEq, Int.reduceLT, Int.reduceBEq, Int.reduceBNe]
  · have d : ((l.length : Int) == n) = false := by simpa using h
    have d2 : decide ((l.length : Int) = n) = false := by simpa using h
    simp only [d, d2, AW, reduceAdd, reduceCtorEq, reduceEqDiff, ↓reduceIte, reduceLT, reduceLeDiff, reduceSub, reducePow, reduceMul, reduceToNat, reduceLE, reduceEq, Int.reduceLT, Int.reduceBEq, Int.reduceBNe]
set_option maxHeartbeats 1000000 in
theorem qsums_g (l : List Int) (n : Int) : Good Tryz.prog 61 [intsP l, intP n] (.sc (.bool (sumsB l n))) := by
  refine .len (es := l.map intP) (by simp [intsP]) (fun hlen => ?_)
  rw [List.length_map] at hlen
  refine good61 (by simp) ?_
  simp only [ac61, intsP, intP, AW, reduceAdd, reduceCtorEq, reduceEqDiff, ↓reduceIte, reduceLT, reduceLeDiff, reduceSub, reducePow, reduceMul, reduceToNat, reduceLE, reduceEq, Int.reduceLT, Int.reduceBEq, Int.reduceBNe]
  refine run_loop (ι := Nat) (fun k => ⟨[(0, .sl (l.map intP)), (1, .sc (.int .i64 n)), (5, .sc (.int .i64 (k : Int)))], [], 2, 28⟩) (fun k => k ≤ l.length ∧ (∀ j (hj : j < l.length), j < k → inB l[j] 0 65536 = true)) (fun k => l.length - k) 2 (fun _ => rfl) 0 (by simp only [LW, Nat.reduceMod, Nat.reduceDiv, Int.natCast_zero, AW, reduceAdd, reduceCtorEq, reduceEqDiff, ↓reduceIte, reduceLT, reduceLeDiff, reduceSub, reducePow, reduceMul, reduceToNat, reduceLE, reduceEq, Int.reduceLT, Int.reduceBEq, Int.reduceBNe]) ⟨Nat.zero_le _, nofun⟩ (fun k hk => ?_)
  obtain ⟨gk, ik⟩ := hk
  by_cases hltk : k < l.length
  rotate_left
  · have dk : decide ((k : Int) < ((l.length : Nat) : Int)) = false := by rw [decide_eq_false_iff_not]; exact fun h => hltk (Int.ofNat_lt.1 h)
    have ek : k = l.length := Nat.le_antisymm gk (Nat.le_of_not_lt hltk)
    subst ek
    have e : (l.all fun x => inB x 0 65536) = true := all_yes (fun j hj => ik j hj hj)
    simp only [dk, sumsB, e, AW, reduceAdd, reduceCtorEq, reduceEqDiff, ↓reduceIte, reduceLT, reduceLeDiff, reduceSub, reducePow, reduceMul, reduceToNat, reduceLE, reduceEq, Int.reduceLT, Int.reduceBEq, Int.reduceBNe]
    by_cases h : (l.length : Int) = n
    · have d : ((l.length : Int) == n) = true := by simpa using h
      have d2 : decide ((l.length : Int) = n) = true := by simpa using h
      rw [d, d2]
    · have d : ((l.length : Int) == n) = false := by simpa using h
      have d2 : decide ((l.length : Int) = n) = false := by simpa using h
      rw [d, d2]
  have dk : decide ((k : Int) < ((l.length : Nat) : Int)) = true := by rw [decide_eq_true_eq]; exact Int.ofNat_lt.2 hltk
  simp only [dk, map_getD hltk, hltk, intP, AW, reduceAdd, reduceCtorEq, reduceEqDiff, ↓reduceIte, reduceLT, reduceLeDiff, reduceSub, reducePow, reduceMul, reduceToNat, reduceLE, reduceEq, Int.reduceLT, Int.reduceBEq, Int.reduceBNe]
  have no : inB l[k] 0 65536 = false → sumsB l n = false := fun h => by
    unfold sumsB; rw [all_no (p := fun x => inB x 0 65536) hltk h, Bool.and_false]
  cases h1 : decide (l[k] < 0)
  rotate_left
  · have h1' := of_decide_eq_true h1
    rw [no (by unfold inB; rw [decide_eq_false (by omega), Bool.false_and])]; simp only [AW, reduceAdd, reduceCtorEq, reduceEqDiff, ↓reduceIte, reduceLT, reduceLeDiff, reduceSub, reducePow, reduceMul, reduceToNat, reduceLE, reduceEq, Int.reduceLT, Int.reduceBEq, Int.reduceBNe]
  cases h2 : decide ((65536 : Int) < l[k])
  rotate_left
  · have h2' := of_decide_eq_true h2
    rw [no (by unfold inB; rw [decide_eq_false (show ¬ l[k] ≤ 65536 by omega), Bool.and_false])]; simp only [map_getD hltk, hltk, intP, h2, AW, reduceAdd, reduceCtorEq, reduceEqDiff, ↓reduceIte, reduceLT, reduceLeDiff, reduceSub, reducePow, reduceMul, reduceToNat, reduceLE, reduceEq, Int.reduceLT, Int.reduceBEq, Int.reduceBNe]
  have h1' := of_decide_eq_false h1
  have h2' := of_decide_eq_false h2
  simp only [map_getD hltk, hltk, intP, h2, wrap_succ hltk hlen, AW, reduceAdd, reduceCtorEq, reduceEqDiff, ↓reduceIte, reduceLT, reduceLeDiff, reduceSub, reducePow, reduceMul, reduceToNat, reduceLE, reduceEq, Int.reduceLT, Int.reduceBEq, Int.reduceBNe]
  refine ⟨k + 1, ⟨hltk, fun j hj hjk => ?_⟩, ?_, by omega⟩
  · by_cases e : j = k
    · subst e; unfold inB; rw [decide_eq_true (by omega), decide_eq_true (by omega)]; rfl
    · exact ik j hj (by omega)
  · simp only [LW, Nat.reduceMod, Nat.reduceDiv, AW, reduceAdd, reduceCtorEq, reduceEqDiff, ↓reduceIte, reduceLT, reduceLeDiff, reduceSub, reducePow, reduceMul, reduceToNat, reduceLE, reduceEq, Int.reduceLT, Int.reduceBEq, Int.reduceBNe]
set_option maxHeartbeats 2000000 in
theorem tab_g (t : TableS) : Good Tryz.prog 35 [t.pv] (intP (tabE t)) := by
  refine .lenA (cs := [.sc (.int .i64 t.rows), .sc (.int .i64 t.cols), .sl (t.cells.map intP)]) (es := t.cells.map intP) (by simp [TableS.pv]) (by simp) (fun hlen => ?_)
  rw [List.length_map] at hlen
  refine good35 (by simp) ?_
  simp only [ac35, TableS.pv, AW, reduceAdd, reduceCtorEq, reduceEqDiff, ↓reduceIte, reduceLT, reduceLeDiff, reduceSub, reducePow, reduceMul, reduceToNat, reduceLE, reduceEq, Int.reduceLT, Int.reduceBEq, Int.reduceBNe]
  cases h0 : decide (t.rows < 1)
  rotate_left
  · rw [show tabE t = 1 by unfold tabE; rw [if_pos (by unfold rcB; rw [h0]; simp)]]
    simp only [h0, intP, AW, reduceAdd, reduceCtorEq, reduceEqDiff, ↓reduceIte, reduceLT, reduceLeDiff, reduceSub, reducePow, reduceMul, reduceToNat, reduceLE, reduceEq, Int.reduceLT, Int.reduceBEq, Int.reduceBNe]
  cases h1 : decide ((8 : Int) < t.rows)
  rotate_left
  · rw [show tabE t = 1 by unfold tabE; rw [if_pos (by unfold rcB; rw [h1]; simp)]]
    simp only [h0, h1, intP, AW, reduceAdd, reduceCtorEq, reduceEqDiff, ↓reduceIte, reduceLT, reduceLeDiff, reduceSub, reducePow, reduceMul, reduceToNat, reduceLE, reduceEq, Int.reduceLT, Int.reduceBEq, Int.reduceBNe]
  cases h2 : decide (t.cols < 1)
  rotate_left
  · rw [show tabE t = 1 by unfold tabE; rw [if_pos (by unfold rcB; rw [h2]; simp)]]
    simp only [h0, h1, h2, intP, AW, reduceAdd, reduceCtorEq, reduceEqDiff, ↓reduceIte, reduceLT, reduceLeDiff, reduceSub, reducePow, reduceMul, reduceToNat, reduceLE, reduceEq, Int.reduceLT, Int.reduceBEq, Int.reduceBNe]
  cases h3 : decide ((8 : Int) < t.cols)
  rotate_left
  · rw [show tabE t = 1 by unfold tabE; rw [if_pos (by unfold rcB; rw [h3]; simp)]]
    simp only [h0, h1, h2, h3, intP, AW, reduceAdd, reduceCtorEq, reduceEqDiff, ↓reduceIte, reduceLT, reduceLeDiff, reduceSub, reducePow, reduceMul, reduceToNat, reduceLE, reduceEq, Int.reduceLT, Int.reduceBEq, Int.reduceBNe]
  have hrc : rcB t = true := by unfold rcB; rw [h0, h1, h2, h3]; rfl
  obtain ⟨r1, r2, r3, r4⟩ := rc_iff.1 hrc
  simp only [h0, h1, h2, h3, wrap_mul r1 r2 r3 r4, List.length_map, AW, reduceAdd, reduceCtorEq, reduceEqDiff, ↓reduceIte, reduceLT, reduceLeDiff, reduceSub, reducePow, reduceMul, reduceToNat, reduceLE, reduceEq, Int.reduceLT, Int.reduceBEq, Int.reduceBNe]
  (try refine drawnK rfl ?_); (try simp only [AW, reduceAdd, reduceCtorEq, reduceEqDiff, ↓reduceIte, reduceLT, reduceLeDiff, reduceSub, reducePow, reduceMul, reduceToNat, reduceLE, reduceEq, Int.reduceLT, Int.reduceBEq, Int.reduceBNe])
  by_cases hn : (t.cells.length : Int) ≠ t.rows * t.cols
  · rw [show tabE t = 3 by unfold tabE; rw [if_neg (by rw [hrc]; decide), if_pos hn]]
    simp only [ne_bne hn, intP, AW, reduceAdd, reduceCtorEq, reduceEqDiff, ↓reduceIte, reduceLT, reduceLeDiff, reduceSub, reducePow, reduceMul, reduceToNat, reduceLE, reduceEq, Int.reduceLT, Int.reduceBEq, Int.reduceBNe]
  have hn' : (t.cells.length : Int) = t.rows * t.cols := Decidable.not_not.1 hn
  simp only [eq_bne hn', AW, reduceAdd, reduceCtorEq, reduceEqDiff, ↓reduceIte, reduceLT, reduceLeDiff, reduceSub, reducePow, reduceMul, reduceToNat, reduceLE, reduceEq, Int.reduceLT, Int.reduceBEq, Int.reduceBNe]
  refine run_loop (ι := Nat) (fun k => ⟨[(33, .sl (t.cells.map intP)), (34, .sc (.int .i64 (t.cells.length : Int))), (35, .sc (.int .i64 (k : Int)))], [(0, .var [.sc (.int .i64 t.rows), .sc (.int .i64 t.cols), .sl (t.cells.map intP)])], 33, 46⟩) (fun k => k ≤ t.cells.length ∧ (∀ j (hj : j < t.cells.length), j < k → cellB t.cells[j] = true)) (fun k => t.cells.length - k) 33 (fun _ => rfl) 0 (by simp only [LW, Nat.reduceMod, Nat.reduceDiv, Int.natCast_zero, intP, AW, reduceAdd, reduceCtorEq, reduceEqDiff, ↓reduceIte, reduceLT, reduceLeDiff, reduceSub, reducePow, reduceMul, reduceToNat, reduceLE, reduceEq, Int.reduceLT, Int.reduceBEq, Int.reduceBNe]) ⟨Nat.zero_le _, nofun⟩ (fun k hk => ?_)
  obtain ⟨gk, ik⟩ := hk
  by_cases hltk : k < t.cells.length
  rotate_left
  · have dk : decide ((k : Int) < ((t.cells.length : Nat) : Int)) = false := by rw [decide_eq_false_iff_not]; exact fun h => hltk (Int.ofNat_lt.1 h)
    have ek : k = t.cells.length := Nat.le_antisymm gk (Nat.le_of_not_lt hltk)
    subst ek
    rw [show tabE t = 0 by unfold tabE; rw [if_neg (by rw [hrc]; decide), if_neg hn, if_pos (all_yes (fun j hj => ik j hj hj))]]
    simp only [dk, intP, List.length_map, AW, reduceAdd, reduceCtorEq, reduceEqDiff, ↓reduceIte, reduceLT, reduceLeDiff, reduceSub, reducePow, reduceMul, reduceToNat, reduceLE, reduceEq, Int.reduceLT, Int.reduceBEq, Int.reduceBNe]
  have dk : decide ((k : Int) < ((t.cells.length : Nat) : Int)) = true := by rw [decide_eq_true_eq]; exact Int.ofNat_lt.2 hltk
  simp only [dk, map_getD hltk, hltk, intP, List.length_map, AW, reduceAdd, reduceCtorEq, reduceEqDiff, ↓reduceIte, reduceLT, reduceLeDiff, reduceSub, reducePow, reduceMul, reduceToNat, reduceLE, reduceEq, Int.reduceLT, Int.reduceBEq, Int.reduceBNe]
  have no : cellB t.cells[k] = false → tabE t = 1 := fun h => by
    unfold tabE; rw [if_neg (by rw [hrc]; decide), if_neg hn, if_neg (by rw [all_no hltk h]; decide)]
  cases g1 : decide (t.cells[k] < -1000000)
  rotate_left
  · have g1' := of_decide_eq_true g1
    rw [no (by unfold cellB inB; rw [decide_eq_false (by omega), Bool.false_and])]; simp only [AW, reduceAdd, reduceCtorEq, reduceEqDiff, ↓reduceIte, reduceLT, reduceLeDiff, reduceSub, reducePow, reduceMul, reduceToNat, reduceLE, reduceEq, Int.reduceLT, Int.reduceBEq, Int.reduceBNe]
  cases g2 : decide ((1000000 : Int) < t.cells[k])
  rotate_left
  · have g2' := of_decide_eq_true g2
    rw [no (by unfold cellB inB; rw [decide_eq_false (show ¬ t.cells[k] ≤ 1000000 by omega), Bool.and_false])]; simp only [map_getD hltk, hltk, intP, g2, AW, reduceAdd, reduceCtorEq, reduceEqDiff, ↓reduceIte, reduceLT, reduceLeDiff, reduceSub, reducePow, reduceMul, reduceToNat, reduceLE, reduceEq, Int.reduceLT, Int.reduceBEq, Int.reduceBNe]
  have g1' := of_decide_eq_false g1
  have g2' := of_decide_eq_false g2
  simp only [map_getD hltk, hltk, intP, g2, wrap_succ hltk hlen, List.length_map, AW, reduceAdd, reduceCtorEq, reduceEqDiff, ↓reduceIte, reduceLT, reduceLeDiff, reduceSub, reducePow, reduceMul, reduceToNat, reduceLE, reduceEq, Int.reduceLT, Int.reduceBEq, Int.reduceBNe]
  refine ⟨k + 1, ⟨hltk, fun j hj hjk => ?_⟩, ?_, by omega⟩
  · by_cases e : j = k
    · subst e; unfold cellB inB; rw [decide_eq_true (by omega), decide_eq_true (by omega)]; rfl
    · exact ik j hj (by omega)
  · simp only [LW, Nat.reduceMod, Nat.reduceDiv, intP, AW, reduceAdd, reduceCtorEq, reduceEqDiff, ↓reduceIte, reduceLT, reduceLeDiff, reduceSub, reducePow, reduceMul, reduceToNat, reduceLE, reduceEq, Int.reduceLT, Int.reduceBEq, Int.reduceBNe]
set_option maxHeartbeats 2000000 in
theorem qtab_g (t : TableS) : Good Tryz.prog 49 [t.pv] (intP (tabE t)) := by
  refine .lenA (cs := [.sc (.int .i64 t.rows), .sc (.int .i64 t.cols), .sl (t.cells.map intP)]) (es := t.cells.map intP) (by simp [TableS.pv]) (by simp) (fun hlen => ?_)
  rw [List.length_map] at hlen
  refine good49 (by simp) ?_
  simp only [ac49, TableS.pv, AW, reduceAdd, reduceCtorEq, reduceEqDiff, ↓reduceIte, reduceLT, reduceLeDiff, reduceSub, reducePow, reduceMul, reduceToNat, reduceLE, reduceEq, Int.reduceLT, Int.reduceBEq, Int.reduceBNe]
  cases h0 : decide (t.rows < 1)
  rotate_left
  · rw [show tabE t = 1 by unfold tabE; rw [if_pos (by unfold rcB; rw [h0]; simp)]]
    simp only [h0, intP, AW, reduceAdd, reduceCtorEq, reduceEqDiff, ↓reduceIte, reduceLT, reduceLeDiff, reduceSub, reducePow, reduceMul, reduceToNat, reduceLE, reduceEq, Int.reduceLT, Int.reduceBEq, Int.reduceBNe]
  cases h1 : decide ((8 : Int) < t.rows)
  rotate_left
  · rw [show tabE t = 1 by unfold tabE; rw [if_pos (by unfold rcB; rw [h1]; simp)]]
    simp only [h0, h1, intP, AW, reduceAdd, reduceCtorEq, reduceEqDiff, ↓reduceIte, reduceLT, reduceLeDiff, reduceSub, reducePow, reduceMul, reduceToNat, reduceLE, reduceEq, Int.reduceLT, Int.reduceBEq, Int.reduceBNe]
  cases h2 : decide (t.cols < 1)
  rotate_left
  · rw [show tabE t = 1 by unfold tabE; rw [if_pos (by unfold rcB; rw [h2]; simp)]]
    simp only [h0, h1, h2, intP, AW, reduceAdd, reduceCtorEq, reduceEqDiff, ↓reduceIte, reduceLT, reduceLeDiff, reduceSub, reducePow, reduceMul, reduceToNat, reduceLE, reduceEq, Int.reduceLT, Int.reduceBEq, Int.reduceBNe]
  cases h3 : decide ((8 : Int) < t.cols)
  rotate_left
  · rw [show tabE t = 1 by unfold tabE; rw [if_pos (by unfold rcB; rw [h3]; simp)]]
    simp only [h0, h1, h2, h3, intP, AW, reduceAdd, reduceCtorEq, reduceEqDiff, ↓reduceIte, reduceLT, reduceLeDiff, reduceSub, reducePow, reduceMul, reduceToNat, reduceLE, reduceEq, Int.reduceLT, Int.reduceBEq, Int.reduceBNe]
  have hrc : rcB t = true := by unfold rcB; rw [h0, h1, h2, h3]; rfl
  obtain ⟨r1, r2, r3, r4⟩ := rc_iff.1 hrc
  simp only [h0, h1, h2, h3, wrap_mul r1 r2 r3 r4, List.length_map, AW, reduceAdd, reduceCtorEq, reduceEqDiff, ↓reduceIte, reduceLT, reduceLeDiff, reduceSub, reducePow, reduceMul, reduceToNat, reduceLE, reduceEq, Int.reduceLT, Int.reduceBEq, Int.reduceBNe]
  (try refine drawnK rfl ?_); (try simp only [AW, reduceAdd, reduceCtorEq, reduceEqDiff, ↓reduceIte, reduceLT, reduceLeDiff, reduceSub, reducePow, reduceMul, reduceToNat, reduceLE, reduceEq, Int.reduceLT, Int.reduceBEq, Int.reduceBNe])
  by_cases hn : (t.cells.length : Int) ≠ t.rows * t.cols
  · rw [show tabE t = 3 by unfold tabE; rw [if_neg (by rw [hrc]; decide), if_pos hn]]
    simp only [ne_bne hn, intP, AW, reduceAdd, reduceCtorEq, reduceEqDiff, ↓reduceIte, reduceLT, reduceLeDiff, reduceSub, reducePow, reduceMul, reduceToNat, reduceLE, reduceEq, Int.reduceLT, Int.reduceBEq, Int.reduceBNe]
  have hn' : (t.cells.length : Int) = t.rows * t.cols := Decidable.not_not.1 hn
  simp only [eq_bne hn', AW, reduceAdd, reduceCtorEq, reduceEqDiff, ↓reduceIte, reduceLT, reduceLeDiff, reduceSub, reducePow, reduceMul, reduceToNat, reduceLE, reduceEq, Int.reduceLT, Int.reduceBEq, Int.reduceBNe]
  refine run_loop (ι := Nat) (fun k => ⟨[(1, .ptr 0 0), (3, .sc (.int .i64 (k : Int)))], [(0, .var [.sc (.int .i64 t.rows), .sc (.int .i64 t.cols), .sl (t.cells.map intP)])], 30, 52⟩) (fun k => k ≤ t.cells.length ∧ (∀ j (hj : j < t.cells.length), j < k → cellB t.cells[j] = true)) (fun k => t.cells.length - k) 30 (fun _ => rfl) 0 (by simp only [LW, Nat.reduceMod, Nat.reduceDiv, Int.natCast_zero, intP, AW, reduceAdd, reduceCtorEq, reduceEqDiff, ↓reduceIte, reduceLT, reduceLeDiff, reduceSub, reducePow, reduceMul, reduceToNat, reduceLE, reduceEq, Int.reduceLT, Int.reduceBEq, Int.reduceBNe]) ⟨Nat.zero_le _, nofun⟩ (fun k hk => ?_)
  obtain ⟨gk, ik⟩ := hk
  by_cases hltk : k < t.cells.length
  rotate_left
  · have dk : decide ((k : Int) < ((t.cells.length : Nat) : Int)) = false := by rw [decide_eq_false_iff_not]; exact fun h => hltk (Int.ofNat_lt.1 h)
    have ek : k = t.cells.length := Nat.le_antisymm gk (Nat.le_of_not_lt hltk)
    subst ek
    rw [show tabE t = 0 by unfold tabE; rw [if_neg (by rw [hrc]; decide), if_neg hn, if_pos (all_yes (fun j hj => ik j hj hj))]]
    simp only [dk, intP, List.length_map, AW, reduceAdd, reduceCtorEq, reduceEqDiff, ↓reduceIte, reduceLT, reduceLeDiff, reduceSub, reducePow, reduceMul, reduceToNat, reduceLE, reduceEq, Int.reduceLT, Int.reduceBEq, Int.reduceBNe]
  have dk : decide ((k : Int) < ((t.cells.length : Nat) : Int)) = true := by rw [decide_eq_true_eq]; exact Int.ofNat_lt.2 hltk
  simp only [dk, map_getD hltk, hltk, intP, List.length_map, AW, reduceAdd, reduceCtorEq, reduceEqDiff, ↓reduceIte, reduceLT, reduceLeDiff, reduceSub, reducePow, reduceMul, reduceToNat, reduceLE, reduceEq, Int.reduceLT, Int.reduceBEq, Int.reduceBNe]
  have no : cellB t.cells[k] = false → tabE t = 1 := fun h => by
    unfold tabE; rw [if_neg (by rw [hrc]; decide), if_neg hn, if_neg (by rw [all_no hltk h]; decide)]
  cases g1 : decide (t.cells[k] < -1000000)
  rotate_left
  · have g1' := of_decide_eq_true g1
    rw [no (by unfold cellB inB; rw [decide_eq_false (by omega), Bool.false_and])]; simp only [AW, reduceAdd, reduceCtorEq, reduceEqDiff, ↓reduceIte, reduceLT, reduceLeDiff, reduceSub, reducePow, reduceMul, reduceToNat, reduceLE, reduceEq, Int.reduceLT, Int.reduceBEq, Int.reduceBNe]
  cases g2 : decide ((1000000 : Int) < t.cells[k])
  rotate_left
  · have g2' := of_decide_eq_true g2
    rw [no (by unfold cellB inB; rw [decide_eq_false (show ¬ t.cells[k] ≤ 1000000 by omega), Bool.and_false])]; simp only [map_getD hltk, hltk, intP, g2, AW, reduceAdd, reduceCtorEq, reduceEqDiff, ↓reduceIte, reduceLT, reduceLeDiff, reduceSub, reducePow, reduceMul, reduceToNat, reduceLE, reduceEq, Int.reduceLT, Int.reduceBEq, Int.reduceBNe]
  have g1' := of_decide_eq_false g1
  have g2' := of_decide_eq_false g2
  simp only [map_getD hltk, hltk, intP, g2, wrap_succ hltk hlen, List.length_map, AW, reduceAdd, reduceCtorEq, reduceEqDiff, ↓reduceIte, reduceLT, reduceLeDiff, reduceSub, reducePow, reduceMul, reduceToNat, reduceLE, reduceEq, Int.reduceLT, Int.reduceBEq, Int.reduceBNe]
  refine ⟨k + 1, ⟨hltk, fun j hj hjk => ?_⟩, ?_, by omega⟩
  · by_cases e : j = k
    · subst e; unfold cellB inB; rw [decide_eq_true (by omega), decide_eq_true (by omega)]; rfl
    · exact ik j hj (by omega)
  · simp only [LW, Nat.reduceMod, Nat.reduceDiv, intP, AW, reduceAdd, reduceCtorEq, reduceEqDiff, ↓reduceIte, reduceLT, reduceLeDiff, reduceSub, reducePow, reduceMul, reduceToNat, reduceLE, reduceEq, Int.reduceLT, Int.reduceBEq, Int.reduceBNe]


end Go.Proofs.YtjnfldkcbcfboaaGreatDoor
