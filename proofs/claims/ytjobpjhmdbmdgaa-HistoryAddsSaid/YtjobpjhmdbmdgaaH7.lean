/-
  The history of a city: sums of hours; whether counts are the same.
-/
import Derived.Test.YtjobpjhmdbmdgaaH6
namespace Go.Proofs.Ytjobpjhmdbmdgaa
open Go.RowKit
set_option linter.unusedVariables false
set_option linter.unusedSimpArgs false
set_option linter.unnecessarySimpa false

deriving instance DecidableEq for CountsS
def wk (l : List Int) (st : Nat) : List Int := (l.take ((st + 1) * 168)).drop (st * 168)
theorem wk_len {l : List Int} {st : Nat} (h : (st + 1) * 168 ≤ l.length) : (wk l st).length = 168 := by
  unfold wk; rw [List.length_drop, List.length_take]; omega
theorem wk_get {l : List Int} {st i : Nat} (h : (st + 1) * 168 ≤ l.length) (hi : i < 168) : (wk l st).getD i 0 = l.getD (st * 168 + i) 0 := by
  unfold wk
  rw [List.getD_eq_getElem?_getD, List.getD_eq_getElem?_getD, List.getElem?_drop, List.getElem?_take, if_pos (by omega)]
def sumW (w : List Int) (s : Nat) : Nat → Int
  | 0 => 0
  | h + 1 => sumW w s h + w.getD ((s + h) % 168) 0
theorem getD_num {w : List Int} (h : numbersL w = true) (i : Nat) : 0 ≤ w.getD i 0 ∧ w.getD i 0 ≤ 1000000 := by
  rw [List.getD_eq_getElem?_getD]
  cases e : w[i]? with
  | none => simp
  | some x =>
    have := List.all_eq_true.1 h x (List.mem_of_getElem? e)
    simpa using this
theorem sumW_b {w : List Int} (h : numbersL w = true) (s : Nat) : ∀ n, 0 ≤ sumW w s n ∧ sumW w s n ≤ n * 1000000
  | 0 => by simp [sumW]
  | n + 1 => by
    have := sumW_b h s n
    have := getD_num h ((s + n) % 168)
    simp only [sumW]; omega
theorem wk_num {l : List Int} (h : numbersL l = true) (st : Nat) : numbersL (wk l st) = true := by
  unfold numbersL at *
  rw [List.all_eq_true] at *
  intro x hx
  exact h x (List.mem_of_mem_take (List.mem_of_mem_drop hx))
def ofL (c : CountsS) (st slot hours : Int) : Int × Int × Int :=
  if checkC c ≠ 0 then (0, 0, checkC c) else if ¬ (0 ≤ st ∧ st < c.stations) then (0, 0, 7) else if ¬ (0 ≤ slot ∧ slot ≤ 167 ∧ 0 ≤ hours ∧ hours ≤ 168) then (0, 0, 1)
  else (sumW (wk c.out st.toNat) slot.toNat hours.toNat, sumW (wk c.into st.toNat) slot.toNat hours.toNat, 0)
def ofP (r : Int × Int × Int) : PV := .tup [intP r.1, intP r.2.1, intP r.2.2]
theorem checkC_ok {c : CountsS} (h : checkC c = 0) : (1 ≤ c.stations ∧ c.stations ≤ 32) ∧ (c.out.length : Int) = c.stations * 168 ∧ (c.into.length : Int) = c.stations * 168 ∧ numbersL c.out = true ∧ numbersL c.into = true := by
  unfold checkC at h
  split at h
  · cases h
  · rename_i h1
    split at h
    · cases h
    · rename_i h2
      split at h
      · cases h
      · rename_i h3
        simp only [stB, Bool.not_eq_false, Bool.and_eq_true, decide_eq_true_eq] at h1 h3
        exact ⟨h1, by omega, by omega, h3.1, h3.2⟩
theorem add_nat {a b : Nat} (h : a + b ≤ 1000000) : IntKind.wrap .i64 ((a : Int) + (b : Int)) = ((a + b : Nat) : Int) := by
  rw [wrap_id (by unfold I64; omega)]; omega
theorem mod_nat (a b : Nat) : ((a : Nat) : Int).tmod (b : Int) = ((a % b : Nat) : Int) := by
  rw [Int.tmod_eq_emod_of_nonneg (by omega)]; rfl
theorem mul_nat {a b : Nat} (h : a * b ≤ 1000000) : IntKind.wrap .i64 ((a : Int) * (b : Int)) = ((a * b : Nat) : Int) := by
  have e : (a : Int) * (b : Int) = ((a * b : Nat) : Int) := by simp
  rw [e, wrap_id (by unfold I64; omega)]
theorem week_g (l : List Int) (st : Nat) (h : (st + 1) * 168 ≤ l.length) (h2 : l.length ≤ 100000) : Good Try.prog 35 [intsP l, intP st] (intsP (wk l st)) := by
  have e1 : IntKind.wrap .i64 ((st : Int) * 168) = ((st * 168 : Nat) : Int) := mul_nat (a := st) (b := 168) (by omega)
  have e2 : IntKind.wrap .i64 ((st : Int) + 1) = ((st + 1 : Nat) : Int) := add_nat (a := st) (b := 1) (by omega)
  have e3 : IntKind.wrap .i64 (((st + 1 : Nat) : Int) * 168) = (((st + 1) * 168 : Nat) : Int) := mul_nat (a := st + 1) (b := 168) (by omega)
  have f1 : st * 168 ≤ (st + 1) * 168 := by omega
  refine good35 (by simp) ?_
  simp only [ac35, intsP, intP, e1, e2, e3, h, f1, or_true, or_self, true_or, List.all_map, Function.comp_def, List.all_eq_true, implies_true, AW, Nat.reduceAdd, reduceCtorEq, Nat.reduceEqDiff, ↓reduceIte, Nat.reduceLT, Nat.reduceLeDiff, Nat.reduceSub, Nat.reducePow, Nat.reduceMul, Int.reduceToNat, Int.reduceLE, Int.reduceEq, Int.reduceLT, Int.reduceBEq, Int.reduceBNe]
  simp only [wk, List.map_take, List.map_drop]
theorem docked_g (st place : Int) (hp : I64 place) : Good Try.prog 31 [intP st, intP place] (.sc (.bool (decide (0 ≤ place) && decide (place / 32 < st)))) := by
  refine good31 (by simp) ?_
  simp only [ac31, intP, AW, Nat.reduceAdd, reduceCtorEq, Nat.reduceEqDiff, ↓reduceIte, Nat.reduceLT, Nat.reduceLeDiff, Nat.reduceSub, Nat.reducePow, Nat.reduceMul, Int.reduceToNat, Int.reduceLE, Int.reduceEq, Int.reduceLT, Int.reduceBEq, Int.reduceBNe]
  cases h : decide (0 ≤ place)
  · simp only [AW, Nat.reduceAdd, reduceCtorEq, Nat.reduceEqDiff, ↓reduceIte, Nat.reduceLT, Nat.reduceLeDiff, Nat.reduceSub, Nat.reducePow, Nat.reduceMul, Int.reduceToNat, Int.reduceLE, Int.reduceEq, Int.reduceLT, Int.reduceBEq, Int.reduceBNe]
  have h0 : 0 ≤ place := by simpa using h
  have e1 : IntKind.wrap .i64 (place.tdiv 32) = place / 32 := by
    rw [Int.tdiv_eq_ediv_of_nonneg h0]; unfold I64 at hp; exact wrap_id (by unfold I64; omega)
  simp only [e1, AW, Nat.reduceAdd, reduceCtorEq, Nat.reduceEqDiff, ↓reduceIte, Nat.reduceLT, Nat.reduceLeDiff, Nat.reduceSub, Nat.reducePow, Nat.reduceMul, Int.reduceToNat, Int.reduceLE, Int.reduceEq, Int.reduceLT, Int.reduceBEq, Int.reduceBNe]
theorem sameC_g (a b : CountsS) : Good Try.prog 17 [a.pv, b.pv] (.sc (.bool (decide (a = b)))) := by
  refine good17 (by simp) ?_
  simp only [ac17, CountsS.pv, AW, Nat.reduceAdd, reduceCtorEq, Nat.reduceEqDiff, ↓reduceIte, Nat.reduceLT, Nat.reduceLeDiff, Nat.reduceSub, Nat.reducePow, Nat.reduceMul, Int.reduceToNat, Int.reduceLE, Int.reduceEq, Int.reduceLT, Int.reduceBEq, Int.reduceBNe]
  cases h1 : (a.stations == b.stations)
  · simp only [AW, Nat.reduceAdd, reduceCtorEq, Nat.reduceEqDiff, ↓reduceIte, Nat.reduceLT, Nat.reduceLeDiff, Nat.reduceSub, Nat.reducePow, Nat.reduceMul, Int.reduceToNat, Int.reduceLE, Int.reduceEq, Int.reduceLT, Int.reduceBEq, Int.reduceBNe]
    have : decide (a = b) = false := by rw [decide_eq_false_iff_not]; intro e; subst e; simp at h1
    rw [this]
  simp only [AW, Nat.reduceAdd, reduceCtorEq, Nat.reduceEqDiff, ↓reduceIte, Nat.reduceLT, Nat.reduceLeDiff, Nat.reduceSub, Nat.reducePow, Nat.reduceMul, Int.reduceToNat, Int.reduceLE, Int.reduceEq, Int.reduceLT, Int.reduceBEq, Int.reduceBNe]
  refine ops_call (sameI_g a.out b.out) (by simp only [intsP, AW, Nat.reduceAdd, reduceCtorEq, Nat.reduceEqDiff, ↓reduceIte, Nat.reduceLT, Nat.reduceLeDiff, Nat.reduceSub, Nat.reducePow, Nat.reduceMul, Int.reduceToNat, Int.reduceLE, Int.reduceEq, Int.reduceLT, Int.reduceBEq, Int.reduceBNe]) ?_; simp only [intsP, AW, Nat.reduceAdd, reduceCtorEq, Nat.reduceEqDiff, ↓reduceIte, Nat.reduceLT, Nat.reduceLeDiff, Nat.reduceSub, Nat.reducePow, Nat.reduceMul, Int.reduceToNat, Int.reduceLE, Int.reduceEq, Int.reduceLT, Int.reduceBEq, Int.reduceBNe]
  cases h2 : decide (a.out = b.out)
  · simp only [AW, Nat.reduceAdd, reduceCtorEq, Nat.reduceEqDiff, ↓reduceIte, Nat.reduceLT, Nat.reduceLeDiff, Nat.reduceSub, Nat.reducePow, Nat.reduceMul, Int.reduceToNat, Int.reduceLE, Int.reduceEq, Int.reduceLT, Int.reduceBEq, Int.reduceBNe]
    have : decide (a = b) = false := by rw [decide_eq_false_iff_not]; intro e; subst e; simp at h2
    rw [this]
  simp only [AW, Nat.reduceAdd, reduceCtorEq, Nat.reduceEqDiff, ↓reduceIte, Nat.reduceLT, Nat.reduceLeDiff, Nat.reduceSub, Nat.reducePow, Nat.reduceMul, Int.reduceToNat, Int.reduceLE, Int.reduceEq, Int.reduceLT, Int.reduceBEq, Int.reduceBNe]
  refine ops_call (sameI_g a.into b.into) (by simp only [intsP, AW, Nat.reduceAdd, reduceCtorEq, Nat.reduceEqDiff, ↓reduceIte, Nat.reduceLT, Nat.reduceLeDiff, Nat.reduceSub, Nat.reducePow, Nat.reduceMul, Int.reduceToNat, Int.reduceLE, Int.reduceEq, Int.reduceLT, Int.reduceBEq, Int.reduceBNe]) ?_; simp only [intsP, AW, Nat.reduceAdd, reduceCtorEq, Nat.reduceEqDiff, ↓reduceIte, Nat.reduceLT, Nat.reduceLeDiff, Nat.reduceSub, Nat.reducePow, Nat.reduceMul, Int.reduceToNat, Int.reduceLE, Int.reduceEq, Int.reduceLT, Int.reduceBEq, Int.reduceBNe]
  cases h3 : decide (a.into = b.into)
  · have : decide (a = b) = false := by rw [decide_eq_false_iff_not]; intro e; subst e; simp at h3
    rw [this]
  · have : decide (a = b) = true := by
      simp at h1 h2 h3
      cases a; cases b; simp_all
    rw [this]
theorem ofL_1 {c : CountsS} {st slot hours : Int} (h : checkC c ≠ 0) : ofL c st slot hours = (0, 0, checkC c) := by unfold ofL; rw [if_pos h]
theorem ofL_2 {c : CountsS} {st slot hours : Int} (h : checkC c = 0) (h2 : ¬ (0 ≤ st ∧ st < c.stations)) : ofL c st slot hours = (0, 0, 7) := by unfold ofL; rw [if_neg (by simp [h]), if_pos h2]
theorem ofL_3 {c : CountsS} {st slot hours : Int} (h : checkC c = 0) (h2 : 0 ≤ st ∧ st < c.stations) (h3 : ¬ (0 ≤ slot ∧ slot ≤ 167 ∧ 0 ≤ hours ∧ hours ≤ 168)) : ofL c st slot hours = (0, 0, 1) := by unfold ofL; rw [if_neg (by simp [h]), if_neg (by simp [h2]), if_pos h3]
theorem ofL_4 {c : CountsS} {a s n : Nat} (h : checkC c = 0) (h2 : (a : Int) < c.stations) (h3 : s ≤ 167) (h4 : n ≤ 168) : ofL c a s n = (sumW (wk c.out a) s n, sumW (wk c.into a) s n, 0) := by
  unfold ofL; rw [if_neg (by simp [h]), if_neg (by simp [h2]), if_neg (by simp; omega)]; rfl
set_option maxHeartbeats 4000000 in
theorem of_g (c : CountsS) (st slot hours : Int) : Good Try.prog 20 [c.pv, intP st, intP slot, intP hours] (ofP (ofL c st slot hours)) := by
  refine good20 (by simp) ?_
  simp only [ac20, CountsS.pv, intP, AW, Nat.reduceAdd, reduceCtorEq, Nat.reduceEqDiff, ↓reduceIte, Nat.reduceLT, Nat.reduceLeDiff, Nat.reduceSub, Nat.reducePow, Nat.reduceMul, Int.reduceToNat, Int.reduceLE, Int.reduceEq, Int.reduceLT, Int.reduceBEq, Int.reduceBNe]
  refine ops_call (rcheckC_g c) (by simp only [CountsS.pv, intP, AW, Nat.reduceAdd, reduceCtorEq, Nat.reduceEqDiff, ↓reduceIte, Nat.reduceLT, Nat.reduceLeDiff, Nat.reduceSub, Nat.reducePow, Nat.reduceMul, Int.reduceToNat, Int.reduceLE, Int.reduceEq, Int.reduceLT, Int.reduceBEq, Int.reduceBNe]) ?_; simp only [CountsS.pv, intP, AW, Nat.reduceAdd, reduceCtorEq, Nat.reduceEqDiff, ↓reduceIte, Nat.reduceLT, Nat.reduceLeDiff, Nat.reduceSub, Nat.reducePow, Nat.reduceMul, Int.reduceToNat, Int.reduceLE, Int.reduceEq, Int.reduceLT, Int.reduceBEq, Int.reduceBNe]
  by_cases hc : checkC c = 0
  rotate_left
  · have d1 : (checkC c != 0) = true := by simpa using hc
    rw [ofL_1 hc]
    simp only [d1, ofP, intP, AW, Nat.reduceAdd, reduceCtorEq, Nat.reduceEqDiff, ↓reduceIte, Nat.reduceLT, Nat.reduceLeDiff, Nat.reduceSub, Nat.reducePow, Nat.reduceMul, Int.reduceToNat, Int.reduceLE, Int.reduceEq, Int.reduceLT, Int.reduceBEq, Int.reduceBNe]
  obtain ⟨c1, c2, c3, c4, c5⟩ := checkC_ok hc
  have hst : IntKind.wrap .i64 (c.stations - 1) = c.stations - 1 := wrap_id (by unfold I64; omega)
  simp only [hc, hst, AW, Nat.reduceAdd, reduceCtorEq, Nat.reduceEqDiff, ↓reduceIte, Nat.reduceLT, Nat.reduceLeDiff, Nat.reduceSub, Nat.reducePow, Nat.reduceMul, Int.reduceToNat, Int.reduceLE, Int.reduceEq, Int.reduceLT, Int.reduceBEq, Int.reduceBNe]
  refine ops_call (in_g st 0 (c.stations - 1)) (by simp only [intP, AW, Nat.reduceAdd, reduceCtorEq, Nat.reduceEqDiff, ↓reduceIte, Nat.reduceLT, Nat.reduceLeDiff, Nat.reduceSub, Nat.reducePow, Nat.reduceMul, Int.reduceToNat, Int.reduceLE, Int.reduceEq, Int.reduceLT, Int.reduceBEq, Int.reduceBNe]) ?_; simp only [intP, AW, Nat.reduceAdd, reduceCtorEq, Nat.reduceEqDiff, ↓reduceIte, Nat.reduceLT, Nat.reduceLeDiff, Nat.reduceSub, Nat.reducePow, Nat.reduceMul, Int.reduceToNat, Int.reduceLE, Int.reduceEq, Int.reduceLT, Int.reduceBEq, Int.reduceBNe]
  by_cases h2 : 0 ≤ st ∧ st < c.stations
  rotate_left
  · have d1 : (decide (0 ≤ st) && decide (st ≤ c.stations - 1)) = false := by simp; omega
    rw [ofL_2 hc h2]
    simp only [d1, ofP, intP, AW, Nat.reduceAdd, reduceCtorEq, Nat.reduceEqDiff, ↓reduceIte, Nat.reduceLT, Nat.reduceLeDiff, Nat.reduceSub, Nat.reducePow, Nat.reduceMul, Int.reduceToNat, Int.reduceLE, Int.reduceEq, Int.reduceLT, Int.reduceBEq, Int.reduceBNe]
  have d1 : (decide (0 ≤ st) && decide (st ≤ c.stations - 1)) = true := by simp; omega
  simp only [d1, AW, Nat.reduceAdd, reduceCtorEq, Nat.reduceEqDiff, ↓reduceIte, Nat.reduceLT, Nat.reduceLeDiff, Nat.reduceSub, Nat.reducePow, Nat.reduceMul, Int.reduceToNat, Int.reduceLE, Int.reduceEq, Int.reduceLT, Int.reduceBEq, Int.reduceBNe]
  refine ops_call (in_g slot 0 167) (by simp only [intP, AW, Nat.reduceAdd, reduceCtorEq, Nat.reduceEqDiff, ↓reduceIte, Nat.reduceLT, Nat.reduceLeDiff, Nat.reduceSub, Nat.reducePow, Nat.reduceMul, Int.reduceToNat, Int.reduceLE, Int.reduceEq, Int.reduceLT, Int.reduceBEq, Int.reduceBNe]) ?_; simp only [intP, AW, Nat.reduceAdd, reduceCtorEq, Nat.reduceEqDiff, ↓reduceIte, Nat.reduceLT, Nat.reduceLeDiff, Nat.reduceSub, Nat.reducePow, Nat.reduceMul, Int.reduceToNat, Int.reduceLE, Int.reduceEq, Int.reduceLT, Int.reduceBEq, Int.reduceBNe]
  by_cases h3 : 0 ≤ slot ∧ slot ≤ 167
  rotate_left
  · have d2 : (decide (0 ≤ slot) && decide (slot ≤ 167)) = false := by simp; omega
    rw [ofL_3 hc h2 (by omega)]
    simp only [d2, ofP, intP, AW, Nat.reduceAdd, reduceCtorEq, Nat.reduceEqDiff, ↓reduceIte, Nat.reduceLT, Nat.reduceLeDiff, Nat.reduceSub, Nat.reducePow, Nat.reduceMul, Int.reduceToNat, Int.reduceLE, Int.reduceEq, Int.reduceLT, Int.reduceBEq, Int.reduceBNe]
  have d2 : (decide (0 ≤ slot) && decide (slot ≤ 167)) = true := by simp; omega
  simp only [d2, AW, Nat.reduceAdd, reduceCtorEq, Nat.reduceEqDiff, ↓reduceIte, Nat.reduceLT, Nat.reduceLeDiff, Nat.reduceSub, Nat.reducePow, Nat.reduceMul, Int.reduceToNat, Int.reduceLE, Int.reduceEq, Int.reduceLT, Int.reduceBEq, Int.reduceBNe]
  refine ops_call (in_g hours 0 168) (by simp only [intP, AW, Nat.reduceAdd, reduceCtorEq, Nat.reduceEqDiff, ↓reduceIte, Nat.reduceLT, Nat.reduceLeDiff, Nat.reduceSub, Nat.reducePow, Nat.reduceMul, Int.reduceToNat, Int.reduceLE, Int.reduceEq, Int.reduceLT, Int.reduceBEq, Int.reduceBNe]) ?_; simp only [intP, AW, Nat.reduceAdd, reduceCtorEq, Nat.reduceEqDiff, ↓reduceIte, Nat.reduceLT, Nat.reduceLeDiff, Nat.reduceSub, Nat.reducePow, Nat.reduceMul, Int.reduceToNat, Int.reduceLE, Int.reduceEq, Int.reduceLT, Int.reduceBEq, Int.reduceBNe]
  by_cases h4 : 0 ≤ hours ∧ hours ≤ 168
  rotate_left
  · have d3 : (decide (0 ≤ hours) && decide (hours ≤ 168)) = false := by simp; omega
    rw [ofL_3 hc h2 (by omega)]
    simp only [d3, ofP, intP, AW, Nat.reduceAdd, reduceCtorEq, Nat.reduceEqDiff, ↓reduceIte, Nat.reduceLT, Nat.reduceLeDiff, Nat.reduceSub, Nat.reducePow, Nat.reduceMul, Int.reduceToNat, Int.reduceLE, Int.reduceEq, Int.reduceLT, Int.reduceBEq, Int.reduceBNe]
  have d3 : (decide (0 ≤ hours) && decide (hours ≤ 168)) = true := by simp; omega
  simp only [d3, AW, Nat.reduceAdd, reduceCtorEq, Nat.reduceEqDiff, ↓reduceIte, Nat.reduceLT, Nat.reduceLeDiff, Nat.reduceSub, Nat.reducePow, Nat.reduceMul, Int.reduceToNat, Int.reduceLE, Int.reduceEq, Int.reduceLT, Int.reduceBEq, Int.reduceBNe]
  obtain ⟨a, rfl⟩ : ∃ a : Nat, st = a := ⟨st.toNat, by omega⟩
  obtain ⟨s, rfl⟩ : ∃ a : Nat, slot = a := ⟨slot.toNat, by omega⟩
  obtain ⟨n, rfl⟩ : ∃ a : Nat, hours = a := ⟨hours.toNat, by omega⟩
  have l1 : (a + 1) * 168 ≤ c.out.length := by omega
  have l2 : (a + 1) * 168 ≤ c.into.length := by omega
  refine ops_call (week_g c.out a l1 (by omega)) (by simp only [intsP, intP, AW, Nat.reduceAdd, reduceCtorEq, Nat.reduceEqDiff, ↓reduceIte, Nat.reduceLT, Nat.reduceLeDiff, Nat.reduceSub, Nat.reducePow, Nat.reduceMul, Int.reduceToNat, Int.reduceLE, Int.reduceEq, Int.reduceLT, Int.reduceBEq, Int.reduceBNe]) ?_; simp only [intsP, intP, AW, Nat.reduceAdd, reduceCtorEq, Nat.reduceEqDiff, ↓reduceIte, Nat.reduceLT, Nat.reduceLeDiff, Nat.reduceSub, Nat.reducePow, Nat.reduceMul, Int.reduceToNat, Int.reduceLE, Int.reduceEq, Int.reduceLT, Int.reduceBEq, Int.reduceBNe]
  refine ops_call (week_g c.into a l2 (by omega)) (by simp only [intsP, intP, AW, Nat.reduceAdd, reduceCtorEq, Nat.reduceEqDiff, ↓reduceIte, Nat.reduceLT, Nat.reduceLeDiff, Nat.reduceSub, Nat.reducePow, Nat.reduceMul, Int.reduceToNat, Int.reduceLE, Int.reduceEq, Int.reduceLT, Int.reduceBEq, Int.reduceBNe]) ?_; simp only [intsP, intP, AW, Nat.reduceAdd, reduceCtorEq, Nat.reduceEqDiff, ↓reduceIte, Nat.reduceLT, Nat.reduceLeDiff, Nat.reduceSub, Nat.reducePow, Nat.reduceMul, Int.reduceToNat, Int.reduceLE, Int.reduceEq, Int.reduceLT, Int.reduceBEq, Int.reduceBNe]
  refine ⟨rfl, ?_⟩; (try simp only [AW, Nat.reduceAdd, reduceCtorEq, Nat.reduceEqDiff, ↓reduceIte, Nat.reduceLT, Nat.reduceLeDiff, Nat.reduceSub, Nat.reducePow, Nat.reduceMul, Int.reduceToNat, Int.reduceLE, Int.reduceEq, Int.reduceLT, Int.reduceBEq, Int.reduceBNe])
  have w1 := wk_len l1
  have w2 := wk_len l2
  have n1 := wk_num c4 a
  have n2 := wk_num c5 a
  rw [ofL_4 hc h2.2 (by omega) (by omega)]
  generalize wk c.out a = u at *
  generalize wk c.into a = v at *
  refine run_loop (ι := Nat) (fun k => ⟨[(2, .sc (.int .i64 (s : Int))), (12, .sl (u.map intP)), (13, .sl (v.map intP)), (14, .sc (.int .i64 (sumW u s k))), (15, .sc (.int .i64 (sumW v s k))), (47, .sc (.int .i64 (n : Int))), (48, .sc (.int .i64 (k : Int)))], [(0, .var [.sc (.int .i64 c.stations), .sl (c.out.map intP), .sl (c.into.map intP)])], 40, 72⟩) (fun k => k ≤ n) (fun k => n - k) 40 (fun _ => rfl) 0 (by simp only [LW, Nat.reduceMod, Nat.reduceDiv, Int.natCast_zero, sumW, AW, Nat.reduceAdd, reduceCtorEq, Nat.reduceEqDiff, ↓reduceIte, Nat.reduceLT, Nat.reduceLeDiff, Nat.reduceSub, Nat.reducePow, Nat.reduceMul, Int.reduceToNat, Int.reduceLE, Int.reduceEq, Int.reduceLT, Int.reduceBEq, Int.reduceBNe]) (Nat.zero_le _) (fun k hk => ?_)
  have gk := hk
  by_cases hltk : k < n
  rotate_left
  · have dk : decide ((k : Int) < ((n : Nat) : Int)) = false := by rw [decide_eq_false_iff_not]; exact fun h => hltk (Int.ofNat_lt.1 h)
    have ek : k = n := Nat.le_antisymm gk (Nat.le_of_not_lt hltk)
    subst ek
    simp only [dk, ofP, intP, AW, Nat.reduceAdd, reduceCtorEq, Nat.reduceEqDiff, ↓reduceIte, Nat.reduceLT, Nat.reduceLeDiff, Nat.reduceSub, Nat.reducePow, Nat.reduceMul, Int.reduceToNat, Int.reduceLE, Int.reduceEq, Int.reduceLT, Int.reduceBEq, Int.reduceBNe]
  have dk : decide ((k : Int) < ((n : Nat) : Int)) = true := by rw [decide_eq_true_eq]; exact Int.ofNat_lt.2 hltk
  have i0 : (s + k) % 168 < 168 := Nat.mod_lt _ (by omega)
  have i1 : (s + k) % 168 < u.length := by omega
  have i2 : (s + k) % 168 < v.length := by omega
  have q1 : IntKind.wrap .i64 ((s : Int) + (k : Int)) = ((s + k : Nat) : Int) := add_nat (by omega)
  have q2 : (((s + k : Nat) : Int)).tmod 168 = (((s + k) % 168 : Nat) : Int) := mod_nat _ 168
  have b1 := sumW_b n1 s k
  have b2 := sumW_b n2 s k
  have b3 := getD_num n1 ((s + k) % 168)
  have b4 := getD_num n2 ((s + k) % 168)
  have g1 : u.getD ((s + k) % 168) 0 = u[(s + k) % 168] := by rw [List.getD_eq_getElem?_getD, List.getElem?_eq_getElem i1]; rfl
  have g2 : v.getD ((s + k) % 168) 0 = v[(s + k) % 168] := by rw [List.getD_eq_getElem?_getD, List.getElem?_eq_getElem i2]; rfl
  have q3 : IntKind.wrap .i64 (sumW u s k + u[(s + k) % 168]) = sumW u s (k + 1) := by
    simp only [sumW, g1]; exact wrap_id (by unfold I64; omega)
  have q4 : IntKind.wrap .i64 (sumW v s k + v[(s + k) % 168]) = sumW v s (k + 1) := by
    simp only [sumW, g2]; exact wrap_id (by unfold I64; omega)
  simp only [dk, q1, q2, map_getD i1, i1, intP, q3, map_getD i2, i2, q4, wrap_succ hltk (show n ≤ maxLen by unfold maxLen; omega), AW, Nat.reduceAdd, reduceCtorEq, Nat.reduceEqDiff, ↓reduceIte, Nat.reduceLT, Nat.reduceLeDiff, Nat.reduceSub, Nat.reducePow, Nat.reduceMul, Int.reduceToNat, Int.reduceLE, Int.reduceEq, Int.reduceLT, Int.reduceBEq, Int.reduceBNe]
  refine ⟨k + 1, hltk, ?_, by omega⟩
  simp only [LW, Nat.reduceMod, Nat.reduceDiv, AW, Nat.reduceAdd, reduceCtorEq, Nat.reduceEqDiff, ↓reduceIte, Nat.reduceLT, Nat.reduceLeDiff, Nat.reduceSub, Nat.reducePow, Nat.reduceMul, Int.reduceToNat, Int.reduceLE, Int.reduceEq, Int.reduceLT, Int.reduceBEq, Int.reduceBNe]


end Go.Proofs.Ytjobpjhmdbmdgaa
