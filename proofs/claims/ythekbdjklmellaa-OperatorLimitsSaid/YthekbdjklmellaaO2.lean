/-
  Operators: the checks of contracts, walked.
-/
import Derived.Test.YthekbdjklmellaaO1
namespace Go.Proofs.Ythekbdjklmellaa
open Go.RowKit
open Nat (reduceAdd reduceEqDiff reduceLT reduceLeDiff reduceSub reducePow reduceMul)
open Int (reduceToNat reduceLE reduceEq)
set_option linter.unusedVariables false
set_option linter.unusedSimpArgs false
set_option linter.unnecessarySimpa false

theorem min_k {k n : Nat} (h : k ≤ n) : min k n = k := Nat.min_eq_left h
theorem over_alt {x c : ContrS} (hx : x.from_ < x.to_) (hc : c.from_ < c.to_) : decide ((if x.from_ < c.from_ then c.from_ else x.from_) < (if c.to_ < x.to_ then c.to_ else x.to_)) = (decide (x.from_ < c.to_) && decide (c.from_ < x.to_)) := by
  rw [← Bool.decide_and, decide_eq_decide]
  split <;> split <;> omega
theorem contr_lt {c : ContrS} (h : contrB c = true) : c.from_ < c.to_ := by
  simp only [contrB, Bool.and_eq_true, decide_eq_true_eq] at h; omega
set_option maxHeartbeats 4000000 in
theorem ccheck_g (l : List ContrS) : Good Try.prog 14 [.sl (l.map ContrS.pv)] (intP (checkC l)) := by
  refine .len (es := l.map ContrS.pv) (by simp) (fun hlen => ?_)
  rw [List.length_map] at hlen
  refine good14 (by simp) ?_
  simp only [ac14, intP, List.length_map, AW, reduceAdd, reduceCtorEq, reduceEqDiff, ↓reduceIte, reduceLT, reduceLeDiff, reduceSub, reducePow, reduceMul, reduceToNat, reduceLE, reduceEq, Int.reduceLT, Int.reduceBEq, Int.reduceBNe]
  by_cases h512 : 512 < l.length
  · have d : decide ((512 : Int) < (l.length : Int)) = true := by rw [decide_eq_true_eq]; omega
    have e : checkC l = 8 := by unfold checkC; rw [if_pos h512]
    simp only [d, e, AW, reduceAdd, reduceCtorEq, reduceEqDiff, ↓reduceIte, reduceLT, reduceLeDiff, reduceSub, reducePow, reduceMul, reduceToNat, reduceLE, reduceEq, Int.reduceLT, Int.reduceBEq, Int.reduceBNe]
  have d : decide ((512 : Int) < (l.length : Int)) = false := by rw [decide_eq_false_iff_not]; omega
  simp only [d, List.length_map, AW, reduceAdd, reduceCtorEq, reduceEqDiff, ↓reduceIte, reduceLT, reduceLeDiff, reduceSub, reducePow, reduceMul, reduceToNat, reduceLE, reduceEq, Int.reduceLT, Int.reduceBEq, Int.reduceBNe]
  refine run_loop (ι := Nat) (fun k => ⟨[(0, .sl (l.map ContrS.pv)), (10, .sl (l.map ContrS.pv)), (11, .sc (.int .i64 (l.length : Int))), (12, .sc (.int .i64 (k : Int)))], [], 7, 53⟩) (fun k => k ≤ l.length ∧ (∀ j, j < k → errC l j = 0)) (fun k => l.length - k) 7 (fun _ => rfl) 0 (by simp only [LW, Nat.reduceMod, Nat.reduceDiv, Int.natCast_zero, List.length_map, AW, reduceAdd, reduceCtorEq, reduceEqDiff, ↓reduceIte, reduceLT, reduceLeDiff, reduceSub, reducePow, reduceMul, reduceToNat, reduceLE, reduceEq, Int.reduceLT, Int.reduceBEq, Int.reduceBNe]) ⟨Nat.zero_le _, fun j h => absurd h (Nat.not_lt_zero _)⟩ (fun k hk => ?_)
  obtain ⟨gk, ik⟩ := hk
  by_cases hltk : k < l.length
  rotate_left
  · have dk : decide ((k : Int) < ((l.length : Nat) : Int)) = false := by rw [decide_eq_false_iff_not]; exact fun h => hltk (Int.ofNat_lt.1 h)
    have ek : k = l.length := Nat.le_antisymm gk (Nat.le_of_not_lt hltk)
    subst ek
    have e : checkC l = 0 := by unfold checkC; rw [if_neg h512, firstR_none ik]
    simp only [dk, e, AW, reduceAdd, reduceCtorEq, reduceEqDiff, ↓reduceIte, reduceLT, reduceLeDiff, reduceSub, reducePow, reduceMul, reduceToNat, reduceLE, reduceEq, Int.reduceLT, Int.reduceBEq, Int.reduceBNe]
  have dk : decide ((k : Int) < ((l.length : Nat) : Int)) = true := by rw [decide_eq_true_eq]; exact Int.ofNat_lt.2 hltk
  have gk2 : k ≤ l.length := Nat.le_of_lt hltk
  simp only [dk, map_getD hltk, hltk, ContrS.pv, ContrS.vals, List.map_cons, List.map_nil, AW, reduceAdd, reduceCtorEq, reduceEqDiff, ↓reduceIte, reduceLT, reduceLeDiff, reduceSub, reducePow, reduceMul, reduceToNat, reduceLE, reduceEq, Int.reduceLT, Int.reduceBEq, Int.reduceBNe]
  (try refine drawnK rfl ?_); (try simp only [AW, reduceAdd, reduceCtorEq, reduceEqDiff, ↓reduceIte, reduceLT, reduceLeDiff, reduceSub, reducePow, reduceMul, reduceToNat, reduceLE, reduceEq, Int.reduceLT, Int.reduceBEq, Int.reduceBNe])
  refine ops_call (ranged57_g l[k]) (by simp only [ContrS.pv, ContrS.vals, List.map_cons, List.map_nil, AW, reduceAdd, reduceCtorEq, reduceEqDiff, ↓reduceIte, reduceLT, reduceLeDiff, reduceSub, reducePow, reduceMul, reduceToNat, reduceLE, reduceEq, Int.reduceLT, Int.reduceBEq, Int.reduceBNe]) ?_; simp only [ContrS.pv, ContrS.vals, List.map_cons, List.map_nil, AW, reduceAdd, reduceCtorEq, reduceEqDiff, ↓reduceIte, reduceLT, reduceLeDiff, reduceSub, reducePow, reduceMul, reduceToNat, reduceLE, reduceEq, Int.reduceLT, Int.reduceBEq, Int.reduceBNe]
  cases hr : contrB l[k]
  · have e : checkC l = 1 := by
      have h1 : errC l k = 1 := by rw [errC_at hltk, if_pos hr]
      unfold checkC; rw [if_neg h512, firstR_hit hltk ik (by rw [h1]; decide), h1]
    simp only [e, AW, reduceAdd, reduceCtorEq, reduceEqDiff, ↓reduceIte, reduceLT, reduceLeDiff, reduceSub, reducePow, reduceMul, reduceToNat, reduceLE, reduceEq, Int.reduceLT, Int.reduceBEq, Int.reduceBNe]
  simp only [List.length_map, gk2, contr_all, List.length_take, min_k gk2, AW, reduceAdd, reduceCtorEq, reduceEqDiff, ↓reduceIte, reduceLT, reduceLeDiff, reduceSub, reducePow, reduceMul, reduceToNat, reduceLE, reduceEq, Int.reduceLT, Int.reduceBEq, Int.reduceBNe]
  have hklen : k ≤ maxLen := by omega
  refine run_loop (ι := Nat) (fun i => ⟨[(0, .sl (l.map ContrS.pv)), (4, .ptr 11 0), (10, .sl (l.map ContrS.pv)), (11, .sc (.int .i64 (l.length : Int))), (12, .sc (.int .i64 (k : Int))), (22, .sl ((l.map ContrS.pv).take k)), (23, .sc (.int .i64 (k : Int))), (24, .sc (.int .i64 (i : Int)))], [(11, .var [.sc (.int .i64 l[k].op), .sc (.int .i64 l[k].bike), .sc (.int .i64 l[k].from_), .sc (.int .i64 l[k].to_), .sc (.int .i64 l[k].share)])], 22, 53⟩) (fun i => i ≤ k ∧ (∀ j (hj : j < l.length), j < i → overB l[j] l[k] = false)) (fun i => k - i) 22 (fun _ => rfl) 0 (by simp only [LW, Nat.reduceMod, Nat.reduceDiv, Int.natCast_zero, AW, reduceAdd, reduceCtorEq, reduceEqDiff, ↓reduceIte, reduceLT, reduceLeDiff, reduceSub, reducePow, reduceMul, reduceToNat, reduceLE, reduceEq, Int.reduceLT, Int.reduceBEq, Int.reduceBNe]) ⟨Nat.zero_le _, fun j hj h => absurd h (Nat.not_lt_zero _)⟩ (fun i hi => ?_)
  obtain ⟨gi, ii⟩ := hi
  by_cases hlti : i < k
  rotate_left
  · have di : decide ((i : Int) < ((k : Nat) : Int)) = false := by rw [decide_eq_false_iff_not]; exact fun h => hlti (Int.ofNat_lt.1 h)
    have ei : i = k := Nat.le_antisymm gi (Nat.le_of_not_lt hlti)
    rw [ei] at ii
    have h0k : errC l k = 0 := by rw [errC_at hltk, if_neg (by rw [hr]; simp), if_neg (by rw [any_take gk2 ii]; simp)]
    rw [ei]
    have di2 : decide ((k : Int) < (k : Int)) = false := by rw [decide_eq_false_iff_not]; omega
    simp only [di2, wrap_succ hltk hlen, AW, reduceAdd, reduceCtorEq, reduceEqDiff, ↓reduceIte, reduceLT, reduceLeDiff, reduceSub, reducePow, reduceMul, reduceToNat, reduceLE, reduceEq, Int.reduceLT, Int.reduceBEq, Int.reduceBNe]
    refine ⟨k + 1, ⟨hltk, fun j hj => ?_⟩, ?_, meas_lt hltk⟩
    · by_cases hjk : j = k
      · rw [hjk]; exact h0k
      · exact ik j (by omega)
    · simp only [LW, Nat.reduceMod, Nat.reduceDiv, AW, reduceAdd, reduceCtorEq, reduceEqDiff, ↓reduceIte, reduceLT, reduceLeDiff, reduceSub, reducePow, reduceMul, reduceToNat, reduceLE, reduceEq, Int.reduceLT, Int.reduceBEq, Int.reduceBNe]
  have di : decide ((i : Int) < (k : Int)) = true := by rw [decide_eq_true_eq]; omega
  have hil : i < l.length := by omega
  have istep : overB l[i] l[k] = false → ∀ j (hj : j < l.length), j < i + 1 → overB l[j] l[k] = false := fun h => step_all (p := fun c => overB c l[k] = false) hil ii h
  simp only [di, List.length_take, List.length_map, min_k gk2, hlti, take_getD hlti, map_getD hil, ContrS.pv, ContrS.vals, List.map_cons, List.map_nil, AW, reduceAdd, reduceCtorEq, reduceEqDiff, ↓reduceIte, reduceLT, reduceLeDiff, reduceSub, reducePow, reduceMul, reduceToNat, reduceLE, reduceEq, Int.reduceLT, Int.reduceBEq, Int.reduceBNe]
  (try refine drawnK rfl ?_); (try simp only [AW, reduceAdd, reduceCtorEq, reduceEqDiff, ↓reduceIte, reduceLT, reduceLeDiff, reduceSub, reducePow, reduceMul, reduceToNat, reduceLE, reduceEq, Int.reduceLT, Int.reduceBEq, Int.reduceBNe])
  cases h1 : (l[i].bike == l[k].bike)
  · (try simp only [AW, reduceAdd, reduceCtorEq, reduceEqDiff, ↓reduceIte, reduceLT, reduceLeDiff, reduceSub, reducePow, reduceMul, reduceToNat, reduceLE, reduceEq, Int.reduceLT, Int.reduceBEq, Int.reduceBNe])
    (try refine drawnK rfl ?_); (try simp only [AW, reduceAdd, reduceCtorEq, reduceEqDiff, ↓reduceIte, reduceLT, reduceLeDiff, reduceSub, reducePow, reduceMul, reduceToNat, reduceLE, reduceEq, Int.reduceLT, Int.reduceBEq, Int.reduceBNe])
    (try simp only [wrap_succ hlti hklen, AW, reduceAdd, reduceCtorEq, reduceEqDiff, ↓reduceIte, reduceLT, reduceLeDiff, reduceSub, reducePow, reduceMul, reduceToNat, reduceLE, reduceEq, Int.reduceLT, Int.reduceBEq, Int.reduceBNe])
    refine ⟨i + 1, ⟨hlti, istep (by simp [overB, h1])⟩, ?_, meas_lt hlti⟩
    simp only [LW, Nat.reduceMod, Nat.reduceDiv, AW, reduceAdd, reduceCtorEq, reduceEqDiff, ↓reduceIte, reduceLT, reduceLeDiff, reduceSub, reducePow, reduceMul, reduceToNat, reduceLE, reduceEq, Int.reduceLT, Int.reduceBEq, Int.reduceBNe]
  simp only [AW, reduceAdd, reduceCtorEq, reduceEqDiff, ↓reduceIte, reduceLT, reduceLeDiff, reduceSub, reducePow, reduceMul, reduceToNat, reduceLE, reduceEq, Int.reduceLT, Int.reduceBEq, Int.reduceBNe]
  cases h2 : decide (l[i].from_ < l[k].to_)
  · (try simp only [AW, reduceAdd, reduceCtorEq, reduceEqDiff, ↓reduceIte, reduceLT, reduceLeDiff, reduceSub, reducePow, reduceMul, reduceToNat, reduceLE, reduceEq, Int.reduceLT, Int.reduceBEq, Int.reduceBNe])
    (try refine drawnK rfl ?_); (try simp only [AW, reduceAdd, reduceCtorEq, reduceEqDiff, ↓reduceIte, reduceLT, reduceLeDiff, reduceSub, reducePow, reduceMul, reduceToNat, reduceLE, reduceEq, Int.reduceLT, Int.reduceBEq, Int.reduceBNe])
    (try simp only [wrap_succ hlti hklen, AW, reduceAdd, reduceCtorEq, reduceEqDiff, ↓reduceIte, reduceLT, reduceLeDiff, reduceSub, reducePow, reduceMul, reduceToNat, reduceLE, reduceEq, Int.reduceLT, Int.reduceBEq, Int.reduceBNe])
    refine ⟨i + 1, ⟨hlti, istep (by simp [overB, h2])⟩, ?_, meas_lt hlti⟩
    simp only [LW, Nat.reduceMod, Nat.reduceDiv, AW, reduceAdd, reduceCtorEq, reduceEqDiff, ↓reduceIte, reduceLT, reduceLeDiff, reduceSub, reducePow, reduceMul, reduceToNat, reduceLE, reduceEq, Int.reduceLT, Int.reduceBEq, Int.reduceBNe]
  simp only [AW, reduceAdd, reduceCtorEq, reduceEqDiff, ↓reduceIte, reduceLT, reduceLeDiff, reduceSub, reducePow, reduceMul, reduceToNat, reduceLE, reduceEq, Int.reduceLT, Int.reduceBEq, Int.reduceBNe]
  cases h3 : decide (l[k].from_ < l[i].to_)
  · (try simp only [AW, reduceAdd, reduceCtorEq, reduceEqDiff, ↓reduceIte, reduceLT, reduceLeDiff, reduceSub, reducePow, reduceMul, reduceToNat, reduceLE, reduceEq, Int.reduceLT, Int.reduceBEq, Int.reduceBNe])
    (try refine drawnK rfl ?_); (try simp only [AW, reduceAdd, reduceCtorEq, reduceEqDiff, ↓reduceIte, reduceLT, reduceLeDiff, reduceSub, reducePow, reduceMul, reduceToNat, reduceLE, reduceEq, Int.reduceLT, Int.reduceBEq, Int.reduceBNe])
    (try simp only [wrap_succ hlti hklen, AW, reduceAdd, reduceCtorEq, reduceEqDiff, ↓reduceIte, reduceLT, reduceLeDiff, reduceSub, reducePow, reduceMul, reduceToNat, reduceLE, reduceEq, Int.reduceLT, Int.reduceBEq, Int.reduceBNe])
    refine ⟨i + 1, ⟨hlti, istep (by simp [overB, h3])⟩, ?_, meas_lt hlti⟩
    simp only [LW, Nat.reduceMod, Nat.reduceDiv, AW, reduceAdd, reduceCtorEq, reduceEqDiff, ↓reduceIte, reduceLT, reduceLeDiff, reduceSub, reducePow, reduceMul, reduceToNat, reduceLE, reduceEq, Int.reduceLT, Int.reduceBEq, Int.reduceBNe]
  have hov : overB l[i] l[k] = true := by simp [overB, h1, h2, h3]
  (try simp only [AW, reduceAdd, reduceCtorEq, reduceEqDiff, ↓reduceIte, reduceLT, reduceLeDiff, reduceSub, reducePow, reduceMul, reduceToNat, reduceLE, reduceEq, Int.reduceLT, Int.reduceBEq, Int.reduceBNe])
  (try refine drawnK rfl ?_); (try simp only [AW, reduceAdd, reduceCtorEq, reduceEqDiff, ↓reduceIte, reduceLT, reduceLeDiff, reduceSub, reducePow, reduceMul, reduceToNat, reduceLE, reduceEq, Int.reduceLT, Int.reduceBEq, Int.reduceBNe])
  have e : checkC l = 22 := by
    have h22 : errC l k = 22 := by rw [errC_at hltk, if_neg (by rw [hr]; simp), if_pos (any_take_yes (Nat.le_of_lt hltk) hlti hov)]
    unfold checkC; rw [if_neg h512, firstR_hit hltk ik (by rw [h22]; decide), h22]
  rw [e]
set_option maxHeartbeats 4000000 in
theorem cqcheck_g (l : List ContrS) : Good Try.prog 15 [.sl (l.map ContrS.pv)] (intP (checkC l)) := by
  refine .len (es := l.map ContrS.pv) (by simp) (fun hlen => ?_)
  rw [List.length_map] at hlen
  refine good15 (by simp) ?_
  simp only [ac15, intP, List.length_map, AW, reduceAdd, reduceCtorEq, reduceEqDiff, ↓reduceIte, reduceLT, reduceLeDiff, reduceSub, reducePow, reduceMul, reduceToNat, reduceLE, reduceEq, Int.reduceLT, Int.reduceBEq, Int.reduceBNe]
  by_cases h512 : 512 < l.length
  · have d : decide ((512 : Int) < (l.length : Int)) = true := by rw [decide_eq_true_eq]; omega
    have e : checkC l = 8 := by unfold checkC; rw [if_pos h512]
    simp only [d, e, AW, reduceAdd, reduceCtorEq, reduceEqDiff, ↓reduceIte, reduceLT, reduceLeDiff, reduceSub, reducePow, reduceMul, reduceToNat, reduceLE, reduceEq, Int.reduceLT, Int.reduceBEq, Int.reduceBNe]
  have d : decide ((512 : Int) < (l.length : Int)) = false := by rw [decide_eq_false_iff_not]; omega
  simp only [d, AW, reduceAdd, reduceCtorEq, reduceEqDiff, ↓reduceIte, reduceLT, reduceLeDiff, reduceSub, reducePow, reduceMul, reduceToNat, reduceLE, reduceEq, Int.reduceLT, Int.reduceBEq, Int.reduceBNe]
  refine run_loop (ι := Nat) (fun k => ⟨[(0, .sl (l.map ContrS.pv)), (3, .sc (.int .i64 (k : Int)))], [], 5, 104⟩) (fun k => k ≤ l.length ∧ (∀ j, j < k → errC l j = 0)) (fun k => l.length - k) 5 (fun _ => rfl) 0 (by simp only [LW, Nat.reduceMod, Nat.reduceDiv, Int.natCast_zero, List.length_map, AW, reduceAdd, reduceCtorEq, reduceEqDiff, ↓reduceIte, reduceLT, reduceLeDiff, reduceSub, reducePow, reduceMul, reduceToNat, reduceLE, reduceEq, Int.reduceLT, Int.reduceBEq, Int.reduceBNe]) ⟨Nat.zero_le _, fun j h => absurd h (Nat.not_lt_zero _)⟩ (fun k hk => ?_)
  obtain ⟨gk, ik⟩ := hk
  by_cases hltk : k < l.length
  rotate_left
  · have dk : decide ((k : Int) < ((l.length : Nat) : Int)) = false := by rw [decide_eq_false_iff_not]; exact fun h => hltk (Int.ofNat_lt.1 h)
    have ek : k = l.length := Nat.le_antisymm gk (Nat.le_of_not_lt hltk)
    subst ek
    have e : checkC l = 0 := by unfold checkC; rw [if_neg h512, firstR_none ik]
    simp only [dk, List.length_map, e, AW, reduceAdd, reduceCtorEq, reduceEqDiff, ↓reduceIte, reduceLT, reduceLeDiff, reduceSub, reducePow, reduceMul, reduceToNat, reduceLE, reduceEq, Int.reduceLT, Int.reduceBEq, Int.reduceBNe]
  have dk : decide ((k : Int) < ((l.length : Nat) : Int)) = true := by rw [decide_eq_true_eq]; exact Int.ofNat_lt.2 hltk
  have gk2 : k ≤ l.length := Nat.le_of_lt hltk
  have hklen : k ≤ maxLen := by omega
  simp only [dk, List.length_map, map_getD hltk, hltk, ContrS.pv, ContrS.vals, List.map_cons, List.map_nil, AW, reduceAdd, reduceCtorEq, reduceEqDiff, ↓reduceIte, reduceLT, reduceLeDiff, reduceSub, reducePow, reduceMul, reduceToNat, reduceLE, reduceEq, Int.reduceLT, Int.reduceBEq, Int.reduceBNe]
  (try refine drawnK rfl ?_); (try simp only [AW, reduceAdd, reduceCtorEq, reduceEqDiff, ↓reduceIte, reduceLT, reduceLeDiff, reduceSub, reducePow, reduceMul, reduceToNat, reduceLE, reduceEq, Int.reduceLT, Int.reduceBEq, Int.reduceBNe])
  cases h0 : decide (l[k].op < 0)
  rotate_left
  · have hr : contrB l[k] = false := by
      simp only [decide_eq_true_eq] at h0
      cases hb : contrB l[k]
      · rfl
      · simp only [contrB, Bool.and_eq_true, decide_eq_true_eq] at hb; omega
    have e : checkC l = 1 := by
      have h1 : errC l k = 1 := by rw [errC_at hltk, if_pos hr]
      unfold checkC; rw [if_neg h512, firstR_hit hltk ik (by rw [h1]; decide), h1]
    simp only [e, AW, reduceAdd, reduceCtorEq, reduceEqDiff, ↓reduceIte, reduceLT, reduceLeDiff, reduceSub, reducePow, reduceMul, reduceToNat, reduceLE, reduceEq, Int.reduceLT, Int.reduceBEq, Int.reduceBNe]
  simp only [AW, reduceAdd, reduceCtorEq, reduceEqDiff, ↓reduceIte, reduceLT, reduceLeDiff, reduceSub, reducePow, reduceMul, reduceToNat, reduceLE, reduceEq, Int.reduceLT, Int.reduceBEq, Int.reduceBNe]
  cases h1 : decide (8 ≤ l[k].op)
  rotate_left
  · have hr : contrB l[k] = false := by
      simp only [decide_eq_true_eq] at h1
      cases hb : contrB l[k]
      · rfl
      · simp only [contrB, Bool.and_eq_true, decide_eq_true_eq] at hb; omega
    have e : checkC l = 1 := by
      have h1 : errC l k = 1 := by rw [errC_at hltk, if_pos hr]
      unfold checkC; rw [if_neg h512, firstR_hit hltk ik (by rw [h1]; decide), h1]
    simp only [e, AW, reduceAdd, reduceCtorEq, reduceEqDiff, ↓reduceIte, reduceLT, reduceLeDiff, reduceSub, reducePow, reduceMul, reduceToNat, reduceLE, reduceEq, Int.reduceLT, Int.reduceBEq, Int.reduceBNe]
  simp only [AW, reduceAdd, reduceCtorEq, reduceEqDiff, ↓reduceIte, reduceLT, reduceLeDiff, reduceSub, reducePow, reduceMul, reduceToNat, reduceLE, reduceEq, Int.reduceLT, Int.reduceBEq, Int.reduceBNe]
  cases h2 : decide (l[k].bike < 0)
  rotate_left
  · have hr : contrB l[k] = false := by
      simp only [decide_eq_true_eq] at h2
      cases hb : contrB l[k]
      · rfl
      · simp only [contrB, Bool.and_eq_true, decide_eq_true_eq] at hb; omega
    have e : checkC l = 1 := by
      have h1 : errC l k = 1 := by rw [errC_at hltk, if_pos hr]
      unfold checkC; rw [if_neg h512, firstR_hit hltk ik (by rw [h1]; decide), h1]
    simp only [e, AW, reduceAdd, reduceCtorEq, reduceEqDiff, ↓reduceIte, reduceLT, reduceLeDiff, reduceSub, reducePow, reduceMul, reduceToNat, reduceLE, reduceEq, Int.reduceLT, Int.reduceBEq, Int.reduceBNe]
  simp only [AW, reduceAdd, reduceCtorEq, reduceEqDiff, ↓reduceIte, reduceLT, reduceLeDiff, reduceSub, reducePow, reduceMul, reduceToNat, reduceLE, reduceEq, Int.reduceLT, Int.reduceBEq, Int.reduceBNe]
  cases h3 : decide (128 ≤ l[k].bike)
  rotate_left
  · have hr : contrB l[k] = false := by
      simp only [decide_eq_true_eq] at h3
      cases hb : contrB l[k]
      · rfl
      · simp only [contrB, Bool.and_eq_true, decide_eq_true_eq] at hb; omega
    have e : checkC l = 1 := by
      have h1 : errC l k = 1 := by rw [errC_at hltk, if_pos hr]
      unfold checkC; rw [if_neg h512, firstR_hit hltk ik (by rw [h1]; decide), h1]
    simp only [e, AW, reduceAdd, reduceCtorEq, reduceEqDiff, ↓reduceIte, reduceLT, reduceLeDiff, reduceSub, reducePow, reduceMul, reduceToNat, reduceLE, reduceEq, Int.reduceLT, Int.reduceBEq, Int.reduceBNe]
  simp only [AW, reduceAdd, reduceCtorEq, reduceEqDiff, ↓reduceIte, reduceLT, reduceLeDiff, reduceSub, reducePow, reduceMul, reduceToNat, reduceLE, reduceEq, Int.reduceLT, Int.reduceBEq, Int.reduceBNe]
  cases h4 : decide (l[k].from_ < 0)
  rotate_left
  · have hr : contrB l[k] = false := by
      simp only [decide_eq_true_eq] at h4
      cases hb : contrB l[k]
      · rfl
      · simp only [contrB, Bool.and_eq_true, decide_eq_true_eq] at hb; omega
    have e : checkC l = 1 := by
      have h1 : errC l k = 1 := by rw [errC_at hltk, if_pos hr]
      unfold checkC; rw [if_neg h512, firstR_hit hltk ik (by rw [h1]; decide), h1]
    simp only [e, AW, reduceAdd, reduceCtorEq, reduceEqDiff, ↓reduceIte, reduceLT, reduceLeDiff, reduceSub, reducePow, reduceMul, reduceToNat, reduceLE, reduceEq, Int.reduceLT, Int.reduceBEq, Int.reduceBNe]
  simp only [AW, reduceAdd, reduceCtorEq, reduceEqDiff, ↓reduceIte, reduceLT, reduceLeDiff, reduceSub, reducePow, reduceMul, reduceToNat, reduceLE, reduceEq, Int.reduceLT, Int.reduceBEq, Int.reduceBNe]
  cases h5 : decide (l[k].to_ ≤ l[k].from_)
  rotate_left
  · have hr : contrB l[k] = false := by
      simp only [decide_eq_true_eq] at h5
      cases hb : contrB l[k]
      · rfl
      · simp only [contrB, Bool.and_eq_true, decide_eq_true_eq] at hb; omega
    have e : checkC l = 1 := by
      have h1 : errC l k = 1 := by rw [errC_at hltk, if_pos hr]
      unfold checkC; rw [if_neg h512, firstR_hit hltk ik (by rw [h1]; decide), h1]
    simp only [e, AW, reduceAdd, reduceCtorEq, reduceEqDiff, ↓reduceIte, reduceLT, reduceLeDiff, reduceSub, reducePow, reduceMul, reduceToNat, reduceLE, reduceEq, Int.reduceLT, Int.reduceBEq, Int.reduceBNe]
  simp only [AW, reduceAdd, reduceCtorEq, reduceEqDiff, ↓reduceIte, reduceLT, reduceLeDiff, reduceSub, reducePow, reduceMul, reduceToNat, reduceLE, reduceEq, Int.reduceLT, Int.reduceBEq, Int.reduceBNe]
  cases h6 : decide ((4294944000 : Int) < l[k].to_)
  rotate_left
  · have hr : contrB l[k] = false := by
      simp only [decide_eq_true_eq] at h6
      cases hb : contrB l[k]
      · rfl
      · simp only [contrB, Bool.and_eq_true, decide_eq_true_eq] at hb; omega
    have e : checkC l = 1 := by
      have h1 : errC l k = 1 := by rw [errC_at hltk, if_pos hr]
      unfold checkC; rw [if_neg h512, firstR_hit hltk ik (by rw [h1]; decide), h1]
    simp only [e, AW, reduceAdd, reduceCtorEq, reduceEqDiff, ↓reduceIte, reduceLT, reduceLeDiff, reduceSub, reducePow, reduceMul, reduceToNat, reduceLE, reduceEq, Int.reduceLT, Int.reduceBEq, Int.reduceBNe]
  simp only [AW, reduceAdd, reduceCtorEq, reduceEqDiff, ↓reduceIte, reduceLT, reduceLeDiff, reduceSub, reducePow, reduceMul, reduceToNat, reduceLE, reduceEq, Int.reduceLT, Int.reduceBEq, Int.reduceBNe]
  cases h7 : decide (l[k].share < 0)
  rotate_left
  · have hr : contrB l[k] = false := by
      simp only [decide_eq_true_eq] at h7
      cases hb : contrB l[k]
      · rfl
      · simp only [contrB, Bool.and_eq_true, decide_eq_true_eq] at hb; omega
    have e : checkC l = 1 := by
      have h1 : errC l k = 1 := by rw [errC_at hltk, if_pos hr]
      unfold checkC; rw [if_neg h512, firstR_hit hltk ik (by rw [h1]; decide), h1]
    simp only [e, AW, reduceAdd, reduceCtorEq, reduceEqDiff, ↓reduceIte, reduceLT, reduceLeDiff, reduceSub, reducePow, reduceMul, reduceToNat, reduceLE, reduceEq, Int.reduceLT, Int.reduceBEq, Int.reduceBNe]
  simp only [AW, reduceAdd, reduceCtorEq, reduceEqDiff, ↓reduceIte, reduceLT, reduceLeDiff, reduceSub, reducePow, reduceMul, reduceToNat, reduceLE, reduceEq, Int.reduceLT, Int.reduceBEq, Int.reduceBNe]
  cases h8 : decide ((1000 : Int) < l[k].share)
  rotate_left
  · have hr : contrB l[k] = false := by
      simp only [decide_eq_true_eq] at h8
      cases hb : contrB l[k]
      · rfl
      · simp only [contrB, Bool.and_eq_true, decide_eq_true_eq] at hb; omega
    have e : checkC l = 1 := by
      have h1 : errC l k = 1 := by rw [errC_at hltk, if_pos hr]
      unfold checkC; rw [if_neg h512, firstR_hit hltk ik (by rw [h1]; decide), h1]
    simp only [e, AW, reduceAdd, reduceCtorEq, reduceEqDiff, ↓reduceIte, reduceLT, reduceLeDiff, reduceSub, reducePow, reduceMul, reduceToNat, reduceLE, reduceEq, Int.reduceLT, Int.reduceBEq, Int.reduceBNe]
  simp only [AW, reduceAdd, reduceCtorEq, reduceEqDiff, ↓reduceIte, reduceLT, reduceLeDiff, reduceSub, reducePow, reduceMul, reduceToNat, reduceLE, reduceEq, Int.reduceLT, Int.reduceBEq, Int.reduceBNe]
  have hr : contrB l[k] = true := by
    simp only [decide_eq_false_iff_not] at h0 h1 h2 h3 h4 h5 h6 h7 h8
    simp only [contrB, Bool.and_eq_true, decide_eq_true_eq]; omega
  have hkt := contr_lt hr
  have allr : ∀ j (hj : j < l.length), j < k → contrB l[j] = true := by
    intro j hj hjk
    have := ik j hjk
    rw [errC_at hj] at this
    cases hb : contrB l[j]
    · rw [if_pos hb] at this; cases this
    · rfl
  refine run_loop (ι := Nat) (fun i => ⟨[(0, .sl (l.map ContrS.pv)), (3, .sc (.int .i64 (k : Int))), (4, .ptr 13 0), (5, .sc (.int .i64 (i : Int)))], [(13, .var [.sc (.int .i64 l[k].op), .sc (.int .i64 l[k].bike), .sc (.int .i64 l[k].from_), .sc (.int .i64 l[k].to_), .sc (.int .i64 l[k].share)])], 65, 104⟩) (fun i => i ≤ k ∧ (∀ j (hj : j < l.length), j < i → overB l[j] l[k] = false)) (fun i => k - i) 65 (fun _ => rfl) 0 (by simp only [LW, Nat.reduceMod, Nat.reduceDiv, Int.natCast_zero, AW, reduceAdd, reduceCtorEq, reduceEqDiff, ↓reduceIte, reduceLT, reduceLeDiff, reduceSub, reducePow, reduceMul, reduceToNat, reduceLE, reduceEq, Int.reduceLT, Int.reduceBEq, Int.reduceBNe]) ⟨Nat.zero_le _, fun j hj h => absurd h (Nat.not_lt_zero _)⟩ (fun i hi => ?_)
  obtain ⟨gi, ii⟩ := hi
  by_cases hlti : i < k
  rotate_left
  · have di : decide ((i : Int) < ((k : Nat) : Int)) = false := by rw [decide_eq_false_iff_not]; exact fun h => hlti (Int.ofNat_lt.1 h)
    have ei : i = k := Nat.le_antisymm gi (Nat.le_of_not_lt hlti)
    rw [ei] at ii
    have h0k : errC l k = 0 := by rw [errC_at hltk, if_neg (by rw [hr]; simp), if_neg (by rw [any_take gk2 ii]; simp)]
    rw [ei]
    have di2 : decide ((k : Int) < (k : Int)) = false := by rw [decide_eq_false_iff_not]; omega
    simp only [di2, wrap_succ hltk hlen, AW, reduceAdd, reduceCtorEq, reduceEqDiff, ↓reduceIte, reduceLT, reduceLeDiff, reduceSub, reducePow, reduceMul, reduceToNat, reduceLE, reduceEq, Int.reduceLT, Int.reduceBEq, Int.reduceBNe]
    refine ⟨k + 1, ⟨hltk, fun j hj => ?_⟩, ?_, meas_lt hltk⟩
    · by_cases hjk : j = k
      · rw [hjk]; exact h0k
      · exact ik j (by omega)
    · simp only [LW, Nat.reduceMod, Nat.reduceDiv, AW, reduceAdd, reduceCtorEq, reduceEqDiff, ↓reduceIte, reduceLT, reduceLeDiff, reduceSub, reducePow, reduceMul, reduceToNat, reduceLE, reduceEq, Int.reduceLT, Int.reduceBEq, Int.reduceBNe]
  have di : decide ((i : Int) < (k : Int)) = true := by rw [decide_eq_true_eq]; omega
  have hil : i < l.length := by omega
  have istep : overB l[i] l[k] = false → ∀ j (hj : j < l.length), j < i + 1 → overB l[j] l[k] = false := fun h => step_all (p := fun c => overB c l[k] = false) hil ii h
  have alt := over_alt (x := l[i]) (c := l[k]) (contr_lt (allr i hil hlti)) hkt
  simp only [di, List.length_map, hil, map_getD hil, ContrS.pv, ContrS.vals, List.map_cons, List.map_nil, AW, reduceAdd, reduceCtorEq, reduceEqDiff, ↓reduceIte, reduceLT, reduceLeDiff, reduceSub, reducePow, reduceMul, reduceToNat, reduceLE, reduceEq, Int.reduceLT, Int.reduceBEq, Int.reduceBNe]
  cases g1 : (l[i].bike == l[k].bike)
  · (try simp only [AW, reduceAdd, reduceCtorEq, reduceEqDiff, ↓reduceIte, reduceLT, reduceLeDiff, reduceSub, reducePow, reduceMul, reduceToNat, reduceLE, reduceEq, Int.reduceLT, Int.reduceBEq, Int.reduceBNe])
    (try refine drawnK rfl ?_); (try simp only [AW, reduceAdd, reduceCtorEq, reduceEqDiff, ↓reduceIte, reduceLT, reduceLeDiff, reduceSub, reducePow, reduceMul, reduceToNat, reduceLE, reduceEq, Int.reduceLT, Int.reduceBEq, Int.reduceBNe])
    (try simp only [wrap_succ hlti hklen, AW, reduceAdd, reduceCtorEq, reduceEqDiff, ↓reduceIte, reduceLT, reduceLeDiff, reduceSub, reducePow, reduceMul, reduceToNat, reduceLE, reduceEq, Int.reduceLT, Int.reduceBEq, Int.reduceBNe])
    refine ⟨i + 1, ⟨hlti, istep (by simp [overB, g1])⟩, ?_, meas_lt hlti⟩
    simp only [LW, Nat.reduceMod, Nat.reduceDiv, AW, reduceAdd, reduceCtorEq, reduceEqDiff, ↓reduceIte, reduceLT, reduceLeDiff, reduceSub, reducePow, reduceMul, reduceToNat, reduceLE, reduceEq, Int.reduceLT, Int.reduceBEq, Int.reduceBNe]
  simp only [List.length_map, hil, map_getD hil, ContrS.pv, ContrS.vals, List.map_cons, List.map_nil, AW, reduceAdd, reduceCtorEq, reduceEqDiff, ↓reduceIte, reduceLT, reduceLeDiff, reduceSub, reducePow, reduceMul, reduceToNat, reduceLE, reduceEq, Int.reduceLT, Int.reduceBEq, Int.reduceBNe]
  rw [alt]
  (try simp only [AW, reduceAdd, reduceCtorEq, reduceEqDiff, ↓reduceIte, reduceLT, reduceLeDiff, reduceSub, reducePow, reduceMul, reduceToNat, reduceLE, reduceEq, Int.reduceLT, Int.reduceBEq, Int.reduceBNe])
  (try refine drawnK rfl ?_); (try simp only [AW, reduceAdd, reduceCtorEq, reduceEqDiff, ↓reduceIte, reduceLT, reduceLeDiff, reduceSub, reducePow, reduceMul, reduceToNat, reduceLE, reduceEq, Int.reduceLT, Int.reduceBEq, Int.reduceBNe])
  cases g2 : (decide (l[i].from_ < l[k].to_) && decide (l[k].from_ < l[i].to_))
  · (try simp only [AW, reduceAdd, reduceCtorEq, reduceEqDiff, ↓reduceIte, reduceLT, reduceLeDiff, reduceSub, reducePow, reduceMul, reduceToNat, reduceLE, reduceEq, Int.reduceLT, Int.reduceBEq, Int.reduceBNe])
    (try simp only [wrap_succ hlti hklen, AW, reduceAdd, reduceCtorEq, reduceEqDiff, ↓reduceIte, reduceLT, reduceLeDiff, reduceSub, reducePow, reduceMul, reduceToNat, reduceLE, reduceEq, Int.reduceLT, Int.reduceBEq, Int.reduceBNe])
    refine ⟨i + 1, ⟨hlti, istep (by unfold overB; rw [Bool.and_assoc, g2, Bool.and_false])⟩, ?_, meas_lt hlti⟩
    simp only [LW, Nat.reduceMod, Nat.reduceDiv, AW, reduceAdd, reduceCtorEq, reduceEqDiff, ↓reduceIte, reduceLT, reduceLeDiff, reduceSub, reducePow, reduceMul, reduceToNat, reduceLE, reduceEq, Int.reduceLT, Int.reduceBEq, Int.reduceBNe]
  have hov : overB l[i] l[k] = true := by unfold overB; rw [Bool.and_assoc, g2, g1]; rfl
  (try simp only [AW, reduceAdd, reduceCtorEq, reduceEqDiff, ↓reduceIte, reduceLT, reduceLeDiff, reduceSub, reducePow, reduceMul, reduceToNat, reduceLE, reduceEq, Int.reduceLT, Int.reduceBEq, Int.reduceBNe])
  (try refine drawnK rfl ?_); (try simp only [AW, reduceAdd, reduceCtorEq, reduceEqDiff, ↓reduceIte, reduceLT, reduceLeDiff, reduceSub, reducePow, reduceMul, reduceToNat, reduceLE, reduceEq, Int.reduceLT, Int.reduceBEq, Int.reduceBNe])
  have e : checkC l = 22 := by
    have h22 : errC l k = 22 := by rw [errC_at hltk, if_neg (by rw [hr]; simp), if_pos (any_take_yes (Nat.le_of_lt hltk) hlti hov)]
    unfold checkC; rw [if_neg h512, firstR_hit hltk ik (by rw [h22]; decide), h22]
  rw [e]


end Go.Proofs.Ythekbdjklmellaa
