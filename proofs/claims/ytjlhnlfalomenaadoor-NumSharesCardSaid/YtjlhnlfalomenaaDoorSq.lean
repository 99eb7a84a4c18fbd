/-
  slices.SortStableFunc: rows that are turned, walked (swaps, rotations).
-/
import Derived.Test.YtjlhnlfalomenaaDoorSp
import Derived.Test.YtjlhnlfalomenaaDoorSh
import Derived.Test.YtjlhnlfalomenaaDoorR0
import Derived.Test.YtjlhnlfalomenaaDoorJa
namespace Go.Proofs.YtjlhnlfalomenaaDoor
open Go.RowKit
open Nat (reduceAdd reduceEqDiff reduceLT reduceLeDiff reduceSub reducePow reduceMul)
open Int (reduceToNat reduceLE reduceEq)
set_option linter.unusedVariables false
set_option linter.unusedSimpArgs false
set_option linter.unnecessarySimpa false

theorem ints_sc (l : List Int) : (flatL (l.map intP)).all PV.isSc = true := by
  induction l with
  | nil => rfl
  | cons x l ih => simp only [flatL, List.map_cons, List.flatMap_cons, List.all_append] at ih ⊢; rw [ih]; rfl
theorem map_el {l : List Int} {i : Nat} (h : i < l.length) : (l.map intP).getD i .dead = .sc (.int .i64 (el l i)) := by
  rw [map_getD h, el_eq h]; rfl
theorem set_sw (l : List Int) (i j : Nat) : ((l.map intP).set i (.sc (.int .i64 (el l j)))).set j (.sc (.int .i64 (el l i))) = (sw l i j).map intP := by
  unfold sw; rw [List.map_set, List.map_set]; rfl
theorem wN {a b n : Nat} (h : a + b ≤ n) (hn : n ≤ maxLen) : IntKind.wrap .i64 ((a : Int) + (b : Int)) = ((a + b : Nat) : Int) := by
  unfold maxLen at hn
  rw [wrap_id (by unfold I64; omega)]; omega
theorem wS {a b : Nat} (h : b ≤ a) (hn : a ≤ maxLen) : IntKind.wrap .i64 ((a : Int) - (b : Int)) = ((a - b : Nat) : Int) := by
  unfold maxLen at hn
  rw [wrap_id (by unfold I64; omega)]; omega
theorem meas_lt {n k : Nat} (h : k < n) : n - (k + 1) < n - k := by omega
theorem dlt {a b : Nat} : decide ((a : Int) < (b : Int)) = decide (a < b) := by simp
theorem dle {a b : Nat} : decide ((a : Int) ≤ (b : Int)) = decide (a ≤ b) := by simp
set_option maxHeartbeats 2000000 in
theorem swapRange_m (l : List Int) (a b n : Nat) (c : PV) (h1 : a + n ≤ b) (h2 : b + n ≤ l.length) (hl : l.length ≤ maxLen) : GoodM Tryd.prog 77 [] [intP (a : Int), intP (b : Int), intP (n : Int), c] 3 1 (l.map intP) (.tup []) ((swr l a b n).map intP) := by
  refine goodM77 (by simp) rfl (ints_sc _) ?_
  simp only [ac77, intP, AW, reduceAdd, reduceCtorEq, reduceEqDiff, ↓reduceIte, reduceLT, reduceLeDiff, reduceSub, reducePow, reduceMul, reduceToNat, reduceLE, reduceEq, Int.reduceLT, Int.reduceBEq, Int.reduceBNe]
  refine run_loop (ι := Nat) (fun k => ⟨[(0, .own 0 0), (1, .sc (.int .i64 (a : Int))), (2, .sc (.int .i64 (b : Int))), (3, .sc (.int .i64 (n : Int))), (10, .sc (.int .i64 (k : Int)))], [(0, .row 3 1 0 ((swr l a b k).map intP))], 2, 38⟩) (fun k => k ≤ n) (fun k => n - k) 2 (fun _ => rfl) 0 (by simp only [LW, Nat.reduceMod, Nat.reduceDiv, Int.natCast_zero, swr, intP, AW, reduceAdd, reduceCtorEq, reduceEqDiff, ↓reduceIte, reduceLT, reduceLeDiff, reduceSub, reducePow, reduceMul, reduceToNat, reduceLE, reduceEq, Int.reduceLT, Int.reduceBEq, Int.reduceBNe]) (Nat.zero_le _) (fun k hk => ?_)
  have gk := hk
  by_cases hltk : k < n
  rotate_left
  · have dk : decide ((k : Int) < ((n : Nat) : Int)) = false := by rw [decide_eq_false_iff_not]; exact fun h => hltk (Int.ofNat_lt.1 h)
    have ek : k = n := Nat.le_antisymm gk (Nat.le_of_not_lt hltk)
    subst ek
    simp only [dk, run_nil, endM, AW, reduceAdd, reduceCtorEq, reduceEqDiff, ↓reduceIte, reduceLT, reduceLeDiff, reduceSub, reducePow, reduceMul, reduceToNat, reduceLE, reduceEq, Int.reduceLT, Int.reduceBEq, Int.reduceBNe]
  have dk : decide ((k : Int) < ((n : Nat) : Int)) = true := by rw [decide_eq_true_eq]; exact Int.ofNat_lt.2 hltk
  have e := swr_len l a b k
  have b1 : a + k < (swr l a b k).length := by omega
  have b2 : b + k < (swr l a b k).length := by omega
  have w1 := wN (a := a) (b := k) (n := l.length) (by omega) hl
  have w2 := wN (a := b) (b := k) (n := l.length) (by omega) hl
  have hn : n ≤ maxLen := by omega
  simp only [dk, w1, w2, b1, b2, map_el b1, map_el b2, List.length_set, List.length_map, AW, reduceAdd, reduceCtorEq, reduceEqDiff, ↓reduceIte, reduceLT, reduceLeDiff, reduceSub, reducePow, reduceMul, reduceToNat, reduceLE, reduceEq, Int.reduceLT, Int.reduceBEq, Int.reduceBNe]
  refine drawnK rfl ?_
  simp only [wrap_succ hltk hn, AW, reduceAdd, reduceCtorEq, reduceEqDiff, ↓reduceIte, reduceLT, reduceLeDiff, reduceSub, reducePow, reduceMul, reduceToNat, reduceLE, reduceEq, Int.reduceLT, Int.reduceBEq, Int.reduceBNe]
  refine ⟨k + 1, hltk, ?_, meas_lt hltk⟩
  simp only [LW, Nat.reduceMod, Nat.reduceDiv, set_sw, swr, AW, reduceAdd, reduceCtorEq, reduceEqDiff, ↓reduceIte, reduceLT, reduceLeDiff, reduceSub, reducePow, reduceMul, reduceToNat, reduceLE, reduceEq, Int.reduceLT, Int.reduceBEq, Int.reduceBNe]
theorem deq {a b : Nat} : ((a : Int) == (b : Int)) = decide (a = b) := by
  by_cases h : a = b
  · subst h; simp
  · rw [decide_eq_false h]; simp; omega
theorem dne {a b : Nat} : ((a : Int) != (b : Int)) = !decide (a = b) := by rw [bne, deq]
set_option maxHeartbeats 2000000 in
theorem rotate_m (l : List Int) (a m b : Nat) (F : FuncId) (cs : List PV) (h1 : a < m) (h2 : m < b) (h3 : b ≤ l.length) (hl : l.length ≤ maxLen) : GoodM Tryd.prog 68 [] [intP (a : Int), intP (m : Int), intP (b : Int), .clo F cs] 3 1 (l.map intP) (.tup []) ((rot l a m b).map intP) := by
  refine goodM68 (by simp) rfl (ints_sc _) ?_
  have w1 := wS (a := m) (b := a) (by omega) (by omega)
  have w2 := wS (a := b) (b := m) (by omega) (by omega)
  simp only [ac68, intP, w1, w2, AW, reduceAdd, reduceCtorEq, reduceEqDiff, ↓reduceIte, reduceLT, reduceLeDiff, reduceSub, reducePow, reduceMul, reduceToNat, reduceLE, reduceEq, Int.reduceLT, Int.reduceBEq, Int.reduceBNe]
  refine run_loop (ι := Nat × Nat × List Int) (fun x => ⟨[(0, .own 0 0), (2, .sc (.int .i64 (m : Int))), (4, .clo F cs), (10, .sc (.int .i64 (x.1 : Int))), (11, .sc (.int .i64 (x.2.1 : Int)))], [(0, .row 3 1 0 (x.2.2.map intP))], 9, 58⟩) (fun x => 0 < x.1 ∧ 0 < x.2.1 ∧ x.1 ≤ m ∧ m + x.2.1 ≤ x.2.2.length ∧ x.2.2.length = l.length ∧ rot x.2.2 (m - x.1) m (m + x.2.1) = rot l a m b) (fun x => x.1 + x.2.1) 9 (fun _ => rfl) (m - a, b - m, l) (by simp only [LW, Nat.reduceMod, Nat.reduceDiv, intP, AW, reduceAdd, reduceCtorEq, reduceEqDiff, ↓reduceIte, reduceLT, reduceLeDiff, reduceSub, reducePow, reduceMul, reduceToNat, reduceLE, reduceEq, Int.reduceLT, Int.reduceBEq, Int.reduceBNe]) ⟨by simp only; omega, by simp only; omega, by simp only; omega, by simp only; omega, rfl, by rw [show m - (m - a) = a by omega, show m + (b - m) = b by omega]⟩ ?_
  rintro ⟨i, j, L⟩ ⟨hi, hj, him, hmj, hL, hrot⟩
  simp only at hi hj him hmj hL hrot
  have w3 := wS (a := m) (b := i) him (by omega)
  by_cases hij : i = j
  · subst hij
    have d1 : ((i : Int) != (i : Int)) = false := by simp
    simp only [d1, w3, AW, reduceAdd, reduceCtorEq, reduceEqDiff, ↓reduceIte, reduceLT, reduceLeDiff, reduceSub, reducePow, reduceMul, reduceToNat, reduceLE, reduceEq, Int.reduceLT, Int.reduceBEq, Int.reduceBNe]
    refine ops_callM (s := 0) (ver := 0) [] [intP (((m - i) : Nat) : Int), intP ((m : Nat) : Int), intP ((i : Nat) : Int), .clo F cs] (swapRange_m L (m - i) m i (.clo F cs) (by omega) (by omega) (by omega)) (by simp only [intP, AW, reduceAdd, reduceCtorEq, reduceEqDiff, ↓reduceIte, reduceLT, reduceLeDiff, reduceSub, reducePow, reduceMul, reduceToNat, reduceLE, reduceEq, Int.reduceLT, Int.reduceBEq, Int.reduceBNe]) (by simp only [AW, reduceAdd, reduceCtorEq, reduceEqDiff, ↓reduceIte, reduceLT, reduceLeDiff, reduceSub, reducePow, reduceMul, reduceToNat, reduceLE, reduceEq, Int.reduceLT, Int.reduceBEq, Int.reduceBNe]) (by simp only [intP, List.not_mem_nil, AW, reduceAdd, reduceCtorEq, reduceEqDiff, ↓reduceIte, reduceLT, reduceLeDiff, reduceSub, reducePow, reduceMul, reduceToNat, reduceLE, reduceEq, Int.reduceLT, Int.reduceBEq, Int.reduceBNe]) (by simp only [AW, reduceAdd, reduceCtorEq, reduceEqDiff, ↓reduceIte, reduceLT, reduceLeDiff, reduceSub, reducePow, reduceMul, reduceToNat, reduceLE, reduceEq, Int.reduceLT, Int.reduceBEq, Int.reduceBNe]) (by simp only [intP, AW, reduceAdd, reduceCtorEq, reduceEqDiff, ↓reduceIte, reduceLT, reduceLeDiff, reduceSub, reducePow, reduceMul, reduceToNat, reduceLE, reduceEq, Int.reduceLT, Int.reduceBEq, Int.reduceBNe]) ?_; simp only [intP, AW, reduceAdd, reduceCtorEq, reduceEqDiff, ↓reduceIte, reduceLT, reduceLeDiff, reduceSub, reducePow, reduceMul, reduceToNat, reduceLE, reduceEq, Int.reduceLT, Int.reduceBEq, Int.reduceBNe]
    simp only [run_nil, endM, rot_eq him hmj, hrot, AW, reduceAdd, reduceCtorEq, reduceEqDiff, ↓reduceIte, reduceLT, reduceLeDiff, reduceSub, reducePow, reduceMul, reduceToNat, reduceLE, reduceEq, Int.reduceLT, Int.reduceBEq, Int.reduceBNe]
  have d1 : ((i : Int) != (j : Int)) = true := by rw [dne, decide_eq_false hij]; rfl
  by_cases hg : j < i
  · have d2 : decide ((j : Int) < (i : Int)) = true := by rw [dlt, decide_eq_true_eq]; exact hg
    have w4 := wS (a := i) (b := j) (by omega) (by omega)
    simp only [d1, d2, w3, AW, reduceAdd, reduceCtorEq, reduceEqDiff, ↓reduceIte, reduceLT, reduceLeDiff, reduceSub, reducePow, reduceMul, reduceToNat, reduceLE, reduceEq, Int.reduceLT, Int.reduceBEq, Int.reduceBNe]
    refine ops_callM (s := 0) (ver := 0) [] [intP (((m - i) : Nat) : Int), intP ((m : Nat) : Int), intP ((j : Nat) : Int), .clo F cs] (swapRange_m L (m - i) m j (.clo F cs) (by omega) (by omega) (by omega)) (by simp only [intP, AW, reduceAdd, reduceCtorEq, reduceEqDiff, ↓reduceIte, reduceLT, reduceLeDiff, reduceSub, reducePow, reduceMul, reduceToNat, reduceLE, reduceEq, Int.reduceLT, Int.reduceBEq, Int.reduceBNe]) (by simp only [AW, reduceAdd, reduceCtorEq, reduceEqDiff, ↓reduceIte, reduceLT, reduceLeDiff, reduceSub, reducePow, reduceMul, reduceToNat, reduceLE, reduceEq, Int.reduceLT, Int.reduceBEq, Int.reduceBNe]) (by simp only [intP, List.not_mem_nil, AW, reduceAdd, reduceCtorEq, reduceEqDiff, ↓reduceIte, reduceLT, reduceLeDiff, reduceSub, reducePow, reduceMul, reduceToNat, reduceLE, reduceEq, Int.reduceLT, Int.reduceBEq, Int.reduceBNe]) (by simp only [AW, reduceAdd, reduceCtorEq, reduceEqDiff, ↓reduceIte, reduceLT, reduceLeDiff, reduceSub, reducePow, reduceMul, reduceToNat, reduceLE, reduceEq, Int.reduceLT, Int.reduceBEq, Int.reduceBNe]) (by simp only [intP, AW, reduceAdd, reduceCtorEq, reduceEqDiff, ↓reduceIte, reduceLT, reduceLeDiff, reduceSub, reducePow, reduceMul, reduceToNat, reduceLE, reduceEq, Int.reduceLT, Int.reduceBEq, Int.reduceBNe]) ?_; simp only [intP, AW, reduceAdd, reduceCtorEq, reduceEqDiff, ↓reduceIte, reduceLT, reduceLeDiff, reduceSub, reducePow, reduceMul, reduceToNat, reduceLE, reduceEq, Int.reduceLT, Int.reduceBEq, Int.reduceBNe]
    simp only [w4, AW, reduceAdd, reduceCtorEq, reduceEqDiff, ↓reduceIte, reduceLT, reduceLeDiff, reduceSub, reducePow, reduceMul, reduceToNat, reduceLE, reduceEq, Int.reduceLT, Int.reduceBEq, Int.reduceBNe]
    refine ⟨(i - j, j, swr L (m - i) m j), ⟨by simp only; omega, hj, by simp only; omega, by simp only [swr_len]; omega, by simp only [swr_len]; exact hL, by simp only; rw [rot_gt him hmj hg]; exact hrot⟩, ?_, by simp only; omega⟩
    simp only [LW, Nat.reduceMod, Nat.reduceDiv, intP, AW, reduceAdd, reduceCtorEq, reduceEqDiff, ↓reduceIte, reduceLT, reduceLeDiff, reduceSub, reducePow, reduceMul, reduceToNat, reduceLE, reduceEq, Int.reduceLT, Int.reduceBEq, Int.reduceBNe]
  · have d2 : decide ((j : Int) < (i : Int)) = false := by rw [dlt, decide_eq_false_iff_not]; exact hg
    have w4 := wS (a := j) (b := i) (by omega) (by omega)
    have w5 := wN (a := m) (b := j) (n := L.length) (by omega) (by omega)
    have w6 := wS (a := m + j) (b := i) (by omega) (by omega)
    simp only [d1, d2, w3, w5, w6, AW, reduceAdd, reduceCtorEq, reduceEqDiff, ↓reduceIte, reduceLT, reduceLeDiff, reduceSub, reducePow, reduceMul, reduceToNat, reduceLE, reduceEq, Int.reduceLT, Int.reduceBEq, Int.reduceBNe]
    refine ops_callM (s := 0) (ver := 0) [] [intP (((m - i) : Nat) : Int), intP (((m + j - i) : Nat) : Int), intP ((i : Nat) : Int), .clo F cs] (swapRange_m L (m - i) (m + j - i) i (.clo F cs) (by omega) (by omega) (by omega)) (by simp only [intP, AW, reduceAdd, reduceCtorEq, reduceEqDiff, ↓reduceIte, reduceLT, reduceLeDiff, reduceSub, reducePow, reduceMul, reduceToNat, reduceLE, reduceEq, Int.reduceLT, Int.reduceBEq, Int.reduceBNe]) (by simp only [AW, reduceAdd, reduceCtorEq, reduceEqDiff, ↓reduceIte, reduceLT, reduceLeDiff, reduceSub, reducePow, reduceMul, reduceToNat, reduceLE, reduceEq, Int.reduceLT, Int.reduceBEq, Int.reduceBNe]) (by simp only [intP, List.not_mem_nil, AW, reduceAdd, reduceCtorEq, reduceEqDiff, ↓reduceIte, reduceLT, reduceLeDiff, reduceSub, reducePow, reduceMul, reduceToNat, reduceLE, reduceEq, Int.reduceLT, Int.reduceBEq, Int.reduceBNe]) (by simp only [AW, reduceAdd, reduceCtorEq, reduceEqDiff, ↓reduceIte, reduceLT, reduceLeDiff, reduceSub, reducePow, reduceMul, reduceToNat, reduceLE, reduceEq, Int.reduceLT, Int.reduceBEq, Int.reduceBNe]) (by simp only [intP, AW, reduceAdd, reduceCtorEq, reduceEqDiff, ↓reduceIte, reduceLT, reduceLeDiff, reduceSub, reducePow, reduceMul, reduceToNat, reduceLE, reduceEq, Int.reduceLT, Int.reduceBEq, Int.reduceBNe]) ?_; simp only [intP, AW, reduceAdd, reduceCtorEq, reduceEqDiff, ↓reduceIte, reduceLT, reduceLeDiff, reduceSub, reducePow, reduceMul, reduceToNat, reduceLE, reduceEq, Int.reduceLT, Int.reduceBEq, Int.reduceBNe]
    simp only [w4, AW, reduceAdd, reduceCtorEq, reduceEqDiff, ↓reduceIte, reduceLT, reduceLeDiff, reduceSub, reducePow, reduceMul, reduceToNat, reduceLE, reduceEq, Int.reduceLT, Int.reduceBEq, Int.reduceBNe]
    refine ⟨(i, j - i, swr L (m - i) (m + j - i) i), ⟨hi, by simp only; omega, him, by simp only [swr_len]; omega, by simp only [swr_len]; exact hL, by simp only; rw [rot_lt him hmj (by omega)]; exact hrot⟩, ?_, by simp only; omega⟩
    simp only [LW, Nat.reduceMod, Nat.reduceDiv, intP, AW, reduceAdd, reduceCtorEq, reduceEqDiff, ↓reduceIte, reduceLT, reduceLeDiff, reduceSub, reducePow, reduceMul, reduceToNat, reduceLE, reduceEq, Int.reduceLT, Int.reduceBEq, Int.reduceBNe]


end Go.Proofs.YtjlhnlfalomenaaDoor
