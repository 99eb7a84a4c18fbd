/-
  Releases: the program's lines, walked.
-/
import Derived.Test.YtjnfldkcbcfboaaGreatDoorF4
namespace Go.Proofs.YtjnfldkcbcfboaaGreatDoor
open Go.RowKit
open Nat (reduceAdd reduceEqDiff reduceLT reduceLeDiff reduceSub reducePow reduceMul)
open Int (reduceToNat reduceLE reduceEq)
set_option linter.unusedVariables false
set_option linter.unusedSimpArgs false
set_option linter.unnecessarySimpa false


theorem mulN {a b : Nat} (ha : a ≤ 9) (hb : b ≤ 8) : IntKind.i64.wrap ((a : Int) * (b : Int)) = ((a * b : Nat) : Int) := by
  have h5 : a * b ≤ 9 * 8 := Nat.mul_le_mul ha hb
  rw [← Int.natCast_mul, wrap_id ⟨by omega, by omega⟩]
theorem addN {a b : Nat} (h : a + b ≤ 1000000) : IntKind.i64.wrap ((a : Int) + (b : Int)) = ((a + b : Nat) : Int) := by
  rw [wrap_id ⟨by omega, by omega⟩]; omega
theorem add1N {a : Nat} (h : a ≤ 1000000) : IntKind.i64.wrap ((a : Int) + 1) = ((a + 1 : Nat) : Int) := by
  rw [wrap_id ⟨by omega, by omega⟩]; omega
def outP (r : RelS) (i : Nat) : List PV := (lineT tTrips (headI r) :: rowsT r i).map txP
def rowP (r : RelS) (i j : Nat) : List PV := (tRow :: rowWs r i j).map txP
theorem outP_succ (r : RelS) (i : Nat) : outP r (i + 1) = outP r i ++ [txP (rwL r i)] := by
  unfold outP; rw [rowsT_succ, ← List.cons_append, List.map_append]; rfl
theorem outP_len (r : RelS) (i : Nat) : (outP r i).length = i + 1 := by unfold outP; rw [List.length_map, List.length_cons, rowsT_len]
theorem rowP_len (r : RelS) (i j : Nat) : (rowP r i j).length = j + 1 := by unfold rowP; rw [List.length_map, List.length_cons, rowWs_len]
theorem rowP_succ {r : RelS} {R C : Nat} (h : OkR r R C) (i j : Nat) : rowP r i (j + 1) = rowP r i j ++ [txP (cellW r (i * C + j))] := by
  unfold rowP; rw [rowWs_succ, h.colN, ← List.cons_append, List.map_append]; rfl
theorem rowP_zero (r : RelS) (i : Nat) : rowP r i 0 = [txP tRow] := rfl
theorem outP_zero {r : RelS} {R C : Nat} (h : OkR r R C) : outP r 0 = [txP (lineT tTrips [r.when_.from_, r.when_.to_, r.each, (R : Int), (C : Int)])] := by
  unfold outP headI; rw [h.rows, h.cols]; rfl
theorem rowsT_zero (r : RelS) : rowsT r 0 = [] := rfl
theorem rowWs_zero (r : RelS) (i : Nat) : rowWs r i 0 = [] := rfl
set_option maxHeartbeats 8000000 in
theorem lines_g {r : RelS} {R C : Nat} (h : OkR r R C) : Good Tryz.prog 21 [r.pv] (.sl ((linesX r).map txP)) := by
  refine rel_fact (ps := []) (qs := []) (fun hcl hhl hrl hol hwl => ?_)
  obtain ⟨b, hN⟩ : ∃ b, noisyB r = b := ⟨_, rfl⟩
  have hN2 : decide ((0 : Int) < (r.noise.weights.length : Int)) = b := by
    rw [← hN]; unfold noisyB; rw [decide_eq_decide]; omega
  have gl := line_g tTrips (headI r) (by decide) (by unfold headI; simp) (fun x hx => by
    have := h.from0; have := h.fromto; have := h.to_; have := h.each1; have := h.each2; have := h.rows; have := h.cols; have := h.r8; have := h.c8
    unfold headI at hx; simp only [List.mem_cons, List.not_mem_nil, or_false] at hx
    unfold I64
    rcases hx with rfl | rfl | rfl | rfl | rfl <;> omega)
  have r8 := h.r8
  refine good21 (by simp) ?_
  simp only [ac21, RelS.pv, List.nil_append, List.length_map, hN2, h.rows, h.cols, AW, reduceAdd, reduceCtorEq, reduceEqDiff, ↓reduceIte, reduceLT, reduceLeDiff, reduceSub, reducePow, reduceMul, reduceToNat, reduceLE, reduceEq, Int.reduceLT, Int.reduceBEq, Int.reduceBNe]
  refine ops_call (gl) (by simp only [txP, intsP, intP, headI, h.rows, h.cols, btTrips, List.map_cons, List.map_nil, AW, reduceAdd, reduceCtorEq, reduceEqDiff, ↓reduceIte, reduceLT, reduceLeDiff, reduceSub, reducePow, reduceMul, reduceToNat, reduceLE, reduceEq, Int.reduceLT, Int.reduceBEq, Int.reduceBNe]) ?_; simp only [txP, intsP, intP, headI, h.rows, h.cols, btTrips, List.map_cons, List.map_nil, AW, reduceAdd, reduceCtorEq, reduceEqDiff, ↓reduceIte, reduceLT, reduceLeDiff, reduceSub, reducePow, reduceMul, reduceToNat, reduceLE, reduceEq, Int.reduceLT, Int.reduceBEq, Int.reduceBNe]
  refine run_loop (ι := Nat) (fun i => ⟨[(1, .ptr 0 0), (3, .sc (.bool b)), (4, .sc (.int .i64 (C : Int))), (5, .own 26 0), (34, .sc (.int .i64 (R : Int))), (35, .sc (.int .i64 (i : Int)))], [(0, .var [.sc (.int .i64 r.when_.from_), .sc (.int .i64 r.when_.to_), .sc (.int .i64 r.each), .sc (.int .i64 (R : Int)), .sc (.int .i64 (C : Int)), .sl (r.table.cells.map intP), .sl (r.hidden.map boolP), .sl (r.rowSums.map intP), .sl (r.colSums.map intP), .sl (r.noise.weights.map intP)]), (24, .row 3 1 0 [.sc (.int .i64 r.when_.from_), .sc (.int .i64 r.when_.to_), .sc (.int .i64 r.each), .sc (.int .i64 (R : Int)), .sc (.int .i64 (C : Int))]), (26, .row 9 1 0 (outP r i))], 32, 103⟩) (fun i => i ≤ R) (fun i => R - i) 32 (fun _ => rfl) 0 (by simp only [LW, Nat.reduceMod, Nat.reduceDiv, Int.natCast_zero, outP_zero h, txP, AW, reduceAdd, reduceCtorEq, reduceEqDiff, ↓reduceIte, reduceLT, reduceLeDiff, reduceSub, reducePow, reduceMul, reduceToNat, reduceLE, reduceEq, Int.reduceLT, Int.reduceBEq, Int.reduceBNe]) (Nat.zero_le _) (fun i hi => ?_)
  have gi := hi
  by_cases hlti : i < R
  rotate_left
  · have di : decide ((i : Int) < ((R : Nat) : Int)) = false := by rw [decide_eq_false_iff_not]; exact fun h => hlti (Int.ofNat_lt.1 h)
    have ei : i = R := Nat.le_antisymm gi (Nat.le_of_not_lt hlti)
    rw [ei]
    have e26 : (outP r R).length ≤ 9 := by rw [outP_len]; have := h.r8; omega
    have b2 : (outP r R).length + 1 ≤ maxLen := by unfold maxLen; omega
    have b3 : ((outP r R).length + 1) * 16 ≤ 140737488355328 := by omega
    have es : (linesX r).map txP = (outP r R) ++ [txP (lastT r)] := by
      unfold linesX; rw [h.rowN, List.map_append]; rfl
    generalize (outP r R) = out at *
    have di2 : decide ((R : Int) < (R : Int)) = false := by rw [decide_eq_false_iff_not]; omega
    simp only [di2, AW, reduceAdd, reduceCtorEq, reduceEqDiff, ↓reduceIte, reduceLT, reduceLeDiff, reduceSub, reducePow, reduceMul, reduceToNat, reduceLE, reduceEq, Int.reduceLT, Int.reduceBEq, Int.reduceBNe]
    cases hb2 : b
    · have hpl := h.pla (by rw [hN, hb2])
      have hl : lastT r = lineT tSums r.colSums := by unfold lastT; rw [hN, hb2]; rfl
      have g2 := line_g tSums r.colSums (by decide) (by have := h.c8; omega) (fun x hx => by have := hpl.2.2.2.2.1 x hx; exact ⟨by omega, by omega⟩)
      simp only [AW, reduceAdd, reduceCtorEq, reduceEqDiff, ↓reduceIte, reduceLT, reduceLeDiff, reduceSub, reducePow, reduceMul, reduceToNat, reduceLE, reduceEq, Int.reduceLT, Int.reduceBEq, Int.reduceBNe]
      refine ops_call (g2) (by simp only [txP, intsP, btSums, AW, reduceAdd, reduceCtorEq, reduceEqDiff, ↓reduceIte, reduceLT, reduceLeDiff, reduceSub, reducePow, reduceMul, reduceToNat, reduceLE, reduceEq, Int.reduceLT, Int.reduceBEq, Int.reduceBNe]) ?_; simp only [txP, intsP, btSums, AW, reduceAdd, reduceCtorEq, reduceEqDiff, ↓reduceIte, reduceLT, reduceLeDiff, reduceSub, reducePow, reduceMul, reduceToNat, reduceLE, reduceEq, Int.reduceLT, Int.reduceBEq, Int.reduceBNe]
      simp only [b2, b3, AW, reduceAdd, reduceCtorEq, reduceEqDiff, ↓reduceIte, reduceLT, reduceLeDiff, reduceSub, reducePow, reduceMul, reduceToNat, reduceLE, reduceEq, Int.reduceLT, Int.reduceBEq, Int.reduceBNe]
      rw [es, hl, txP]
    · have hno := h.noi (by rw [hN, hb2])
      have hl : lastT r = lineT tNoise r.noise.weights := by unfold lastT; rw [hN, hb2]; rfl
      have g2 := line_g tNoise r.noise.weights (by decide) (by omega) (fun x hx => by have := hno.2.1 x hx; exact ⟨by omega, by omega⟩)
      simp only [AW, reduceAdd, reduceCtorEq, reduceEqDiff, ↓reduceIte, reduceLT, reduceLeDiff, reduceSub, reducePow, reduceMul, reduceToNat, reduceLE, reduceEq, Int.reduceLT, Int.reduceBEq, Int.reduceBNe]
      refine ops_call (g2) (by simp only [txP, intsP, btNoise, AW, reduceAdd, reduceCtorEq, reduceEqDiff, ↓reduceIte, reduceLT, reduceLeDiff, reduceSub, reducePow, reduceMul, reduceToNat, reduceLE, reduceEq, Int.reduceLT, Int.reduceBEq, Int.reduceBNe]) ?_; simp only [txP, intsP, btNoise, AW, reduceAdd, reduceCtorEq, reduceEqDiff, ↓reduceIte, reduceLT, reduceLeDiff, reduceSub, reducePow, reduceMul, reduceToNat, reduceLE, reduceEq, Int.reduceLT, Int.reduceBEq, Int.reduceBNe]
      simp only [b2, b3, AW, reduceAdd, reduceCtorEq, reduceEqDiff, ↓reduceIte, reduceLT, reduceLeDiff, reduceSub, reducePow, reduceMul, reduceToNat, reduceLE, reduceEq, Int.reduceLT, Int.reduceBEq, Int.reduceBNe]
      rw [es, hl, txP]
  have ib : i ≤ 9 := by omega
  have di : decide ((i : Int) < ((R : Nat) : Int)) = true := by rw [decide_eq_true_eq]; exact Int.ofNat_lt.2 hlti
  simp only [di, btRow, mulN ib h.c8, AW, reduceAdd, reduceCtorEq, reduceEqDiff, ↓reduceIte, reduceLT, reduceLeDiff, reduceSub, reducePow, reduceMul, reduceToNat, reduceLE, reduceEq, Int.reduceLT, Int.reduceBEq, Int.reduceBNe]
  refine run_loop (ι := Nat) (fun j => ⟨[(1, .ptr 0 0), (3, .sc (.bool b)), (4, .sc (.int .i64 (C : Int))), (5, .own 26 0), (6, .sc (.int .i64 (i : Int))), (7, .own 35 0), (8, .sc (.int .i64 ((i * C + j : Nat) : Int))), (34, .sc (.int .i64 (R : Int))), (35, .sc (.int .i64 (i : Int)))], [(0, .var [.sc (.int .i64 r.when_.from_), .sc (.int .i64 r.when_.to_), .sc (.int .i64 r.each), .sc (.int .i64 (R : Int)), .sc (.int .i64 (C : Int)), .sl (r.table.cells.map intP), .sl (r.hidden.map boolP), .sl (r.rowSums.map intP), .sl (r.colSums.map intP), .sl (r.noise.weights.map intP)]), (24, .row 3 1 0 [.sc (.int .i64 r.when_.from_), .sc (.int .i64 r.when_.to_), .sc (.int .i64 r.each), .sc (.int .i64 (R : Int)), .sc (.int .i64 (C : Int))]), (26, .row 9 1 0 (outP r i)), (35, .row 9 1 0 (rowP r i j))], 41, 103⟩) (fun j => j ≤ C) (fun j => C - j) 41 (fun _ => rfl) 0 (by simp only [LW, Nat.reduceMod, Nat.reduceDiv, Int.natCast_zero, rowP_zero, txP, mulN ib h.c8, Nat.add_zero, AW, reduceAdd, reduceCtorEq, reduceEqDiff, ↓reduceIte, reduceLT, reduceLeDiff, reduceSub, reducePow, reduceMul, reduceToNat, reduceLE, reduceEq, Int.reduceLT, Int.reduceBEq, Int.reduceBNe]) (Nat.zero_le _) (fun j hj => ?_)
  have gj := hj
  by_cases hltj : j < C
  rotate_left
  · have dj : decide ((j : Int) < ((C : Nat) : Int)) = false := by rw [decide_eq_false_iff_not]; exact fun h => hltj (Int.ofNat_lt.1 h)
    have ej : j = C := Nat.le_antisymm gj (Nat.le_of_not_lt hltj)
    rw [ej]
    have dj2 : decide (((i * C + C : Nat) : Int) < (((i + 1) * C : Nat) : Int)) = false := by
      rw [decide_eq_false_iff_not, Nat.add_mul, Nat.one_mul]; omega
    simp only [dj2, add1N (show i ≤ 1000000 by omega), mulN (show i + 1 ≤ 9 by omega) h.c8, AW, reduceAdd, reduceCtorEq, reduceEqDiff, ↓reduceIte, reduceLT, reduceLeDiff, reduceSub, reducePow, reduceMul, reduceToNat, reduceLE, reduceEq, Int.reduceLT, Int.reduceBEq, Int.reduceBNe]
    have hw := words_len h hlti
    have hwl : (rowWs r i C ++ rowE r i).length ≤ 9 := by
      rw [List.length_append, rowWs_len]; have := rowE_len r i; have := h.c8; omega
    have hb : (wordsL tRow (rowWs r i C ++ rowE r i)).length ≤ 300 := by
      have := wordsL_len (w := tRow) hw
      have e3 : tRow.length = 3 := rfl
      omega
    have gj := join_g (tRow :: (rowWs r i C ++ rowE r i)) [32] (by rw [List.length_cons]; omega) (by rw [join_words]; omega)
    rw [join_words] at gj
    have er : wordsL tRow (rowWs r i C ++ rowE r i) = rwL r i := by unfold rwL; rw [h.colN]
    rw [er] at gj
    have e26 : (outP r i).length ≤ 9 := by rw [outP_len]; omega
    have b2 : (outP r i).length + 1 ≤ maxLen := by unfold maxLen; omega
    have b3 : ((outP r i).length + 1) * 16 ≤ 140737488355328 := by omega
    have es := outP_succ r i
    generalize (outP r i) = out at *
    cases hb2 : b
    · have e4 : rowE r i = [dec (r.rowSums.getD i 0)] := by unfold rowE; rw [hN, hb2]; rfl
      have hpl := h.pla (by rw [hN, hb2])
      have hi2 : i < r.rowSums.length := by have := hpl.2.1; omega
      rw [getD_get hi2] at e4
      have gs := itoa_g r.rowSums[i]
      have es3 : (tRow :: (rowWs r i C ++ rowE r i)).map txP = rowP r i C ++ [txP (dec r.rowSums[i])] := by
        rw [e4, ← List.cons_append, List.map_append]; rfl
      rw [es3] at gj
      have c26 : (rowP r i C).length ≤ 9 := by rw [rowP_len]; have := h.c8; omega
      have c2 : (rowP r i C).length + 1 ≤ maxLen := by unfold maxLen; omega
      have c3 : ((rowP r i C).length + 1) * 16 ≤ 140737488355328 := by omega
      generalize rowP r i C = rw_ at *
      simp only [map_getD hi2, hi2, intP, List.length_map, AW, reduceAdd, reduceCtorEq, reduceEqDiff, ↓reduceIte, reduceLT, reduceLeDiff, reduceSub, reducePow, reduceMul, reduceToNat, reduceLE, reduceEq, Int.reduceLT, Int.reduceBEq, Int.reduceBNe]
      refine ops_call (gs) (by simp only [intP, txP, AW, reduceAdd, reduceCtorEq, reduceEqDiff, ↓reduceIte, reduceLT, reduceLeDiff, reduceSub, reducePow, reduceMul, reduceToNat, reduceLE, reduceEq, Int.reduceLT, Int.reduceBEq, Int.reduceBNe]) ?_; simp only [intP, txP, AW, reduceAdd, reduceCtorEq, reduceEqDiff, ↓reduceIte, reduceLT, reduceLeDiff, reduceSub, reducePow, reduceMul, reduceToNat, reduceLE, reduceEq, Int.reduceLT, Int.reduceBEq, Int.reduceBNe]
      simp only [c2, c3, AW, reduceAdd, reduceCtorEq, reduceEqDiff, ↓reduceIte, reduceLT, reduceLeDiff, reduceSub, reducePow, reduceMul, reduceToNat, reduceLE, reduceEq, Int.reduceLT, Int.reduceBEq, Int.reduceBNe]
      refine ops_call (gj) (by simp only [txP, b32, dec, AW, reduceAdd, reduceCtorEq, reduceEqDiff, ↓reduceIte, reduceLT, reduceLeDiff, reduceSub, reducePow, reduceMul, reduceToNat, reduceLE, reduceEq, Int.reduceLT, Int.reduceBEq, Int.reduceBNe]) ?_; simp only [txP, b32, dec, AW, reduceAdd, reduceCtorEq, reduceEqDiff, ↓reduceIte, reduceLT, reduceLeDiff, reduceSub, reducePow, reduceMul, reduceToNat, reduceLE, reduceEq, Int.reduceLT, Int.reduceBEq, Int.reduceBNe]
      simp only [b2, b3, add1N (show i ≤ 1000000 by omega), AW, reduceAdd, reduceCtorEq, reduceEqDiff, ↓reduceIte, reduceLT, reduceLeDiff, reduceSub, reducePow, reduceMul, reduceToNat, reduceLE, reduceEq, Int.reduceLT, Int.reduceBEq, Int.reduceBNe]
      refine ⟨i + 1, hlti, ?_, meas_lt hlti⟩
      simp only [LW, Nat.reduceMod, Nat.reduceDiv, es, txP, AW, reduceAdd, reduceCtorEq, reduceEqDiff, ↓reduceIte, reduceLT, reduceLeDiff, reduceSub, reducePow, reduceMul, reduceToNat, reduceLE, reduceEq, Int.reduceLT, Int.reduceBEq, Int.reduceBNe]
    · have e4 : rowE r i = [] := by unfold rowE; rw [hN, hb2]; rfl
      rw [e4, List.append_nil, show (tRow :: rowWs r i C).map txP = rowP r i C from rfl] at gj
      generalize rowP r i C = rw_ at *
      simp only [AW, reduceAdd, reduceCtorEq, reduceEqDiff, ↓reduceIte, reduceLT, reduceLeDiff, reduceSub, reducePow, reduceMul, reduceToNat, reduceLE, reduceEq, Int.reduceLT, Int.reduceBEq, Int.reduceBNe]
      refine ops_call (gj) (by simp only [txP, b32, AW, reduceAdd, reduceCtorEq, reduceEqDiff, ↓reduceIte, reduceLT, reduceLeDiff, reduceSub, reducePow, reduceMul, reduceToNat, reduceLE, reduceEq, Int.reduceLT, Int.reduceBEq, Int.reduceBNe]) ?_; simp only [txP, b32, AW, reduceAdd, reduceCtorEq, reduceEqDiff, ↓reduceIte, reduceLT, reduceLeDiff, reduceSub, reducePow, reduceMul, reduceToNat, reduceLE, reduceEq, Int.reduceLT, Int.reduceBEq, Int.reduceBNe]
      simp only [b2, b3, add1N (show i ≤ 1000000 by omega), AW, reduceAdd, reduceCtorEq, reduceEqDiff, ↓reduceIte, reduceLT, reduceLeDiff, reduceSub, reducePow, reduceMul, reduceToNat, reduceLE, reduceEq, Int.reduceLT, Int.reduceBEq, Int.reduceBNe]
      refine ⟨i + 1, hlti, ?_, meas_lt hlti⟩
      simp only [LW, Nat.reduceMod, Nat.reduceDiv, es, txP, AW, reduceAdd, reduceCtorEq, reduceEqDiff, ↓reduceIte, reduceLT, reduceLeDiff, reduceSub, reducePow, reduceMul, reduceToNat, reduceLE, reduceEq, Int.reduceLT, Int.reduceBEq, Int.reduceBNe]
  have hk := cell_lt hlti hltj
  have dj2 : decide (((i * C + j : Nat) : Int) < (((i + 1) * C : Nat) : Int)) = true := by
    rw [decide_eq_true_eq, Nat.add_mul, Nat.one_mul]; omega
  have hkc : i * C + j < r.table.cells.length := by rw [h.cells]; exact hk
  have hsmall : i * C + j ≤ 1000 := by have := Nat.mul_le_mul h.r8 h.c8; omega
  have e26 : (rowP r i j).length ≤ 9 := by rw [rowP_len]; have := h.c8; omega
  have b2 : (rowP r i j).length + 1 ≤ maxLen := by unfold maxLen; omega
  have b3 : ((rowP r i j).length + 1) * 16 ≤ 140737488355328 := by omega
  have es := rowP_succ h i j
  have gi := itoa_g r.table.cells[i * C + j]
  generalize (rowP r i j) = rw_ at *
  generalize (outP r i) = out at *
  simp only [dj2, add1N (show i ≤ 1000000 by omega), mulN (show i + 1 ≤ 9 by omega) h.c8, AW, reduceAdd, reduceCtorEq, reduceEqDiff, ↓reduceIte, reduceLT, reduceLeDiff, reduceSub, reducePow, reduceMul, reduceToNat, reduceLE, reduceEq, Int.reduceLT, Int.reduceBEq, Int.reduceBNe]
  cases hb2 : b
  · have hpl := h.pla (by rw [hN, hb2])
    have hkh : i * C + j < r.hidden.length := by rw [hpl.1]; exact hk
    simp only [map_getD hkh, hkh, boolP, List.length_map, AW, reduceAdd, reduceCtorEq, reduceEqDiff, ↓reduceIte, reduceLT, reduceLeDiff, reduceSub, reducePow, reduceMul, reduceToNat, reduceLE, reduceEq, Int.reduceLT, Int.reduceBEq, Int.reduceBNe]
    cases hh : r.hidden[i * C + j]
    · have ew : cellW r (i * C + j) = dec r.table.cells[i * C + j] := by
        unfold cellW; rw [hN, hb2, getD_get hkh, hh, getD_get hkc]; rfl
      rw [ew] at es
      simp only [map_getD hkc, hkc, intP, List.length_map, AW, reduceAdd, reduceCtorEq, reduceEqDiff, ↓reduceIte, reduceLT, reduceLeDiff, reduceSub, reducePow, reduceMul, reduceToNat, reduceLE, reduceEq, Int.reduceLT, Int.reduceBEq, Int.reduceBNe]
      refine ops_call (gi) (by simp only [intP, txP, AW, reduceAdd, reduceCtorEq, reduceEqDiff, ↓reduceIte, reduceLT, reduceLeDiff, reduceSub, reducePow, reduceMul, reduceToNat, reduceLE, reduceEq, Int.reduceLT, Int.reduceBEq, Int.reduceBNe]) ?_; simp only [intP, txP, AW, reduceAdd, reduceCtorEq, reduceEqDiff, ↓reduceIte, reduceLT, reduceLeDiff, reduceSub, reducePow, reduceMul, reduceToNat, reduceLE, reduceEq, Int.reduceLT, Int.reduceBEq, Int.reduceBNe]
      simp only [b2, b3, add1N (show i * C + j ≤ 1000000 by omega), AW, reduceAdd, reduceCtorEq, reduceEqDiff, ↓reduceIte, reduceLT, reduceLeDiff, reduceSub, reducePow, reduceMul, reduceToNat, reduceLE, reduceEq, Int.reduceLT, Int.reduceBEq, Int.reduceBNe]
      refine ⟨j + 1, hltj, ?_, meas_lt hltj⟩
      simp only [LW, Nat.reduceMod, Nat.reduceDiv, es, txP, dec, Nat.add_assoc, AW, reduceAdd, reduceCtorEq, reduceEqDiff, ↓reduceIte, reduceLT, reduceLeDiff, reduceSub, reducePow, reduceMul, reduceToNat, reduceLE, reduceEq, Int.reduceLT, Int.reduceBEq, Int.reduceBNe]
    · have ew : cellW r (i * C + j) = tX := by
        unfold cellW; rw [hN, hb2, getD_get hkh, hh]; rfl
      rw [ew] at es
      simp only [btX, b2, b3, add1N (show i * C + j ≤ 1000000 by omega), AW, reduceAdd, reduceCtorEq, reduceEqDiff, ↓reduceIte, reduceLT, reduceLeDiff, reduceSub, reducePow, reduceMul, reduceToNat, reduceLE, reduceEq, Int.reduceLT, Int.reduceBEq, Int.reduceBNe]
      refine ⟨j + 1, hltj, ?_, meas_lt hltj⟩
      simp only [LW, Nat.reduceMod, Nat.reduceDiv, es, txP, Nat.add_assoc, AW, reduceAdd, reduceCtorEq, reduceEqDiff, ↓reduceIte, reduceLT, reduceLeDiff, reduceSub, reducePow, reduceMul, reduceToNat, reduceLE, reduceEq, Int.reduceLT, Int.reduceBEq, Int.reduceBNe]
  · have ew : cellW r (i * C + j) = dec r.table.cells[i * C + j] := by
      unfold cellW; rw [hN, hb2, getD_get hkc]; rfl
    rw [ew] at es
    simp only [map_getD hkc, hkc, intP, List.length_map, AW, reduceAdd, reduceCtorEq, reduceEqDiff, ↓reduceIte, reduceLT, reduceLeDiff, reduceSub, reducePow, reduceMul, reduceToNat, reduceLE, reduceEq, Int.reduceLT, Int.reduceBEq, Int.reduceBNe]
    refine ops_call (gi) (by simp only [intP, txP, AW, reduceAdd, reduceCtorEq, reduceEqDiff, ↓reduceIte, reduceLT, reduceLeDiff, reduceSub, reducePow, reduceMul, reduceToNat, reduceLE, reduceEq, Int.reduceLT, Int.reduceBEq, Int.reduceBNe]) ?_; simp only [intP, txP, AW, reduceAdd, reduceCtorEq, reduceEqDiff, ↓reduceIte, reduceLT, reduceLeDiff, reduceSub, reducePow, reduceMul, reduceToNat, reduceLE, reduceEq, Int.reduceLT, Int.reduceBEq, Int.reduceBNe]
    simp only [b2, b3, add1N (show i * C + j ≤ 1000000 by omega), AW, reduceAdd, reduceCtorEq, reduceEqDiff, ↓reduceIte, reduceLT, reduceLeDiff, reduceSub, reducePow, reduceMul, reduceToNat, reduceLE, reduceEq, Int.reduceLT, Int.reduceBEq, Int.reduceBNe]
    refine ⟨j + 1, hltj, ?_, meas_lt hltj⟩
    simp only [LW, Nat.reduceMod, Nat.reduceDiv, es, txP, dec, Nat.add_assoc, AW, reduceAdd, reduceCtorEq, reduceEqDiff, ↓reduceIte, reduceLT, reduceLeDiff, reduceSub, reducePow, reduceMul, reduceToNat, reduceLE, reduceEq, Int.reduceLT, Int.reduceBEq, Int.reduceBNe]


end Go.Proofs.YtjnfldkcbcfboaaGreatDoor
