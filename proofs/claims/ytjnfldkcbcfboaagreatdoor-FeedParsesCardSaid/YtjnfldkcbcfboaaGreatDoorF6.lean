/-
  Releases: Lines of both, walked.
-/
import Derived.Test.YtjnfldkcbcfboaaGreatDoorF5
namespace Go.Proofs.YtjnfldkcbcfboaaGreatDoor
open Go.RowKit
open Nat (reduceAdd reduceEqDiff reduceLT reduceLeDiff reduceSub reducePow reduceMul)
open Int (reduceToNat reduceLE reduceEq)
set_option linter.unusedVariables false
set_option linter.unusedSimpArgs false
set_option linter.unnecessarySimpa false


def linesP (r : RelS) : PV := if checkR r ≠ 0 then .tup [.sl [], intP (checkR r)] else .tup [.sl ((linesX r).map txP), intP 0]
theorem valB_small {n : Int} (h1 : -10000000000 ≤ n) (h2 : n ≤ 10000000000) : valB n = true := valB_iff.2 ⟨by omega, by omega⟩
theorem head_val {r : RelS} {R C : Nat} (h : OkR r R C) : ∀ x ∈ headI r, valB x = true := fun x hx => by
  have := h.from0; have := h.fromto; have := h.to_; have := h.each1; have := h.each2; have := h.rows; have := h.cols; have := h.r8; have := h.c8
  unfold headI at hx; simp only [List.mem_cons, List.not_mem_nil, or_false] at hx
  rcases hx with rfl | rfl | rfl | rfl | rfl <;> exact valB_small (by omega) (by omega)
theorem rowWs_A {r : RelS} {R C : Nat} (h : OkR r R C) {i j : Nat} (hi : i < R) (hj : j ≤ C) : (wordsL tRow (rowWs r i j)).length ≤ 300 := by
  have h1 := wordsL_len (w := tRow) (l := rowWs r i j) (b := 20) (fun x hx => by
    unfold rowWs at hx
    obtain ⟨k, hk, rfl⟩ := List.mem_map.1 hx
    rw [h.colN]; exact cellW_len h (cell_lt hi (by have := List.mem_range.1 hk; omega)))
  rw [rowWs_len] at h1
  have : tRow.length = 3 := rfl
  have := h.c8
  omega
theorem words_succ {r : RelS} {R C : Nat} (h : OkR r R C) (i j : Nat) : wordsL tRow (rowWs r i (j + 1)) = wordsL tRow (rowWs r i j) ++ (32 :: cellW r (i * C + j)) := by
  rw [rowWs_succ, wordsL_snoc, h.colN]
theorem words_zero (r : RelS) (i : Nat) : wordsL tRow (rowWs r i 0) = tRow := by
  show wordsL tRow [] = _
  unfold wordsL; simp
set_option maxHeartbeats 2000000 in
theorem flines_g (r : RelS) (hb : r.hidden.length ≤ 1000000) (hb2 : r.rowSums.length ≤ 1000000) (hb3 : r.colSums.length ≤ 1000000) : Good Tryz.prog 9 [r.pv] (linesP r) := by
  have gc := fcheck_g r hb hb2 hb3
  refine good9 (by simp) ?_
  simp only [ac9, RelS.pv, AW, reduceAdd, reduceCtorEq, reduceEqDiff, ↓reduceIte, reduceLT, reduceLeDiff, reduceSub, reducePow, reduceMul, reduceToNat, reduceLE, reduceEq, Int.reduceLT, Int.reduceBEq, Int.reduceBNe]
  simp only [RelS.pv, AW, reduceAdd, reduceCtorEq, reduceEqDiff, ↓reduceIte, reduceLT, reduceLeDiff, reduceSub, reducePow, reduceMul, reduceToNat, reduceLE, reduceEq, Int.reduceLT, Int.reduceBEq, Int.reduceBNe] at gc
  refine ops_call (gc) (by simp only [intP, AW, reduceAdd, reduceCtorEq, reduceEqDiff, ↓reduceIte, reduceLT, reduceLeDiff, reduceSub, reducePow, reduceMul, reduceToNat, reduceLE, reduceEq, Int.reduceLT, Int.reduceBEq, Int.reduceBNe]) ?_; simp only [intP, AW, reduceAdd, reduceCtorEq, reduceEqDiff, ↓reduceIte, reduceLT, reduceLeDiff, reduceSub, reducePow, reduceMul, reduceToNat, reduceLE, reduceEq, Int.reduceLT, Int.reduceBEq, Int.reduceBNe]
  by_cases hz : checkR r ≠ 0
  · simp only [ne_bne hz, linesP, hz, intP, AW, reduceAdd, reduceCtorEq, reduceEqDiff, ↓reduceIte, reduceLT, reduceLeDiff, reduceSub, reducePow, reduceMul, reduceToNat, reduceLE, reduceEq, Int.reduceLT, Int.reduceBEq, Int.reduceBNe]
  have h0 : checkR r = 0 := Decidable.not_not.1 hz
  obtain ⟨R, C, hok⟩ := ok_of h0
  have gl := lines_g hok
  simp only [RelS.pv, AW, reduceAdd, reduceCtorEq, reduceEqDiff, ↓reduceIte, reduceLT, reduceLeDiff, reduceSub, reducePow, reduceMul, reduceToNat, reduceLE, reduceEq, Int.reduceLT, Int.reduceBEq, Int.reduceBNe] at gl
  simp only [eq_bne h0, AW, reduceAdd, reduceCtorEq, reduceEqDiff, ↓reduceIte, reduceLT, reduceLeDiff, reduceSub, reducePow, reduceMul, reduceToNat, reduceLE, reduceEq, Int.reduceLT, Int.reduceBEq, Int.reduceBNe]
  refine ops_call (gl) (by simp only [AW, reduceAdd, reduceCtorEq, reduceEqDiff, ↓reduceIte, reduceLT, reduceLeDiff, reduceSub, reducePow, reduceMul, reduceToNat, reduceLE, reduceEq, Int.reduceLT, Int.reduceBEq, Int.reduceBNe]) ?_; simp only [AW, reduceAdd, reduceCtorEq, reduceEqDiff, ↓reduceIte, reduceLT, reduceLeDiff, reduceSub, reducePow, reduceMul, reduceToNat, reduceLE, reduceEq, Int.reduceLT, Int.reduceBEq, Int.reduceBNe]
  rw [show linesP r = .tup [.sl ((linesX r).map txP), intP 0] by unfold linesP; rw [if_neg hz], intP]
set_option maxHeartbeats 8000000 in
theorem qlines_g (r : RelS) : Good Tryz.prog 17 [r.pv] (linesP r) := by
  refine rel_fact (ps := []) (qs := []) (fun hcl hhl hrl hol hwl => ?_)
  have gc := qcheck_g r
  refine good17 (by simp) ?_
  simp only [ac17, RelS.pv, List.nil_append, AW, reduceAdd, reduceCtorEq, reduceEqDiff, ↓reduceIte, reduceLT, reduceLeDiff, reduceSub, reducePow, reduceMul, reduceToNat, reduceLE, reduceEq, Int.reduceLT, Int.reduceBEq, Int.reduceBNe]
  simp only [RelS.pv, AW, reduceAdd, reduceCtorEq, reduceEqDiff, ↓reduceIte, reduceLT, reduceLeDiff, reduceSub, reducePow, reduceMul, reduceToNat, reduceLE, reduceEq, Int.reduceLT, Int.reduceBEq, Int.reduceBNe] at gc
  refine ops_call (gc) (by simp only [intP, AW, reduceAdd, reduceCtorEq, reduceEqDiff, ↓reduceIte, reduceLT, reduceLeDiff, reduceSub, reducePow, reduceMul, reduceToNat, reduceLE, reduceEq, Int.reduceLT, Int.reduceBEq, Int.reduceBNe]) ?_; simp only [intP, AW, reduceAdd, reduceCtorEq, reduceEqDiff, ↓reduceIte, reduceLT, reduceLeDiff, reduceSub, reducePow, reduceMul, reduceToNat, reduceLE, reduceEq, Int.reduceLT, Int.reduceBEq, Int.reduceBNe]
  by_cases hz : checkR r ≠ 0
  · simp only [ne_bne hz, linesP, hz, intP, AW, reduceAdd, reduceCtorEq, reduceEqDiff, ↓reduceIte, reduceLT, reduceLeDiff, reduceSub, reducePow, reduceMul, reduceToNat, reduceLE, reduceEq, Int.reduceLT, Int.reduceBEq, Int.reduceBNe]
  have h0 : checkR r = 0 := Decidable.not_not.1 hz
  obtain ⟨R, C, h⟩ := ok_of h0
  have hfin : linesP r = .tup [.sl ((linesX r).map txP), intP 0] := by unfold linesP; rw [if_neg hz]
  obtain ⟨b, hN⟩ : ∃ b, noisyB r = b := ⟨_, rfl⟩
  have hN2 : decide ((0 : Int) < (r.noise.weights.length : Int)) = b := by
    rw [← hN]; unfold noisyB; rw [decide_eq_decide]; omega
  have gl := qline_g tTrips (headI r) (by decide) (by unfold headI; simp)
  rw [lineR_eq (head_val h)] at gl
  have r8 := h.r8
  obtain ⟨cs, hcs⟩ : ∃ c : List UInt8, c = [32] := ⟨_, rfl⟩
  have bcs : (⟨#[32]⟩ : ByteArray) = bA cs := by rw [hcs]; rfl
  have lcs : cs.length = 1 := by rw [hcs]; rfl
  obtain ⟨cx, hcx⟩ : ∃ c : List UInt8, c = [32, 120] := ⟨_, rfl⟩
  have bcx : (⟨#[32, 120]⟩ : ByteArray) = bA cx := by rw [hcx]; rfl
  have lcx : cx.length = 2 := by rw [hcx]; rfl
  simp only [eq_bne h0, List.length_map, hN2, h.rows, h.cols, AW, reduceAdd, reduceCtorEq, reduceEqDiff, ↓reduceIte, reduceLT, reduceLeDiff, reduceSub, reducePow, reduceMul, reduceToNat, reduceLE, reduceEq, Int.reduceLT, Int.reduceBEq, Int.reduceBNe]
  refine drawnK rfl ?_
  (try simp only [AW, reduceAdd, reduceCtorEq, reduceEqDiff, ↓reduceIte, reduceLT, reduceLeDiff, reduceSub, reducePow, reduceMul, reduceToNat, reduceLE, reduceEq, Int.reduceLT, Int.reduceBEq, Int.reduceBNe])
  refine ops_call (gl) (by simp only [txP, intsP, intP, headI, h.rows, h.cols, btTrips, List.map_cons, List.map_nil, AW, reduceAdd, reduceCtorEq, reduceEqDiff, ↓reduceIte, reduceLT, reduceLeDiff, reduceSub, reducePow, reduceMul, reduceToNat, reduceLE, reduceEq, Int.reduceLT, Int.reduceBEq, Int.reduceBNe]) ?_; simp only [txP, intsP, intP, headI, h.rows, h.cols, btTrips, List.map_cons, List.map_nil, AW, reduceAdd, reduceCtorEq, reduceEqDiff, ↓reduceIte, reduceLT, reduceLeDiff, reduceSub, reducePow, reduceMul, reduceToNat, reduceLE, reduceEq, Int.reduceLT, Int.reduceBEq, Int.reduceBNe]
  refine run_loop (ι := Nat) (fun i => ⟨[(1, .ptr 0 0), (5, .ptr 15 0), (6, .sc (.bool b)), (7, .own 32 0), (8, .sc (.int .i64 (i : Int)))], [(0, .var [.sc (.int .i64 r.when_.from_), .sc (.int .i64 r.when_.to_), .sc (.int .i64 r.each), .sc (.int .i64 (R : Int)), .sc (.int .i64 (C : Int)), .sl (r.table.cells.map intP), .sl (r.hidden.map boolP), .sl (r.rowSums.map intP), .sl (r.colSums.map intP), .sl (r.noise.weights.map intP)]), (15, .var [.sc (.int .i64 (R : Int)), .sc (.int .i64 (C : Int)), .sl (r.table.cells.map intP)]), (30, .row 3 1 0 [.sc (.int .i64 r.when_.from_), .sc (.int .i64 r.when_.to_), .sc (.int .i64 r.each), .sc (.int .i64 (R : Int)), .sc (.int .i64 (C : Int))]), (32, .row 9 1 0 (outP r i))], 35, 106⟩) (fun i => i ≤ R) (fun i => R - i) 35 (fun _ => rfl) 0 (by simp only [LW, Nat.reduceMod, Nat.reduceDiv, Int.natCast_zero, outP_zero h, txP, AW, reduceAdd, reduceCtorEq, reduceEqDiff, ↓reduceIte, reduceLT, reduceLeDiff, reduceSub, reducePow, reduceMul, reduceToNat, reduceLE, reduceEq, Int.reduceLT, Int.reduceBEq, Int.reduceBNe]) (Nat.zero_le _) (fun i hi => ?_)
  have gi := hi
  by_cases hlti : i < R
  rotate_left
  · have di : decide ((i : Int) < ((R : Nat) : Int)) = false := by rw [decide_eq_false_iff_not]; exact fun h => hlti (Int.ofNat_lt.1 h)
    have ei : i = R := Nat.le_antisymm gi (Nat.le_of_not_lt hlti)
    rw [ei]
    have e26 : (outP r R).length ≤ 9 := by rw [outP_len]; have := h.r8; omega
    have b2 : (outP r R).length + 1 ≤ maxLen := by unfold maxLen; omega
    have b3 : ((outP r R).length + 1) * 16 ≤ 140737488355328 := by omega
    have es : (linesX r).map txP = (outP r R) ++ [txP (lastT r)] := by
      unfold linesX; rw [h.rowN, List.map_append]; rfl
    generalize (outP r R) = out at *
    have di2 : decide ((R : Int) < (R : Int)) = false := by rw [decide_eq_false_iff_not]; omega
    simp only [di2, AW, reduceAdd, reduceCtorEq, reduceEqDiff, ↓reduceIte, reduceLT, reduceLeDiff, reduceSub, reducePow, reduceMul, reduceToNat, reduceLE, reduceEq, Int.reduceLT, Int.reduceBEq, Int.reduceBNe]
    cases hb2 : b
    · have hpl := h.pla (by rw [hN, hb2])
      have g2 := qline_g tSums r.colSums (by decide) (by have := h.c8; omega)
      rw [lineR_eq (fun x hx => by have := hpl.2.2.2.2.1 x hx; exact valB_small (by omega) (by omega))] at g2
      have hl : lastT r = lineT tSums r.colSums := by unfold lastT; rw [hN, hb2]; rfl
      simp only [AW, reduceAdd, reduceCtorEq, reduceEqDiff, ↓reduceIte, reduceLT, reduceLeDiff, reduceSub, reducePow, reduceMul, reduceToNat, reduceLE, reduceEq, Int.reduceLT, Int.reduceBEq, Int.reduceBNe]
      refine ops_call (g2) (by simp only [txP, intsP, btSums, AW, reduceAdd, reduceCtorEq, reduceEqDiff, ↓reduceIte, reduceLT, reduceLeDiff, reduceSub, reducePow, reduceMul, reduceToNat, reduceLE, reduceEq, Int.reduceLT, Int.reduceBEq, Int.reduceBNe]) ?_; simp only [txP, intsP, btSums, AW, reduceAdd, reduceCtorEq, reduceEqDiff, ↓reduceIte, reduceLT, reduceLeDiff, reduceSub, reducePow, reduceMul, reduceToNat, reduceLE, reduceEq, Int.reduceLT, Int.reduceBEq, Int.reduceBNe]
      simp only [b2, b3, AW, reduceAdd, reduceCtorEq, reduceEqDiff, ↓reduceIte, reduceLT, reduceLeDiff, reduceSub, reducePow, reduceMul, reduceToNat, reduceLE, reduceEq, Int.reduceLT, Int.reduceBEq, Int.reduceBNe]
      rw [hfin, es, hl, txP, intP]
    · have hno := h.noi (by rw [hN, hb2])
      have g2 := qline_g tNoise r.noise.weights (by decide) (by omega)
      rw [lineR_eq (fun x hx => by have := hno.2.1 x hx; exact valB_small (by omega) (by omega))] at g2
      have hl : lastT r = lineT tNoise r.noise.weights := by unfold lastT; rw [hN, hb2]; rfl
      simp only [AW, reduceAdd, reduceCtorEq, reduceEqDiff, ↓reduceIte, reduceLT, reduceLeDiff, reduceSub, reducePow, reduceMul, reduceToNat, reduceLE, reduceEq, Int.reduceLT, Int.reduceBEq, Int.reduceBNe]
      refine ops_call (g2) (by simp only [txP, intsP, btNoise, AW, reduceAdd, reduceCtorEq, reduceEqDiff, ↓reduceIte, reduceLT, reduceLeDiff, reduceSub, reducePow, reduceMul, reduceToNat, reduceLE, reduceEq, Int.reduceLT, Int.reduceBEq, Int.reduceBNe]) ?_; simp only [txP, intsP, btNoise, AW, reduceAdd, reduceCtorEq, reduceEqDiff, ↓reduceIte, reduceLT, reduceLeDiff, reduceSub, reducePow, reduceMul, reduceToNat, reduceLE, reduceEq, Int.reduceLT, Int.reduceBEq, Int.reduceBNe]
      simp only [b2, b3, AW, reduceAdd, reduceCtorEq, reduceEqDiff, ↓reduceIte, reduceLT, reduceLeDiff, reduceSub, reducePow, reduceMul, reduceToNat, reduceLE, reduceEq, Int.reduceLT, Int.reduceBEq, Int.reduceBNe]
      rw [hfin, es, hl, txP, intP]
  have ib : i ≤ 9 := by omega
  have di : decide ((i : Int) < ((R : Nat) : Int)) = true := by rw [decide_eq_true_eq]; exact Int.ofNat_lt.2 hlti
  simp only [di, btRow, mulN ib h.c8, AW, reduceAdd, reduceCtorEq, reduceEqDiff, ↓reduceIte, reduceLT, reduceLeDiff, reduceSub, reducePow, reduceMul, reduceToNat, reduceLE, reduceEq, Int.reduceLT, Int.reduceBEq, Int.reduceBNe]
  refine run_loop (ι := Nat) (fun j => ⟨[(1, .ptr 0 0), (5, .ptr 15 0), (6, .sc (.bool b)), (7, .own 32 0), (8, .sc (.int .i64 (i : Int))), (9, .sc (.string (bA (wordsL tRow (rowWs r i j))))), (10, .sc (.int .i64 ((i * C + j : Nat) : Int)))], [(0, .var [.sc (.int .i64 r.when_.from_), .sc (.int .i64 r.when_.to_), .sc (.int .i64 r.each), .sc (.int .i64 (R : Int)), .sc (.int .i64 (C : Int)), .sl (r.table.cells.map intP), .sl (r.hidden.map boolP), .sl (r.rowSums.map intP), .sl (r.colSums.map intP), .sl (r.noise.weights.map intP)]), (15, .var [.sc (.int .i64 (R : Int)), .sc (.int .i64 (C : Int)), .sl (r.table.cells.map intP)]), (30, .row 3 1 0 [.sc (.int .i64 r.when_.from_), .sc (.int .i64 r.when_.to_), .sc (.int .i64 r.each), .sc (.int .i64 (R : Int)), .sc (.int .i64 (C : Int))]), (32, .row 9 1 0 (outP r i))], 45, 106⟩) (fun j => j ≤ C) (fun j => C - j) 45 (fun _ => rfl) 0 (by simp only [LW, Nat.reduceMod, Nat.reduceDiv, Int.natCast_zero, words_zero, mulN ib h.c8, Nat.add_zero, AW, reduceAdd, reduceCtorEq, reduceEqDiff, ↓reduceIte, reduceLT, reduceLeDiff, reduceSub, reducePow, reduceMul, reduceToNat, reduceLE, reduceEq, Int.reduceLT, Int.reduceBEq, Int.reduceBNe]) (Nat.zero_le _) (fun j hj => ?_)
  have gj := hj
  by_cases hltj : j < C
  rotate_left
  · have dj : decide ((j : Int) < ((C : Nat) : Int)) = false := by rw [decide_eq_false_iff_not]; exact fun h => hltj (Int.ofNat_lt.1 h)
    have ej : j = C := Nat.le_antisymm gj (Nat.le_of_not_lt hltj)
    rw [ej]
    have dj2 : decide (((i * C + C : Nat) : Int) < (((i + 1) * C : Nat) : Int)) = false := by
      rw [decide_eq_false_iff_not, Nat.add_mul, Nat.one_mul]; omega
    simp only [dj2, add1N (show i ≤ 1000000 by omega), mulN (show i + 1 ≤ 9 by omega) h.c8, AW, reduceAdd, reduceCtorEq, reduceEqDiff, ↓reduceIte, reduceLT, reduceLeDiff, reduceSub, reducePow, reduceMul, reduceToNat, reduceLE, reduceEq, Int.reduceLT, Int.reduceBEq, Int.reduceBNe]
    have hA := rowWs_A h hlti (Nat.le_refl C)
    have e26 : (outP r i).length ≤ 9 := by rw [outP_len]; omega
    have b2 : (outP r i).length + 1 ≤ maxLen := by unfold maxLen; omega
    have b3 : ((outP r i).length + 1) * 16 ≤ 140737488355328 := by omega
    have es := outP_succ r i
    generalize (outP r i) = out at *
    cases hb2 : b
    · have e4 : rowE r i = [dec (r.rowSums.getD i 0)] := by unfold rowE; rw [hN, hb2]; rfl
      have hpl := h.pla (by rw [hN, hb2])
      have hi2 : i < r.rowSums.length := by have := hpl.2.1; omega
      rw [getD_get hi2] at e4
      have hsm := hpl.2.2.2.1 _ (List.getElem_mem hi2)
      have gs := decimal_g r.rowSums[i]
      rw [dec_val (valB_small (by omega) (by omega))] at gs
      have hd := dec_len (n := r.rowSums[i]) ⟨by omega, by omega⟩
      have er : rwL r i = wordsL tRow (rowWs r i C) ++ (cs ++ dec r.rowSums[i]) := by
        unfold rwL; rw [h.colN, e4, wordsL_snoc, hcs]; rfl
      generalize wordsL tRow (rowWs r i C) = A at *
      have s1 : ((A.length + cs.length : Nat) : Int) ≤ 9223372036854775807 := by omega
      have s2 : ((A.length + cs.length + (dec r.rowSums[i]).length : Nat) : Int) ≤ 9223372036854775807 := by omega
      rw [← List.append_assoc] at er
      simp only [bcs, bA_size, s1, bA_append, map_getD hi2, hi2, intP, List.length_map, AW, reduceAdd, reduceCtorEq, reduceEqDiff, ↓reduceIte, reduceLT, reduceLeDiff, reduceSub, reducePow, reduceMul, reduceToNat, reduceLE, reduceEq, Int.reduceLT, Int.reduceBEq, Int.reduceBNe]
      refine ops_call (gs) (by simp only [intP, txP, AW, reduceAdd, reduceCtorEq, reduceEqDiff, ↓reduceIte, reduceLT, reduceLeDiff, reduceSub, reducePow, reduceMul, reduceToNat, reduceLE, reduceEq, Int.reduceLT, Int.reduceBEq, Int.reduceBNe]) ?_; simp only [intP, txP, AW, reduceAdd, reduceCtorEq, reduceEqDiff, ↓reduceIte, reduceLT, reduceLeDiff, reduceSub, reducePow, reduceMul, reduceToNat, reduceLE, reduceEq, Int.reduceLT, Int.reduceBEq, Int.reduceBNe]
      simp only [bA_size, List.length_append, s2, bA_append, AW, reduceAdd, reduceCtorEq, reduceEqDiff, ↓reduceIte, reduceLT, reduceLeDiff, reduceSub, reducePow, reduceMul, reduceToNat, reduceLE, reduceEq, Int.reduceLT, Int.reduceBEq, Int.reduceBNe]
      (first | (refine drawnK rfl ?_; (try simp only [AW, reduceAdd, reduceCtorEq, reduceEqDiff, ↓reduceIte, reduceLT, reduceLeDiff, reduceSub, reducePow, reduceMul, reduceToNat, reduceLE, reduceEq, Int.reduceLT, Int.reduceBEq, Int.reduceBNe])) | skip)
      (try simp only [b2, b3, add1N (show i ≤ 1000000 by omega), AW, reduceAdd, reduceCtorEq, reduceEqDiff, ↓reduceIte, reduceLT, reduceLeDiff, reduceSub, reducePow, reduceMul, reduceToNat, reduceLE, reduceEq, Int.reduceLT, Int.reduceBEq, Int.reduceBNe])
      refine ⟨i + 1, hlti, ?_, meas_lt hlti⟩
      simp only [LW, Nat.reduceMod, Nat.reduceDiv, es, txP, er, AW, reduceAdd, reduceCtorEq, reduceEqDiff, ↓reduceIte, reduceLT, reduceLeDiff, reduceSub, reducePow, reduceMul, reduceToNat, reduceLE, reduceEq, Int.reduceLT, Int.reduceBEq, Int.reduceBNe]
    · have e4 : rowE r i = [] := by unfold rowE; rw [hN, hb2]; rfl
      have er : rwL r i = wordsL tRow (rowWs r i C) := by unfold rwL; rw [h.colN, e4, List.append_nil]
      simp only [b2, b3, add1N (show i ≤ 1000000 by omega), AW, reduceAdd, reduceCtorEq, reduceEqDiff, ↓reduceIte, reduceLT, reduceLeDiff, reduceSub, reducePow, reduceMul, reduceToNat, reduceLE, reduceEq, Int.reduceLT, Int.reduceBEq, Int.reduceBNe]
      refine ⟨i + 1, hlti, ?_, meas_lt hlti⟩
      simp only [LW, Nat.reduceMod, Nat.reduceDiv, es, txP, er, AW, reduceAdd, reduceCtorEq, reduceEqDiff, ↓reduceIte, reduceLT, reduceLeDiff, reduceSub, reducePow, reduceMul, reduceToNat, reduceLE, reduceEq, Int.reduceLT, Int.reduceBEq, Int.reduceBNe]
  have hk := cell_lt hlti hltj
  have dj2 : decide (((i * C + j : Nat) : Int) < (((i + 1) * C : Nat) : Int)) = true := by
    rw [decide_eq_true_eq, Nat.add_mul, Nat.one_mul]; omega
  have hkc : i * C + j < r.table.cells.length := by rw [h.cells]; exact hk
  have hsmall : i * C + j ≤ 1000 := by have := Nat.mul_le_mul h.r8 h.c8; omega
  have es := words_succ h i j
  have hA := rowWs_A h hlti (Nat.le_of_lt hltj)
  have hce := h.cell _ (List.getElem_mem hkc)
  have gi := decimal_g r.table.cells[i * C + j]
  rw [dec_val (valB_small (by omega) (by omega))] at gi
  have hd := dec_len (n := r.table.cells[i * C + j]) ⟨by omega, by omega⟩
  generalize wordsL tRow (rowWs r i j) = A at *
  have s1 : ((A.length + cs.length : Nat) : Int) ≤ 9223372036854775807 := by omega
  have s2 : ((A.length + cs.length + (dec r.table.cells[i * C + j]).length : Nat) : Int) ≤ 9223372036854775807 := by omega
  have s3 : ((A.length + cx.length : Nat) : Int) ≤ 9223372036854775807 := by omega
  generalize (outP r i) = out at *
  simp only [dj2, add1N (show i ≤ 1000000 by omega), mulN (show i + 1 ≤ 9 by omega) h.c8, AW, reduceAdd, reduceCtorEq, reduceEqDiff, ↓reduceIte, reduceLT, reduceLeDiff, reduceSub, reducePow, reduceMul, reduceToNat, reduceLE, reduceEq, Int.reduceLT, Int.reduceBEq, Int.reduceBNe]
  cases hb2 : b
  · have hpl := h.pla (by rw [hN, hb2])
    have hkh : i * C + j < r.hidden.length := by rw [hpl.1]; exact hk
    simp only [map_getD hkh, hkh, boolP, List.length_map, AW, reduceAdd, reduceCtorEq, reduceEqDiff, ↓reduceIte, reduceLT, reduceLeDiff, reduceSub, reducePow, reduceMul, reduceToNat, reduceLE, reduceEq, Int.reduceLT, Int.reduceBEq, Int.reduceBNe]
    cases hh : r.hidden[i * C + j]
    · have ew : cellW r (i * C + j) = dec r.table.cells[i * C + j] := by
        unfold cellW; rw [hN, hb2, getD_get hkh, hh, getD_get hkc]; rfl
      have es2 : wordsL tRow (rowWs r i (j + 1)) = A ++ cs ++ dec r.table.cells[i * C + j] := by rw [es, ew, hcs, List.append_assoc]; rfl
      simp only [bcs, bA_size, s1, bA_append, map_getD hkc, hkc, intP, List.length_map, AW, reduceAdd, reduceCtorEq, reduceEqDiff, ↓reduceIte, reduceLT, reduceLeDiff, reduceSub, reducePow, reduceMul, reduceToNat, reduceLE, reduceEq, Int.reduceLT, Int.reduceBEq, Int.reduceBNe]
      refine ops_call (gi) (by simp only [intP, txP, AW, reduceAdd, reduceCtorEq, reduceEqDiff, ↓reduceIte, reduceLT, reduceLeDiff, reduceSub, reducePow, reduceMul, reduceToNat, reduceLE, reduceEq, Int.reduceLT, Int.reduceBEq, Int.reduceBNe]) ?_; simp only [intP, txP, AW, reduceAdd, reduceCtorEq, reduceEqDiff, ↓reduceIte, reduceLT, reduceLeDiff, reduceSub, reducePow, reduceMul, reduceToNat, reduceLE, reduceEq, Int.reduceLT, Int.reduceBEq, Int.reduceBNe]
      simp only [bA_size, List.length_append, s2, bA_append, AW, reduceAdd, reduceCtorEq, reduceEqDiff, ↓reduceIte, reduceLT, reduceLeDiff, reduceSub, reducePow, reduceMul, reduceToNat, reduceLE, reduceEq, Int.reduceLT, Int.reduceBEq, Int.reduceBNe]
      (first | (refine drawnK rfl ?_; (try simp only [AW, reduceAdd, reduceCtorEq, reduceEqDiff, ↓reduceIte, reduceLT, reduceLeDiff, reduceSub, reducePow, reduceMul, reduceToNat, reduceLE, reduceEq, Int.reduceLT, Int.reduceBEq, Int.reduceBNe])) | skip)
      (try simp only [add1N (show i * C + j ≤ 1000000 by omega), AW, reduceAdd, reduceCtorEq, reduceEqDiff, ↓reduceIte, reduceLT, reduceLeDiff, reduceSub, reducePow, reduceMul, reduceToNat, reduceLE, reduceEq, Int.reduceLT, Int.reduceBEq, Int.reduceBNe])
      refine ⟨j + 1, hltj, ?_, meas_lt hltj⟩
      simp only [LW, Nat.reduceMod, Nat.reduceDiv, es2, Nat.add_assoc, AW, reduceAdd, reduceCtorEq, reduceEqDiff, ↓reduceIte, reduceLT, reduceLeDiff, reduceSub, reducePow, reduceMul, reduceToNat, reduceLE, reduceEq, Int.reduceLT, Int.reduceBEq, Int.reduceBNe]
    · have ew : cellW r (i * C + j) = tX := by
        unfold cellW; rw [hN, hb2, getD_get hkh, hh]; rfl
      have es2 : wordsL tRow (rowWs r i (j + 1)) = A ++ cx := by rw [es, ew, hcx]; rfl
      simp only [bcx, bA_size, s3, bA_append, AW, reduceAdd, reduceCtorEq, reduceEqDiff, ↓reduceIte, reduceLT, reduceLeDiff, reduceSub, reducePow, reduceMul, reduceToNat, reduceLE, reduceEq, Int.reduceLT, Int.reduceBEq, Int.reduceBNe]
      (try simp only [add1N (show i * C + j ≤ 1000000 by omega), AW, reduceAdd, reduceCtorEq, reduceEqDiff, ↓reduceIte, reduceLT, reduceLeDiff, reduceSub, reducePow, reduceMul, reduceToNat, reduceLE, reduceEq, Int.reduceLT, Int.reduceBEq, Int.reduceBNe])
      refine ⟨j + 1, hltj, ?_, meas_lt hltj⟩
      simp only [LW, Nat.reduceMod, Nat.reduceDiv, es2, Nat.add_assoc, AW, reduceAdd, reduceCtorEq, reduceEqDiff, ↓reduceIte, reduceLT, reduceLeDiff, reduceSub, reducePow, reduceMul, reduceToNat, reduceLE, reduceEq, Int.reduceLT, Int.reduceBEq, Int.reduceBNe]
  · have ew : cellW r (i * C + j) = dec r.table.cells[i * C + j] := by
      unfold cellW; rw [hN, hb2, getD_get hkc]; rfl
    have es2 : wordsL tRow (rowWs r i (j + 1)) = A ++ cs ++ dec r.table.cells[i * C + j] := by rw [es, ew, hcs, List.append_assoc]; rfl
    simp only [bcs, bA_size, s1, bA_append, map_getD hkc, hkc, intP, List.length_map, AW, reduceAdd, reduceCtorEq, reduceEqDiff, ↓reduceIte, reduceLT, reduceLeDiff, reduceSub, reducePow, reduceMul, reduceToNat, reduceLE, reduceEq, Int.reduceLT, Int.reduceBEq, Int.reduceBNe]
    refine ops_call (gi) (by simp only [intP, txP, AW, reduceAdd, reduceCtorEq, reduceEqDiff, ↓reduceIte, reduceLT, reduceLeDiff, reduceSub, reducePow, reduceMul, reduceToNat, reduceLE, reduceEq, Int.reduceLT, Int.reduceBEq, Int.reduceBNe]) ?_; simp only [intP, txP, AW, reduceAdd, reduceCtorEq, reduceEqDiff, ↓reduceIte, reduceLT, reduceLeDiff, reduceSub, reducePow, reduceMul, reduceToNat, reduceLE, reduceEq, Int.reduceLT, Int.reduceBEq, Int.reduceBNe]
    simp only [bA_size, List.length_append, s2, bA_append, AW, reduceAdd, reduceCtorEq, reduceEqDiff, ↓reduceIte, reduceLT, reduceLeDiff, reduceSub, reducePow, reduceMul, reduceToNat, reduceLE, reduceEq, Int.reduceLT, Int.reduceBEq, Int.reduceBNe]
    (first | (refine drawnK rfl ?_; (try simp only [AW, reduceAdd, reduceCtorEq, reduceEqDiff, ↓reduceIte, reduceLT, reduceLeDiff, reduceSub, reducePow, reduceMul, reduceToNat, reduceLE, reduceEq, Int.reduceLT, Int.reduceBEq, Int.reduceBNe])) | skip)
    (try simp only [add1N (show i * C + j ≤ 1000000 by omega), AW, reduceAdd, reduceCtorEq, reduceEqDiff, ↓reduceIte, reduceLT, reduceLeDiff, reduceSub, reducePow, reduceMul, reduceToNat, reduceLE, reduceEq, Int.reduceLT, Int.reduceBEq, Int.reduceBNe])
    refine ⟨j + 1, hltj, ?_, meas_lt hltj⟩
    simp only [LW, Nat.reduceMod, Nat.reduceDiv, es2, Nat.add_assoc, AW, reduceAdd, reduceCtorEq, reduceEqDiff, ↓reduceIte, reduceLT, reduceLeDiff, reduceSub, reducePow, reduceMul, reduceToNat, reduceLE, reduceEq, Int.reduceLT, Int.reduceBEq, Int.reduceBNe]


end Go.Proofs.YtjnfldkcbcfboaaGreatDoor
