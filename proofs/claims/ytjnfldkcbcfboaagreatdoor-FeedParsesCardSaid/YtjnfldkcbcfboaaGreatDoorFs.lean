/-
  The reference's Parse; the law of parsing.
-/
import Derived.Test.YtjnfldkcbcfboaaGreatDoorFr
namespace Go.Proofs.YtjnfldkcbcfboaaGreatDoor
open Go.RowKit
open Nat (reduceAdd reduceEqDiff reduceLT reduceLeDiff reduceSub reducePow reduceMul)
open Int (reduceToNat reduceLE reduceEq)
set_option linter.unusedVariables false
set_option linter.unusedSimpArgs false
set_option linter.unnecessarySimpa false

theorem pD_dec {n : Int} (h : valB n = true) : pD (dec n) = n := by
  unfold pD; rw [parN_iff.2 ⟨h, fmt0 n⟩]; rfl
theorem pD_x : pD tX = 0 := by decide +kernel
theorem pDs_dec {l : List Int} (h : ∀ x ∈ l, valB x = true) : (l.map dec).map pD = l := by
  rw [List.map_map]
  conv => rhs; rw [← List.map_id l]
  exact List.map_congr_left (fun x hx => pD_dec (h x hx))
theorem nums_rowW (s : List UInt8) : numsL (splitW s) = (rowW s).map pD := rfl
section
variable {r : RelS} {R C : Nat} (h : OkR r R C)
include h
theorem pD_cell {k : Nat} (hk : k < R * C) : pD (cellW r k) = r.table.cells.getD k 0 := by
  have hc := h.cell _ (mem_getD (l := r.table.cells) (k := k) (by rw [h.cells]; exact hk))
  have hv := valB_small (n := r.table.cells.getD k 0) (by omega) (by omega)
  unfold cellW
  split
  · rename_i hh
    cases hN : noisyB r
    · rw [hN] at hh
      have hp := h.pla hN
      rw [pD_x, hp.2.2.2.2.2.1 k hk (by simpa using hh)]
    · rw [hN] at hh; simp at hh
  · exact pD_dec hv
theorem g_row (i : Nat) : gN (noisyB r) (rwL r i) = (rowWs r i C).map pD := by
  unfold gN
  rw [nums_rowW, (rw_words h i).2]
  unfold rowE
  cases hN : noisyB r
  · rw [if_neg (by decide), if_neg (by decide), List.map_append, List.map_cons, List.map_nil, List.dropLast_concat]
  · rw [if_pos rfl, if_pos rfl, List.append_nil]
theorem g_cells : (rowsT r R).flatMap (gN (noisyB r)) = r.table.cells := by
  unfold rowsT
  rw [List.flatMap_map]
  conv => rhs; rw [← chunk (0 : Int) h.cells]
  refine flatMap_congr' fun i hi => ?_
  rw [g_row h]
  unfold rowWs
  rw [List.map_map]
  refine List.map_congr_left fun j hj => ?_
  show pD (cellW r _) = _
  rw [h.colN, pD_cell h (cell_lt (List.mem_range.1 hi) (List.mem_range.1 hj))]
theorem g_hids : (rowsT r R).flatMap (gH (noisyB r)) = r.hidden := by
  cases hN : noisyB r
  · have hp := h.pla hN
    unfold rowsT
    rw [List.flatMap_map]
    conv => rhs; rw [← chunk false hp.1]
    refine flatMap_congr' fun i hi => ?_
    have e : gH false (rwL r i) = ((rowW (rwL r i)).dropLast).map fun w => decide (w = tX) := rfl
    rw [e, (rw_words h i).2]
    unfold rowE
    rw [hN, if_neg (by decide), List.dropLast_concat]
    unfold rowWs
    rw [List.map_map]
    refine List.map_congr_left fun j hj => ?_
    show decide (cellW r _ = tX) = _
    rw [h.colN, (cell_back h (cell_lt (List.mem_range.1 hi) (List.mem_range.1 hj))).2 hN]
  · rw [(h.noi hN).2.2.1]
    exact List.flatMap_eq_nil_iff.2 (fun s _ => rfl)
theorem g_sums : (rowsT r R).flatMap (gS (noisyB r)) = r.rowSums := by
  cases hN : noisyB r
  · have hp := h.pla hN
    unfold rowsT
    rw [List.flatMap_map]
    conv => rhs; rw [← chunk (0 : Int) (C := 1) (R := R) (l := r.rowSums) (by rw [hp.2.1, Nat.mul_one])]
    refine flatMap_congr' fun i hi => ?_
    have hi := List.mem_range.1 hi
    have hm := hp.2.2.2.1 _ (mem_getD (l := r.rowSums) (k := i) (by rw [hp.2.1]; exact hi))
    have e : gS false (rwL r i) = ((rowW (rwL r i)).map pD).getLast?.toList := rfl
    rw [e, (rw_words h i).2]
    unfold rowE
    rw [hN, if_neg (by decide), List.map_append, List.map_cons, List.map_nil, List.getLast?_concat, pD_dec (valB_small (by omega) (by omega))]
    simp
  · rw [(h.noi hN).2.2.2.1]
    exact List.flatMap_eq_nil_iff.2 (fun s _ => rfl)
theorem guess_lines : guessR (linesX r) = r := by
  have hm := lx_mid h
  have e5 : gHd (linesX r) = headI r := by
    unfold gHd
    rw [lx_zero r, nums_rowW, (split_line blanks.1 (headI r)).2, pDs_dec (head_val h)]
  have hv := last_val h
  have el : gLs (linesX r) = if noisyB r = true then r.noise.weights else r.colSums := by
    unfold gLs
    rw [lx_last h, nums_rowW]
    unfold lastT
    cases hN : noisyB r
    · rw [hN] at hv
      rw [if_neg (by decide), if_neg (by decide), (split_line blanks.2.2.2.1 r.colSums).2, pDs_dec (l := r.colSums) (fun x hx => hv x (by rw [if_neg (by decide)]; exact hx))]
    · rw [hN] at hv
      rw [if_pos rfl, if_pos rfl, (split_line blanks.2.2.1 r.noise.weights).2, pDs_dec (l := r.noise.weights) (fun x hx => hv x (by rw [if_pos rfl]; exact hx))]
  have eb : gB (linesX r) = noisyB r := by
    unfold gB
    rw [lx_last h]
    unfold lastT
    cases hN : noisyB r
    · rw [if_neg (by decide)]
      have := of_decide_eq_true (split_line blanks.2.2.2.1 r.colSums).1
      rw [this]; decide
    · rw [if_pos rfl]
      exact (split_line blanks.2.2.1 r.noise.weights).1
  unfold guessR
  rw [if_pos (by rw [e5]; rfl), e5, el, eb, hm, g_cells h, g_hids h, g_sums h]
  obtain ⟨⟨w1, w2⟩, e, ⟨t1, t2, t3⟩, hd, rs, cs, ⟨ws⟩⟩ := r
  cases hN : noisyB ⟨⟨w1, w2⟩, e, ⟨t1, t2, t3⟩, hd, rs, cs, ⟨ws⟩⟩
  · have := (h.pla hN).2.2.2.2.2.2
    simp only at this
    subst this
    rfl
  · have := (h.noi hN).2.2.2.2
    simp only at this
    subst this
    rfl
end
theorem parse_yes {l : List (List UInt8)} (h0 : checkR (guessR l) = 0) (hl : linesX (guessR l) = l) : parseP l = .tup [(guessR l).pv, intP 0] := by
  have := parse_lines h0
  rw [hl] at this
  exact this
theorem parse_no {l : List (List UInt8)} (h : l.length < 2 ∨ checkR (guessR l) ≠ 0 ∨ linesX (guessR l) ≠ l) : parseP l = .tup [relZ.pv, intP 3] := by
  have hb : parseB l = false := by
    cases hb : parseB l
    · rfl
    · unfold parseB at hb
      simp only [Bool.and_eq_true, decide_eq_true_eq] at hb
      obtain ⟨⟨h1, h2⟩, h3⟩ := hb
      obtain ⟨R, C, hok⟩ := ok_of h2
      have hg := guess_lines hok
      rw [h3] at hg
      rcases h with h | h | h
      · have : (linesX (readR l)).length = R + 2 := lx_len hok
        rw [h3] at this; omega
      · rw [hg] at h; exact absurd h2 h
      · rw [hg] at h; exact absurd h3 h
  unfold parseP; rw [hb]; rfl
theorem dlt_irr2 (n : Nat) : decide ((n : Int) < (n : Int)) = false := by simp
set_option maxHeartbeats 8000000 in
theorem qparse_g (l : List (List UInt8)) (hl : l.length ≤ 1000) (hs : ∀ s ∈ l, s.length ≤ 10000) : Good Tryz.prog 7 [.sl (l.map txP)] (parseP l) := by
  have hmx : l.length ≤ maxLen := by unfold maxLen; omega
  refine good7 (by simp) ?_
  by_cases h2 : l.length < 2
  · have d : decide ((l.length : Int) < 2) = true := by rw [decide_eq_true_eq]; omega
    rw [parse_no (Or.inl h2)]
    simp only [ac7, d, List.length_map, AW, reduceAdd, reduceCtorEq, reduceEqDiff, ↓reduceIte, reduceLT, reduceLeDiff, reduceSub, reducePow, reduceMul, reduceToNat, reduceLE, reduceEq, Int.reduceLT, Int.reduceBEq, Int.reduceBNe]
    (try simp only [relZ, RelS.pv, intP, List.map_nil, AW, reduceAdd, reduceCtorEq, reduceEqDiff, ↓reduceIte, reduceLT, reduceLeDiff, reduceSub, reducePow, reduceMul, reduceToNat, reduceLE, reduceEq, Int.reduceLT, Int.reduceBEq, Int.reduceBNe])
  have d : decide ((l.length : Int) < 2) = false := by rw [decide_eq_false_iff_not]; omega
  have gg := guess_g l (by omega) hl hs
  have gq := qlines_g (guessR l)
  have yes0 := @parse_yes l
  have no1 : checkR (guessR l) ≠ 0 → _ := fun h => @parse_no l (Or.inr (Or.inl h))
  have no2 : linesX (guessR l) ≠ l → _ := fun h => @parse_no l (Or.inr (Or.inr h))
  generalize guessR l = r at *
  simp only [ac7, d, List.length_map, AW, reduceAdd, reduceCtorEq, reduceEqDiff, ↓reduceIte, reduceLT, reduceLeDiff, reduceSub, reducePow, reduceMul, reduceToNat, reduceLE, reduceEq, Int.reduceLT, Int.reduceBEq, Int.reduceBNe]
  refine ops_call (gg) (by simp only [RelS.pv, AW, reduceAdd, reduceCtorEq, reduceEqDiff, ↓reduceIte, reduceLT, reduceLeDiff, reduceSub, reducePow, reduceMul, reduceToNat, reduceLE, reduceEq, Int.reduceLT, Int.reduceBEq, Int.reduceBNe]) ?_; simp only [RelS.pv, AW, reduceAdd, reduceCtorEq, reduceEqDiff, ↓reduceIte, reduceLT, reduceLeDiff, reduceSub, reducePow, reduceMul, reduceToNat, reduceLE, reduceEq, Int.reduceLT, Int.reduceBEq, Int.reduceBNe]
  (first | (refine drawnK rfl ?_; (try simp only [AW, reduceAdd, reduceCtorEq, reduceEqDiff, ↓reduceIte, reduceLT, reduceLeDiff, reduceSub, reducePow, reduceMul, reduceToNat, reduceLE, reduceEq, Int.reduceLT, Int.reduceBEq, Int.reduceBNe])) | skip)
  unfold linesP at gq
  by_cases hz : checkR r ≠ 0
  · rw [if_pos hz] at gq
    rw [no1 hz]
    refine ops_call (gq) (by simp only [RelS.pv, intP, AW, reduceAdd, reduceCtorEq, reduceEqDiff, ↓reduceIte, reduceLT, reduceLeDiff, reduceSub, reducePow, reduceMul, reduceToNat, reduceLE, reduceEq, Int.reduceLT, Int.reduceBEq, Int.reduceBNe]) ?_; simp only [RelS.pv, intP, AW, reduceAdd, reduceCtorEq, reduceEqDiff, ↓reduceIte, reduceLT, reduceLeDiff, reduceSub, reducePow, reduceMul, reduceToNat, reduceLE, reduceEq, Int.reduceLT, Int.reduceBEq, Int.reduceBNe]
    have hz2 : (checkR r != 0) = true := by rw [bne_iff_ne]; exact hz
    simp only [hz2, AW, reduceAdd, reduceCtorEq, reduceEqDiff, ↓reduceIte, reduceLT, reduceLeDiff, reduceSub, reducePow, reduceMul, reduceToNat, reduceLE, reduceEq, Int.reduceLT, Int.reduceBEq, Int.reduceBNe]
    (try simp only [relZ, RelS.pv, intP, List.map_nil, AW, reduceAdd, reduceCtorEq, reduceEqDiff, ↓reduceIte, reduceLT, reduceLeDiff, reduceSub, reducePow, reduceMul, reduceToNat, reduceLE, reduceEq, Int.reduceLT, Int.reduceBEq, Int.reduceBNe])
  rw [if_neg hz] at gq
  have h0 : checkR r = 0 := Decidable.not_not.1 hz
  have yes := yes0 h0
  have no := no2
  clear yes0 no1 no2
  refine ops_call (gq) (by simp only [RelS.pv, intP, AW, reduceAdd, reduceCtorEq, reduceEqDiff, ↓reduceIte, reduceLT, reduceLeDiff, reduceSub, reducePow, reduceMul, reduceToNat, reduceLE, reduceEq, Int.reduceLT, Int.reduceBEq, Int.reduceBNe]) ?_; simp only [RelS.pv, intP, AW, reduceAdd, reduceCtorEq, reduceEqDiff, ↓reduceIte, reduceLT, reduceLeDiff, reduceSub, reducePow, reduceMul, reduceToNat, reduceLE, reduceEq, Int.reduceLT, Int.reduceBEq, Int.reduceBNe]
  generalize linesX r = m at *
  by_cases hml : m.length = l.length
  rotate_left
  · have dm : ((m.length : Int) != (l.length : Int)) = true := by rw [bne_iff_ne]; omega
    rw [no (fun e => hml (by rw [e]))]
    simp only [dm, List.length_map, AW, reduceAdd, reduceCtorEq, reduceEqDiff, ↓reduceIte, reduceLT, reduceLeDiff, reduceSub, reducePow, reduceMul, reduceToNat, reduceLE, reduceEq, Int.reduceLT, Int.reduceBEq, Int.reduceBNe]
    (try simp only [relZ, RelS.pv, intP, List.map_nil, AW, reduceAdd, reduceCtorEq, reduceEqDiff, ↓reduceIte, reduceLT, reduceLeDiff, reduceSub, reducePow, reduceMul, reduceToNat, reduceLE, reduceEq, Int.reduceLT, Int.reduceBEq, Int.reduceBNe])
  have dm : ((m.length : Int) != (l.length : Int)) = false := by rw [bne_eq_false_iff_eq]; omega
  simp only [dm, List.length_map, AW, reduceAdd, reduceCtorEq, reduceEqDiff, ↓reduceIte, reduceLT, reduceLeDiff, reduceSub, reducePow, reduceMul, reduceToNat, reduceLE, reduceEq, Int.reduceLT, Int.reduceBEq, Int.reduceBNe]
  refine run_loop (ι := Nat) (fun k => ⟨[(0, .sl (l.map txP)), (2, .ptr 0 0), (4, .ptr 7 0), (5, .sl (m.map txP)), (7, .sc (.int .i64 (k : Int)))], [(0, .var [.sc (.int .i64 0), .sc (.int .i64 0), .sc (.int .i64 0), .sc (.int .i64 0), .sc (.int .i64 0), .sc (.slice none 0 0), .sc (.slice none 0 0), .sc (.slice none 0 0), .sc (.slice none 0 0), .sc (.slice none 0 0)]), (7, .var [.sc (.int .i64 r.when_.from_), .sc (.int .i64 r.when_.to_), .sc (.int .i64 r.each), .sc (.int .i64 r.table.rows), .sc (.int .i64 r.table.cols), .sl (r.table.cells.map intP), .sl (r.hidden.map boolP), .sl (r.rowSums.map intP), .sl (r.colSums.map intP), .sl (r.noise.weights.map intP)])], 26, 46⟩) (fun k => k ≤ l.length ∧ (∀ j (hj : j < l.length), j < k → m[j]'(by omega) = l[j])) (fun k => l.length - k) 26 (fun _ => rfl) 0 (by simp only [LW, Nat.reduceMod, Nat.reduceDiv, Int.natCast_zero, List.length_map, AW, reduceAdd, reduceCtorEq, reduceEqDiff, ↓reduceIte, reduceLT, reduceLeDiff, reduceSub, reducePow, reduceMul, reduceToNat, reduceLE, reduceEq, Int.reduceLT, Int.reduceBEq, Int.reduceBNe]) ⟨Nat.zero_le _, nofun⟩ (fun k hk => ?_)
  obtain ⟨gk, ik⟩ := hk
  by_cases hltk : k < l.length
  rotate_left
  · have dk : decide ((k : Int) < ((l.length : Nat) : Int)) = false := by rw [decide_eq_false_iff_not]; exact fun h => hltk (Int.ofNat_lt.1 h)
    have ek : k = l.length := Nat.le_antisymm gk (Nat.le_of_not_lt hltk)
    rw [ek]
    have e : m = l := List.ext_getElem hml (fun j hj hj2 => ik j hj2 (by omega))
    rw [yes e]
    simp only [dlt_irr2, RelS.pv, intP, List.length_map, AW, reduceAdd, reduceCtorEq, reduceEqDiff, ↓reduceIte, reduceLT, reduceLeDiff, reduceSub, reducePow, reduceMul, reduceToNat, reduceLE, reduceEq, Int.reduceLT, Int.reduceBEq, Int.reduceBNe]
  have dk : decide ((k : Int) < ((l.length : Nat) : Int)) = true := by rw [decide_eq_true_eq]; exact Int.ofNat_lt.2 hltk
  have hlt2 : k < m.length := by omega
  simp only [dk, map_getD hltk, map_getD hlt2, hltk, hlt2, txP, bA_beq, List.length_map, AW, reduceAdd, reduceCtorEq, reduceEqDiff, ↓reduceIte, reduceLT, reduceLeDiff, reduceSub, reducePow, reduceMul, reduceToNat, reduceLE, reduceEq, Int.reduceLT, Int.reduceBEq, Int.reduceBNe]
  by_cases hs : m[k] = l[k]
  · have ds : decide (m[k] = l[k]) = true := decide_eq_true hs
    simp only [ds, AW, reduceAdd, reduceCtorEq, reduceEqDiff, ↓reduceIte, reduceLT, reduceLeDiff, reduceSub, reducePow, reduceMul, reduceToNat, reduceLE, reduceEq, Int.reduceLT, Int.reduceBEq, Int.reduceBNe]
    (first | (refine drawnK rfl ?_; (try simp only [AW, reduceAdd, reduceCtorEq, reduceEqDiff, ↓reduceIte, reduceLT, reduceLeDiff, reduceSub, reducePow, reduceMul, reduceToNat, reduceLE, reduceEq, Int.reduceLT, Int.reduceBEq, Int.reduceBNe])) | skip)
    (try simp only [wrap_succ hltk hmx, AW, reduceAdd, reduceCtorEq, reduceEqDiff, ↓reduceIte, reduceLT, reduceLeDiff, reduceSub, reducePow, reduceMul, reduceToNat, reduceLE, reduceEq, Int.reduceLT, Int.reduceBEq, Int.reduceBNe])
    refine ⟨k + 1, ⟨hltk, fun j hj hjk => ?_⟩, ?_, by omega⟩
    · by_cases e : j = k
      · subst e; exact hs
      · exact ik j hj (by omega)
    · simp only [LW, Nat.reduceMod, Nat.reduceDiv, AW, reduceAdd, reduceCtorEq, reduceEqDiff, ↓reduceIte, reduceLT, reduceLeDiff, reduceSub, reducePow, reduceMul, reduceToNat, reduceLE, reduceEq, Int.reduceLT, Int.reduceBEq, Int.reduceBNe]
  have ds : decide (m[k] = l[k]) = false := decide_eq_false hs
  rw [no (fun e => by subst e; exact hs rfl)]
  simp only [ds, AW, reduceAdd, reduceCtorEq, reduceEqDiff, ↓reduceIte, reduceLT, reduceLeDiff, reduceSub, reducePow, reduceMul, reduceToNat, reduceLE, reduceEq, Int.reduceLT, Int.reduceBEq, Int.reduceBNe]
  (first | (refine drawnK rfl ?_; (try simp only [AW, reduceAdd, reduceCtorEq, reduceEqDiff, ↓reduceIte, reduceLT, reduceLeDiff, reduceSub, reducePow, reduceMul, reduceToNat, reduceLE, reduceEq, Int.reduceLT, Int.reduceBEq, Int.reduceBNe])) | skip)
  (try simp only [relZ, RelS.pv, intP, List.map_nil, AW, reduceAdd, reduceCtorEq, reduceEqDiff, ↓reduceIte, reduceLT, reduceLeDiff, reduceSub, reducePow, reduceMul, reduceToNat, reduceLE, reduceEq, Int.reduceLT, Int.reduceBEq, Int.reduceBNe])
set_option maxHeartbeats 8000000 in
theorem parses_g (l : List (List UInt8)) : Good Tryz.prog 3 [.sl (l.map txP)] (.sc (.bool true)) := by
  refine good3 (by simp) ?_
  simp only [ac3, AW, reduceAdd, reduceCtorEq, reduceEqDiff, ↓reduceIte, reduceLT, reduceLeDiff, reduceSub, reducePow, reduceMul, reduceToNat, reduceLE, reduceEq, Int.reduceLT, Int.reduceBEq, Int.reduceBNe]
  refine ops_call (short_g l) (by simp only [AW, reduceAdd, reduceCtorEq, reduceEqDiff, ↓reduceIte, reduceLT, reduceLeDiff, reduceSub, reducePow, reduceMul, reduceToNat, reduceLE, reduceEq, Int.reduceLT, Int.reduceBEq, Int.reduceBNe]) ?_; simp only [AW, reduceAdd, reduceCtorEq, reduceEqDiff, ↓reduceIte, reduceLT, reduceLeDiff, reduceSub, reducePow, reduceMul, reduceToNat, reduceLE, reduceEq, Int.reduceLT, Int.reduceBEq, Int.reduceBNe]
  cases hs : shortB l
  · simp only [AW, reduceAdd, reduceCtorEq, reduceEqDiff, ↓reduceIte, reduceLT, reduceLeDiff, reduceSub, reducePow, reduceMul, reduceToNat, reduceLE, reduceEq, Int.reduceLT, Int.reduceBEq, Int.reduceBNe]
    refine ops_call (awake_g) (by simp only [AW, reduceAdd, reduceCtorEq, reduceEqDiff, ↓reduceIte, reduceLT, reduceLeDiff, reduceSub, reducePow, reduceMul, reduceToNat, reduceLE, reduceEq, Int.reduceLT, Int.reduceBEq, Int.reduceBNe]) ?_; simp only [AW, reduceAdd, reduceCtorEq, reduceEqDiff, ↓reduceIte, reduceLT, reduceLeDiff, reduceSub, reducePow, reduceMul, reduceToNat, reduceLE, reduceEq, Int.reduceLT, Int.reduceBEq, Int.reduceBNe]
  obtain ⟨s1, s2⟩ := short_iff.1 hs
  have gp := parse_g l (by omega) (fun s h => by have := s2 s h; omega)
  have gq := qparse_g l (by omega) (fun s h => by have := s2 s h; omega)
  simp only [AW, reduceAdd, reduceCtorEq, reduceEqDiff, ↓reduceIte, reduceLT, reduceLeDiff, reduceSub, reducePow, reduceMul, reduceToNat, reduceLE, reduceEq, Int.reduceLT, Int.reduceBEq, Int.reduceBNe]
  unfold parseP at gp gq
  cases hb : parseB l
  · rw [hb, if_neg (by decide)] at gp gq
    refine ops_call (gp) (by simp only [RelS.pv, relZ, intP, List.map_nil, AW, reduceAdd, reduceCtorEq, reduceEqDiff, ↓reduceIte, reduceLT, reduceLeDiff, reduceSub, reducePow, reduceMul, reduceToNat, reduceLE, reduceEq, Int.reduceLT, Int.reduceBEq, Int.reduceBNe]) ?_; simp only [RelS.pv, relZ, intP, List.map_nil, AW, reduceAdd, reduceCtorEq, reduceEqDiff, ↓reduceIte, reduceLT, reduceLeDiff, reduceSub, reducePow, reduceMul, reduceToNat, reduceLE, reduceEq, Int.reduceLT, Int.reduceBEq, Int.reduceBNe]
    (first | (refine drawnK rfl ?_; (try simp only [AW, reduceAdd, reduceCtorEq, reduceEqDiff, ↓reduceIte, reduceLT, reduceLeDiff, reduceSub, reducePow, reduceMul, reduceToNat, reduceLE, reduceEq, Int.reduceLT, Int.reduceBEq, Int.reduceBNe])) | skip)
    refine ops_call (gq) (by simp only [RelS.pv, relZ, intP, List.map_nil, AW, reduceAdd, reduceCtorEq, reduceEqDiff, ↓reduceIte, reduceLT, reduceLeDiff, reduceSub, reducePow, reduceMul, reduceToNat, reduceLE, reduceEq, Int.reduceLT, Int.reduceBEq, Int.reduceBNe]) ?_; simp only [RelS.pv, relZ, intP, List.map_nil, AW, reduceAdd, reduceCtorEq, reduceEqDiff, ↓reduceIte, reduceLT, reduceLeDiff, reduceSub, reducePow, reduceMul, reduceToNat, reduceLE, reduceEq, Int.reduceLT, Int.reduceBEq, Int.reduceBNe]
    (first | (refine drawnK rfl ?_; (try simp only [AW, reduceAdd, reduceCtorEq, reduceEqDiff, ↓reduceIte, reduceLT, reduceLeDiff, reduceSub, reducePow, reduceMul, reduceToNat, reduceLE, reduceEq, Int.reduceLT, Int.reduceBEq, Int.reduceBNe])) | skip)
    refine ops_call (sameR_g relZ) (by simp only [RelS.pv, relZ, List.map_nil, AW, reduceAdd, reduceCtorEq, reduceEqDiff, ↓reduceIte, reduceLT, reduceLeDiff, reduceSub, reducePow, reduceMul, reduceToNat, reduceLE, reduceEq, Int.reduceLT, Int.reduceBEq, Int.reduceBNe]) ?_; simp only [RelS.pv, relZ, List.map_nil, AW, reduceAdd, reduceCtorEq, reduceEqDiff, ↓reduceIte, reduceLT, reduceLeDiff, reduceSub, reducePow, reduceMul, reduceToNat, reduceLE, reduceEq, Int.reduceLT, Int.reduceBEq, Int.reduceBNe]
    refine ops_call (awake_g) (by simp only [AW, reduceAdd, reduceCtorEq, reduceEqDiff, ↓reduceIte, reduceLT, reduceLeDiff, reduceSub, reducePow, reduceMul, reduceToNat, reduceLE, reduceEq, Int.reduceLT, Int.reduceBEq, Int.reduceBNe]) ?_; simp only [AW, reduceAdd, reduceCtorEq, reduceEqDiff, ↓reduceIte, reduceLT, reduceLeDiff, reduceSub, reducePow, reduceMul, reduceToNat, reduceLE, reduceEq, Int.reduceLT, Int.reduceBEq, Int.reduceBNe]
  · rw [hb, if_pos rfl] at gp gq
    have gs := sameR_g (readR l)
    generalize readR l = r at *
    refine ops_call (gp) (by simp only [RelS.pv, intP, AW, reduceAdd, reduceCtorEq, reduceEqDiff, ↓reduceIte, reduceLT, reduceLeDiff, reduceSub, reducePow, reduceMul, reduceToNat, reduceLE, reduceEq, Int.reduceLT, Int.reduceBEq, Int.reduceBNe]) ?_; simp only [RelS.pv, intP, AW, reduceAdd, reduceCtorEq, reduceEqDiff, ↓reduceIte, reduceLT, reduceLeDiff, reduceSub, reducePow, reduceMul, reduceToNat, reduceLE, reduceEq, Int.reduceLT, Int.reduceBEq, Int.reduceBNe]
    (first | (refine drawnK rfl ?_; (try simp only [AW, reduceAdd, reduceCtorEq, reduceEqDiff, ↓reduceIte, reduceLT, reduceLeDiff, reduceSub, reducePow, reduceMul, reduceToNat, reduceLE, reduceEq, Int.reduceLT, Int.reduceBEq, Int.reduceBNe])) | skip)
    refine ops_call (gq) (by simp only [RelS.pv, intP, AW, reduceAdd, reduceCtorEq, reduceEqDiff, ↓reduceIte, reduceLT, reduceLeDiff, reduceSub, reducePow, reduceMul, reduceToNat, reduceLE, reduceEq, Int.reduceLT, Int.reduceBEq, Int.reduceBNe]) ?_; simp only [RelS.pv, intP, AW, reduceAdd, reduceCtorEq, reduceEqDiff, ↓reduceIte, reduceLT, reduceLeDiff, reduceSub, reducePow, reduceMul, reduceToNat, reduceLE, reduceEq, Int.reduceLT, Int.reduceBEq, Int.reduceBNe]
    (first | (refine drawnK rfl ?_; (try simp only [AW, reduceAdd, reduceCtorEq, reduceEqDiff, ↓reduceIte, reduceLT, reduceLeDiff, reduceSub, reducePow, reduceMul, reduceToNat, reduceLE, reduceEq, Int.reduceLT, Int.reduceBEq, Int.reduceBNe])) | skip)
    refine ops_call (gs) (by simp only [RelS.pv, AW, reduceAdd, reduceCtorEq, reduceEqDiff, ↓reduceIte, reduceLT, reduceLeDiff, reduceSub, reducePow, reduceMul, reduceToNat, reduceLE, reduceEq, Int.reduceLT, Int.reduceBEq, Int.reduceBNe]) ?_; simp only [RelS.pv, AW, reduceAdd, reduceCtorEq, reduceEqDiff, ↓reduceIte, reduceLT, reduceLeDiff, reduceSub, reducePow, reduceMul, reduceToNat, reduceLE, reduceEq, Int.reduceLT, Int.reduceBEq, Int.reduceBNe]
    refine ops_call (awake_g) (by simp only [AW, reduceAdd, reduceCtorEq, reduceEqDiff, ↓reduceIte, reduceLT, reduceLeDiff, reduceSub, reducePow, reduceMul, reduceToNat, reduceLE, reduceEq, Int.reduceLT, Int.reduceBEq, Int.reduceBNe]) ?_; simp only [AW, reduceAdd, reduceCtorEq, reduceEqDiff, ↓reduceIte, reduceLT, reduceLeDiff, reduceSub, reducePow, reduceMul, reduceToNat, reduceLE, reduceEq, Int.reduceLT, Int.reduceBEq, Int.reduceBNe]
theorem feedParses_good (l : List ByteArray) : Good Tryz.prog 3 [.sl (l.map strP)] (.sc (.bool true)) := by
  have h := parses_g (l.map fun s => s.data.toList)
  rw [List.map_map, show (txP ∘ fun s : ByteArray => s.data.toList) = strP by funext s; show PV.sc (.string (bA s.data.toList)) = _; rw [bA_of]; rfl] at h
  exact h


end Go.Proofs.YtjnfldkcbcfboaaGreatDoor
