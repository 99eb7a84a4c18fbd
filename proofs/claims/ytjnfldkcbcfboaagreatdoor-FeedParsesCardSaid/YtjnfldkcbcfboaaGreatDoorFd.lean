/-
  Lines that are read again.
-/
import Derived.Test.YtjnfldkcbcfboaaGreatDoorF9
namespace Go.Proofs.YtjnfldkcbcfboaaGreatDoor
open Go.RowKit
open Nat (reduceAdd reduceEqDiff reduceLT reduceLeDiff reduceSub reducePow reduceMul)
open Int (reduceToNat reduceLE reduceEq)
set_option linter.unusedVariables false
set_option linter.unusedSimpArgs false
set_option linter.unnecessarySimpa false


theorem numV_dec {n : Int} (h : valB n = true) : numV (dec n) = some n := by
  have := atoi_fmt 0 h
  rw [fmt0] at this
  have e : undot (dec n) 0 = dec n := by unfold undot; rw [if_neg (by omega)]
  rw [e] at this
  unfold numV; rw [this]
theorem numD_dec {n : Int} (h : valB n = true) : numD (dec n) = n := by unfold numD; rw [numV_dec h]; rfl
theorem nums_dec {l : List Int} (h : ∀ x ∈ l, valB x = true) : numsOk (l.map dec) = true ∧ (l.map dec).map numD = l := by
  constructor
  · unfold numsOk
    rw [List.all_eq_true]
    intro s hs
    obtain ⟨x, hx, rfl⟩ := List.mem_map.1 hs
    rw [numV_dec (h x hx)]; rfl
  · rw [List.map_map]
    conv => rhs; rw [← List.map_id l]
    exact List.map_congr_left (fun x hx => numD_dec (h x hx))
theorem split_words {w : List UInt8} {ws : List (List UInt8)} (h : (32 : UInt8) ∉ w) (hs : ∀ x ∈ ws, (32 : UInt8) ∉ x) : wordOk (wordsL w ws) w = true ∧ rowW (wordsL w ws) = ws := by
  unfold wordOk rowW
  rw [splitW_words h hs]
  exact ⟨decide_eq_true rfl, rfl⟩
theorem split_line {w : List UInt8} (h : (32 : UInt8) ∉ w) (l : List Int) : wordOk (lineT w l) w = true ∧ rowW (lineT w l) = l.map dec :=
  split_words h (fun x hx => by obtain ⟨n, _, rfl⟩ := List.mem_map.1 hx; exact dec_blank n)
theorem chunk {α : Type} (d : α) {C : Nat} : ∀ {R : Nat} {l : List α}, l.length = R * C → (List.range R).flatMap (fun i => (List.range C).map fun j => l.getD (i * C + j) d) = l
  | 0, l, h => by
    rw [Nat.zero_mul] at h
    rw [List.eq_nil_of_length_eq_zero h]; rfl
  | R + 1, l, h => by
    rw [Nat.add_mul, Nat.one_mul] at h
    rw [List.range_succ, List.flatMap_append]
    have ih := chunk d (R := R) (C := C) (l := l.take (R * C)) (by rw [List.length_take]; omega)
    have e1 : (List.range R).flatMap (fun i => (List.range C).map fun j => l.getD (i * C + j) d) = l.take (R * C) := by
      rw [← ih]
      refine flatMap_congr' fun i hi => ?_
      refine List.map_congr_left fun j hj => ?_
      have := cell_lt (List.mem_range.1 hi) (List.mem_range.1 hj)
      rw [List.getD_eq_getElem?_getD, List.getD_eq_getElem?_getD, List.getElem?_take, if_pos this]
    have e2 : (List.range C).map (fun j => l.getD (R * C + j) d) = l.drop (R * C) := by
      refine List.ext_getElem (by rw [List.length_map, List.length_range, List.length_drop]; omega) (fun j h1 h2 => ?_)
      rw [List.length_map, List.length_range] at h1
      rw [List.getElem_map, List.getElem_range, List.getElem_drop, getD_get (by omega)]
    rw [e1, List.flatMap_cons, List.flatMap_nil, List.append_nil, e2, List.take_append_drop]
theorem blanks : (32 : UInt8) ∉ tTrips ∧ (32 : UInt8) ∉ tRow ∧ (32 : UInt8) ∉ tNoise ∧ (32 : UInt8) ∉ tSums ∧ (32 : UInt8) ∉ tX := by decide
theorem cellW_blank (r : RelS) (k : Nat) : (32 : UInt8) ∉ cellW r k := by
  unfold cellW; split
  · exact blanks.2.2.2.2
  · exact dec_blank _
theorem dec_notX (n : Int) : dec n ≠ tX := by
  intro h
  have hd : ∀ m : Nat, (120 : UInt8) ∉ Lib.decDigits m := fun m h => by
    rw [← sufL_dec, sufL_map] at h
    obtain ⟨t, _, ht⟩ := List.mem_map.1 h
    have := dg_nat m (Lib.nDigits m - 1 - t)
    rw [ht] at this
    have h9 : m / 10 ^ (Lib.nDigits m - 1 - t) % 10 < 10 := Nat.mod_lt _ (by decide)
    simp at this; omega
  have : (120 : UInt8) ∈ dec n := by rw [h]; decide
  unfold dec Lib.itoa at this
  split at this
  · rcases List.mem_cons.1 this with h | h
    · exact absurd h (by decide)
    · exact hd _ h
  · exact hd _ this
theorem noi_line (l : List Int) : hpB (lineT tNoise l) tNoise = true := by
  unfold hpB lineT wordsL
  rw [List.length_append, decide_eq_true (Nat.le_add_right _ _), List.take_left, decide_eq_true rfl]; rfl
theorem sum_line (l : List Int) : hpB (lineT tSums l) tNoise = false := by
  unfold hpB
  rw [Bool.and_eq_false_iff]
  right
  rw [decide_eq_false_iff_not]
  intro h
  have : (lineT tSums l).take tNoise.length = 115 :: ((lineT tSums l).drop 1).take 4 := rfl
  rw [this] at h
  cases h
theorem lx_zero (r : RelS) : (linesX r).getD 0 [] = lineT tTrips (headI r) := rfl
section
variable {r : RelS} {R C : Nat} (h : OkR r R C)
include h
theorem lx_len : (linesX r).length = R + 2 := by
  unfold linesX; rw [List.length_append, List.length_cons, rowsT_len, h.rowN]; rfl
theorem lx_last : lastW (linesX r) = lastT r := by
  unfold lastW
  rw [lx_len h]
  unfold linesX
  have e : (lineT tTrips (headI r) :: rowsT r r.table.rows.toNat).length = R + 1 := by rw [List.length_cons, rowsT_len, h.rowN]
  rw [List.getD_eq_getElem?_getD, List.getElem?_append_right (by rw [e]; omega), e]
  rw [show R + 2 - 1 - (R + 1) = 0 by omega]; rfl
theorem lx_mid : midL (linesX r) = rowsT r R := by
  unfold midL
  rw [lx_len h]
  unfold linesX
  rw [h.rowN, List.take_append_of_le_length (by rw [List.length_cons, rowsT_len]; omega)]
  rw [List.take_of_length_le (by rw [List.length_cons, rowsT_len]; omega)]; rfl
theorem lx_noi : noiL (linesX r) = noisyB r := by
  unfold noiL
  rw [lx_last h]
  unfold lastT
  cases hN : noisyB r
  · exact sum_line _
  · exact noi_line _
theorem lx_headN : wordOk ((linesX r).getD 0 []) tTrips = true ∧ numsOk (rowW ((linesX r).getD 0 [])) = true ∧ headN (linesX r) = headI r := by
  have h1 := split_line blanks.1 (headI r)
  have h2 := nums_dec (head_val h)
  unfold headN
  rw [lx_zero r, h1.2]
  exact ⟨h1.1, h2.1, h2.2⟩
theorem last_val : ∀ x ∈ (if noisyB r = true then r.noise.weights else r.colSums), valB x = true := by
  intro x hx
  split at hx
  · rename_i hn
    have := (h.noi hn).2.1 x hx
    exact valB_small (by omega) (by omega)
  · rename_i hn
    have := (h.pla (by simpa using hn)).2.2.2.2.1 x hx
    exact valB_small (by omega) (by omega)
theorem lx_lastN : wordOk (lastW (linesX r)) (if noiL (linesX r) = true then tNoise else tSums) = true ∧ numsOk (rowW (lastW (linesX r))) = true ∧ lastN (linesX r) = if noisyB r = true then r.noise.weights else r.colSums := by
  have hv := last_val h
  unfold lastN
  rw [lx_noi h, lx_last h]
  unfold lastT
  cases hN : noisyB r
  · rw [hN] at hv
    have h1 := split_line blanks.2.2.2.1 r.colSums
    have h2 := nums_dec (l := r.colSums) hv
    simp only [Bool.false_eq_true, if_false]
    rw [h1.2]
    exact ⟨h1.1, h2.1, h2.2⟩
  · rw [hN] at hv
    have h1 := split_line blanks.2.2.1 r.noise.weights
    have h2 := nums_dec (l := r.noise.weights) hv
    simp only [if_true]
    rw [h1.2]
    exact ⟨h1.1, h2.1, h2.2⟩
theorem rw_words (i : Nat) : wordOk (rwL r i) tRow = true ∧ rowW (rwL r i) = rowWs r i C ++ rowE r i := by
  have := split_words (w := tRow) (ws := rowWs r i r.table.cols.toNat ++ rowE r i) blanks.2.1 (fun x hx => by
    rcases List.mem_append.1 hx with hx | hx
    · unfold rowWs at hx
      obtain ⟨j, _, rfl⟩ := List.mem_map.1 hx
      exact cellW_blank r _
    · unfold rowE at hx
      split at hx
      · cases hx
      · rw [List.mem_singleton] at hx; subst hx; exact dec_blank _)
  unfold rwL
  rw [h.colN] at this ⊢
  exact this
theorem cell_back {k : Nat} (hk : k < R * C) : numV (cellT (noisyB r) (cellW r k)) = some (r.table.cells.getD k 0) ∧ (noisyB r = false → decide (cellW r k = tX) = r.hidden.getD k false) := by
  have hc := h.cell _ (mem_getD (l := r.table.cells) (k := k) (by rw [h.cells]; exact hk))
  have hv := valB_small (n := r.table.cells.getD k 0) (by omega) (by omega)
  unfold cellT cellW
  cases hN : noisyB r
  · have hp := h.pla hN
    cases hh : r.hidden.getD k false
    · have e : decide (dec (r.table.cells.getD k 0) = tX) = false := decide_eq_false (dec_notX _)
      simp only [Bool.not_false, Bool.true_and, Bool.false_eq_true, if_false, e]
      exact ⟨numV_dec hv, fun _ => by first | trivial | rfl | simp⟩
    · have e : decide (tX = tX) = true := decide_eq_true rfl
      simp only [Bool.not_false, Bool.true_and, if_true, e]
      rw [hp.2.2.2.2.2.1 k hk hh]
      exact ⟨by decide +kernel, fun _ => by first | trivial | rfl | simp⟩
  · simp only [Bool.not_true, Bool.false_and, Bool.false_eq_true, if_false]
    exact ⟨numV_dec hv, fun e => by cases e⟩
theorem row_take {i : Nat} : (rowW (rwL r i)).take C = rowWs r i C := by
  rw [(rw_words h i).2, List.take_append_of_le_length (by rw [rowWs_len]; omega), List.take_of_length_le (by rw [rowWs_len]; omega)]
theorem row_ok {i : Nat} (hi : i < R) : rowOkB (noisyB r) C (rwL r i) = true := by
  unfold rowOkB
  rw [row_take h]
  have ha : (rowWs r i C).all (cellK (noisyB r)) = true := by
    rw [List.all_eq_true]
    intro x hx
    unfold rowWs at hx
    obtain ⟨j, hj, rfl⟩ := List.mem_map.1 hx
    unfold cellK
    rw [h.colN, (cell_back h (cell_lt hi (List.mem_range.1 hj))).1]; rfl
  rw [ha, (rw_words h i).1, (rw_words h i).2]
  cases hN : noisyB r
  · have hp := h.pla hN
    have hi2 : i < r.rowSums.length := by have := hp.2.1; omega
    have e : rowE r i = [dec (r.rowSums.getD i 0)] := by unfold rowE; rw [hN]; rfl
    have hm := hp.2.2.2.1 _ (mem_getD hi2)
    have eg : (rowWs r i C ++ rowE r i).getD C [] = dec (r.rowSums.getD i 0) := by
      rw [e, List.getD_eq_getElem?_getD, List.getElem?_append_right (by rw [rowWs_len]; omega), rowWs_len, Nat.sub_self]; rfl
    rw [eg, numV_dec (valB_small (by omega) (by omega)), e, List.length_append, rowWs_len]
    simp
  · have e : rowE r i = [] := by unfold rowE; rw [hN]; rfl
    rw [e, List.append_nil, rowWs_len]
    simp
theorem rows_back : cellsA (noisyB r) C (rowsT r R) = r.table.cells ∧ hidsA (noisyB r) C (rowsT r R) = r.hidden ∧ sumsA (noisyB r) C (rowsT r R) = r.rowSums := by
  have hT : ∀ {β : Type} (f : List UInt8 → List β), (rowsT r R).flatMap f = (List.range R).flatMap fun i => f (rwL r i) := by
    intro β f; unfold rowsT; rw [List.flatMap_map]
  refine ⟨?_, ?_, ?_⟩
  · unfold cellsA
    rw [hT]
    conv => rhs; rw [← chunk (0 : Int) h.cells]
    refine flatMap_congr' fun i hi => ?_
    rw [row_take h]
    unfold rowWs
    rw [List.map_map]
    refine List.map_congr_left fun j hj => ?_
    show cellD _ (cellW r _) = _
    unfold cellD numD
    rw [h.colN, (cell_back h (cell_lt (List.mem_range.1 hi) (List.mem_range.1 hj))).1]; rfl
  · unfold hidsA
    cases hN : noisyB r
    · have hp := h.pla hN
      rw [if_neg (by decide), hT]
      conv => rhs; rw [← chunk false hp.1]
      refine flatMap_congr' fun i hi => ?_
      rw [row_take h]
      unfold rowWs
      rw [List.map_map]
      refine List.map_congr_left fun j hj => ?_
      show decide (cellW r _ = tX) = _
      rw [h.colN, (cell_back h (cell_lt (List.mem_range.1 hi) (List.mem_range.1 hj))).2 hN]
    · rw [if_pos rfl, (h.noi hN).2.2.1]
  · unfold sumsA
    cases hN : noisyB r
    · have hp := h.pla hN
      rw [if_neg (by decide)]
      unfold rowsT
      rw [List.map_map]
      refine List.ext_getElem (by rw [List.length_map, List.length_range]; exact hp.2.1.symm) (fun i h1 h2 => ?_)
      rw [List.getElem_map, List.getElem_range]
      show numD ((rowW (rwL r i)).getD C []) = _
      have e : rowE r i = [dec (r.rowSums.getD i 0)] := by unfold rowE; rw [hN]; rfl
      have hm := hp.2.2.2.1 _ (mem_getD h2)
      rw [(rw_words h i).2, e, List.getD_eq_getElem?_getD, List.getElem?_append_right (by rw [rowWs_len]; omega), rowWs_len, Nat.sub_self]
      show numD (dec (r.rowSums.getD i 0)) = _
      rw [numD_dec (valB_small (by omega) (by omega)), getD_get h2]
    · rw [if_pos rfl, (h.noi hN).2.2.2.1]
theorem read_lines : readOk (linesX r) = true ∧ readR (linesX r) = r := by
  obtain ⟨a1, a2, a3⟩ := lx_headN h
  obtain ⟨b1, b2, b3⟩ := lx_lastN h
  have hn := lx_noi h
  have hm := lx_mid h
  have hc : colN (linesX r) = C := by unfold colN; rw [a3]; exact h.colN
  obtain ⟨c1, c2, c3⟩ := rows_back h
  constructor
  · have hk : headOk (linesX r) = true := by
      unfold headOk
      rw [a3, lx_len h]
      have e3 : (headI r).getD 3 0 = (R : Int) := h.rows
      have e4 : (headI r).getD 4 0 = (C : Int) := h.cols
      rw [e3, e4]
      have := h.r1; have := h.r8; have := h.c1; have := h.c8
      rw [inB_iff.2 ⟨by omega, by omega⟩, inB_iff.2 ⟨by omega, by omega⟩, decide_eq_true (by omega)]; rfl
    have ha : (midL (linesX r)).all (rowOkB (noiL (linesX r)) (colN (linesX r))) = true := by
      rw [hm, hn, hc, List.all_eq_true]
      intro s hs
      unfold rowsT at hs
      obtain ⟨i, hi, rfl⟩ := List.mem_map.1 hs
      exact row_ok h (List.mem_range.1 hi)
    have h5 : (headN (linesX r)).length = 5 := by rw [a3]; rfl
    have h2 : 2 < (linesX r).length := by rw [lx_len h]; have := h.r1; omega
    unfold readOk
    rw [decide_eq_true h2, a1, a2, decide_eq_true h5, hk, b1, b2, ha]; rfl
  · unfold readR
    rw [a3, b3, hn, hm, hc, c1, c2, c3]
    obtain ⟨⟨w1, w2⟩, e, ⟨t1, t2, t3⟩, hd, rs, cs, ⟨ws⟩⟩ := r
    cases hN : noisyB ⟨⟨w1, w2⟩, e, ⟨t1, t2, t3⟩, hd, rs, cs, ⟨ws⟩⟩
    · have := (h.pla hN).2.2.2.2.2.2
      simp only at this
      subst this
      rfl
    · have := (h.noi hN).2.2.2.2
      simp only at this
      subst this
      rfl
end


end Go.Proofs.YtjnfldkcbcfboaaGreatDoor
