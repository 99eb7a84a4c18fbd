/-
  Minus, walked.
-/
import Derived.Test.YthgnbkcopapbmaaEu
namespace Go.Proofs.Ythgnbkcopapbmaa
open Go.RowKit
open Nat (reduceAdd reduceEqDiff reduceLT reduceLeDiff reduceSub reducePow reduceMul)
open Int (reduceToNat reduceLE reduceEq)
set_option linter.unusedVariables false
set_option linter.unusedSimpArgs false
set_option linter.unnecessarySimpa false

def stepH (s : List WinS × Int) (h : WinS) : List WinS × Int := (if s.2 < h.from_ then s.1 ++ [⟨s.2, h.from_⟩] else s.1, max s.2 h.to_)
def hsK (s : List WinS × Int) (y : List WinS) (k : Nat) : List WinS × Int := (y.take k).foldl stepH s
theorem hsK_succ {s : List WinS × Int} {y : List WinS} {k : Nat} (h : k < y.length) : hsK s y (k + 1) = stepH (hsK s y k) y[k] := by
  unfold hsK; rw [List.take_succ_eq_append_getElem h, List.foldl_append]; rfl
theorem stepH_len (s : List WinS × Int) (h : WinS) : (stepH s h).1.length ≤ s.1.length + 1 := by
  unfold stepH; simp only; split
  · simp
  · omega
theorem hsK_len (s : List WinS × Int) (y : List WinS) : ∀ k, k ≤ y.length → (hsK s y k).1.length ≤ s.1.length + k
  | 0, _ => by simp [hsK]
  | k + 1, h => by
    have ih := hsK_len s y k (by omega)
    rw [hsK_succ (by omega)]
    have := stepH_len (hsK s y k) y[k]
    omega
theorem holeU_next {t : Int} {s : List WinS × Int} {y : List WinS} {k : Nat} (h : k < y.length) (hn : ¬ t ≤ y[k].from_) : holeU t (y.drop k) (hsK s y k) = holeU t (y.drop (k + 1)) (hsK s y (k + 1)) := by
  rw [List.drop_eq_getElem_cons h, holeU, if_neg hn, hsK_succ h]; rfl
theorem roundU_len (s : List WinS × List WinS) (w : WinS) : (roundU s w).1.length ≤ s.1.length ∧ (roundU s w).2.length ≤ s.2.length + s.1.length + 1 := by
  have h1 := dropU_len w.from_ s.1
  have h2 := holeU_len w.to_ (dropU w.from_ s.1) (s.2, w.from_)
  refine ⟨h1, ?_⟩
  unfold roundU endU
  simp only at h2 ⊢
  split
  · rw [List.length_append]; simp only [List.length_cons, List.length_nil]; omega
  · omega
theorem minusM_len {x y : List WinS} (hy : y.length ≤ 1000) : ∀ k, k ≤ x.length → (minusM (x.take k) y).1.length ≤ y.length ∧ (minusM (x.take k) y).2.length ≤ k * 1001
  | 0, _ => by simp [minusM]
  | k + 1, h => by
    obtain ⟨h1, h2⟩ := minusM_len (x := x) hy k (by omega)
    have hk : k < x.length := by omega
    rw [minusM_succ hk]
    obtain ⟨h3, h4⟩ := roundU_len (minusM (x.take k) y) x[k]
    have h5 : k * 1001 + 1001 = (k + 1) * 1001 := by omega
    exact ⟨by omega, by omega⟩
theorem wins_flat (l : List WinS) : ((l.map WinS.pv).all fun p => p.flat.length == 2) = true := by
  rw [List.all_eq_true]; intro x hx; obtain ⟨y, _, rfl⟩ := List.mem_map.1 hx; rfl
noncomputable def minusP (a b : List WinS) : PV := if badW a = true ∨ badW b = true then .tup [.sl [], intP 1] else .tup [.sl ((minusM (unionL a) (unionL b)).2.map WinS.pv), intP 0]
set_option maxHeartbeats 16000000 in
theorem minus_g (a b : List WinS) (ha : a.length ≤ 1000) (hb : b.length ≤ 1000) : Good Try.prog 44 [.sl (a.map WinS.pv), .sl (b.map WinS.pv)] (minusP a b) := by
  have gb := both_g a b (by omega) (by omega)
  have la := unionL_len a
  have lb := unionL_len b
  unfold bothP at gb
  unfold minusP
  refine good44 (by simp) ?_
  simp only [ac44, AW, reduceAdd, reduceCtorEq, reduceEqDiff, ↓reduceIte, reduceLT, reduceLeDiff, reduceSub, reducePow, reduceMul, reduceToNat, reduceLE, reduceEq, Int.reduceLT, Int.reduceBEq, Int.reduceBNe]
  by_cases hbad : badW a = true ∨ badW b = true
  · rw [if_pos hbad] at gb
    rw [if_pos hbad]
    refine ops_call (gb) (by simp only [intP, List.map_nil, AW, reduceAdd, reduceCtorEq, reduceEqDiff, ↓reduceIte, reduceLT, reduceLeDiff, reduceSub, reducePow, reduceMul, reduceToNat, reduceLE, reduceEq, Int.reduceLT, Int.reduceBEq, Int.reduceBNe]) ?_; simp only [intP, List.map_nil, AW, reduceAdd, reduceCtorEq, reduceEqDiff, ↓reduceIte, reduceLT, reduceLeDiff, reduceSub, reducePow, reduceMul, reduceToNat, reduceLE, reduceEq, Int.reduceLT, Int.reduceBEq, Int.reduceBNe]
    (try simp only [intP, List.map_nil, AW, reduceAdd, reduceCtorEq, reduceEqDiff, ↓reduceIte, reduceLT, reduceLeDiff, reduceSub, reducePow, reduceMul, reduceToNat, reduceLE, reduceEq, Int.reduceLT, Int.reduceBEq, Int.reduceBNe])
  rw [if_neg hbad] at gb
  rw [if_neg hbad]
  refine ops_call (gb) (by simp only [intP, AW, reduceAdd, reduceCtorEq, reduceEqDiff, ↓reduceIte, reduceLT, reduceLeDiff, reduceSub, reducePow, reduceMul, reduceToNat, reduceLE, reduceEq, Int.reduceLT, Int.reduceBEq, Int.reduceBNe]) ?_; simp only [intP, AW, reduceAdd, reduceCtorEq, reduceEqDiff, ↓reduceIte, reduceLT, reduceLeDiff, reduceSub, reducePow, reduceMul, reduceToNat, reduceLE, reduceEq, Int.reduceLT, Int.reduceBEq, Int.reduceBNe]
  generalize unionL a = X at *
  generalize unionL b = Y at *
  (try simp only [List.length_map, AW, reduceAdd, reduceCtorEq, reduceEqDiff, ↓reduceIte, reduceLT, reduceLeDiff, reduceSub, reducePow, reduceMul, reduceToNat, reduceLE, reduceEq, Int.reduceLT, Int.reduceBEq, Int.reduceBNe])
  refine run_loop (ι := Nat) (fun k => ⟨[(7, .sl ((minusM (X.take k) Y).1.map WinS.pv)), (9, .own 18 0), (25, .sl (X.map WinS.pv)), (26, .sc (.int .i64 (X.length : Int))), (27, .sc (.int .i64 (k : Int)))], [(18, .row 48 2 0 ((minusM (X.take k) Y).2.map WinS.pv))], 19, 87⟩) (fun k => k ≤ X.length) (fun k => X.length - k) 19 (fun _ => rfl) 0 (by simp only [LW, Nat.reduceMod, Nat.reduceDiv, Int.natCast_zero, List.take_zero, minusM, List.foldl_nil, List.map_nil, List.length_map, Nat.zero_lt_one, AW, reduceAdd, reduceCtorEq, reduceEqDiff, ↓reduceIte, reduceLT, reduceLeDiff, reduceSub, reducePow, reduceMul, reduceToNat, reduceLE, reduceEq, Int.reduceLT, Int.reduceBEq, Int.reduceBNe]) (Nat.zero_le _) (fun k hk => ?_)
  by_cases hltk : k < X.length
  rotate_left
  · have ek : k = X.length := by omega
    subst ek
    rw [List.take_length]
    simp only [dlt_irr3, List.length_map, intP, AW, reduceAdd, reduceCtorEq, reduceEqDiff, ↓reduceIte, reduceLT, reduceLeDiff, reduceSub, reducePow, reduceMul, reduceToNat, reduceLE, reduceEq, Int.reduceLT, Int.reduceBEq, Int.reduceBNe]
  have dk : decide ((k : Int) < (X.length : Int)) = true := by rw [decide_eq_true_eq]; omega
  have wk := wrap_succ hltk (show X.length ≤ maxLen by unfold maxLen; omega)
  have hs := minusM_succ (y := Y) hltk
  obtain ⟨hl1, hl2⟩ := minusM_len (x := X) (y := Y) (by omega) k hk
  obtain ⟨y, hy⟩ : ∃ y, (minusM (X.take k) Y).1 = y := ⟨_, rfl⟩
  obtain ⟨ou, hou⟩ : ∃ y, (minusM (X.take k) Y).2 = y := ⟨_, rfl⟩
  rw [hy] at hl1
  rw [hou] at hl2
  simp only [hy, hou]
  unfold roundU at hs
  rw [hy, hou] at hs
  simp only [dk, map_getD hltk, hltk, WinS.pv, WinS.vals, List.map_cons, List.map_nil, List.length_map, AW, reduceAdd, reduceCtorEq, reduceEqDiff, ↓reduceIte, reduceLT, reduceLeDiff, reduceSub, reducePow, reduceMul, reduceToNat, reduceLE, reduceEq, Int.reduceLT, Int.reduceBEq, Int.reduceBNe]
  obtain ⟨f, hf⟩ : ∃ f, X[k].from_ = f := ⟨_, rfl⟩
  obtain ⟨t, ht⟩ : ∃ f, X[k].to_ = f := ⟨_, rfl⟩
  rw [hf, ht] at hs
  simp only [hf, ht]
  refine run_loop (ι := Nat) (fun j => ⟨[(7, .sl ((y.drop j).map WinS.pv)), (9, .own 18 0), (11, .ptr 22 0), (25, .sl (X.map WinS.pv)), (26, .sc (.int .i64 (X.length : Int))), (27, .sc (.int .i64 (k : Int)))], [(18, .row 48 2 0 (ou.map WinS.pv)), (22, .var [.sc (.int .i64 f), .sc (.int .i64 t)])], 24, 87⟩) (fun j => j ≤ y.length ∧ dropU f (y.drop j) = dropU f y) (fun j => y.length - j) 24 (fun _ => rfl) 0 (by simp only [LW, Nat.reduceMod, Nat.reduceDiv, List.drop_zero, AW, reduceAdd, reduceCtorEq, reduceEqDiff, ↓reduceIte, reduceLT, reduceLeDiff, reduceSub, reducePow, reduceMul, reduceToNat, reduceLE, reduceEq, Int.reduceLT, Int.reduceBEq, Int.reduceBNe]) ⟨Nat.zero_le _, by rw [List.drop_zero]⟩ (fun j hj => ?_)
  obtain ⟨hj, hjd⟩ := hj
  have d0 : (y.drop j).length = y.length - j := List.length_drop
  by_cases hjl : j < y.length
  · have dj : decide ((0 : Int) < (((y.drop j).length : Nat) : Int)) = true := by rw [decide_eq_true_eq]; omega
    have h0l : 0 < (y.drop j).length := by omega
    have e0 : (y.drop j)[0] = y[j] := by simp
    by_cases hto : y[j].to_ ≤ f
    · have dt : decide (y[j].to_ ≤ f) = true := decide_eq_true hto
      have hz1 : 1 ≤ (y.drop j).length := h0l
      have hd1 : ((y.drop j).map WinS.pv).drop 1 = (y.drop (j + 1)).map WinS.pv := by rw [← List.map_drop, List.drop_drop]
      have htk : ((y.drop j).map WinS.pv).take (y.drop j).length = (y.drop j).map WinS.pv := List.take_of_length_le (by rw [List.length_map]; omega)
      simp only [dj, map_getD h0l, h0l, e0, dt, WinS.pv, WinS.vals, List.map_cons, List.map_nil, List.length_map, Int.toNat_zero, Int.le_refl, AW, reduceAdd, reduceCtorEq, reduceEqDiff, ↓reduceIte, reduceLT, reduceLeDiff, reduceSub, reducePow, reduceMul, reduceToNat, reduceLE, reduceEq, Int.reduceLT, Int.reduceBEq, Int.reduceBNe]
      (first | (refine drawnK rfl ?_; (try simp only [AW, reduceAdd, reduceCtorEq, reduceEqDiff, ↓reduceIte, reduceLT, reduceLeDiff, reduceSub, reducePow, reduceMul, reduceToNat, reduceLE, reduceEq, Int.reduceLT, Int.reduceBEq, Int.reduceBNe])) | rfl | skip)
      (try simp only [htk, true_or, or_true, hz1, hd1, wins_flat, List.length_map, Int.toNat_one, AW, reduceAdd, reduceCtorEq, reduceEqDiff, ↓reduceIte, reduceLT, reduceLeDiff, reduceSub, reducePow, reduceMul, reduceToNat, reduceLE, reduceEq, Int.reduceLT, Int.reduceBEq, Int.reduceBNe])
      refine ⟨j + 1, ⟨hjl, ?_⟩, ?_, meas_lt0 hjl⟩
      · rw [← hjd, List.drop_eq_getElem_cons hjl, dropU, if_pos hto]
      · simp only [LW, Nat.reduceMod, Nat.reduceDiv, AW, reduceAdd, reduceCtorEq, reduceEqDiff, ↓reduceIte, reduceLT, reduceLeDiff, reduceSub, reducePow, reduceMul, reduceToNat, reduceLE, reduceEq, Int.reduceLT, Int.reduceBEq, Int.reduceBNe]
    · have dt : decide (y[j].to_ ≤ f) = false := decide_eq_false hto
      have hzd : dropU f y = y.drop j := by rw [← hjd, List.drop_eq_getElem_cons hjl, dropU, if_neg hto]
      obtain ⟨z, hz⟩ : ∃ z, y.drop j = z := ⟨_, rfl⟩
      rw [hzd, hz] at hs
      simp only [dj, map_getD h0l, h0l, e0, dt, WinS.pv, WinS.vals, List.map_cons, List.map_nil, List.length_map, Int.toNat_zero, Int.le_refl, AW, reduceAdd, reduceCtorEq, reduceEqDiff, ↓reduceIte, reduceLT, reduceLeDiff, reduceSub, reducePow, reduceMul, reduceToNat, reduceLE, reduceEq, Int.reduceLT, Int.reduceBEq, Int.reduceBNe]
      (first | (refine drawnK rfl ?_; (try simp only [AW, reduceAdd, reduceCtorEq, reduceEqDiff, ↓reduceIte, reduceLT, reduceLeDiff, reduceSub, reducePow, reduceMul, reduceToNat, reduceLE, reduceEq, Int.reduceLT, Int.reduceBEq, Int.reduceBNe])) | rfl | skip)
      have lz : z.length ≤ y.length := by rw [← hz, List.length_drop]; omega
      simp only [hz]
      refine run_loop (ι := Nat) (fun i => ⟨[(7, .sl (z.map WinS.pv)), (9, .own 18 0), (11, .ptr 22 0), (12, .sc (.int .i64 (hsK (ou, f) z i).2)), (25, .sl (X.map WinS.pv)), (26, .sc (.int .i64 (X.length : Int))), (27, .sc (.int .i64 (k : Int))), (47, .sl (z.map WinS.pv)), (48, .sc (.int .i64 (z.length : Int))), (49, .sc (.int .i64 (i : Int)))], [(18, .row 48 2 0 ((hsK (ou, f) z i).1.map WinS.pv)), (22, .var [.sc (.int .i64 f), .sc (.int .i64 t)])], 42, 87⟩) (fun i => i ≤ z.length ∧ holeU t z (ou, f) = holeU t (z.drop i) (hsK (ou, f) z i)) (fun i => z.length - i) 42 (fun _ => rfl) 0 (by simp only [LW, Nat.reduceMod, Nat.reduceDiv, Int.natCast_zero, hsK, List.take_zero, List.foldl_nil, List.length_map, List.drop_zero, AW, reduceAdd, reduceCtorEq, reduceEqDiff, ↓reduceIte, reduceLT, reduceLeDiff, reduceSub, reducePow, reduceMul, reduceToNat, reduceLE, reduceEq, Int.reduceLT, Int.reduceBEq, Int.reduceBNe]) ⟨Nat.zero_le _, by rw [List.drop_zero]; rfl⟩ (fun i hi => ?_)
      obtain ⟨hi, hih⟩ := hi
      have ln := hsK_len (ou, f) z i hi
      simp only at ln
      have lk : k * 1001 ≤ 1000 * 1001 := Nat.mul_le_mul_right _ (by omega)
      by_cases hiz : i < z.length
      rotate_left
      · have dz : decide ((i : Int) < (z.length : Int)) = false := by rw [decide_eq_false_iff_not]; omega
        have hend : holeU t z (ou, f) = hsK (ou, f) z i := by rw [hih, List.drop_eq_nil_of_le (by omega)]; rfl
        rw [hend] at hs
        unfold endU at hs
        generalize hsK (ou, f) z i = s at *
        have q1 : s.1.length + 1 ≤ maxLen := by unfold maxLen; omega
        have q2 : (s.1.length + 1) * 16 ≤ 140737488355328 := by omega
        simp only [dz, AW, reduceAdd, reduceCtorEq, reduceEqDiff, ↓reduceIte, reduceLT, reduceLeDiff, reduceSub, reducePow, reduceMul, reduceToNat, reduceLE, reduceEq, Int.reduceLT, Int.reduceBEq, Int.reduceBNe]
        cases hat : decide (s.2 < t)
        · rw [if_neg (of_decide_eq_false hat)] at hs
          simp only [wk, AW, reduceAdd, reduceCtorEq, reduceEqDiff, ↓reduceIte, reduceLT, reduceLeDiff, reduceSub, reducePow, reduceMul, reduceToNat, reduceLE, reduceEq, Int.reduceLT, Int.reduceBEq, Int.reduceBNe]
          refine ⟨k + 1, hltk, ?_, meas_lt0 hltk⟩
          simp only [LW, Nat.reduceMod, Nat.reduceDiv, hs, AW, reduceAdd, reduceCtorEq, reduceEqDiff, ↓reduceIte, reduceLT, reduceLeDiff, reduceSub, reducePow, reduceMul, reduceToNat, reduceLE, reduceEq, Int.reduceLT, Int.reduceBEq, Int.reduceBNe]
        · rw [if_pos (of_decide_eq_true hat)] at hs
          simp only [q1, q2, List.length_map, AW, reduceAdd, reduceCtorEq, reduceEqDiff, ↓reduceIte, reduceLT, reduceLeDiff, reduceSub, reducePow, reduceMul, reduceToNat, reduceLE, reduceEq, Int.reduceLT, Int.reduceBEq, Int.reduceBNe]
          (first | (refine drawnK rfl ?_; (try simp only [AW, reduceAdd, reduceCtorEq, reduceEqDiff, ↓reduceIte, reduceLT, reduceLeDiff, reduceSub, reducePow, reduceMul, reduceToNat, reduceLE, reduceEq, Int.reduceLT, Int.reduceBEq, Int.reduceBNe])) | rfl | skip)
          (try simp only [wk, AW, reduceAdd, reduceCtorEq, reduceEqDiff, ↓reduceIte, reduceLT, reduceLeDiff, reduceSub, reducePow, reduceMul, reduceToNat, reduceLE, reduceEq, Int.reduceLT, Int.reduceBEq, Int.reduceBNe])
          refine ⟨k + 1, hltk, ?_, meas_lt0 hltk⟩
          simp only [LW, Nat.reduceMod, Nat.reduceDiv, hs, List.map_append, WinS.pv, WinS.vals, List.map_cons, List.map_nil, AW, reduceAdd, reduceCtorEq, reduceEqDiff, ↓reduceIte, reduceLT, reduceLeDiff, reduceSub, reducePow, reduceMul, reduceToNat, reduceLE, reduceEq, Int.reduceLT, Int.reduceBEq, Int.reduceBNe]
      have dz : decide ((i : Int) < (z.length : Int)) = true := by rw [decide_eq_true_eq]; omega
      by_cases hb3 : t ≤ z[i].from_
      · have db3 : decide (t ≤ z[i].from_) = true := decide_eq_true hb3
        have hend : holeU t z (ou, f) = hsK (ou, f) z i := by rw [hih, List.drop_eq_getElem_cons hiz, holeU, if_pos hb3]
        rw [hend] at hs
        unfold endU at hs
        generalize hsK (ou, f) z i = s at *
        have q1 : s.1.length + 1 ≤ maxLen := by unfold maxLen; omega
        have q2 : (s.1.length + 1) * 16 ≤ 140737488355328 := by omega
        simp only [dz, map_getD hiz, hiz, WinS.pv, WinS.vals, List.map_cons, List.map_nil, db3, List.length_map, AW, reduceAdd, reduceCtorEq, reduceEqDiff, ↓reduceIte, reduceLT, reduceLeDiff, reduceSub, reducePow, reduceMul, reduceToNat, reduceLE, reduceEq, Int.reduceLT, Int.reduceBEq, Int.reduceBNe]
        cases hat : decide (s.2 < t)
        · rw [if_neg (of_decide_eq_false hat)] at hs
          simp only [wk, AW, reduceAdd, reduceCtorEq, reduceEqDiff, ↓reduceIte, reduceLT, reduceLeDiff, reduceSub, reducePow, reduceMul, reduceToNat, reduceLE, reduceEq, Int.reduceLT, Int.reduceBEq, Int.reduceBNe]
          refine ⟨k + 1, hltk, ?_, meas_lt0 hltk⟩
          simp only [LW, Nat.reduceMod, Nat.reduceDiv, hs, AW, reduceAdd, reduceCtorEq, reduceEqDiff, ↓reduceIte, reduceLT, reduceLeDiff, reduceSub, reducePow, reduceMul, reduceToNat, reduceLE, reduceEq, Int.reduceLT, Int.reduceBEq, Int.reduceBNe]
        · rw [if_pos (of_decide_eq_true hat)] at hs
          simp only [q1, q2, List.length_map, AW, reduceAdd, reduceCtorEq, reduceEqDiff, ↓reduceIte, reduceLT, reduceLeDiff, reduceSub, reducePow, reduceMul, reduceToNat, reduceLE, reduceEq, Int.reduceLT, Int.reduceBEq, Int.reduceBNe]
          (first | (refine drawnK rfl ?_; (try simp only [AW, reduceAdd, reduceCtorEq, reduceEqDiff, ↓reduceIte, reduceLT, reduceLeDiff, reduceSub, reducePow, reduceMul, reduceToNat, reduceLE, reduceEq, Int.reduceLT, Int.reduceBEq, Int.reduceBNe])) | rfl | skip)
          (try simp only [wk, AW, reduceAdd, reduceCtorEq, reduceEqDiff, ↓reduceIte, reduceLT, reduceLeDiff, reduceSub, reducePow, reduceMul, reduceToNat, reduceLE, reduceEq, Int.reduceLT, Int.reduceBEq, Int.reduceBNe])
          refine ⟨k + 1, hltk, ?_, meas_lt0 hltk⟩
          simp only [LW, Nat.reduceMod, Nat.reduceDiv, hs, List.map_append, WinS.pv, WinS.vals, List.map_cons, List.map_nil, AW, reduceAdd, reduceCtorEq, reduceEqDiff, ↓reduceIte, reduceLT, reduceLeDiff, reduceSub, reducePow, reduceMul, reduceToNat, reduceLE, reduceEq, Int.reduceLT, Int.reduceBEq, Int.reduceBNe]
      have db3 : decide (t ≤ z[i].from_) = false := decide_eq_false hb3
      have hnx := holeU_next (s := (ou, f)) hiz hb3
      have hsu := hsK_succ (s := (ou, f)) hiz
      unfold stepH at hsu
      have wi := wrap_succ hiz (show z.length ≤ maxLen by unfold maxLen; omega)
      have hih2 := hih.trans hnx
      generalize hsK (ou, f) z i = s at *
      have q1 : s.1.length + 1 ≤ maxLen := by unfold maxLen; omega
      have q2 : (s.1.length + 1) * 16 ≤ 140737488355328 := by omega
      simp only [dz, map_getD hiz, hiz, WinS.pv, WinS.vals, List.map_cons, List.map_nil, db3, List.length_map, AW, reduceAdd, reduceCtorEq, reduceEqDiff, ↓reduceIte, reduceLT, reduceLeDiff, reduceSub, reducePow, reduceMul, reduceToNat, reduceLE, reduceEq, Int.reduceLT, Int.reduceBEq, Int.reduceBNe]
      cases hat : decide (s.2 < z[i].from_)
      · rw [if_neg (of_decide_eq_false hat)] at hsu
        simp only [mx_eq, wi, AW, reduceAdd, reduceCtorEq, reduceEqDiff, ↓reduceIte, reduceLT, reduceLeDiff, reduceSub, reducePow, reduceMul, reduceToNat, reduceLE, reduceEq, Int.reduceLT, Int.reduceBEq, Int.reduceBNe]
        refine ⟨i + 1, ⟨hiz, hih2⟩, ?_, meas_lt0 hiz⟩
        simp only [LW, Nat.reduceMod, Nat.reduceDiv, hsu, AW, reduceAdd, reduceCtorEq, reduceEqDiff, ↓reduceIte, reduceLT, reduceLeDiff, reduceSub, reducePow, reduceMul, reduceToNat, reduceLE, reduceEq, Int.reduceLT, Int.reduceBEq, Int.reduceBNe]
      · rw [if_pos (of_decide_eq_true hat)] at hsu
        simp only [q1, q2, List.length_map, AW, reduceAdd, reduceCtorEq, reduceEqDiff, ↓reduceIte, reduceLT, reduceLeDiff, reduceSub, reducePow, reduceMul, reduceToNat, reduceLE, reduceEq, Int.reduceLT, Int.reduceBEq, Int.reduceBNe]
        (first | (refine drawnK rfl ?_; (try simp only [AW, reduceAdd, reduceCtorEq, reduceEqDiff, ↓reduceIte, reduceLT, reduceLeDiff, reduceSub, reducePow, reduceMul, reduceToNat, reduceLE, reduceEq, Int.reduceLT, Int.reduceBEq, Int.reduceBNe])) | rfl | skip)
        (try simp only [mx_eq, wi, AW, reduceAdd, reduceCtorEq, reduceEqDiff, ↓reduceIte, reduceLT, reduceLeDiff, reduceSub, reducePow, reduceMul, reduceToNat, reduceLE, reduceEq, Int.reduceLT, Int.reduceBEq, Int.reduceBNe])
        refine ⟨i + 1, ⟨hiz, hih2⟩, ?_, meas_lt0 hiz⟩
        simp only [LW, Nat.reduceMod, Nat.reduceDiv, hsu, List.map_append, WinS.pv, WinS.vals, List.map_cons, List.map_nil, AW, reduceAdd, reduceCtorEq, reduceEqDiff, ↓reduceIte, reduceLT, reduceLeDiff, reduceSub, reducePow, reduceMul, reduceToNat, reduceLE, reduceEq, Int.reduceLT, Int.reduceBEq, Int.reduceBNe]
  · have dj : decide ((0 : Int) < (((y.drop j).length : Nat) : Int)) = false := by rw [decide_eq_false_iff_not]; omega
    have hzd : dropU f y = y.drop j := by rw [← hjd, List.drop_eq_nil_of_le (by omega)]; rfl
    obtain ⟨z, hz⟩ : ∃ z, y.drop j = z := ⟨_, rfl⟩
    rw [hzd, hz] at hs
    simp only [dj, List.length_map, AW, reduceAdd, reduceCtorEq, reduceEqDiff, ↓reduceIte, reduceLT, reduceLeDiff, reduceSub, reducePow, reduceMul, reduceToNat, reduceLE, reduceEq, Int.reduceLT, Int.reduceBEq, Int.reduceBNe]
    (first | (refine drawnK rfl ?_; (try simp only [AW, reduceAdd, reduceCtorEq, reduceEqDiff, ↓reduceIte, reduceLT, reduceLeDiff, reduceSub, reducePow, reduceMul, reduceToNat, reduceLE, reduceEq, Int.reduceLT, Int.reduceBEq, Int.reduceBNe])) | rfl | skip)
    have lz : z.length ≤ y.length := by rw [← hz, List.length_drop]; omega
    simp only [hz]
    refine run_loop (ι := Nat) (fun i => ⟨[(7, .sl (z.map WinS.pv)), (9, .own 18 0), (11, .ptr 22 0), (12, .sc (.int .i64 (hsK (ou, f) z i).2)), (25, .sl (X.map WinS.pv)), (26, .sc (.int .i64 (X.length : Int))), (27, .sc (.int .i64 (k : Int))), (47, .sl (z.map WinS.pv)), (48, .sc (.int .i64 (z.length : Int))), (49, .sc (.int .i64 (i : Int)))], [(18, .row 48 2 0 ((hsK (ou, f) z i).1.map WinS.pv)), (22, .var [.sc (.int .i64 f), .sc (.int .i64 t)])], 42, 87⟩) (fun i => i ≤ z.length ∧ holeU t z (ou, f) = holeU t (z.drop i) (hsK (ou, f) z i)) (fun i => z.length - i) 42 (fun _ => rfl) 0 (by simp only [LW, Nat.reduceMod, Nat.reduceDiv, Int.natCast_zero, hsK, List.take_zero, List.foldl_nil, List.length_map, List.drop_zero, AW, reduceAdd, reduceCtorEq, reduceEqDiff, ↓reduceIte, reduceLT, reduceLeDiff, reduceSub, reducePow, reduceMul, reduceToNat, reduceLE, reduceEq, Int.reduceLT, Int.reduceBEq, Int.reduceBNe]) ⟨Nat.zero_le _, by rw [List.drop_zero]; rfl⟩ (fun i hi => ?_)
    obtain ⟨hi, hih⟩ := hi
    have ln := hsK_len (ou, f) z i hi
    simp only at ln
    have lk : k * 1001 ≤ 1000 * 1001 := Nat.mul_le_mul_right _ (by omega)
    by_cases hiz : i < z.length
    rotate_left
    · have dz : decide ((i : Int) < (z.length : Int)) = false := by rw [decide_eq_false_iff_not]; omega
      have hend : holeU t z (ou, f) = hsK (ou, f) z i := by rw [hih, List.drop_eq_nil_of_le (by omega)]; rfl
      rw [hend] at hs
      unfold endU at hs
      generalize hsK (ou, f) z i = s at *
      have q1 : s.1.length + 1 ≤ maxLen := by unfold maxLen; omega
      have q2 : (s.1.length + 1) * 16 ≤ 140737488355328 := by omega
      simp only [dz, AW, reduceAdd, reduceCtorEq, reduceEqDiff, ↓reduceIte, reduceLT, reduceLeDiff, reduceSub, reducePow, reduceMul, reduceToNat, reduceLE, reduceEq, Int.reduceLT, Int.reduceBEq, Int.reduceBNe]
      cases hat : decide (s.2 < t)
      · rw [if_neg (of_decide_eq_false hat)] at hs
        simp only [wk, AW, reduceAdd, reduceCtorEq, reduceEqDiff, ↓reduceIte, reduceLT, reduceLeDiff, reduceSub, reducePow, reduceMul, reduceToNat, reduceLE, reduceEq, Int.reduceLT, Int.reduceBEq, Int.reduceBNe]
        refine ⟨k + 1, hltk, ?_, meas_lt0 hltk⟩
        simp only [LW, Nat.reduceMod, Nat.reduceDiv, hs, AW, reduceAdd, reduceCtorEq, reduceEqDiff, ↓reduceIte, reduceLT, reduceLeDiff, reduceSub, reducePow, reduceMul, reduceToNat, reduceLE, reduceEq, Int.reduceLT, Int.reduceBEq, Int.reduceBNe]
      · rw [if_pos (of_decide_eq_true hat)] at hs
        simp only [q1, q2, List.length_map, AW, reduceAdd, reduceCtorEq, reduceEqDiff, ↓reduceIte, reduceLT, reduceLeDiff, reduceSub, reducePow, reduceMul, reduceToNat, reduceLE, reduceEq, Int.reduceLT, Int.reduceBEq, Int.reduceBNe]
        (first | (refine drawnK rfl ?_; (try simp only [AW, reduceAdd, reduceCtorEq, reduceEqDiff, ↓reduceIte, reduceLT, reduceLeDiff, reduceSub, reducePow, reduceMul, reduceToNat, reduceLE, reduceEq, Int.reduceLT, Int.reduceBEq, Int.reduceBNe])) | rfl | skip)
        (try simp only [wk, AW, reduceAdd, reduceCtorEq, reduceEqDiff, ↓reduceIte, reduceLT, reduceLeDiff, reduceSub, reducePow, reduceMul, reduceToNat, reduceLE, reduceEq, Int.reduceLT, Int.reduceBEq, Int.reduceBNe])
        refine ⟨k + 1, hltk, ?_, meas_lt0 hltk⟩
        simp only [LW, Nat.reduceMod, Nat.reduceDiv, hs, List.map_append, WinS.pv, WinS.vals, List.map_cons, List.map_nil, AW, reduceAdd, reduceCtorEq, reduceEqDiff, ↓reduceIte, reduceLT, reduceLeDiff, reduceSub, reducePow, reduceMul, reduceToNat, reduceLE, reduceEq, Int.reduceLT, Int.reduceBEq, Int.reduceBNe]
    have dz : decide ((i : Int) < (z.length : Int)) = true := by rw [decide_eq_true_eq]; omega
    by_cases hb3 : t ≤ z[i].from_
    · have db3 : decide (t ≤ z[i].from_) = true := decide_eq_true hb3
      have hend : holeU t z (ou, f) = hsK (ou, f) z i := by rw [hih, List.drop_eq_getElem_cons hiz, holeU, if_pos hb3]
      rw [hend] at hs
      unfold endU at hs
      generalize hsK (ou, f) z i = s at *
      have q1 : s.1.length + 1 ≤ maxLen := by unfold maxLen; omega
      have q2 : (s.1.length + 1) * 16 ≤ 140737488355328 := by omega
      simp only [dz, map_getD hiz, hiz, WinS.pv, WinS.vals, List.map_cons, List.map_nil, db3, List.length_map, AW, reduceAdd, reduceCtorEq, reduceEqDiff, ↓reduceIte, reduceLT, reduceLeDiff, reduceSub, reducePow, reduceMul, reduceToNat, reduceLE, reduceEq, Int.reduceLT, Int.reduceBEq, Int.reduceBNe]
      cases hat : decide (s.2 < t)
      · rw [if_neg (of_decide_eq_false hat)] at hs
        simp only [wk, AW, reduceAdd, reduceCtorEq, reduceEqDiff, ↓reduceIte, reduceLT, reduceLeDiff, reduceSub, reducePow, reduceMul, reduceToNat, reduceLE, reduceEq, Int.reduceLT, Int.reduceBEq, Int.reduceBNe]
        refine ⟨k + 1, hltk, ?_, meas_lt0 hltk⟩
        simp only [LW, Nat.reduceMod, Nat.reduceDiv, hs, AW, reduceAdd, reduceCtorEq, reduceEqDiff, ↓reduceIte, reduceLT, reduceLeDiff, reduceSub, reducePow, reduceMul, reduceToNat, reduceLE, reduceEq, Int.reduceLT, Int.reduceBEq, Int.reduceBNe]
      · rw [if_pos (of_decide_eq_true hat)] at hs
        simp only [q1, q2, List.length_map, AW, reduceAdd, reduceCtorEq, reduceEqDiff, ↓reduceIte, reduceLT, reduceLeDiff, reduceSub, reducePow, reduceMul, reduceToNat, reduceLE, reduceEq, Int.reduceLT, Int.reduceBEq, Int.reduceBNe]
        (first | (refine drawnK rfl ?_; (try simp only [AW, reduceAdd, reduceCtorEq, reduceEqDiff, ↓reduceIte, reduceLT, reduceLeDiff, reduceSub, reducePow, reduceMul, reduceToNat, reduceLE, reduceEq, Int.reduceLT, Int.reduceBEq, Int.reduceBNe])) | rfl | skip)
        (try simp only [wk, AW, reduceAdd, reduceCtorEq, reduceEqDiff, ↓reduceIte, reduceLT, reduceLeDiff, reduceSub, reducePow, reduceMul, reduceToNat, reduceLE, reduceEq, Int.reduceLT, Int.reduceBEq, Int.reduceBNe])
        refine ⟨k + 1, hltk, ?_, meas_lt0 hltk⟩
        simp only [LW, Nat.reduceMod, Nat.reduceDiv, hs, List.map_append, WinS.pv, WinS.vals, List.map_cons, List.map_nil, AW, reduceAdd, reduceCtorEq, reduceEqDiff, ↓reduceIte, reduceLT, reduceLeDiff, reduceSub, reducePow, reduceMul, reduceToNat, reduceLE, reduceEq, Int.reduceLT, Int.reduceBEq, Int.reduceBNe]
    have db3 : decide (t ≤ z[i].from_) = false := decide_eq_false hb3
    have hnx := holeU_next (s := (ou, f)) hiz hb3
    have hsu := hsK_succ (s := (ou, f)) hiz
    unfold stepH at hsu
    have wi := wrap_succ hiz (show z.length ≤ maxLen by unfold maxLen; omega)
    have hih2 := hih.trans hnx
    generalize hsK (ou, f) z i = s at *
    have q1 : s.1.length + 1 ≤ maxLen := by unfold maxLen; omega
    have q2 : (s.1.length + 1) * 16 ≤ 140737488355328 := by omega
    simp only [dz, map_getD hiz, hiz, WinS.pv, WinS.vals, List.map_cons, List.map_nil, db3, List.length_map, AW, reduceAdd, reduceCtorEq, reduceEqDiff, ↓reduceIte, reduceLT, reduceLeDiff, reduceSub, reducePow, reduceMul, reduceToNat, reduceLE, reduceEq, Int.reduceLT, Int.reduceBEq, Int.reduceBNe]
    cases hat : decide (s.2 < z[i].from_)
    · rw [if_neg (of_decide_eq_false hat)] at hsu
      simp only [mx_eq, wi, AW, reduceAdd, reduceCtorEq, reduceEqDiff, ↓reduceIte, reduceLT, reduceLeDiff, reduceSub, reducePow, reduceMul, reduceToNat, reduceLE, reduceEq, Int.reduceLT, Int.reduceBEq, Int.reduceBNe]
      refine ⟨i + 1, ⟨hiz, hih2⟩, ?_, meas_lt0 hiz⟩
      simp only [LW, Nat.reduceMod, Nat.reduceDiv, hsu, AW, reduceAdd, reduceCtorEq, reduceEqDiff, ↓reduceIte, reduceLT, reduceLeDiff, reduceSub, reducePow, reduceMul, reduceToNat, reduceLE, reduceEq, Int.reduceLT, Int.reduceBEq, Int.reduceBNe]
    · rw [if_pos (of_decide_eq_true hat)] at hsu
      simp only [q1, q2, List.length_map, AW, reduceAdd, reduceCtorEq, reduceEqDiff, ↓reduceIte, reduceLT, reduceLeDiff, reduceSub, reducePow, reduceMul, reduceToNat, reduceLE, reduceEq, Int.reduceLT, Int.reduceBEq, Int.reduceBNe]
      (first | (refine drawnK rfl ?_; (try simp only [AW, reduceAdd, reduceCtorEq, reduceEqDiff, ↓reduceIte, reduceLT, reduceLeDiff, reduceSub, reducePow, reduceMul, reduceToNat, reduceLE, reduceEq, Int.reduceLT, Int.reduceBEq, Int.reduceBNe])) | rfl | skip)
      (try simp only [mx_eq, wi, AW, reduceAdd, reduceCtorEq, reduceEqDiff, ↓reduceIte, reduceLT, reduceLeDiff, reduceSub, reducePow, reduceMul, reduceToNat, reduceLE, reduceEq, Int.reduceLT, Int.reduceBEq, Int.reduceBNe])
      refine ⟨i + 1, ⟨hiz, hih2⟩, ?_, meas_lt0 hiz⟩
      simp only [LW, Nat.reduceMod, Nat.reduceDiv, hsu, List.map_append, WinS.pv, WinS.vals, List.map_cons, List.map_nil, AW, reduceAdd, reduceCtorEq, reduceEqDiff, ↓reduceIte, reduceLT, reduceLeDiff, reduceSub, reducePow, reduceMul, reduceToNat, reduceLE, reduceEq, Int.reduceLT, Int.reduceBEq, Int.reduceBNe]


end Go.Proofs.Ythgnbkcopapbmaa
