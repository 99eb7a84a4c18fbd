/-
  Operators: who runs a bicycle; contracts after a takeover, walked.
-/
import Derived.Test.YthekbdjklmellaaO2
namespace Go.Proofs.Ythekbdjklmellaa
open Go.RowKit
open Nat (reduceAdd reduceEqDiff reduceLT reduceLeDiff reduceSub reducePow reduceMul)
open Int (reduceToNat reduceLE reduceEq)
set_option linter.unusedVariables false
set_option linter.unusedSimpArgs false
set_option linter.unnecessarySimpa false

def rangeC (to share t : Int) : Bool := decide (to < 0) || decide (8 ≤ to) || decide (share < 0) || decide (1000 < share) || decide (t < 0) || decide (4294943999 < t)
def baseC (l : List ContrS) (i : Nat) (c : ContrS) (t : Int) : List ContrS := l.take i ++ (if c.from_ = t then [] else [{ c with to_ := t }]) ++ l.drop (i + 1)
def nextC (b t to share : Int) (c : ContrS) : ContrS := ⟨to, b, t, c.to_, share⟩
def changeC (l : List ContrS) (b t to share : Int) : List ContrS × Int :=
  if checkC l ≠ 0 then ([], checkC l) else if rangeC to share t = true then ([], 1) else
  match l.findIdx? (holdB b t) with
  | none => ([], 7)
  | some i => match l[i]? with
    | none => ([], 7)
    | some c => if 512 ≤ (baseC l i c t).length then ([], 8) else (baseC l i c t ++ [nextC b t to share c], 0)
def csP (l : List ContrS) : PV := .sl (l.map ContrS.pv)
def changeP (l : List ContrS) (b t to share : Int) : PV := .tup [csP (changeC l b t to share).1, intP (changeC l b t to share).2]
theorem check_len {l : List ContrS} (h : checkC l = 0) : l.length ≤ 512 := by
  unfold checkC at h
  by_cases h1 : 512 < l.length
  · rw [if_pos h1] at h; cases h
  · omega
theorem change_1 {l : List ContrS} {b t to share : Int} (h : checkC l ≠ 0) : changeC l b t to share = ([], checkC l) := by unfold changeC; rw [if_pos h]
theorem change_2 {l : List ContrS} {b t to share : Int} (h : checkC l = 0) (h2 : rangeC to share t = true) : changeC l b t to share = ([], 1) := by unfold changeC; rw [if_neg (by simp [h]), if_pos h2]
theorem change_3 {l : List ContrS} {b t to share : Int} (h : checkC l = 0) (h2 : rangeC to share t = false) (h3 : l.findIdx? (holdB b t) = none) : changeC l b t to share = ([], 7) := by unfold changeC; rw [if_neg (by simp [h]), if_neg (by simp [h2]), h3]
theorem change_4 {l : List ContrS} {b t to share : Int} {i : Nat} (hi : i < l.length) (h : checkC l = 0) (h2 : rangeC to share t = false) (h3 : l.findIdx? (holdB b t) = some i) : changeC l b t to share = if 512 ≤ (baseC l i l[i] t).length then ([], 8) else (baseC l i l[i] t ++ [nextC b t to share l[i]], 0) := by
  unfold changeC; rw [if_neg (by simp [h]), if_neg (by simp [h2]), h3]
  simp only [List.getElem?_eq_getElem hi]
theorem set_full {es qs : List PV} (h : qs.length = es.length) : setAt es 0 qs = qs := by
  rw [setAt_eq (by omega)]
  simp [h]
theorem contr_cells (l : List ContrS) : ((l.map ContrS.pv).all fun p => p.flat.length == 5 && p.flat.all PV.cellOk) = true := List.all_eq_true.2 (fun p hp => by obtain ⟨x, _, rfl⟩ := List.mem_map.1 hp; rfl)
theorem erase_copy {es : List PV} {i n : Nat} (hn : es.length = n) (hi : i < n) : (setAt es i (((es.drop (i + 1)).take (n - (i + 1))).take (n - i))).take (n - 1) = es.take i ++ es.drop (i + 1) := by
  have e1 : (es.drop (i + 1)).take (n - (i + 1)) = es.drop (i + 1) := List.take_of_length_le (by simp [hn])
  have e2 : (es.drop (i + 1)).take (n - i) = es.drop (i + 1) := List.take_of_length_le (by simp [hn]; omega)
  rw [e1, e2, setAt_eq (by simp; omega), List.take_append_of_le_length (by simp; omega), List.take_of_length_le (by simp; omega)]
theorem find_some {l : List ContrS} {b t : Int} {i : Nat} (h : l.findIdx? (holdB b t) = some i) : ∃ hi : i < l.length, holdB b t l[i] = true ∧ findC l b t = (i : Int) := by
  obtain ⟨hi, h2, h3⟩ := List.findIdx?_eq_some_iff_getElem.1 h
  exact ⟨hi, h2, by unfold findC; rw [h]⟩
theorem base_erase {l : List ContrS} {i : Nat} {c : ContrS} {t : Int} (h : c.from_ = t) : baseC l i c t = l.take i ++ l.drop (i + 1) := by unfold baseC; rw [if_pos h, List.append_nil]
theorem base_set {l : List ContrS} {i : Nat} {c : ContrS} {t : Int} (h : c.from_ ≠ t) : baseC l i c t = l.take i ++ { c with to_ := t } :: l.drop (i + 1) := by unfold baseC; rw [if_neg h, List.append_assoc]; rfl
def ofP (l : List ContrS) (b t : Int) : PV := match l.find? (holdB b t) with
  | some c => .tup [intP c.op, .sc (.bool true)]
  | none => .tup [intP 0, .sc (.bool false)]

set_option maxHeartbeats 1000000 in
theorem of57_g (l : List ContrS) (b t : Int) : Good Try.prog 12 [csP l, intP b, intP t] (ofP l b t) := by
  refine good12 (by simp) ?_
  simp only [ac12, csP, intP, AW, reduceAdd, reduceCtorEq, reduceEqDiff, ↓reduceIte, reduceLT, reduceLeDiff, reduceSub, reducePow, reduceMul, reduceToNat, reduceLE, reduceEq, Int.reduceLT, Int.reduceBEq, Int.reduceBNe]
  refine ops_call (find_g l b t) (by simp only [intP, AW, reduceAdd, reduceCtorEq, reduceEqDiff, ↓reduceIte, reduceLT, reduceLeDiff, reduceSub, reducePow, reduceMul, reduceToNat, reduceLE, reduceEq, Int.reduceLT, Int.reduceBEq, Int.reduceBNe]) ?_; simp only [intP, AW, reduceAdd, reduceCtorEq, reduceEqDiff, ↓reduceIte, reduceLT, reduceLeDiff, reduceSub, reducePow, reduceMul, reduceToNat, reduceLE, reduceEq, Int.reduceLT, Int.reduceBEq, Int.reduceBNe]
  cases hf : l.findIdx? (holdB b t) with
  | none =>
    have e : findC l b t = -1 := by unfold findC; rw [hf]
    have e2 : l.find? (holdB b t) = none := by rw [List.find?_eq_none]; rw [List.findIdx?_eq_none_iff] at hf; intro x hx; simp [hf x hx]
    have d : decide ((-1 : Int) < 0) = true := rfl
    simp only [e, d, ofP, e2, intP, AW, reduceAdd, reduceCtorEq, reduceEqDiff, ↓reduceIte, reduceLT, reduceLeDiff, reduceSub, reducePow, reduceMul, reduceToNat, reduceLE, reduceEq, Int.reduceLT, Int.reduceBEq, Int.reduceBNe]
  | some i =>
    obtain ⟨hi, h2, e⟩ := find_some hf
    have e2 : l.find? (holdB b t) = some l[i] := by
      rw [List.find?_eq_some_iff_getElem]
      obtain ⟨_, _, h3⟩ := List.findIdx?_eq_some_iff_getElem.1 hf
      exact ⟨h2, i, hi, rfl, fun j hj => by simpa using h3 j hj⟩
    have d : decide ((i : Int) < 0) = false := by rw [decide_eq_false_iff_not]; omega
    simp only [e, d, ofP, e2, intP, List.length_map, hi, map_getD hi, ContrS.pv, ContrS.vals, List.map_cons, List.map_nil, AW, reduceAdd, reduceCtorEq, reduceEqDiff, ↓reduceIte, reduceLT, reduceLeDiff, reduceSub, reducePow, reduceMul, reduceToNat, reduceLE, reduceEq, Int.reduceLT, Int.reduceBEq, Int.reduceBNe]
    (try refine drawnK rfl ?_); (try simp only [AW, reduceAdd, reduceCtorEq, reduceEqDiff, ↓reduceIte, reduceLT, reduceLeDiff, reduceSub, reducePow, reduceMul, reduceToNat, reduceLE, reduceEq, Int.reduceLT, Int.reduceBEq, Int.reduceBNe])

set_option maxHeartbeats 1000000 in
theorem qof57_g (l : List ContrS) (b t : Int) : Good Try.prog 13 [csP l, intP b, intP t] (ofP l b t) := by
  refine good13 (by simp) ?_
  simp only [ac13, csP, intP, AW, reduceAdd, reduceCtorEq, reduceEqDiff, ↓reduceIte, reduceLT, reduceLeDiff, reduceSub, reducePow, reduceMul, reduceToNat, reduceLE, reduceEq, Int.reduceLT, Int.reduceBEq, Int.reduceBNe]
  refine ops_call (at_g l b t) (by simp only [intP, AW, reduceAdd, reduceCtorEq, reduceEqDiff, ↓reduceIte, reduceLT, reduceLeDiff, reduceSub, reducePow, reduceMul, reduceToNat, reduceLE, reduceEq, Int.reduceLT, Int.reduceBEq, Int.reduceBNe]) ?_; simp only [intP, AW, reduceAdd, reduceCtorEq, reduceEqDiff, ↓reduceIte, reduceLT, reduceLeDiff, reduceSub, reducePow, reduceMul, reduceToNat, reduceLE, reduceEq, Int.reduceLT, Int.reduceBEq, Int.reduceBNe]
  cases hf : l.findIdx? (holdB b t) with
  | none =>
    have e : findC l b t = -1 := by unfold findC; rw [hf]
    have e2 : l.find? (holdB b t) = none := by rw [List.find?_eq_none]; rw [List.findIdx?_eq_none_iff] at hf; intro x hx; simp [hf x hx]
    have d : decide ((-1 : Int) < 0) = true := rfl
    simp only [e, d, ofP, e2, intP, AW, reduceAdd, reduceCtorEq, reduceEqDiff, ↓reduceIte, reduceLT, reduceLeDiff, reduceSub, reducePow, reduceMul, reduceToNat, reduceLE, reduceEq, Int.reduceLT, Int.reduceBEq, Int.reduceBNe]
  | some i =>
    obtain ⟨hi, h2, e⟩ := find_some hf
    have e2 : l.find? (holdB b t) = some l[i] := by
      rw [List.find?_eq_some_iff_getElem]
      obtain ⟨_, _, h3⟩ := List.findIdx?_eq_some_iff_getElem.1 hf
      exact ⟨h2, i, hi, rfl, fun j hj => by simpa using h3 j hj⟩
    have d : decide ((i : Int) < 0) = false := by rw [decide_eq_false_iff_not]; omega
    simp only [e, d, ofP, e2, intP, List.length_map, hi, map_getD hi, ContrS.pv, ContrS.vals, List.map_cons, List.map_nil, AW, reduceAdd, reduceCtorEq, reduceEqDiff, ↓reduceIte, reduceLT, reduceLeDiff, reduceSub, reducePow, reduceMul, reduceToNat, reduceLE, reduceEq, Int.reduceLT, Int.reduceBEq, Int.reduceBNe]
    (try refine drawnK rfl ?_); (try simp only [AW, reduceAdd, reduceCtorEq, reduceEqDiff, ↓reduceIte, reduceLT, reduceLeDiff, reduceSub, reducePow, reduceMul, reduceToNat, reduceLE, reduceEq, Int.reduceLT, Int.reduceBEq, Int.reduceBNe])
set_option maxHeartbeats 8000000 in
theorem change_g (l : List ContrS) (b t to share : Int) : Good Try.prog 16 [csP l, intP b, intP t, intP to, intP share] (changeP l b t to share) := by
  refine good16 (by simp) ?_
  simp only [ac16, csP, intP, AW, reduceAdd, reduceCtorEq, reduceEqDiff, ↓reduceIte, reduceLT, reduceLeDiff, reduceSub, reducePow, reduceMul, reduceToNat, reduceLE, reduceEq, Int.reduceLT, Int.reduceBEq, Int.reduceBNe]
  refine ops_call (ccheck_g l) (by simp only [intP, AW, reduceAdd, reduceCtorEq, reduceEqDiff, ↓reduceIte, reduceLT, reduceLeDiff, reduceSub, reducePow, reduceMul, reduceToNat, reduceLE, reduceEq, Int.reduceLT, Int.reduceBEq, Int.reduceBNe]) ?_; simp only [intP, AW, reduceAdd, reduceCtorEq, reduceEqDiff, ↓reduceIte, reduceLT, reduceLeDiff, reduceSub, reducePow, reduceMul, reduceToNat, reduceLE, reduceEq, Int.reduceLT, Int.reduceBEq, Int.reduceBNe]
  cases h0 : (checkC l != 0)
  rotate_left
  · simp only [changeP, change_1 (by simpa using h0), csP, intP, List.map_nil, AW, reduceAdd, reduceCtorEq, reduceEqDiff, ↓reduceIte, reduceLT, reduceLeDiff, reduceSub, reducePow, reduceMul, reduceToNat, reduceLE, reduceEq, Int.reduceLT, Int.reduceBEq, Int.reduceBNe]
  have h0 : checkC l = 0 := by simpa using h0
  have h512 := check_len h0
  simp only [AW, reduceAdd, reduceCtorEq, reduceEqDiff, ↓reduceIte, reduceLT, reduceLeDiff, reduceSub, reducePow, reduceMul, reduceToNat, reduceLE, reduceEq, Int.reduceLT, Int.reduceBEq, Int.reduceBNe]
  cases h1 : decide (to < 0)
  rotate_left
  · have hr : rangeC to share t = true := by
      unfold rangeC; simp only [h1, Bool.true_or, Bool.or_true, Bool.false_or]
    simp only [changeP, change_2 h0 hr, csP, intP, List.map_nil, AW, reduceAdd, reduceCtorEq, reduceEqDiff, ↓reduceIte, reduceLT, reduceLeDiff, reduceSub, reducePow, reduceMul, reduceToNat, reduceLE, reduceEq, Int.reduceLT, Int.reduceBEq, Int.reduceBNe]
  simp only [AW, reduceAdd, reduceCtorEq, reduceEqDiff, ↓reduceIte, reduceLT, reduceLeDiff, reduceSub, reducePow, reduceMul, reduceToNat, reduceLE, reduceEq, Int.reduceLT, Int.reduceBEq, Int.reduceBNe]
  cases h2 : decide (8 ≤ to)
  rotate_left
  · have hr : rangeC to share t = true := by
      unfold rangeC; simp only [h1, h2, Bool.true_or, Bool.or_true, Bool.false_or]
    simp only [changeP, change_2 h0 hr, csP, intP, List.map_nil, AW, reduceAdd, reduceCtorEq, reduceEqDiff, ↓reduceIte, reduceLT, reduceLeDiff, reduceSub, reducePow, reduceMul, reduceToNat, reduceLE, reduceEq, Int.reduceLT, Int.reduceBEq, Int.reduceBNe]
  simp only [AW, reduceAdd, reduceCtorEq, reduceEqDiff, ↓reduceIte, reduceLT, reduceLeDiff, reduceSub, reducePow, reduceMul, reduceToNat, reduceLE, reduceEq, Int.reduceLT, Int.reduceBEq, Int.reduceBNe]
  cases h3 : decide (share < 0)
  rotate_left
  · have hr : rangeC to share t = true := by
      unfold rangeC; simp only [h1, h2, h3, Bool.true_or, Bool.or_true, Bool.false_or]
    simp only [changeP, change_2 h0 hr, csP, intP, List.map_nil, AW, reduceAdd, reduceCtorEq, reduceEqDiff, ↓reduceIte, reduceLT, reduceLeDiff, reduceSub, reducePow, reduceMul, reduceToNat, reduceLE, reduceEq, Int.reduceLT, Int.reduceBEq, Int.reduceBNe]
  simp only [AW, reduceAdd, reduceCtorEq, reduceEqDiff, ↓reduceIte, reduceLT, reduceLeDiff, reduceSub, reducePow, reduceMul, reduceToNat, reduceLE, reduceEq, Int.reduceLT, Int.reduceBEq, Int.reduceBNe]
  cases h4 : decide ((1000 : Int) < share)
  rotate_left
  · have hr : rangeC to share t = true := by
      unfold rangeC; simp only [h1, h2, h3, h4, Bool.true_or, Bool.or_true, Bool.false_or]
    simp only [changeP, change_2 h0 hr, csP, intP, List.map_nil, AW, reduceAdd, reduceCtorEq, reduceEqDiff, ↓reduceIte, reduceLT, reduceLeDiff, reduceSub, reducePow, reduceMul, reduceToNat, reduceLE, reduceEq, Int.reduceLT, Int.reduceBEq, Int.reduceBNe]
  simp only [AW, reduceAdd, reduceCtorEq, reduceEqDiff, ↓reduceIte, reduceLT, reduceLeDiff, reduceSub, reducePow, reduceMul, reduceToNat, reduceLE, reduceEq, Int.reduceLT, Int.reduceBEq, Int.reduceBNe]
  cases h5 : decide (t < 0)
  rotate_left
  · have hr : rangeC to share t = true := by
      unfold rangeC; simp only [h1, h2, h3, h4, h5, Bool.true_or, Bool.or_true, Bool.false_or]
    simp only [changeP, change_2 h0 hr, csP, intP, List.map_nil, AW, reduceAdd, reduceCtorEq, reduceEqDiff, ↓reduceIte, reduceLT, reduceLeDiff, reduceSub, reducePow, reduceMul, reduceToNat, reduceLE, reduceEq, Int.reduceLT, Int.reduceBEq, Int.reduceBNe]
  simp only [AW, reduceAdd, reduceCtorEq, reduceEqDiff, ↓reduceIte, reduceLT, reduceLeDiff, reduceSub, reducePow, reduceMul, reduceToNat, reduceLE, reduceEq, Int.reduceLT, Int.reduceBEq, Int.reduceBNe]
  cases h6 : decide ((4294943999 : Int) < t)
  rotate_left
  · have hr : rangeC to share t = true := by
      unfold rangeC; simp only [h1, h2, h3, h4, h5, h6, Bool.true_or, Bool.or_true, Bool.false_or]
    simp only [changeP, change_2 h0 hr, csP, intP, List.map_nil, AW, reduceAdd, reduceCtorEq, reduceEqDiff, ↓reduceIte, reduceLT, reduceLeDiff, reduceSub, reducePow, reduceMul, reduceToNat, reduceLE, reduceEq, Int.reduceLT, Int.reduceBEq, Int.reduceBNe]
  simp only [AW, reduceAdd, reduceCtorEq, reduceEqDiff, ↓reduceIte, reduceLT, reduceLeDiff, reduceSub, reducePow, reduceMul, reduceToNat, reduceLE, reduceEq, Int.reduceLT, Int.reduceBEq, Int.reduceBNe]
  have hr : rangeC to share t = false := by unfold rangeC; rw [h1, h2, h3, h4, h5, h6]; rfl
  refine ops_call (find_g l b t) (by simp only [intP, AW, reduceAdd, reduceCtorEq, reduceEqDiff, ↓reduceIte, reduceLT, reduceLeDiff, reduceSub, reducePow, reduceMul, reduceToNat, reduceLE, reduceEq, Int.reduceLT, Int.reduceBEq, Int.reduceBNe]) ?_; simp only [intP, AW, reduceAdd, reduceCtorEq, reduceEqDiff, ↓reduceIte, reduceLT, reduceLeDiff, reduceSub, reducePow, reduceMul, reduceToNat, reduceLE, reduceEq, Int.reduceLT, Int.reduceBEq, Int.reduceBNe]
  cases hf : l.findIdx? (holdB b t) with
  | none =>
    have e : findC l b t = -1 := by unfold findC; rw [hf]
    have d : decide ((-1 : Int) < 0) = true := rfl
    simp only [e, d, changeP, change_3 h0 hr hf, csP, intP, List.map_nil, AW, reduceAdd, reduceCtorEq, reduceEqDiff, ↓reduceIte, reduceLT, reduceLeDiff, reduceSub, reducePow, reduceMul, reduceToNat, reduceLE, reduceEq, Int.reduceLT, Int.reduceBEq, Int.reduceBNe]
  | some i =>
  obtain ⟨hi, hh, e⟩ := find_some hf
  have hch := change_4 (to := to) (share := share) hi h0 hr hf
  have d : decide ((i : Int) < 0) = false := by rw [decide_eq_false_iff_not]; omega
  have f0 : (0 : Int) ≤ (l.length : Int) := by omega
  have f2 : ((40 : Nat) : Int) * (l.length : Int) ≤ 281474976710656 := by omega
  have f3 : (l.length : Int) ≤ 9223372036854775807 := by omega
  have sf : ∀ z : PV, setAt (List.replicate l.length z) 0 ((l.map ContrS.pv).take l.length) = l.map ContrS.pv := by
    intro z
    have e : (l.map ContrS.pv).take l.length = l.map ContrS.pv := List.take_of_length_le (by simp)
    rw [e]; exact set_full (by simp)
  simp only [e, d, List.length_map, hi, map_getD hi, ContrS.pv, ContrS.vals, List.map_cons, List.map_nil, AW, reduceAdd, reduceCtorEq, reduceEqDiff, ↓reduceIte, reduceLT, reduceLeDiff, reduceSub, reducePow, reduceMul, reduceToNat, reduceLE, reduceEq, Int.reduceLT, Int.reduceBEq, Int.reduceBNe]
  (try refine drawnK rfl ?_); (try simp only [List.length_map, f0, f2, f3, contr_cells, List.length_replicate, sf, hi, map_getD hi, ContrS.pv, ContrS.vals, List.map_cons, List.map_nil, AW, reduceAdd, reduceCtorEq, reduceEqDiff, ↓reduceIte, reduceLT, reduceLeDiff, reduceSub, reducePow, reduceMul, reduceToNat, reduceLE, reduceEq, Int.reduceLT, Int.reduceBEq, Int.reduceBNe])
  have hx := map_getD (f := ContrS.pv) hi
  cases hft : (l[i].from_ == t)
  · have hne : l[i].from_ ≠ t := by simpa using hft
    have hB : (baseC l i l[i] t).map ContrS.pv = (l.map ContrS.pv).set i ({ l[i] with to_ := t } : ContrS).pv := by
      rw [base_set hne, ← List.map_set, List.set_eq_take_append_cons_drop, if_pos hi]
    have hbl : (baseC l i l[i] t).length ≤ 512 := by
      have := congrArg List.length hB
      simp only [List.length_map, List.length_set] at this; omega
    simp only [List.length_map, hi, hx, ContrS.pv, ContrS.vals, List.map_cons, List.map_nil, AW, reduceAdd, reduceCtorEq, reduceEqDiff, ↓reduceIte, reduceLT, reduceLeDiff, reduceSub, reducePow, reduceMul, reduceToNat, reduceLE, reduceEq, Int.reduceLT, Int.reduceBEq, Int.reduceBNe]
    have hB2 : (l.map ContrS.pv).set i (PV.agg [.sc (.int .i64 l[i].op), .sc (.int .i64 l[i].bike), .sc (.int .i64 l[i].from_), .sc (.int .i64 t), .sc (.int .i64 l[i].share)]) = (baseC l i l[i] t).map ContrS.pv := hB.symm
    (try simp only [hB2, AW, reduceAdd, reduceCtorEq, reduceEqDiff, ↓reduceIte, reduceLT, reduceLeDiff, reduceSub, reducePow, reduceMul, reduceToNat, reduceLE, reduceEq, Int.reduceLT, Int.reduceBEq, Int.reduceBNe])


    have a1 : (baseC l i l[i] t).length + 1 ≤ maxLen := by unfold maxLen; omega
    have a2 : ((baseC l i l[i] t).length + 1) * 40 ≤ 140737488355328 := by omega
    by_cases hb : 512 ≤ (baseC l i l[i] t).length
    · have db : decide ((512 : Int) ≤ ((baseC l i l[i] t).length : Int)) = true := by rw [decide_eq_true_eq]; omega
      rw [if_pos hb] at hch
      simp only [List.length_map, db, changeP, hch, csP, intP, List.map_nil, AW, reduceAdd, reduceCtorEq, reduceEqDiff, ↓reduceIte, reduceLT, reduceLeDiff, reduceSub, reducePow, reduceMul, reduceToNat, reduceLE, reduceEq, Int.reduceLT, Int.reduceBEq, Int.reduceBNe]
    have db : decide ((512 : Int) ≤ ((baseC l i l[i] t).length : Int)) = false := by rw [decide_eq_false_iff_not]; omega
    rw [if_neg hb] at hch
    simp only [List.length_map, db, a1, a2, changeP, hch, csP, intP, List.map_append, nextC, ContrS.pv, ContrS.vals, List.map_cons, List.map_nil, AW, reduceAdd, reduceCtorEq, reduceEqDiff, ↓reduceIte, reduceLT, reduceLeDiff, reduceSub, reducePow, reduceMul, reduceToNat, reduceLE, reduceEq, Int.reduceLT, Int.reduceBEq, Int.reduceBNe]
  · have heq : l[i].from_ = t := by simpa using hft
    have hB : (baseC l i l[i] t).map ContrS.pv = (l.map ContrS.pv).take i ++ (l.map ContrS.pv).drop (i + 1) := by
      rw [base_erase heq, List.map_append, List.map_take, List.map_drop]
    have hbl : (baseC l i l[i] t).length + 1 = l.length := by
      have := congrArg List.length hB
      simp only [List.length_map, List.length_append, List.length_take, List.length_drop] at this; omega
    have hlm : l.length ≤ maxLen := by unfold maxLen; omega
    have wi := wrap_succ hi hlm
    have wl : IntKind.i64.wrap ((l.length : Int) - 1) = ((l.length - 1 : Nat) : Int) := by rw [wrap_id (by unfold I64; omega)]; omega
    have b1 : i ≤ l.length := by omega
    have b2 : i + 1 ≤ l.length := by omega
    have b3 : l.length - 1 ≤ l.length := by omega
    have hcp := erase_copy (es := l.map ContrS.pv) (i := i) (n := l.length) (by simp) hi
    have b4 : i + (l.length - i) ≤ l.length := by omega
    have b5 : i + 1 + (l.length - (i + 1)) ≤ l.length := by omega
    have b6 : (((l.map ContrS.pv).drop (i + 1)).take (l.length - (i + 1))).all (fun p => p.flat.length == 5 && p.flat.all PV.cellOk) = true := List.all_eq_true.2 (fun p hp => List.all_eq_true.1 (contr_cells l) p (List.mem_of_mem_drop (List.mem_of_mem_take hp)))
    have b7 : (setAt (l.map ContrS.pv) i ((((l.map ContrS.pv).drop (i + 1)).take (l.length - (i + 1))).take (l.length - i))).length = l.length := by rw [setAt_length, List.length_map]
    simp only [AW, reduceAdd, reduceCtorEq, reduceEqDiff, ↓reduceIte, reduceLT, reduceLeDiff, reduceSub, reducePow, reduceMul, reduceToNat, reduceLE, reduceEq, Int.reduceLT, Int.reduceBEq, Int.reduceBNe]
    refine Or.inr ?_
    unfold optK
    simp only [List.length_map, hi, hx, b1, b2, b3, wi, wl, AW, reduceAdd, reduceCtorEq, reduceEqDiff, ↓reduceIte, reduceLT, reduceLeDiff, reduceSub, reducePow, reduceMul, reduceToNat, reduceLE, reduceEq, Int.reduceLT, Int.reduceBEq, Int.reduceBNe]
    refine Or.inr ?_
    unfold optK
    simp only [List.length_map, hi, hx, b1, b2, b3, wi, wl, b4, b5, b6, AW, reduceAdd, reduceCtorEq, reduceEqDiff, ↓reduceIte, reduceLT, reduceLeDiff, reduceSub, reducePow, reduceMul, reduceToNat, reduceLE, reduceEq, Int.reduceLT, Int.reduceBEq, Int.reduceBNe]
    refine drawnK rfl ?_
    simp only [b7, wl, b3, AW, reduceAdd, reduceCtorEq, reduceEqDiff, ↓reduceIte, reduceLT, reduceLeDiff, reduceSub, reducePow, reduceMul, reduceToNat, reduceLE, reduceEq, Int.reduceLT, Int.reduceBEq, Int.reduceBNe]
    refine Or.inr ?_
    unfold optK
    simp only [b7, wl, b3, hcp, ← hB, AW, reduceAdd, reduceCtorEq, reduceEqDiff, ↓reduceIte, reduceLT, reduceLeDiff, reduceSub, reducePow, reduceMul, reduceToNat, reduceLE, reduceEq, Int.reduceLT, Int.reduceBEq, Int.reduceBNe]


    have a1 : (baseC l i l[i] t).length + 1 ≤ maxLen := by unfold maxLen; omega
    have a2 : ((baseC l i l[i] t).length + 1) * 40 ≤ 140737488355328 := by omega
    by_cases hb : 512 ≤ (baseC l i l[i] t).length
    · have db : decide ((512 : Int) ≤ ((baseC l i l[i] t).length : Int)) = true := by rw [decide_eq_true_eq]; omega
      rw [if_pos hb] at hch
      simp only [List.length_map, db, changeP, hch, csP, intP, List.map_nil, AW, reduceAdd, reduceCtorEq, reduceEqDiff, ↓reduceIte, reduceLT, reduceLeDiff, reduceSub, reducePow, reduceMul, reduceToNat, reduceLE, reduceEq, Int.reduceLT, Int.reduceBEq, Int.reduceBNe]
    have db : decide ((512 : Int) ≤ ((baseC l i l[i] t).length : Int)) = false := by rw [decide_eq_false_iff_not]; omega
    rw [if_neg hb] at hch
    simp only [List.length_map, db, a1, a2, changeP, hch, csP, intP, List.map_append, nextC, ContrS.pv, ContrS.vals, List.map_cons, List.map_nil, AW, reduceAdd, reduceCtorEq, reduceEqDiff, ↓reduceIte, reduceLT, reduceLeDiff, reduceSub, reducePow, reduceMul, reduceToNat, reduceLE, reduceEq, Int.reduceLT, Int.reduceBEq, Int.reduceBNe]
def outK (l : List ContrS) (i : Nat) (c : ContrS) (t : Int) (k : Nat) : List ContrS := if k ≤ i then l.take k else l.take i ++ (if c.from_ = t then [] else [{ c with to_ := t }]) ++ (l.drop (i + 1)).take (k - (i + 1))
theorem outK_lt {l : List ContrS} {i k : Nat} {c : ContrS} {t : Int} (hk : k < l.length) (h : k ≠ i) : outK l i c t (k + 1) = outK l i c t k ++ [l[k]] := by
  unfold outK
  by_cases h1 : k < i
  · rw [if_pos (show k + 1 ≤ i by omega), if_pos (show k ≤ i by omega), List.take_succ_eq_append_getElem hk]
  · rw [if_neg (show ¬ k + 1 ≤ i by omega), if_neg (show ¬ k ≤ i by omega), show k + 1 - (i + 1) = k - (i + 1) + 1 by omega, List.take_succ_eq_append_getElem (by rw [List.length_drop]; omega), List.getElem_drop]
    simp only [List.append_assoc, show i + 1 + (k - (i + 1)) = k by omega]
theorem outK_eq {l : List ContrS} {i : Nat} {c : ContrS} {t : Int} : outK l i c t (i + 1) = outK l i c t i ++ (if c.from_ = t then [] else [{ c with to_ := t }]) := by
  unfold outK
  rw [if_neg (show ¬ i + 1 ≤ i by omega), if_pos (Nat.le_refl _), Nat.sub_self, List.take_zero, List.append_nil]
theorem outK_end {l : List ContrS} {i : Nat} {c : ContrS} {t : Int} (hi : i < l.length) : outK l i c t l.length = baseC l i c t := by
  unfold outK baseC
  rw [if_neg (show ¬ l.length ≤ i by omega), List.take_of_length_le (l := l.drop (i + 1)) (by rw [List.length_drop]; omega)]
theorem outK_len {l : List ContrS} {i : Nat} {c : ContrS} {t : Int} {k : Nat} (hk : k ≤ l.length) : (outK l i c t k).length ≤ k := by
  unfold outK
  split
  · rw [List.length_take]; omega
  · simp only [List.length_append, List.length_take, List.length_drop]
    split <;> simp only [List.length_nil, List.length_cons] <;> omega
set_option maxHeartbeats 8000000 in
theorem qchange_g (l : List ContrS) (b t to share : Int) : Good Try.prog 17 [csP l, intP b, intP t, intP to, intP share] (changeP l b t to share) := by
  refine good17 (by simp) ?_
  simp only [ac17, csP, intP, AW, reduceAdd, reduceCtorEq, reduceEqDiff, ↓reduceIte, reduceLT, reduceLeDiff, reduceSub, reducePow, reduceMul, reduceToNat, reduceLE, reduceEq, Int.reduceLT, Int.reduceBEq, Int.reduceBNe]
  refine ops_call (cqcheck_g l) (by simp only [intP, AW, reduceAdd, reduceCtorEq, reduceEqDiff, ↓reduceIte, reduceLT, reduceLeDiff, reduceSub, reducePow, reduceMul, reduceToNat, reduceLE, reduceEq, Int.reduceLT, Int.reduceBEq, Int.reduceBNe]) ?_; simp only [intP, AW, reduceAdd, reduceCtorEq, reduceEqDiff, ↓reduceIte, reduceLT, reduceLeDiff, reduceSub, reducePow, reduceMul, reduceToNat, reduceLE, reduceEq, Int.reduceLT, Int.reduceBEq, Int.reduceBNe]
  cases h0 : (checkC l != 0)
  rotate_left
  · simp only [changeP, change_1 (by simpa using h0), csP, intP, List.map_nil, AW, reduceAdd, reduceCtorEq, reduceEqDiff, ↓reduceIte, reduceLT, reduceLeDiff, reduceSub, reducePow, reduceMul, reduceToNat, reduceLE, reduceEq, Int.reduceLT, Int.reduceBEq, Int.reduceBNe]
  have h0 : checkC l = 0 := by simpa using h0
  have h512 := check_len h0
  simp only [AW, reduceAdd, reduceCtorEq, reduceEqDiff, ↓reduceIte, reduceLT, reduceLeDiff, reduceSub, reducePow, reduceMul, reduceToNat, reduceLE, reduceEq, Int.reduceLT, Int.reduceBEq, Int.reduceBNe]
  cases h1 : decide (to < 0)
  rotate_left
  · have hr : rangeC to share t = true := by
      unfold rangeC; simp only [h1, Bool.true_or, Bool.or_true, Bool.false_or]
    simp only [changeP, change_2 h0 hr, csP, intP, List.map_nil, AW, reduceAdd, reduceCtorEq, reduceEqDiff, ↓reduceIte, reduceLT, reduceLeDiff, reduceSub, reducePow, reduceMul, reduceToNat, reduceLE, reduceEq, Int.reduceLT, Int.reduceBEq, Int.reduceBNe]
  simp only [AW, reduceAdd, reduceCtorEq, reduceEqDiff, ↓reduceIte, reduceLT, reduceLeDiff, reduceSub, reducePow, reduceMul, reduceToNat, reduceLE, reduceEq, Int.reduceLT, Int.reduceBEq, Int.reduceBNe]
  cases h2 : decide (8 ≤ to)
  rotate_left
  · have hr : rangeC to share t = true := by
      unfold rangeC; simp only [h1, h2, Bool.true_or, Bool.or_true, Bool.false_or]
    simp only [changeP, change_2 h0 hr, csP, intP, List.map_nil, AW, reduceAdd, reduceCtorEq, reduceEqDiff, ↓reduceIte, reduceLT, reduceLeDiff, reduceSub, reducePow, reduceMul, reduceToNat, reduceLE, reduceEq, Int.reduceLT, Int.reduceBEq, Int.reduceBNe]
  simp only [AW, reduceAdd, reduceCtorEq, reduceEqDiff, ↓reduceIte, reduceLT, reduceLeDiff, reduceSub, reducePow, reduceMul, reduceToNat, reduceLE, reduceEq, Int.reduceLT, Int.reduceBEq, Int.reduceBNe]
  cases h3 : decide (share < 0)
  rotate_left
  · have hr : rangeC to share t = true := by
      unfold rangeC; simp only [h1, h2, h3, Bool.true_or, Bool.or_true, Bool.false_or]
    simp only [changeP, change_2 h0 hr, csP, intP, List.map_nil, AW, reduceAdd, reduceCtorEq, reduceEqDiff, ↓reduceIte, reduceLT, reduceLeDiff, reduceSub, reducePow, reduceMul, reduceToNat, reduceLE, reduceEq, Int.reduceLT, Int.reduceBEq, Int.reduceBNe]
  simp only [AW, reduceAdd, reduceCtorEq, reduceEqDiff, ↓reduceIte, reduceLT, reduceLeDiff, reduceSub, reducePow, reduceMul, reduceToNat, reduceLE, reduceEq, Int.reduceLT, Int.reduceBEq, Int.reduceBNe]
  cases h4 : decide ((1000 : Int) < share)
  rotate_left
  · have hr : rangeC to share t = true := by
      unfold rangeC; simp only [h1, h2, h3, h4, Bool.true_or, Bool.or_true, Bool.false_or]
    simp only [changeP, change_2 h0 hr, csP, intP, List.map_nil, AW, reduceAdd, reduceCtorEq, reduceEqDiff, ↓reduceIte, reduceLT, reduceLeDiff, reduceSub, reducePow, reduceMul, reduceToNat, reduceLE, reduceEq, Int.reduceLT, Int.reduceBEq, Int.reduceBNe]
  simp only [AW, reduceAdd, reduceCtorEq, reduceEqDiff, ↓reduceIte, reduceLT, reduceLeDiff, reduceSub, reducePow, reduceMul, reduceToNat, reduceLE, reduceEq, Int.reduceLT, Int.reduceBEq, Int.reduceBNe]
  cases h5 : decide (t < 0)
  rotate_left
  · have hr : rangeC to share t = true := by
      unfold rangeC; simp only [h1, h2, h3, h4, h5, Bool.true_or, Bool.or_true, Bool.false_or]
    simp only [changeP, change_2 h0 hr, csP, intP, List.map_nil, AW, reduceAdd, reduceCtorEq, reduceEqDiff, ↓reduceIte, reduceLT, reduceLeDiff, reduceSub, reducePow, reduceMul, reduceToNat, reduceLE, reduceEq, Int.reduceLT, Int.reduceBEq, Int.reduceBNe]
  simp only [AW, reduceAdd, reduceCtorEq, reduceEqDiff, ↓reduceIte, reduceLT, reduceLeDiff, reduceSub, reducePow, reduceMul, reduceToNat, reduceLE, reduceEq, Int.reduceLT, Int.reduceBEq, Int.reduceBNe]
  cases h6 : decide ((4294943999 : Int) < t)
  rotate_left
  · have hr : rangeC to share t = true := by
      unfold rangeC; simp only [h1, h2, h3, h4, h5, h6, Bool.true_or, Bool.or_true, Bool.false_or]
    simp only [changeP, change_2 h0 hr, csP, intP, List.map_nil, AW, reduceAdd, reduceCtorEq, reduceEqDiff, ↓reduceIte, reduceLT, reduceLeDiff, reduceSub, reducePow, reduceMul, reduceToNat, reduceLE, reduceEq, Int.reduceLT, Int.reduceBEq, Int.reduceBNe]
  simp only [AW, reduceAdd, reduceCtorEq, reduceEqDiff, ↓reduceIte, reduceLT, reduceLeDiff, reduceSub, reducePow, reduceMul, reduceToNat, reduceLE, reduceEq, Int.reduceLT, Int.reduceBEq, Int.reduceBNe]
  have hr : rangeC to share t = false := by unfold rangeC; rw [h1, h2, h3, h4, h5, h6]; rfl
  refine ops_call (at_g l b t) (by simp only [intP, AW, reduceAdd, reduceCtorEq, reduceEqDiff, ↓reduceIte, reduceLT, reduceLeDiff, reduceSub, reducePow, reduceMul, reduceToNat, reduceLE, reduceEq, Int.reduceLT, Int.reduceBEq, Int.reduceBNe]) ?_; simp only [intP, AW, reduceAdd, reduceCtorEq, reduceEqDiff, ↓reduceIte, reduceLT, reduceLeDiff, reduceSub, reducePow, reduceMul, reduceToNat, reduceLE, reduceEq, Int.reduceLT, Int.reduceBEq, Int.reduceBNe]
  cases hf : l.findIdx? (holdB b t) with
  | none =>
    have e : findC l b t = -1 := by unfold findC; rw [hf]
    have d : decide ((-1 : Int) < 0) = true := rfl
    simp only [e, d, changeP, change_3 h0 hr hf, csP, intP, List.map_nil, AW, reduceAdd, reduceCtorEq, reduceEqDiff, ↓reduceIte, reduceLT, reduceLeDiff, reduceSub, reducePow, reduceMul, reduceToNat, reduceLE, reduceEq, Int.reduceLT, Int.reduceBEq, Int.reduceBNe]
  | some i =>
  obtain ⟨hi, hh, e⟩ := find_some hf
  have hch := change_4 (to := to) (share := share) hi h0 hr hf
  have d : decide ((i : Int) < 0) = false := by rw [decide_eq_false_iff_not]; omega
  simp only [e, d, AW, reduceAdd, reduceCtorEq, reduceEqDiff, ↓reduceIte, reduceLT, reduceLeDiff, reduceSub, reducePow, reduceMul, reduceToNat, reduceLE, reduceEq, Int.reduceLT, Int.reduceBEq, Int.reduceBNe]
  refine run_loop (ι := Nat) (fun k => ⟨[(0, .sl (l.map ContrS.pv)), (1, .sc (.int .i64 b)), (2, .sc (.int .i64 t)), (3, .sc (.int .i64 to)), (4, .sc (.int .i64 share)), (13, .sc (.int .i64 (i : Int))), (14, .own 38 0), (15, .sc (.int .i64 (k : Int)))], [(38, .row 54 5 0 ((outK l i l[i] t k).map ContrS.pv))], 39, 99⟩) (fun k => k ≤ l.length) (fun k => l.length - k) 39 (fun _ => rfl) 0 (by simp only [LW, Nat.reduceMod, Nat.reduceDiv, Int.natCast_zero, outK, Nat.zero_le, if_true, List.take_zero, List.map_nil, Int.natCast_zero, AW, reduceAdd, reduceCtorEq, reduceEqDiff, ↓reduceIte, reduceLT, reduceLeDiff, reduceSub, reducePow, reduceMul, reduceToNat, reduceLE, reduceEq, Int.reduceLT, Int.reduceBEq, Int.reduceBNe]) (Nat.zero_le _) (fun k hk => ?_)
  have gk := hk
  by_cases hltk : k < l.length
  rotate_left
  · have dk : decide ((k : Int) < ((l.length : Nat) : Int)) = false := by rw [decide_eq_false_iff_not]; exact fun h => hltk (Int.ofNat_lt.1 h)
    have ek : k = l.length := Nat.le_antisymm gk (Nat.le_of_not_lt hltk)
    rw [ek]
    rw [outK_end hi]
    have hbl : (baseC l i l[i] t).length ≤ 512 := by have := outK_len (l := l) (i := i) (c := l[i]) (t := t) (k := l.length) (Nat.le_refl _); rw [outK_end hi] at this; omega
    have dk2 : decide ((l.length : Int) < (l.length : Int)) = false := by rw [decide_eq_false_iff_not]; omega
    have a1 : (baseC l i l[i] t).length + 1 ≤ maxLen := by unfold maxLen; omega
    have a2 : ((baseC l i l[i] t).length + 1) * 40 ≤ 140737488355328 := by omega
    have nb : (((baseC l i l[i] t).length + 1 : Nat) : Int) = ((baseC l i l[i] t ++ [nextC b t to share l[i]]).length : Int) := by simp
    by_cases hb : 512 ≤ (baseC l i l[i] t).length
    · have db : decide ((512 : Int) < (((baseC l i l[i] t).length + 1 : Nat) : Int)) = true := by rw [decide_eq_true_eq]; omega
      rw [if_pos hb] at hch
      simp only [dk2, List.length_map, hi, map_getD hi, ContrS.pv, ContrS.vals, List.map_cons, List.map_nil, a1, a2, List.length_append, db, changeP, hch, csP, intP, List.map_nil, AW, reduceAdd, reduceCtorEq, reduceEqDiff, ↓reduceIte, reduceLT, reduceLeDiff, reduceSub, reducePow, reduceMul, reduceToNat, reduceLE, reduceEq, Int.reduceLT, Int.reduceBEq, Int.reduceBNe]
      (try refine drawnK rfl ?_); (try simp only [List.length_map, List.length_append, db, changeP, hch, csP, intP, List.map_nil, AW, reduceAdd, reduceCtorEq, reduceEqDiff, ↓reduceIte, reduceLT, reduceLeDiff, reduceSub, reducePow, reduceMul, reduceToNat, reduceLE, reduceEq, Int.reduceLT, Int.reduceBEq, Int.reduceBNe])
    have db : decide ((512 : Int) < (((baseC l i l[i] t).length + 1 : Nat) : Int)) = false := by rw [decide_eq_false_iff_not]; omega
    rw [if_neg hb] at hch
    simp only [dk2, List.length_map, hi, map_getD hi, ContrS.pv, ContrS.vals, List.map_cons, List.map_nil, a1, a2, List.length_append, db, changeP, hch, csP, intP, List.map_append, nextC, AW, reduceAdd, reduceCtorEq, reduceEqDiff, ↓reduceIte, reduceLT, reduceLeDiff, reduceSub, reducePow, reduceMul, reduceToNat, reduceLE, reduceEq, Int.reduceLT, Int.reduceBEq, Int.reduceBNe]
    (try refine drawnK rfl ?_); (try simp only [List.length_map, List.length_append, db, changeP, hch, csP, intP, List.map_append, nextC, ContrS.pv, ContrS.vals, List.map_cons, List.map_nil, AW, reduceAdd, reduceCtorEq, reduceEqDiff, ↓reduceIte, reduceLT, reduceLeDiff, reduceSub, reducePow, reduceMul, reduceToNat, reduceLE, reduceEq, Int.reduceLT, Int.reduceBEq, Int.reduceBNe])
  have dk : decide ((k : Int) < ((l.length : Nat) : Int)) = true := by rw [decide_eq_true_eq]; exact Int.ofNat_lt.2 hltk
  have a1 : (outK l i l[i] t k).length + 1 ≤ maxLen := by have := outK_len (l := l) (i := i) (c := l[i]) (t := t) (k := k) (by omega); unfold maxLen; omega
  have a2 : ((outK l i l[i] t k).length + 1) * 40 ≤ 140737488355328 := by have := outK_len (l := l) (i := i) (c := l[i]) (t := t) (k := k) (by omega); omega
  simp only [dk, List.length_map, map_getD hltk, hltk, ContrS.pv, ContrS.vals, List.map_cons, List.map_nil, AW, reduceAdd, reduceCtorEq, reduceEqDiff, ↓reduceIte, reduceLT, reduceLeDiff, reduceSub, reducePow, reduceMul, reduceToNat, reduceLE, reduceEq, Int.reduceLT, Int.reduceBEq, Int.reduceBNe]
  by_cases hki : k = i
  rotate_left
  · have d1 : ((k : Int) == (i : Int)) = false := by simp; omega
    have s1 := outK_lt (l := l) (i := i) (k := k) (c := l[i]) (t := t) hltk hki
    simp only [d1, List.length_map, a1, a2, AW, reduceAdd, reduceCtorEq, reduceEqDiff, ↓reduceIte, reduceLT, reduceLeDiff, reduceSub, reducePow, reduceMul, reduceToNat, reduceLE, reduceEq, Int.reduceLT, Int.reduceBEq, Int.reduceBNe]
    (try refine drawnK rfl ?_); (try simp only [AW, reduceAdd, reduceCtorEq, reduceEqDiff, ↓reduceIte, reduceLT, reduceLeDiff, reduceSub, reducePow, reduceMul, reduceToNat, reduceLE, reduceEq, Int.reduceLT, Int.reduceBEq, Int.reduceBNe])
    (try simp only [wrap_succ hltk (show l.length ≤ maxLen by unfold maxLen; omega), AW, reduceAdd, reduceCtorEq, reduceEqDiff, ↓reduceIte, reduceLT, reduceLeDiff, reduceSub, reducePow, reduceMul, reduceToNat, reduceLE, reduceEq, Int.reduceLT, Int.reduceBEq, Int.reduceBNe])
    refine ⟨k + 1, hltk, ?_, meas_lt hltk⟩
    simp only [LW, Nat.reduceMod, Nat.reduceDiv, s1, List.map_append, ContrS.pv, ContrS.vals, List.map_cons, List.map_nil, AW, reduceAdd, reduceCtorEq, reduceEqDiff, ↓reduceIte, reduceLT, reduceLeDiff, reduceSub, reducePow, reduceMul, reduceToNat, reduceLE, reduceEq, Int.reduceLT, Int.reduceBEq, Int.reduceBNe]
  subst hki
  have d1 : ((k : Int) == (k : Int)) = true := by simp
  have s1 := outK_eq (l := l) (i := k) (c := l[k]) (t := t)
  simp only [d1, AW, reduceAdd, reduceCtorEq, reduceEqDiff, ↓reduceIte, reduceLT, reduceLeDiff, reduceSub, reducePow, reduceMul, reduceToNat, reduceLE, reduceEq, Int.reduceLT, Int.reduceBEq, Int.reduceBNe]
  cases hft : (l[k].from_ == t)
  · have hne : l[k].from_ ≠ t := by simpa using hft
    rw [if_neg hne] at s1
    simp only [d1, List.length_map, a1, a2, AW, reduceAdd, reduceCtorEq, reduceEqDiff, ↓reduceIte, reduceLT, reduceLeDiff, reduceSub, reducePow, reduceMul, reduceToNat, reduceLE, reduceEq, Int.reduceLT, Int.reduceBEq, Int.reduceBNe]
    (try refine drawnK rfl ?_); (try simp only [AW, reduceAdd, reduceCtorEq, reduceEqDiff, ↓reduceIte, reduceLT, reduceLeDiff, reduceSub, reducePow, reduceMul, reduceToNat, reduceLE, reduceEq, Int.reduceLT, Int.reduceBEq, Int.reduceBNe])
    (try simp only [wrap_succ hltk (show l.length ≤ maxLen by unfold maxLen; omega), AW, reduceAdd, reduceCtorEq, reduceEqDiff, ↓reduceIte, reduceLT, reduceLeDiff, reduceSub, reducePow, reduceMul, reduceToNat, reduceLE, reduceEq, Int.reduceLT, Int.reduceBEq, Int.reduceBNe])
    refine ⟨k + 1, hltk, ?_, meas_lt hltk⟩
    simp only [LW, Nat.reduceMod, Nat.reduceDiv, s1, List.map_append, ContrS.pv, ContrS.vals, List.map_cons, List.map_nil, AW, reduceAdd, reduceCtorEq, reduceEqDiff, ↓reduceIte, reduceLT, reduceLeDiff, reduceSub, reducePow, reduceMul, reduceToNat, reduceLE, reduceEq, Int.reduceLT, Int.reduceBEq, Int.reduceBNe]
  · have heq : l[k].from_ = t := by simpa using hft
    rw [if_pos heq, List.append_nil] at s1
    (try simp only [AW, reduceAdd, reduceCtorEq, reduceEqDiff, ↓reduceIte, reduceLT, reduceLeDiff, reduceSub, reducePow, reduceMul, reduceToNat, reduceLE, reduceEq, Int.reduceLT, Int.reduceBEq, Int.reduceBNe])
    (try refine drawnK rfl ?_); (try simp only [AW, reduceAdd, reduceCtorEq, reduceEqDiff, ↓reduceIte, reduceLT, reduceLeDiff, reduceSub, reducePow, reduceMul, reduceToNat, reduceLE, reduceEq, Int.reduceLT, Int.reduceBEq, Int.reduceBNe])
    (try simp only [wrap_succ hltk (show l.length ≤ maxLen by unfold maxLen; omega), AW, reduceAdd, reduceCtorEq, reduceEqDiff, ↓reduceIte, reduceLT, reduceLeDiff, reduceSub, reducePow, reduceMul, reduceToNat, reduceLE, reduceEq, Int.reduceLT, Int.reduceBEq, Int.reduceBNe])
    refine ⟨k + 1, hltk, ?_, meas_lt hltk⟩
    simp only [LW, Nat.reduceMod, Nat.reduceDiv, s1, AW, reduceAdd, reduceCtorEq, reduceEqDiff, ↓reduceIte, reduceLT, reduceLeDiff, reduceSub, reducePow, reduceMul, reduceToNat, reduceLE, reduceEq, Int.reduceLT, Int.reduceBEq, Int.reduceBNe]


end Go.Proofs.Ythekbdjklmellaa
