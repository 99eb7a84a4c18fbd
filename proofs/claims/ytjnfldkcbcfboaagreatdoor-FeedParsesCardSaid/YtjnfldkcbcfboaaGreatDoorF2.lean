/-
  Releases: whether one is in order.
-/
import Derived.Test.YtjnfldkcbcfboaaGreatDoorF1
namespace Go.Proofs.YtjnfldkcbcfboaaGreatDoor
open Go.RowKit
open Nat (reduceAdd reduceEqDiff reduceLT reduceLeDiff reduceSub reducePow reduceMul)
open Int (reduceToNat reduceLE reduceEq)
set_option linter.unusedVariables false
set_option linter.unusedSimpArgs false
set_option linter.unnecessarySimpa false


def hidB (h : List Bool) (c : List Int) : Bool := (List.range h.length).all fun i => !(h.getD i false) || decide (c.getD i 0 = 0)
theorem hid_no {h : List Bool} {c : List Int} {k : Nat} (hk : k < h.length) (e : (!(h.getD k false) || decide (c.getD k 0 = 0)) = false) : hidB h c = false := by
  rw [Bool.eq_false_iff]; intro h2
  rw [List.all_eq_true.1 h2 k (List.mem_range.2 hk)] at e; cases e
theorem hid_yes {h : List Bool} {c : List Int} (e : ∀ j, j < h.length → (!(h.getD j false) || decide (c.getD j 0 = 0)) = true) : hidB h c = true := List.all_eq_true.2 (fun x hx => e x (List.mem_range.1 hx))
theorem getD_get {α : Type} {l : List α} {k : Nat} {d : α} (h : k < l.length) : l.getD k d = l[k] := by
  rw [List.getD_eq_getElem?_getD, List.getElem?_eq_getElem h]; rfl
theorem wrap_prd {k n : Nat} (h : 0 < k) (h2 : k < n) (h3 : n ≤ maxLen) : IntKind.i64.wrap ((k : Int) - 1) = ((k - 1 : Nat) : Int) := by
  have : n ≤ 9223372036854775807 := h3
  rw [wrap_id ⟨by omega, by omega⟩]; omega
/-- Whether a release that is not noisy has all that it needs. -/
def compB (r : RelS) : Bool := decide (r.hidden.length = r.table.cells.length) && sumsB r.rowSums r.table.rows && sumsB r.colSums r.table.cols && hidB r.hidden r.table.cells
def headB (r : RelS) : Bool := !(decide (r.when_.from_ < 0) || decide (r.when_.to_ < r.when_.from_) || decide (4294944000 < r.when_.to_) || !inB r.each 1 256)
def noisyB (r : RelS) : Bool := decide (0 < r.noise.weights.length)
def checkR (r : RelS) : Int := if headB r = false then 1 else if tabE r.table ≠ 0 then tabE r.table else
  if noisyB r = true then (if noiE r.noise.weights ≠ 0 then noiE r.noise.weights else if 0 < r.hidden.length + r.rowSums.length + r.colSums.length then 3 else 0)
  else if compB r = true then 0 else 3
def relC (r : RelS) : List PV := [.sc (.int .i64 r.when_.from_), .sc (.int .i64 r.when_.to_), .sc (.int .i64 r.each), .sc (.int .i64 r.table.rows), .sc (.int .i64 r.table.cols), .sl (r.table.cells.map intP), .sl (r.hidden.map boolP), .sl (r.rowSums.map intP), .sl (r.colSums.map intP), .sl (r.noise.weights.map intP)]
theorem rel_fact {f : FuncId} {r : RelS} {ps qs : List PV} {u : PV} (h : r.table.cells.length ≤ maxLen → r.hidden.length ≤ maxLen → r.rowSums.length ≤ maxLen → r.colSums.length ≤ maxLen → r.noise.weights.length ≤ maxLen → Good Tryz.prog f (ps ++ r.pv :: qs) u) : Good Tryz.prog f (ps ++ r.pv :: qs) u := by
  refine .lenA (cs := relC r) (es := r.table.cells.map intP) (by simp [RelS.pv, relC]) (by simp [relC]) (fun h1 => ?_)
  refine .lenA (cs := relC r) (es := r.hidden.map boolP) (by simp [RelS.pv, relC]) (by simp [relC]) (fun h2 => ?_)
  refine .lenA (cs := relC r) (es := r.rowSums.map intP) (by simp [RelS.pv, relC]) (by simp [relC]) (fun h3 => ?_)
  refine .lenA (cs := relC r) (es := r.colSums.map intP) (by simp [RelS.pv, relC]) (by simp [relC]) (fun h4 => ?_)
  refine .lenA (cs := relC r) (es := r.noise.weights.map intP) (by simp [RelS.pv, relC]) (by simp [relC]) (fun h5 => ?_)
  exact h (by simpa using h1) (by simpa using h2) (by simpa using h3) (by simpa using h4) (by simpa using h5)
set_option maxHeartbeats 2000000 in
theorem noi_g (w : List Int) : Good Tryz.prog 36 [.agg [.sl (w.map intP)]] (intP (noiE w)) := by
  refine .lenA (cs := [.sl (w.map intP)]) (es := w.map intP) (by simp) (by simp) (fun hlen => ?_)
  rw [List.length_map] at hlen
  refine good36 (by simp) ?_
  simp only [ac36, List.length_map, AW, reduceAdd, reduceCtorEq, reduceEqDiff, ↓reduceIte, reduceLT, reduceLeDiff, reduceSub, reducePow, reduceMul, reduceToNat, reduceLE, reduceEq, Int.reduceLT, Int.reduceBEq, Int.reduceBNe]
  cases h0 : decide ((w.length : Int) < 1)
  rotate_left
  · have h0' := of_decide_eq_true h0
    rw [show noiE w = 32 by unfold noiE; rw [if_pos (.inl (by omega))]]
    simp only [h0, intP, AW, reduceAdd, reduceCtorEq, reduceEqDiff, ↓reduceIte, reduceLT, reduceLeDiff, reduceSub, reducePow, reduceMul, reduceToNat, reduceLE, reduceEq, Int.reduceLT, Int.reduceBEq, Int.reduceBNe]
  cases h1 : decide ((33 : Int) < (w.length : Int))
  rotate_left
  · have h1' := of_decide_eq_true h1
    rw [show noiE w = 32 by unfold noiE; rw [if_pos (.inr (by omega))]]
    simp only [h0, h1, intP, List.length_map, AW, reduceAdd, reduceCtorEq, reduceEqDiff, ↓reduceIte, reduceLT, reduceLeDiff, reduceSub, reducePow, reduceMul, reduceToNat, reduceLE, reduceEq, Int.reduceLT, Int.reduceBEq, Int.reduceBNe]
  have h0' := of_decide_eq_false h0
  have h1' := of_decide_eq_false h1
  have hl : ¬ (w.length < 1 ∨ 33 < w.length) := by omega
  simp only [h0, h1, List.length_map, AW, reduceAdd, reduceCtorEq, reduceEqDiff, ↓reduceIte, reduceLT, reduceLeDiff, reduceSub, reducePow, reduceMul, reduceToNat, reduceLE, reduceEq, Int.reduceLT, Int.reduceBEq, Int.reduceBNe]
  refine run_loop (ι := Nat) (fun k => ⟨[(1, .ptr 0 0), (16, .sl (w.map intP)), (17, .sc (.int .i64 (w.length : Int))), (18, .sc (.int .i64 (k : Int)))], [(0, .var [.sl (w.map intP)])], 16, 44⟩) (fun k => k ≤ w.length ∧ (∀ j, j < w.length → j < k → wtB w j = true)) (fun k => w.length - k) 16 (fun _ => rfl) 0 (by simp only [LW, Nat.reduceMod, Nat.reduceDiv, Int.natCast_zero, intP, List.length_map, AW, reduceAdd, reduceCtorEq, reduceEqDiff, ↓reduceIte, reduceLT, reduceLeDiff, reduceSub, reducePow, reduceMul, reduceToNat, reduceLE, reduceEq, Int.reduceLT, Int.reduceBEq, Int.reduceBNe]) ⟨Nat.zero_le _, nofun⟩ (fun k hk => ?_)
  obtain ⟨gk, ik⟩ := hk
  by_cases hltk : k < w.length
  rotate_left
  · have dk : decide ((k : Int) < ((w.length : Nat) : Int)) = false := by rw [decide_eq_false_iff_not]; exact fun h => hltk (Int.ofNat_lt.1 h)
    have ek : k = w.length := Nat.le_antisymm gk (Nat.le_of_not_lt hltk)
    subst ek
    rw [show noiE w = 0 by unfold noiE; rw [if_neg hl, if_pos (noi_yes (fun j hj => ik j hj hj))]]
    simp only [dk, intP, List.length_map, AW, reduceAdd, reduceCtorEq, reduceEqDiff, ↓reduceIte, reduceLT, reduceLeDiff, reduceSub, reducePow, reduceMul, reduceToNat, reduceLE, reduceEq, Int.reduceLT, Int.reduceBEq, Int.reduceBNe]
  have dk : decide ((k : Int) < ((w.length : Nat) : Int)) = true := by rw [decide_eq_true_eq]; exact Int.ofNat_lt.2 hltk
  simp only [dk, map_getD hltk, hltk, intP, List.length_map, AW, reduceAdd, reduceCtorEq, reduceEqDiff, ↓reduceIte, reduceLT, reduceLeDiff, reduceSub, reducePow, reduceMul, reduceToNat, reduceLE, reduceEq, Int.reduceLT, Int.reduceBEq, Int.reduceBNe]
  have no : wtB w k = false → noiE w = 32 := fun h => by
    unfold noiE; rw [if_neg hl, if_neg (by rw [noi_no hltk h]; decide)]
  cases g1 : decide (w[k] < 1)
  rotate_left
  · have g1' := of_decide_eq_true g1
    rw [no (by unfold wtB inB; rw [getD_get hltk, decide_eq_false (by omega), Bool.false_and, Bool.false_and])]
    simp only [AW, reduceAdd, reduceCtorEq, reduceEqDiff, ↓reduceIte, reduceLT, reduceLeDiff, reduceSub, reducePow, reduceMul, reduceToNat, reduceLE, reduceEq, Int.reduceLT, Int.reduceBEq, Int.reduceBNe]
    
  cases g2 : decide ((16777216 : Int) < w[k])
  rotate_left
  · have g2' := of_decide_eq_true g2
    rw [no (by unfold wtB inB; rw [getD_get hltk, decide_eq_false (show ¬ w[k] ≤ 16777216 by omega), Bool.and_false, Bool.false_and])]
    simp only [map_getD hltk, hltk, intP, g2, AW, reduceAdd, reduceCtorEq, reduceEqDiff, ↓reduceIte, reduceLT, reduceLeDiff, reduceSub, reducePow, reduceMul, reduceToNat, reduceLE, reduceEq, Int.reduceLT, Int.reduceBEq, Int.reduceBNe]
    
  have g1' := of_decide_eq_false g1
  have g2' := of_decide_eq_false g2
  have hin : inB w[k] 1 16777216 = true := by unfold inB; rw [decide_eq_true (by omega), decide_eq_true (by omega)]; rfl
  by_cases hk0 : k = 0
  · have d0 : decide ((0 : Int) < (k : Int)) = false := by rw [decide_eq_false_iff_not]; omega
    simp only [map_getD hltk, hltk, intP, g2, d0, wrap_succ hltk hlen, List.length_map, AW, reduceAdd, reduceCtorEq, reduceEqDiff, ↓reduceIte, reduceLT, reduceLeDiff, reduceSub, reducePow, reduceMul, reduceToNat, reduceLE, reduceEq, Int.reduceLT, Int.reduceBEq, Int.reduceBNe]
    
    (try simp only [wrap_succ hltk hlen, List.length_map, AW, reduceAdd, reduceCtorEq, reduceEqDiff, ↓reduceIte, reduceLT, reduceLeDiff, reduceSub, reducePow, reduceMul, reduceToNat, reduceLE, reduceEq, Int.reduceLT, Int.reduceBEq, Int.reduceBNe])
    refine ⟨k + 1, ⟨hltk, fun j hj hjk => ?_⟩, ?_, by omega⟩
    · by_cases e : j = k
      · subst e; unfold wtB; rw [getD_get hltk, hin, decide_eq_true hk0]; rfl
      · exact ik j hj (by omega)
    · simp only [LW, Nat.reduceMod, Nat.reduceDiv, intP, AW, reduceAdd, reduceCtorEq, reduceEqDiff, ↓reduceIte, reduceLT, reduceLeDiff, reduceSub, reducePow, reduceMul, reduceToNat, reduceLE, reduceEq, Int.reduceLT, Int.reduceBEq, Int.reduceBNe]
  have d0 : decide ((0 : Int) < (k : Int)) = true := by rw [decide_eq_true_eq]; omega
  have hk1 : k - 1 < w.length := by omega
  simp only [map_getD hltk, hltk, intP, g2, d0, wrap_prd (Nat.pos_of_ne_zero hk0) hltk hlen, map_getD hk1, hk1, List.length_map, AW, reduceAdd, reduceCtorEq, reduceEqDiff, ↓reduceIte, reduceLT, reduceLeDiff, reduceSub, reducePow, reduceMul, reduceToNat, reduceLE, reduceEq, Int.reduceLT, Int.reduceBEq, Int.reduceBNe]
  have wt : wtB w k = decide (w[k] ≤ w[k - 1]) := by unfold wtB; rw [getD_get hltk, getD_get hk1, hin, decide_eq_false hk0, Bool.true_and, Bool.false_or]
  cases g3 : decide (w[k - 1] < w[k])
  rotate_left
  · have g3' := of_decide_eq_true g3
    rw [no (by rw [wt, decide_eq_false (by omega)])]
    simp only [AW, reduceAdd, reduceCtorEq, reduceEqDiff, ↓reduceIte, reduceLT, reduceLeDiff, reduceSub, reducePow, reduceMul, reduceToNat, reduceLE, reduceEq, Int.reduceLT, Int.reduceBEq, Int.reduceBNe]
    
  have g3' := of_decide_eq_false g3
  simp only [wrap_succ hltk hlen, List.length_map, AW, reduceAdd, reduceCtorEq, reduceEqDiff, ↓reduceIte, reduceLT, reduceLeDiff, reduceSub, reducePow, reduceMul, reduceToNat, reduceLE, reduceEq, Int.reduceLT, Int.reduceBEq, Int.reduceBNe]

  (try simp only [wrap_succ hltk hlen, List.length_map, AW, reduceAdd, reduceCtorEq, reduceEqDiff, ↓reduceIte, reduceLT, reduceLeDiff, reduceSub, reducePow, reduceMul, reduceToNat, reduceLE, reduceEq, Int.reduceLT, Int.reduceBEq, Int.reduceBNe])
  refine ⟨k + 1, ⟨hltk, fun j hj hjk => ?_⟩, ?_, by omega⟩
  · by_cases e : j = k
    · subst e; rw [wt, decide_eq_true (by omega)]
    · exact ik j hj (by omega)
  · simp only [LW, Nat.reduceMod, Nat.reduceDiv, intP, AW, reduceAdd, reduceCtorEq, reduceEqDiff, ↓reduceIte, reduceLT, reduceLeDiff, reduceSub, reducePow, reduceMul, reduceToNat, reduceLE, reduceEq, Int.reduceLT, Int.reduceBEq, Int.reduceBNe]
set_option maxHeartbeats 2000000 in
theorem qnoi_g (w : List Int) : Good Tryz.prog 51 [.agg [.sl (w.map intP)]] (intP (noiE w)) := by
  refine .lenA (cs := [.sl (w.map intP)]) (es := w.map intP) (by simp) (by simp) (fun hlen => ?_)
  rw [List.length_map] at hlen
  refine good51 (by simp) ?_
  simp only [ac51, List.length_map, AW, reduceAdd, reduceCtorEq, reduceEqDiff, ↓reduceIte, reduceLT, reduceLeDiff, reduceSub, reducePow, reduceMul, reduceToNat, reduceLE, reduceEq, Int.reduceLT, Int.reduceBEq, Int.reduceBNe]
  cases h0 : decide ((w.length : Int) < 1)
  rotate_left
  · have h0' := of_decide_eq_true h0
    rw [show noiE w = 32 by unfold noiE; rw [if_pos (.inl (by omega))]]
    simp only [h0, intP, AW, reduceAdd, reduceCtorEq, reduceEqDiff, ↓reduceIte, reduceLT, reduceLeDiff, reduceSub, reducePow, reduceMul, reduceToNat, reduceLE, reduceEq, Int.reduceLT, Int.reduceBEq, Int.reduceBNe]
  cases h1 : decide ((33 : Int) < (w.length : Int))
  rotate_left
  · have h1' := of_decide_eq_true h1
    rw [show noiE w = 32 by unfold noiE; rw [if_pos (.inr (by omega))]]
    simp only [h0, h1, intP, List.length_map, AW, reduceAdd, reduceCtorEq, reduceEqDiff, ↓reduceIte, reduceLT, reduceLeDiff, reduceSub, reducePow, reduceMul, reduceToNat, reduceLE, reduceEq, Int.reduceLT, Int.reduceBEq, Int.reduceBNe]
  have h0' := of_decide_eq_false h0
  have h1' := of_decide_eq_false h1
  have hl : ¬ (w.length < 1 ∨ 33 < w.length) := by omega
  simp only [h0, h1, List.length_map, AW, reduceAdd, reduceCtorEq, reduceEqDiff, ↓reduceIte, reduceLT, reduceLeDiff, reduceSub, reducePow, reduceMul, reduceToNat, reduceLE, reduceEq, Int.reduceLT, Int.reduceBEq, Int.reduceBNe]
  refine run_loop (ι := Nat) (fun k => ⟨[(1, .ptr 0 0), (3, .sc (.int .i64 (k : Int)))], [(0, .var [.sl (w.map intP)])], 13, 53⟩) (fun k => k ≤ w.length ∧ (∀ j, j < w.length → j < k → wtB w j = true)) (fun k => w.length - k) 13 (fun _ => rfl) 0 (by simp only [LW, Nat.reduceMod, Nat.reduceDiv, Int.natCast_zero, intP, List.length_map, AW, reduceAdd, reduceCtorEq, reduceEqDiff, ↓reduceIte, reduceLT, reduceLeDiff, reduceSub, reducePow, reduceMul, reduceToNat, reduceLE, reduceEq, Int.reduceLT, Int.reduceBEq, Int.reduceBNe]) ⟨Nat.zero_le _, nofun⟩ (fun k hk => ?_)
  obtain ⟨gk, ik⟩ := hk
  by_cases hltk : k < w.length
  rotate_left
  · have dk : decide ((k : Int) < ((w.length : Nat) : Int)) = false := by rw [decide_eq_false_iff_not]; exact fun h => hltk (Int.ofNat_lt.1 h)
    have ek : k = w.length := Nat.le_antisymm gk (Nat.le_of_not_lt hltk)
    subst ek
    rw [show noiE w = 0 by unfold noiE; rw [if_neg hl, if_pos (noi_yes (fun j hj => ik j hj hj))]]
    simp only [dk, intP, List.length_map, AW, reduceAdd, reduceCtorEq, reduceEqDiff, ↓reduceIte, reduceLT, reduceLeDiff, reduceSub, reducePow, reduceMul, reduceToNat, reduceLE, reduceEq, Int.reduceLT, Int.reduceBEq, Int.reduceBNe]
  have dk : decide ((k : Int) < ((w.length : Nat) : Int)) = true := by rw [decide_eq_true_eq]; exact Int.ofNat_lt.2 hltk
  simp only [dk, map_getD hltk, hltk, intP, List.length_map, AW, reduceAdd, reduceCtorEq, reduceEqDiff, ↓reduceIte, reduceLT, reduceLeDiff, reduceSub, reducePow, reduceMul, reduceToNat, reduceLE, reduceEq, Int.reduceLT, Int.reduceBEq, Int.reduceBNe]
  have no : wtB w k = false → noiE w = 32 := fun h => by
    unfold noiE; rw [if_neg hl, if_neg (by rw [noi_no hltk h]; decide)]
  cases g1 : decide (w[k] < 1)
  rotate_left
  · have g1' := of_decide_eq_true g1
    rw [no (by unfold wtB inB; rw [getD_get hltk, decide_eq_false (by omega), Bool.false_and, Bool.false_and])]
    simp only [AW, reduceAdd, reduceCtorEq, reduceEqDiff, ↓reduceIte, reduceLT, reduceLeDiff, reduceSub, reducePow, reduceMul, reduceToNat, reduceLE, reduceEq, Int.reduceLT, Int.reduceBEq, Int.reduceBNe]
    (first | exact rfl | (refine drawnK rfl ?_; (try simp only [AW, reduceAdd, reduceCtorEq, reduceEqDiff, ↓reduceIte, reduceLT, reduceLeDiff, reduceSub, reducePow, reduceMul, reduceToNat, reduceLE, reduceEq, Int.reduceLT, Int.reduceBEq, Int.reduceBNe])) | skip)
  cases g2 : decide ((16777216 : Int) < w[k])
  rotate_left
  · have g2' := of_decide_eq_true g2
    rw [no (by unfold wtB inB; rw [getD_get hltk, decide_eq_false (show ¬ w[k] ≤ 16777216 by omega), Bool.and_false, Bool.false_and])]
    simp only [map_getD hltk, hltk, intP, g2, AW, reduceAdd, reduceCtorEq, reduceEqDiff, ↓reduceIte, reduceLT, reduceLeDiff, reduceSub, reducePow, reduceMul, reduceToNat, reduceLE, reduceEq, Int.reduceLT, Int.reduceBEq, Int.reduceBNe]
    (first | exact rfl | (refine drawnK rfl ?_; (try simp only [AW, reduceAdd, reduceCtorEq, reduceEqDiff, ↓reduceIte, reduceLT, reduceLeDiff, reduceSub, reducePow, reduceMul, reduceToNat, reduceLE, reduceEq, Int.reduceLT, Int.reduceBEq, Int.reduceBNe])) | skip)
  have g1' := of_decide_eq_false g1
  have g2' := of_decide_eq_false g2
  have hin : inB w[k] 1 16777216 = true := by unfold inB; rw [decide_eq_true (by omega), decide_eq_true (by omega)]; rfl
  by_cases hk0 : k = 0
  · have d0 : decide ((0 : Int) < (k : Int)) = false := by rw [decide_eq_false_iff_not]; omega
    simp only [map_getD hltk, hltk, intP, g2, d0, wrap_succ hltk hlen, List.length_map, AW, reduceAdd, reduceCtorEq, reduceEqDiff, ↓reduceIte, reduceLT, reduceLeDiff, reduceSub, reducePow, reduceMul, reduceToNat, reduceLE, reduceEq, Int.reduceLT, Int.reduceBEq, Int.reduceBNe]
    (first | exact rfl | (refine drawnK rfl ?_; (try simp only [AW, reduceAdd, reduceCtorEq, reduceEqDiff, ↓reduceIte, reduceLT, reduceLeDiff, reduceSub, reducePow, reduceMul, reduceToNat, reduceLE, reduceEq, Int.reduceLT, Int.reduceBEq, Int.reduceBNe])) | skip)
    (try simp only [wrap_succ hltk hlen, List.length_map, AW, reduceAdd, reduceCtorEq, reduceEqDiff, ↓reduceIte, reduceLT, reduceLeDiff, reduceSub, reducePow, reduceMul, reduceToNat, reduceLE, reduceEq, Int.reduceLT, Int.reduceBEq, Int.reduceBNe])
    refine ⟨k + 1, ⟨hltk, fun j hj hjk => ?_⟩, ?_, by omega⟩
    · by_cases e : j = k
      · subst e; unfold wtB; rw [getD_get hltk, hin, decide_eq_true hk0]; rfl
      · exact ik j hj (by omega)
    · simp only [LW, Nat.reduceMod, Nat.reduceDiv, intP, AW, reduceAdd, reduceCtorEq, reduceEqDiff, ↓reduceIte, reduceLT, reduceLeDiff, reduceSub, reducePow, reduceMul, reduceToNat, reduceLE, reduceEq, Int.reduceLT, Int.reduceBEq, Int.reduceBNe]
  have d0 : decide ((0 : Int) < (k : Int)) = true := by rw [decide_eq_true_eq]; omega
  have hk1 : k - 1 < w.length := by omega
  simp only [map_getD hltk, hltk, intP, g2, d0, wrap_prd (Nat.pos_of_ne_zero hk0) hltk hlen, map_getD hk1, hk1, List.length_map, AW, reduceAdd, reduceCtorEq, reduceEqDiff, ↓reduceIte, reduceLT, reduceLeDiff, reduceSub, reducePow, reduceMul, reduceToNat, reduceLE, reduceEq, Int.reduceLT, Int.reduceBEq, Int.reduceBNe]
  have wt : wtB w k = decide (w[k] ≤ w[k - 1]) := by unfold wtB; rw [getD_get hltk, getD_get hk1, hin, decide_eq_false hk0, Bool.true_and, Bool.false_or]
  cases g3 : decide (w[k - 1] < w[k])
  rotate_left
  · have g3' := of_decide_eq_true g3
    rw [no (by rw [wt, decide_eq_false (by omega)])]
    simp only [AW, reduceAdd, reduceCtorEq, reduceEqDiff, ↓reduceIte, reduceLT, reduceLeDiff, reduceSub, reducePow, reduceMul, reduceToNat, reduceLE, reduceEq, Int.reduceLT, Int.reduceBEq, Int.reduceBNe]
    (first | exact rfl | (refine drawnK rfl ?_; (try simp only [AW, reduceAdd, reduceCtorEq, reduceEqDiff, ↓reduceIte, reduceLT, reduceLeDiff, reduceSub, reducePow, reduceMul, reduceToNat, reduceLE, reduceEq, Int.reduceLT, Int.reduceBEq, Int.reduceBNe])) | skip)
  have g3' := of_decide_eq_false g3
  simp only [wrap_succ hltk hlen, List.length_map, AW, reduceAdd, reduceCtorEq, reduceEqDiff, ↓reduceIte, reduceLT, reduceLeDiff, reduceSub, reducePow, reduceMul, reduceToNat, reduceLE, reduceEq, Int.reduceLT, Int.reduceBEq, Int.reduceBNe]
  (first | exact rfl | (refine drawnK rfl ?_; (try simp only [AW, reduceAdd, reduceCtorEq, reduceEqDiff, ↓reduceIte, reduceLT, reduceLeDiff, reduceSub, reducePow, reduceMul, reduceToNat, reduceLE, reduceEq, Int.reduceLT, Int.reduceBEq, Int.reduceBNe])) | skip)
  (try simp only [wrap_succ hltk hlen, List.length_map, AW, reduceAdd, reduceCtorEq, reduceEqDiff, ↓reduceIte, reduceLT, reduceLeDiff, reduceSub, reducePow, reduceMul, reduceToNat, reduceLE, reduceEq, Int.reduceLT, Int.reduceBEq, Int.reduceBNe])
  refine ⟨k + 1, ⟨hltk, fun j hj hjk => ?_⟩, ?_, by omega⟩
  · by_cases e : j = k
    · subst e; rw [wt, decide_eq_true (by omega)]
    · exact ik j hj (by omega)
  · simp only [LW, Nat.reduceMod, Nat.reduceDiv, intP, AW, reduceAdd, reduceCtorEq, reduceEqDiff, ↓reduceIte, reduceLT, reduceLeDiff, reduceSub, reducePow, reduceMul, reduceToNat, reduceLE, reduceEq, Int.reduceLT, Int.reduceBEq, Int.reduceBNe]
set_option maxHeartbeats 4000000 in
theorem fcheck_g (r : RelS) (hb : r.hidden.length ≤ 1000000) (hb2 : r.rowSums.length ≤ 1000000) (hb3 : r.colSums.length ≤ 1000000) : Good Tryz.prog 20 [r.pv] (intP (checkR r)) := by
  refine rel_fact (ps := []) (qs := []) (fun hcl hhl _ _ _ => ?_)
  refine good20 (by simp) ?_
  simp only [ac20, RelS.pv, List.nil_append, AW, reduceAdd, reduceCtorEq, reduceEqDiff, ↓reduceIte, reduceLT, reduceLeDiff, reduceSub, reducePow, reduceMul, reduceToNat, reduceLE, reduceEq, Int.reduceLT, Int.reduceBEq, Int.reduceBNe]
  cases h0 : decide (r.when_.from_ < 0)
  rotate_left
  · rw [show checkR r = 1 by unfold checkR; rw [if_pos (by unfold headB; rw [h0]; simp)]]
    simp only [h0, intP, AW, reduceAdd, reduceCtorEq, reduceEqDiff, ↓reduceIte, reduceLT, reduceLeDiff, reduceSub, reducePow, reduceMul, reduceToNat, reduceLE, reduceEq, Int.reduceLT, Int.reduceBEq, Int.reduceBNe]
  cases h1 : decide (r.when_.to_ < r.when_.from_)
  rotate_left
  · rw [show checkR r = 1 by unfold checkR; rw [if_pos (by unfold headB; rw [h1]; simp)]]
    simp only [h0, h1, intP, AW, reduceAdd, reduceCtorEq, reduceEqDiff, ↓reduceIte, reduceLT, reduceLeDiff, reduceSub, reducePow, reduceMul, reduceToNat, reduceLE, reduceEq, Int.reduceLT, Int.reduceBEq, Int.reduceBNe]
  cases h2 : decide ((4294944000 : Int) < r.when_.to_)
  rotate_left
  · rw [show checkR r = 1 by unfold checkR; rw [if_pos (by unfold headB; rw [h2]; simp)]]
    simp only [h0, h1, h2, intP, AW, reduceAdd, reduceCtorEq, reduceEqDiff, ↓reduceIte, reduceLT, reduceLeDiff, reduceSub, reducePow, reduceMul, reduceToNat, reduceLE, reduceEq, Int.reduceLT, Int.reduceBEq, Int.reduceBNe]
  simp only [h0, h1, h2, AW, reduceAdd, reduceCtorEq, reduceEqDiff, ↓reduceIte, reduceLT, reduceLeDiff, reduceSub, reducePow, reduceMul, reduceToNat, reduceLE, reduceEq, Int.reduceLT, Int.reduceBEq, Int.reduceBNe]
  refine ops_call (in_g r.each 1 256) (by simp only [intP, AW, reduceAdd, reduceCtorEq, reduceEqDiff, ↓reduceIte, reduceLT, reduceLeDiff, reduceSub, reducePow, reduceMul, reduceToNat, reduceLE, reduceEq, Int.reduceLT, Int.reduceBEq, Int.reduceBNe]) ?_; simp only [intP, AW, reduceAdd, reduceCtorEq, reduceEqDiff, ↓reduceIte, reduceLT, reduceLeDiff, reduceSub, reducePow, reduceMul, reduceToNat, reduceLE, reduceEq, Int.reduceLT, Int.reduceBEq, Int.reduceBNe]
  cases he : inB r.each 1 256
  · rw [show checkR r = 1 by unfold checkR; rw [if_pos (by unfold headB; rw [he]; simp)]]
    simp only [intP, AW, reduceAdd, reduceCtorEq, reduceEqDiff, ↓reduceIte, reduceLT, reduceLeDiff, reduceSub, reducePow, reduceMul, reduceToNat, reduceLE, reduceEq, Int.reduceLT, Int.reduceBEq, Int.reduceBNe]
  simp only [AW, reduceAdd, reduceCtorEq, reduceEqDiff, ↓reduceIte, reduceLT, reduceLeDiff, reduceSub, reducePow, reduceMul, reduceToNat, reduceLE, reduceEq, Int.reduceLT, Int.reduceBEq, Int.reduceBNe]
  have hhd : headB r = true := by unfold headB; rw [h0, h1, h2, he]; rfl
  have c1 : ¬ headB r = false := by rw [hhd]; decide
  refine ops_call (tab_g r.table) (by simp only [TableS.pv, intP, AW, reduceAdd, reduceCtorEq, reduceEqDiff, ↓reduceIte, reduceLT, reduceLeDiff, reduceSub, reducePow, reduceMul, reduceToNat, reduceLE, reduceEq, Int.reduceLT, Int.reduceBEq, Int.reduceBNe]) ?_; simp only [TableS.pv, intP, AW, reduceAdd, reduceCtorEq, reduceEqDiff, ↓reduceIte, reduceLT, reduceLeDiff, reduceSub, reducePow, reduceMul, reduceToNat, reduceLE, reduceEq, Int.reduceLT, Int.reduceBEq, Int.reduceBNe]
  by_cases ht : tabE r.table ≠ 0
  · rw [show checkR r = tabE r.table by unfold checkR; rw [if_neg c1, if_pos ht]]
    simp only [ne_bne ht, intP, AW, reduceAdd, reduceCtorEq, reduceEqDiff, ↓reduceIte, reduceLT, reduceLeDiff, reduceSub, reducePow, reduceMul, reduceToNat, reduceLE, reduceEq, Int.reduceLT, Int.reduceBEq, Int.reduceBNe]
  have ht' : tabE r.table = 0 := Decidable.not_not.1 ht
  simp only [eq_bne ht', List.length_map, AW, reduceAdd, reduceCtorEq, reduceEqDiff, ↓reduceIte, reduceLT, reduceLeDiff, reduceSub, reducePow, reduceMul, reduceToNat, reduceLE, reduceEq, Int.reduceLT, Int.reduceBEq, Int.reduceBNe]
  by_cases hn : noisyB r = true
  · have hn' : 0 < r.noise.weights.length := of_decide_eq_true hn
    have d0 : decide ((0 : Int) < (r.noise.weights.length : Int)) = true := by rw [decide_eq_true_eq]; omega
    simp only [d0, AW, reduceAdd, reduceCtorEq, reduceEqDiff, ↓reduceIte, reduceLT, reduceLeDiff, reduceSub, reducePow, reduceMul, reduceToNat, reduceLE, reduceEq, Int.reduceLT, Int.reduceBEq, Int.reduceBNe]
    refine ops_call (noi_g r.noise.weights) (by simp only [NoiseS.pv, intP, AW, reduceAdd, reduceCtorEq, reduceEqDiff, ↓reduceIte, reduceLT, reduceLeDiff, reduceSub, reducePow, reduceMul, reduceToNat, reduceLE, reduceEq, Int.reduceLT, Int.reduceBEq, Int.reduceBNe]) ?_; simp only [NoiseS.pv, intP, AW, reduceAdd, reduceCtorEq, reduceEqDiff, ↓reduceIte, reduceLT, reduceLeDiff, reduceSub, reducePow, reduceMul, reduceToNat, reduceLE, reduceEq, Int.reduceLT, Int.reduceBEq, Int.reduceBNe]
    by_cases hw : noiE r.noise.weights ≠ 0
    · rw [show checkR r = noiE r.noise.weights by unfold checkR; rw [if_neg c1, if_neg ht, if_pos hn, if_pos hw]]
      simp only [ne_bne hw, intP, AW, reduceAdd, reduceCtorEq, reduceEqDiff, ↓reduceIte, reduceLT, reduceLeDiff, reduceSub, reducePow, reduceMul, reduceToNat, reduceLE, reduceEq, Int.reduceLT, Int.reduceBEq, Int.reduceBNe]
    have hw' : noiE r.noise.weights = 0 := Decidable.not_not.1 hw
    simp only [eq_bne hw', List.length_map, AW, reduceAdd, reduceCtorEq, reduceEqDiff, ↓reduceIte, reduceLT, reduceLeDiff, reduceSub, reducePow, reduceMul, reduceToNat, reduceLE, reduceEq, Int.reduceLT, Int.reduceBEq, Int.reduceBNe]
    have w1 : IntKind.i64.wrap ((r.hidden.length : Int) + r.rowSums.length) = (r.hidden.length : Int) + r.rowSums.length := wrap_id ⟨by omega, by omega⟩
    have w2 : IntKind.i64.wrap ((r.hidden.length : Int) + r.rowSums.length + r.colSums.length) = (r.hidden.length : Int) + r.rowSums.length + r.colSums.length := wrap_id ⟨by omega, by omega⟩
    by_cases hs : 0 < r.hidden.length + r.rowSums.length + r.colSums.length
    · have k1 : decide ((0 : Int) < (r.hidden.length : Int) + r.rowSums.length + r.colSums.length) = true := by rw [decide_eq_true_eq]; omega
      rw [show checkR r = 3 by unfold checkR; rw [if_neg c1, if_neg ht, if_pos hn, if_neg hw, if_pos hs]]
      simp only [w1, w2, k1, intP, AW, reduceAdd, reduceCtorEq, reduceEqDiff, ↓reduceIte, reduceLT, reduceLeDiff, reduceSub, reducePow, reduceMul, reduceToNat, reduceLE, reduceEq, Int.reduceLT, Int.reduceBEq, Int.reduceBNe]
    have k1 : decide ((0 : Int) < (r.hidden.length : Int) + r.rowSums.length + r.colSums.length) = false := by rw [decide_eq_false_iff_not]; omega
    rw [show checkR r = 0 by unfold checkR; rw [if_neg c1, if_neg ht, if_pos hn, if_neg hw, if_neg hs]]
    simp only [w1, w2, k1, intP, AW, reduceAdd, reduceCtorEq, reduceEqDiff, ↓reduceIte, reduceLT, reduceLeDiff, reduceSub, reducePow, reduceMul, reduceToNat, reduceLE, reduceEq, Int.reduceLT, Int.reduceBEq, Int.reduceBNe]
  have hn' : ¬ 0 < r.noise.weights.length := fun h => hn (decide_eq_true h)
  have d0 : decide ((0 : Int) < (r.noise.weights.length : Int)) = false := by rw [decide_eq_false_iff_not]; omega
  simp only [d0, List.length_map, AW, reduceAdd, reduceCtorEq, reduceEqDiff, ↓reduceIte, reduceLT, reduceLeDiff, reduceSub, reducePow, reduceMul, reduceToNat, reduceLE, reduceEq, Int.reduceLT, Int.reduceBEq, Int.reduceBNe]
  have no : compB r = false → checkR r = 3 := fun h => by unfold checkR; rw [if_neg c1, if_neg ht, if_neg hn, if_neg (by rw [h]; decide)]
  by_cases hl : r.hidden.length = r.table.cells.length
  rotate_left
  · have d1 : ((r.hidden.length : Int) != (r.table.cells.length : Int)) = true := ne_bne (by omega)
    rw [no (by unfold compB; rw [decide_eq_false hl]; rfl)]
    simp only [d1, intP, AW, reduceAdd, reduceCtorEq, reduceEqDiff, ↓reduceIte, reduceLT, reduceLeDiff, reduceSub, reducePow, reduceMul, reduceToNat, reduceLE, reduceEq, Int.reduceLT, Int.reduceBEq, Int.reduceBNe]
  have d1 : ((r.hidden.length : Int) != (r.table.cells.length : Int)) = false := eq_bne (by omega)
  simp only [d1, AW, reduceAdd, reduceCtorEq, reduceEqDiff, ↓reduceIte, reduceLT, reduceLeDiff, reduceSub, reducePow, reduceMul, reduceToNat, reduceLE, reduceEq, Int.reduceLT, Int.reduceBEq, Int.reduceBNe]
  refine ops_call (sums_g r.rowSums r.table.rows) (by simp only [intsP, intP, AW, reduceAdd, reduceCtorEq, reduceEqDiff, ↓reduceIte, reduceLT, reduceLeDiff, reduceSub, reducePow, reduceMul, reduceToNat, reduceLE, reduceEq, Int.reduceLT, Int.reduceBEq, Int.reduceBNe]) ?_; simp only [intsP, intP, AW, reduceAdd, reduceCtorEq, reduceEqDiff, ↓reduceIte, reduceLT, reduceLeDiff, reduceSub, reducePow, reduceMul, reduceToNat, reduceLE, reduceEq, Int.reduceLT, Int.reduceBEq, Int.reduceBNe]
  cases hs1 : sumsB r.rowSums r.table.rows
  · rw [no (by unfold compB; rw [hs1, Bool.and_false]; rfl)]
    simp only [intP, AW, reduceAdd, reduceCtorEq, reduceEqDiff, ↓reduceIte, reduceLT, reduceLeDiff, reduceSub, reducePow, reduceMul, reduceToNat, reduceLE, reduceEq, Int.reduceLT, Int.reduceBEq, Int.reduceBNe]
  simp only [AW, reduceAdd, reduceCtorEq, reduceEqDiff, ↓reduceIte, reduceLT, reduceLeDiff, reduceSub, reducePow, reduceMul, reduceToNat, reduceLE, reduceEq, Int.reduceLT, Int.reduceBEq, Int.reduceBNe]
  refine ops_call (sums_g r.colSums r.table.cols) (by simp only [intsP, intP, AW, reduceAdd, reduceCtorEq, reduceEqDiff, ↓reduceIte, reduceLT, reduceLeDiff, reduceSub, reducePow, reduceMul, reduceToNat, reduceLE, reduceEq, Int.reduceLT, Int.reduceBEq, Int.reduceBNe]) ?_; simp only [intsP, intP, AW, reduceAdd, reduceCtorEq, reduceEqDiff, ↓reduceIte, reduceLT, reduceLeDiff, reduceSub, reducePow, reduceMul, reduceToNat, reduceLE, reduceEq, Int.reduceLT, Int.reduceBEq, Int.reduceBNe]
  cases hs2 : sumsB r.colSums r.table.cols
  · rw [no (by unfold compB; rw [hs2, Bool.and_false]; rfl)]
    simp only [intP, AW, reduceAdd, reduceCtorEq, reduceEqDiff, ↓reduceIte, reduceLT, reduceLeDiff, reduceSub, reducePow, reduceMul, reduceToNat, reduceLE, reduceEq, Int.reduceLT, Int.reduceBEq, Int.reduceBNe]
  simp only [List.length_map, AW, reduceAdd, reduceCtorEq, reduceEqDiff, ↓reduceIte, reduceLT, reduceLeDiff, reduceSub, reducePow, reduceMul, reduceToNat, reduceLE, reduceEq, Int.reduceLT, Int.reduceBEq, Int.reduceBNe]
  refine run_loop (ι := Nat) (fun k => ⟨[(1, .ptr 0 0), (88, .sl (r.hidden.map boolP)), (89, .sc (.int .i64 (r.hidden.length : Int))), (90, .sc (.int .i64 (k : Int)))], [(0, .var [.sc (.int .i64 r.when_.from_), .sc (.int .i64 r.when_.to_), .sc (.int .i64 r.each), .sc (.int .i64 r.table.rows), .sc (.int .i64 r.table.cols), .sl (r.table.cells.map intP), .sl (r.hidden.map boolP), .sl (r.rowSums.map intP), .sl (r.colSums.map intP), .sl (r.noise.weights.map intP)])], 68, 106⟩) (fun k => k ≤ r.hidden.length ∧ (∀ j, j < r.hidden.length → j < k → (!(r.hidden.getD j false) || decide (r.table.cells.getD j 0 = 0)) = true)) (fun k => r.hidden.length - k) 68 (fun _ => rfl) 0 (by simp only [LW, Nat.reduceMod, Nat.reduceDiv, Int.natCast_zero, intP, List.length_map, AW, reduceAdd, reduceCtorEq, reduceEqDiff, ↓reduceIte, reduceLT, reduceLeDiff, reduceSub, reducePow, reduceMul, reduceToNat, reduceLE, reduceEq, Int.reduceLT, Int.reduceBEq, Int.reduceBNe]) ⟨Nat.zero_le _, nofun⟩ (fun k hk => ?_)
  obtain ⟨gk, ik⟩ := hk
  by_cases hltk : k < r.hidden.length
  rotate_left
  · have dk : decide ((k : Int) < ((r.hidden.length : Nat) : Int)) = false := by rw [decide_eq_false_iff_not]; exact fun h => hltk (Int.ofNat_lt.1 h)
    have ek : k = r.hidden.length := Nat.le_antisymm gk (Nat.le_of_not_lt hltk)
    subst ek
    rw [show checkR r = 0 by unfold checkR; rw [if_neg c1, if_neg ht, if_neg hn, if_pos (by unfold compB; rw [decide_eq_true hl, hs1, hs2, hid_yes (fun j hj => ik j hj hj)]; rfl)]]
    simp only [dk, intP, List.length_map, AW, reduceAdd, reduceCtorEq, reduceEqDiff, ↓reduceIte, reduceLT, reduceLeDiff, reduceSub, reducePow, reduceMul, reduceToNat, reduceLE, reduceEq, Int.reduceLT, Int.reduceBEq, Int.reduceBNe]
  have dk : decide ((k : Int) < ((r.hidden.length : Nat) : Int)) = true := by rw [decide_eq_true_eq]; exact Int.ofNat_lt.2 hltk
  have hk2 : k < r.table.cells.length := by omega
  simp only [dk, map_getD hltk, hltk, boolP, List.length_map, AW, reduceAdd, reduceCtorEq, reduceEqDiff, ↓reduceIte, reduceLT, reduceLeDiff, reduceSub, reducePow, reduceMul, reduceToNat, reduceLE, reduceEq, Int.reduceLT, Int.reduceBEq, Int.reduceBNe]
  have n2 : (!(r.hidden.getD k false) || decide (r.table.cells.getD k 0 = 0)) = (!r.hidden[k] || decide (r.table.cells[k] = 0)) := by rw [getD_get hltk, getD_get hk2]
  cases g1 : r.hidden[k]
  · simp only [wrap_succ hltk hhl, AW, reduceAdd, reduceCtorEq, reduceEqDiff, ↓reduceIte, reduceLT, reduceLeDiff, reduceSub, reducePow, reduceMul, reduceToNat, reduceLE, reduceEq, Int.reduceLT, Int.reduceBEq, Int.reduceBNe]
    refine ⟨k + 1, ⟨hltk, fun j hj hjk => ?_⟩, ?_, by omega⟩
    · by_cases e : j = k
      · subst e; rw [n2, g1]; rfl
      · exact ik j hj (by omega)
    · simp only [LW, Nat.reduceMod, Nat.reduceDiv, intP, AW, reduceAdd, reduceCtorEq, reduceEqDiff, ↓reduceIte, reduceLT, reduceLeDiff, reduceSub, reducePow, reduceMul, reduceToNat, reduceLE, reduceEq, Int.reduceLT, Int.reduceBEq, Int.reduceBNe]
  simp only [map_getD hk2, hk2, intP, AW, reduceAdd, reduceCtorEq, reduceEqDiff, ↓reduceIte, reduceLT, reduceLeDiff, reduceSub, reducePow, reduceMul, reduceToNat, reduceLE, reduceEq, Int.reduceLT, Int.reduceBEq, Int.reduceBNe]
  by_cases g2 : r.table.cells[k] = 0
  · simp only [eq_bne g2, wrap_succ hltk hhl, AW, reduceAdd, reduceCtorEq, reduceEqDiff, ↓reduceIte, reduceLT, reduceLeDiff, reduceSub, reducePow, reduceMul, reduceToNat, reduceLE, reduceEq, Int.reduceLT, Int.reduceBEq, Int.reduceBNe]
    refine ⟨k + 1, ⟨hltk, fun j hj hjk => ?_⟩, ?_, by omega⟩
    · by_cases e : j = k
      · subst e; rw [n2, g1, g2]; rfl
      · exact ik j hj (by omega)
    · simp only [LW, Nat.reduceMod, Nat.reduceDiv, intP, AW, reduceAdd, reduceCtorEq, reduceEqDiff, ↓reduceIte, reduceLT, reduceLeDiff, reduceSub, reducePow, reduceMul, reduceToNat, reduceLE, reduceEq, Int.reduceLT, Int.reduceBEq, Int.reduceBNe]
  rw [no (by unfold compB; rw [hid_no hltk (by rw [n2, g1, decide_eq_false g2]; rfl), Bool.and_false])]
  simp only [ne_bne g2, AW, reduceAdd, reduceCtorEq, reduceEqDiff, ↓reduceIte, reduceLT, reduceLeDiff, reduceSub, reducePow, reduceMul, reduceToNat, reduceLE, reduceEq, Int.reduceLT, Int.reduceBEq, Int.reduceBNe]
set_option maxHeartbeats 4000000 in
theorem qcomp_g (r : RelS) : Good Tryz.prog 50 [r.pv] (.sc (.bool (compB r))) := by
  refine rel_fact (ps := []) (qs := []) (fun hcl hhl _ _ _ => ?_)
  refine good50 (by simp) ?_
  simp only [ac50, RelS.pv, List.nil_append, List.length_map, AW, reduceAdd, reduceCtorEq, reduceEqDiff, ↓reduceIte, reduceLT, reduceLeDiff, reduceSub, reducePow, reduceMul, reduceToNat, reduceLE, reduceEq, Int.reduceLT, Int.reduceBEq, Int.reduceBNe]
  by_cases hl : r.hidden.length = r.table.cells.length
  rotate_left
  · have d1 : ((r.hidden.length : Int) != (r.table.cells.length : Int)) = true := ne_bne (by omega)
    rw [show compB r = false by unfold compB; rw [decide_eq_false hl]; rfl]
    simp only [d1, AW, reduceAdd, reduceCtorEq, reduceEqDiff, ↓reduceIte, reduceLT, reduceLeDiff, reduceSub, reducePow, reduceMul, reduceToNat, reduceLE, reduceEq, Int.reduceLT, Int.reduceBEq, Int.reduceBNe]
  have d1 : ((r.hidden.length : Int) != (r.table.cells.length : Int)) = false := eq_bne (by omega)
  simp only [d1, AW, reduceAdd, reduceCtorEq, reduceEqDiff, ↓reduceIte, reduceLT, reduceLeDiff, reduceSub, reducePow, reduceMul, reduceToNat, reduceLE, reduceEq, Int.reduceLT, Int.reduceBEq, Int.reduceBNe]
  refine ops_call (qsums_g r.rowSums r.table.rows) (by simp only [intsP, intP, AW, reduceAdd, reduceCtorEq, reduceEqDiff, ↓reduceIte, reduceLT, reduceLeDiff, reduceSub, reducePow, reduceMul, reduceToNat, reduceLE, reduceEq, Int.reduceLT, Int.reduceBEq, Int.reduceBNe]) ?_; simp only [intsP, intP, AW, reduceAdd, reduceCtorEq, reduceEqDiff, ↓reduceIte, reduceLT, reduceLeDiff, reduceSub, reducePow, reduceMul, reduceToNat, reduceLE, reduceEq, Int.reduceLT, Int.reduceBEq, Int.reduceBNe]
  cases hs1 : sumsB r.rowSums r.table.rows
  · rw [show compB r = false by unfold compB; rw [hs1, Bool.and_false]; rfl]
    simp only [AW, reduceAdd, reduceCtorEq, reduceEqDiff, ↓reduceIte, reduceLT, reduceLeDiff, reduceSub, reducePow, reduceMul, reduceToNat, reduceLE, reduceEq, Int.reduceLT, Int.reduceBEq, Int.reduceBNe]
  simp only [AW, reduceAdd, reduceCtorEq, reduceEqDiff, ↓reduceIte, reduceLT, reduceLeDiff, reduceSub, reducePow, reduceMul, reduceToNat, reduceLE, reduceEq, Int.reduceLT, Int.reduceBEq, Int.reduceBNe]
  refine ops_call (qsums_g r.colSums r.table.cols) (by simp only [intsP, intP, AW, reduceAdd, reduceCtorEq, reduceEqDiff, ↓reduceIte, reduceLT, reduceLeDiff, reduceSub, reducePow, reduceMul, reduceToNat, reduceLE, reduceEq, Int.reduceLT, Int.reduceBEq, Int.reduceBNe]) ?_; simp only [intsP, intP, AW, reduceAdd, reduceCtorEq, reduceEqDiff, ↓reduceIte, reduceLT, reduceLeDiff, reduceSub, reducePow, reduceMul, reduceToNat, reduceLE, reduceEq, Int.reduceLT, Int.reduceBEq, Int.reduceBNe]
  cases hs2 : sumsB r.colSums r.table.cols
  · rw [show compB r = false by unfold compB; rw [hs2, Bool.and_false]; rfl]
    simp only [AW, reduceAdd, reduceCtorEq, reduceEqDiff, ↓reduceIte, reduceLT, reduceLeDiff, reduceSub, reducePow, reduceMul, reduceToNat, reduceLE, reduceEq, Int.reduceLT, Int.reduceBEq, Int.reduceBNe]
  simp only [List.length_map, AW, reduceAdd, reduceCtorEq, reduceEqDiff, ↓reduceIte, reduceLT, reduceLeDiff, reduceSub, reducePow, reduceMul, reduceToNat, reduceLE, reduceEq, Int.reduceLT, Int.reduceBEq, Int.reduceBNe]
  refine run_loop (ι := Nat) (fun k => ⟨[(1, .ptr 0 0), (3, .sc (.int .i64 (k : Int)))], [(0, .var [.sc (.int .i64 r.when_.from_), .sc (.int .i64 r.when_.to_), .sc (.int .i64 r.each), .sc (.int .i64 r.table.rows), .sc (.int .i64 r.table.cols), .sl (r.table.cells.map intP), .sl (r.hidden.map boolP), .sl (r.rowSums.map intP), .sl (r.colSums.map intP), .sl (r.noise.weights.map intP)])], 29, 51⟩) (fun k => k ≤ r.hidden.length ∧ (∀ j, j < r.hidden.length → j < k → (!(r.hidden.getD j false) || decide (r.table.cells.getD j 0 = 0)) = true)) (fun k => r.hidden.length - k) 29 (fun _ => rfl) 0 (by simp only [LW, Nat.reduceMod, Nat.reduceDiv, Int.natCast_zero, intP, List.length_map, AW, reduceAdd, reduceCtorEq, reduceEqDiff, ↓reduceIte, reduceLT, reduceLeDiff, reduceSub, reducePow, reduceMul, reduceToNat, reduceLE, reduceEq, Int.reduceLT, Int.reduceBEq, Int.reduceBNe]) ⟨Nat.zero_le _, nofun⟩ (fun k hk => ?_)
  obtain ⟨gk, ik⟩ := hk
  by_cases hltk : k < r.hidden.length
  rotate_left
  · have dk : decide ((k : Int) < ((r.hidden.length : Nat) : Int)) = false := by rw [decide_eq_false_iff_not]; exact fun h => hltk (Int.ofNat_lt.1 h)
    have ek : k = r.hidden.length := Nat.le_antisymm gk (Nat.le_of_not_lt hltk)
    subst ek
    rw [show compB r = true by unfold compB; rw [decide_eq_true hl, hs1, hs2, hid_yes (fun j hj => ik j hj hj)]; rfl]
    simp only [dk, List.length_map, AW, reduceAdd, reduceCtorEq, reduceEqDiff, ↓reduceIte, reduceLT, reduceLeDiff, reduceSub, reducePow, reduceMul, reduceToNat, reduceLE, reduceEq, Int.reduceLT, Int.reduceBEq, Int.reduceBNe]
  have dk : decide ((k : Int) < ((r.hidden.length : Nat) : Int)) = true := by rw [decide_eq_true_eq]; exact Int.ofNat_lt.2 hltk
  have hk2 : k < r.table.cells.length := by omega
  simp only [dk, map_getD hltk, hltk, boolP, List.length_map, AW, reduceAdd, reduceCtorEq, reduceEqDiff, ↓reduceIte, reduceLT, reduceLeDiff, reduceSub, reducePow, reduceMul, reduceToNat, reduceLE, reduceEq, Int.reduceLT, Int.reduceBEq, Int.reduceBNe]
  have n2 : (!(r.hidden.getD k false) || decide (r.table.cells.getD k 0 = 0)) = (!r.hidden[k] || decide (r.table.cells[k] = 0)) := by rw [getD_get hltk, getD_get hk2]
  cases g1 : r.hidden[k]
  · simp only [AW, reduceAdd, reduceCtorEq, reduceEqDiff, ↓reduceIte, reduceLT, reduceLeDiff, reduceSub, reducePow, reduceMul, reduceToNat, reduceLE, reduceEq, Int.reduceLT, Int.reduceBEq, Int.reduceBNe]
    (first | (refine drawnK rfl ?_; (try simp only [AW, reduceAdd, reduceCtorEq, reduceEqDiff, ↓reduceIte, reduceLT, reduceLeDiff, reduceSub, reducePow, reduceMul, reduceToNat, reduceLE, reduceEq, Int.reduceLT, Int.reduceBEq, Int.reduceBNe])) | skip)
    (try simp only [wrap_succ hltk hhl, AW, reduceAdd, reduceCtorEq, reduceEqDiff, ↓reduceIte, reduceLT, reduceLeDiff, reduceSub, reducePow, reduceMul, reduceToNat, reduceLE, reduceEq, Int.reduceLT, Int.reduceBEq, Int.reduceBNe])
    refine ⟨k + 1, ⟨hltk, fun j hj hjk => ?_⟩, ?_, by omega⟩
    · by_cases e : j = k
      · subst e; rw [n2, g1]; rfl
      · exact ik j hj (by omega)
    · simp only [LW, Nat.reduceMod, Nat.reduceDiv, intP, AW, reduceAdd, reduceCtorEq, reduceEqDiff, ↓reduceIte, reduceLT, reduceLeDiff, reduceSub, reducePow, reduceMul, reduceToNat, reduceLE, reduceEq, Int.reduceLT, Int.reduceBEq, Int.reduceBNe]
  simp only [map_getD hk2, hk2, intP, AW, reduceAdd, reduceCtorEq, reduceEqDiff, ↓reduceIte, reduceLT, reduceLeDiff, reduceSub, reducePow, reduceMul, reduceToNat, reduceLE, reduceEq, Int.reduceLT, Int.reduceBEq, Int.reduceBNe]
  by_cases g2 : r.table.cells[k] = 0
  · simp only [eq_bne g2, AW, reduceAdd, reduceCtorEq, reduceEqDiff, ↓reduceIte, reduceLT, reduceLeDiff, reduceSub, reducePow, reduceMul, reduceToNat, reduceLE, reduceEq, Int.reduceLT, Int.reduceBEq, Int.reduceBNe]
    (first | (refine drawnK rfl ?_; (try simp only [AW, reduceAdd, reduceCtorEq, reduceEqDiff, ↓reduceIte, reduceLT, reduceLeDiff, reduceSub, reducePow, reduceMul, reduceToNat, reduceLE, reduceEq, Int.reduceLT, Int.reduceBEq, Int.reduceBNe])) | skip)
    (try simp only [wrap_succ hltk hhl, AW, reduceAdd, reduceCtorEq, reduceEqDiff, ↓reduceIte, reduceLT, reduceLeDiff, reduceSub, reducePow, reduceMul, reduceToNat, reduceLE, reduceEq, Int.reduceLT, Int.reduceBEq, Int.reduceBNe])
    refine ⟨k + 1, ⟨hltk, fun j hj hjk => ?_⟩, ?_, by omega⟩
    · by_cases e : j = k
      · subst e; rw [n2, g1, g2]; rfl
      · exact ik j hj (by omega)
    · simp only [LW, Nat.reduceMod, Nat.reduceDiv, intP, AW, reduceAdd, reduceCtorEq, reduceEqDiff, ↓reduceIte, reduceLT, reduceLeDiff, reduceSub, reducePow, reduceMul, reduceToNat, reduceLE, reduceEq, Int.reduceLT, Int.reduceBEq, Int.reduceBNe]
  rw [show compB r = false by unfold compB; rw [hid_no hltk (by rw [n2, g1, decide_eq_false g2]; rfl), Bool.and_false]]
  simp only [ne_bne g2, AW, reduceAdd, reduceCtorEq, reduceEqDiff, ↓reduceIte, reduceLT, reduceLeDiff, reduceSub, reducePow, reduceMul, reduceToNat, reduceLE, reduceEq, Int.reduceLT, Int.reduceBEq, Int.reduceBNe]
  (first | exact rfl | (refine drawnK rfl ?_; (try simp only [AW, reduceAdd, reduceCtorEq, reduceEqDiff, ↓reduceIte, reduceLT, reduceLeDiff, reduceSub, reducePow, reduceMul, reduceToNat, reduceLE, reduceEq, Int.reduceLT, Int.reduceBEq, Int.reduceBNe])) | skip)
set_option maxHeartbeats 4000000 in
theorem qcheck_g (r : RelS) : Good Tryz.prog 32 [r.pv] (intP (checkR r)) := by
  refine rel_fact (ps := []) (qs := []) (fun hcl hhl _ _ _ => ?_)
  refine good32 (by simp) ?_
  simp only [ac32, RelS.pv, List.nil_append, AW, reduceAdd, reduceCtorEq, reduceEqDiff, ↓reduceIte, reduceLT, reduceLeDiff, reduceSub, reducePow, reduceMul, reduceToNat, reduceLE, reduceEq, Int.reduceLT, Int.reduceBEq, Int.reduceBNe]
  cases h0 : decide (r.when_.from_ < 0)
  rotate_left
  · rw [show checkR r = 1 by unfold checkR; rw [if_pos (by unfold headB; rw [h0]; simp)]]
    simp only [h0, intP, AW, reduceAdd, reduceCtorEq, reduceEqDiff, ↓reduceIte, reduceLT, reduceLeDiff, reduceSub, reducePow, reduceMul, reduceToNat, reduceLE, reduceEq, Int.reduceLT, Int.reduceBEq, Int.reduceBNe]
  cases h1 : decide (r.when_.to_ < r.when_.from_)
  rotate_left
  · rw [show checkR r = 1 by unfold checkR; rw [if_pos (by unfold headB; rw [h1]; simp)]]
    simp only [h0, h1, intP, AW, reduceAdd, reduceCtorEq, reduceEqDiff, ↓reduceIte, reduceLT, reduceLeDiff, reduceSub, reducePow, reduceMul, reduceToNat, reduceLE, reduceEq, Int.reduceLT, Int.reduceBEq, Int.reduceBNe]
  cases h2 : decide ((4294944000 : Int) < r.when_.to_)
  rotate_left
  · rw [show checkR r = 1 by unfold checkR; rw [if_pos (by unfold headB; rw [h2]; simp)]]
    simp only [h0, h1, h2, intP, AW, reduceAdd, reduceCtorEq, reduceEqDiff, ↓reduceIte, reduceLT, reduceLeDiff, reduceSub, reducePow, reduceMul, reduceToNat, reduceLE, reduceEq, Int.reduceLT, Int.reduceBEq, Int.reduceBNe]
  cases h3 : decide (r.each < 1)
  rotate_left
  · have h3' := of_decide_eq_true h3
    rw [show checkR r = 1 by unfold checkR; rw [if_pos (by unfold headB inB; rw [decide_eq_false (show ¬ 1 ≤ r.each by omega)]; simp)]]
    simp only [h0, h1, h2, h3, intP, AW, reduceAdd, reduceCtorEq, reduceEqDiff, ↓reduceIte, reduceLT, reduceLeDiff, reduceSub, reducePow, reduceMul, reduceToNat, reduceLE, reduceEq, Int.reduceLT, Int.reduceBEq, Int.reduceBNe]
  cases h4 : decide ((256 : Int) < r.each)
  rotate_left
  · have h4' := of_decide_eq_true h4
    rw [show checkR r = 1 by unfold checkR; rw [if_pos (by unfold headB inB; rw [decide_eq_false (show ¬ r.each ≤ 256 by omega)]; simp)]]
    simp only [h0, h1, h2, h3, h4, intP, AW, reduceAdd, reduceCtorEq, reduceEqDiff, ↓reduceIte, reduceLT, reduceLeDiff, reduceSub, reducePow, reduceMul, reduceToNat, reduceLE, reduceEq, Int.reduceLT, Int.reduceBEq, Int.reduceBNe]
  have h3' := of_decide_eq_false h3
  have h4' := of_decide_eq_false h4
  have he : inB r.each 1 256 = true := by unfold inB; rw [decide_eq_true (by omega), decide_eq_true (by omega)]; rfl
  simp only [h0, h1, h2, h3, h4, AW, reduceAdd, reduceCtorEq, reduceEqDiff, ↓reduceIte, reduceLT, reduceLeDiff, reduceSub, reducePow, reduceMul, reduceToNat, reduceLE, reduceEq, Int.reduceLT, Int.reduceBEq, Int.reduceBNe]
  have hhd : headB r = true := by unfold headB; rw [h0, h1, h2, he]; rfl
  have c1 : ¬ headB r = false := by rw [hhd]; decide
  refine ops_call (qtab_g r.table) (by simp only [TableS.pv, intP, AW, reduceAdd, reduceCtorEq, reduceEqDiff, ↓reduceIte, reduceLT, reduceLeDiff, reduceSub, reducePow, reduceMul, reduceToNat, reduceLE, reduceEq, Int.reduceLT, Int.reduceBEq, Int.reduceBNe]) ?_; simp only [TableS.pv, intP, AW, reduceAdd, reduceCtorEq, reduceEqDiff, ↓reduceIte, reduceLT, reduceLeDiff, reduceSub, reducePow, reduceMul, reduceToNat, reduceLE, reduceEq, Int.reduceLT, Int.reduceBEq, Int.reduceBNe]
  by_cases ht : tabE r.table ≠ 0
  · rw [show checkR r = tabE r.table by unfold checkR; rw [if_neg c1, if_pos ht]]
    simp only [ne_bne ht, intP, AW, reduceAdd, reduceCtorEq, reduceEqDiff, ↓reduceIte, reduceLT, reduceLeDiff, reduceSub, reducePow, reduceMul, reduceToNat, reduceLE, reduceEq, Int.reduceLT, Int.reduceBEq, Int.reduceBNe]
  have ht' : tabE r.table = 0 := Decidable.not_not.1 ht
  simp only [eq_bne ht', List.length_map, AW, reduceAdd, reduceCtorEq, reduceEqDiff, ↓reduceIte, reduceLT, reduceLeDiff, reduceSub, reducePow, reduceMul, reduceToNat, reduceLE, reduceEq, Int.reduceLT, Int.reduceBEq, Int.reduceBNe]
  by_cases hn : noisyB r = true
  · have hn' : 0 < r.noise.weights.length := of_decide_eq_true hn
    have d0 : ((r.noise.weights.length : Int) == 0) = false := by rw [beq_eq_false_iff_ne]; omega
    simp only [d0, AW, reduceAdd, reduceCtorEq, reduceEqDiff, ↓reduceIte, reduceLT, reduceLeDiff, reduceSub, reducePow, reduceMul, reduceToNat, reduceLE, reduceEq, Int.reduceLT, Int.reduceBEq, Int.reduceBNe]
    refine ops_call (qnoi_g r.noise.weights) (by simp only [NoiseS.pv, intP, AW, reduceAdd, reduceCtorEq, reduceEqDiff, ↓reduceIte, reduceLT, reduceLeDiff, reduceSub, reducePow, reduceMul, reduceToNat, reduceLE, reduceEq, Int.reduceLT, Int.reduceBEq, Int.reduceBNe]) ?_; simp only [NoiseS.pv, intP, AW, reduceAdd, reduceCtorEq, reduceEqDiff, ↓reduceIte, reduceLT, reduceLeDiff, reduceSub, reducePow, reduceMul, reduceToNat, reduceLE, reduceEq, Int.reduceLT, Int.reduceBEq, Int.reduceBNe]
    by_cases hw : noiE r.noise.weights ≠ 0
    · rw [show checkR r = noiE r.noise.weights by unfold checkR; rw [if_neg c1, if_neg ht, if_pos hn, if_pos hw]]
      simp only [ne_bne hw, intP, AW, reduceAdd, reduceCtorEq, reduceEqDiff, ↓reduceIte, reduceLT, reduceLeDiff, reduceSub, reducePow, reduceMul, reduceToNat, reduceLE, reduceEq, Int.reduceLT, Int.reduceBEq, Int.reduceBNe]
    have hw' : noiE r.noise.weights = 0 := Decidable.not_not.1 hw
    simp only [eq_bne hw', List.length_map, AW, reduceAdd, reduceCtorEq, reduceEqDiff, ↓reduceIte, reduceLT, reduceLeDiff, reduceSub, reducePow, reduceMul, reduceToNat, reduceLE, reduceEq, Int.reduceLT, Int.reduceBEq, Int.reduceBNe]
    by_cases hs : 0 < r.hidden.length + r.rowSums.length + r.colSums.length
    · rw [show checkR r = 3 by unfold checkR; rw [if_neg c1, if_neg ht, if_pos hn, if_neg hw, if_pos hs]]
      cases k1 : decide ((0 : Int) < (r.hidden.length : Int))
      rotate_left
      · simp only [k1, intP, AW, reduceAdd, reduceCtorEq, reduceEqDiff, ↓reduceIte, reduceLT, reduceLeDiff, reduceSub, reducePow, reduceMul, reduceToNat, reduceLE, reduceEq, Int.reduceLT, Int.reduceBEq, Int.reduceBNe]
      cases k2 : decide ((0 : Int) < (r.rowSums.length : Int))
      rotate_left
      · simp only [k1, k2, List.length_map, intP, AW, reduceAdd, reduceCtorEq, reduceEqDiff, ↓reduceIte, reduceLT, reduceLeDiff, reduceSub, reducePow, reduceMul, reduceToNat, reduceLE, reduceEq, Int.reduceLT, Int.reduceBEq, Int.reduceBNe]
      have k3 : decide ((0 : Int) < (r.colSums.length : Int)) = true := by
        have := of_decide_eq_false k1; have := of_decide_eq_false k2
        rw [decide_eq_true_eq]; omega
      simp only [k1, k2, k3, List.length_map, intP, AW, reduceAdd, reduceCtorEq, reduceEqDiff, ↓reduceIte, reduceLT, reduceLeDiff, reduceSub, reducePow, reduceMul, reduceToNat, reduceLE, reduceEq, Int.reduceLT, Int.reduceBEq, Int.reduceBNe]
    rw [show checkR r = 0 by unfold checkR; rw [if_neg c1, if_neg ht, if_pos hn, if_neg hw, if_neg hs]]
    have k1 : decide ((0 : Int) < (r.hidden.length : Int)) = false := by rw [decide_eq_false_iff_not]; omega
    have k2 : decide ((0 : Int) < (r.rowSums.length : Int)) = false := by rw [decide_eq_false_iff_not]; omega
    have k3 : decide ((0 : Int) < (r.colSums.length : Int)) = false := by rw [decide_eq_false_iff_not]; omega
    simp only [k1, k2, k3, List.length_map, intP, AW, reduceAdd, reduceCtorEq, reduceEqDiff, ↓reduceIte, reduceLT, reduceLeDiff, reduceSub, reducePow, reduceMul, reduceToNat, reduceLE, reduceEq, Int.reduceLT, Int.reduceBEq, Int.reduceBNe]
  have hn' : ¬ 0 < r.noise.weights.length := fun h => hn (decide_eq_true h)
  have d0 : ((r.noise.weights.length : Int) == 0) = true := by rw [beq_iff_eq]; omega
  simp only [d0, AW, reduceAdd, reduceCtorEq, reduceEqDiff, ↓reduceIte, reduceLT, reduceLeDiff, reduceSub, reducePow, reduceMul, reduceToNat, reduceLE, reduceEq, Int.reduceLT, Int.reduceBEq, Int.reduceBNe]
  refine ops_call (qcomp_g r) (by simp only [RelS.pv, AW, reduceAdd, reduceCtorEq, reduceEqDiff, ↓reduceIte, reduceLT, reduceLeDiff, reduceSub, reducePow, reduceMul, reduceToNat, reduceLE, reduceEq, Int.reduceLT, Int.reduceBEq, Int.reduceBNe]) ?_; simp only [RelS.pv, AW, reduceAdd, reduceCtorEq, reduceEqDiff, ↓reduceIte, reduceLT, reduceLeDiff, reduceSub, reducePow, reduceMul, reduceToNat, reduceLE, reduceEq, Int.reduceLT, Int.reduceBEq, Int.reduceBNe]
  have e : checkR r = if compB r = true then 0 else 3 := by unfold checkR; rw [if_neg c1, if_neg ht, if_neg hn]
  rw [e]
  cases hc : compB r
  · simp only [intP, AW, reduceAdd, reduceCtorEq, reduceEqDiff, ↓reduceIte, reduceLT, reduceLeDiff, reduceSub, reducePow, reduceMul, reduceToNat, reduceLE, reduceEq, Int.reduceLT, Int.reduceBEq, Int.reduceBNe]
  · simp only [intP, AW, reduceAdd, reduceCtorEq, reduceEqDiff, ↓reduceIte, reduceLT, reduceLeDiff, reduceSub, reducePow, reduceMul, reduceToNat, reduceLE, reduceEq, Int.reduceLT, Int.reduceBEq, Int.reduceBNe]


end Go.Proofs.YtjnfldkcbcfboaaGreatDoor
