/-
  Few, short; the examples of the chapter.
-/
import Derived.Test.YtjnfldkcbcfboaaGreatDoorFj
import Derived.Test.YtjnfldkcbcfboaaGreatDoorFc
namespace Go.Proofs.YtjnfldkcbcfboaaGreatDoor
open Go.RowKit
open Nat (reduceAdd reduceEqDiff reduceLT reduceLeDiff reduceSub reducePow reduceMul)
open Int (reduceToNat reduceLE reduceEq)
set_option linter.unusedVariables false
set_option linter.unusedSimpArgs false
set_option linter.unnecessarySimpa false


def exA : RelS := ⟨⟨0, 86400⟩, 2, ⟨2, 2, [0, 30, 40, 0]⟩, [true, false, false, true], [32, 90], [42, 80], ⟨[]⟩⟩
def exB : RelS := ⟨⟨0, 86400⟩, 2, ⟨2, 2, [3, -1, 40, 51]⟩, [], [], [], ⟨[4, 2, 1]⟩⟩
theorem exA_ok : checkR exA = 0 := by decide +kernel
theorem exB_ok : checkR exB = 0 := by decide +kernel
def exLA : List (List UInt8) := [[116, 114, 105, 112, 115, 32, 48, 32, 56, 54, 52, 48, 48, 32, 50, 32, 50, 32, 50], [114, 111, 119, 32, 120, 32, 51, 48, 32, 51, 50], [114, 111, 119, 32, 52, 48, 32, 120, 32, 57, 48], [115, 117, 109, 115, 32, 52, 50, 32, 56, 48]]
def exLB : List (List UInt8) := [[116, 114, 105, 112, 115, 32, 48, 32, 56, 54, 52, 48, 48, 32, 50, 32, 50, 32, 50], [114, 111, 119, 32, 51, 32, 45, 49], [114, 111, 119, 32, 52, 48, 32, 53, 49], [110, 111, 105, 115, 101, 32, 52, 32, 50, 32, 49]]
def exL2 : List (List UInt8) := [[116, 114, 105, 112, 115, 32, 48, 32, 56, 54, 52, 48, 48, 32, 50, 32, 50, 32, 50], [114, 111, 119, 32, 120, 32, 51, 48, 32, 51, 50], [114, 111, 119, 32, 52, 48, 32, 120, 32, 57, 48], [115, 117, 109, 115, 32, 48, 52, 50, 32, 56, 48]]
def exLS : List (List UInt8) := [[48, 32, 49, 32, 50], [49, 32, 49, 32, 49]]
def exF : FleetS := ⟨3, 1, 1, [3, 2], []⟩
def exS : List SpotS := [⟨1, 1, 0, false⟩, ⟨5, 0, 0, false⟩, ⟨1, 33, 0, false⟩]
theorem exA_lines : linesX exA = exLA := by decide +kernel
theorem exB_lines : linesX exB = exLB := by decide +kernel
theorem ex_numV : numV [48, 52, 50] = some 42 := by decide +kernel
theorem ex2_last : (readR exL2).colSums = [42, 80] ∧ noisyB (readR exL2) = false := by decide +kernel
theorem exS_lines : statX exF exS = exLS := by decide +kernel
theorem exS_ok : statE exF exS = 0 := by decide +kernel
theorem parse_lines {r : RelS} (h : checkR r = 0) : parseP (linesX r) = .tup [r.pv, intP 0] := by
  obtain ⟨R, C, hok⟩ := ok_of h
  obtain ⟨h1, h2⟩ := read_lines hok
  unfold parseP parseB
  rw [h1, h2, decide_eq_true h, decide_eq_true rfl]; rfl
theorem last_eq {r : RelS} {l : List (List UInt8)} (h : linesX r = l) : l.getLast? = some (lastT r) := by
  rw [← h]; unfold linesX; rw [List.getLast?_append]; rfl
theorem ex2_bad : parseP exL2 = .tup [relZ.pv, intP 3] := by
  have hb : parseB exL2 = false := by
    unfold parseB
    rw [show decide (linesX (readR exL2) = exL2) = false from decide_eq_false (fun h => ?_), Bool.and_false]
    have h1 := last_eq h
    have h2 : lastT (readR exL2) = lineT tSums [42, 80] := by unfold lastT; rw [ex2_last.2, ex2_last.1]; rfl
    rw [h2] at h1
    exact absurd h1 (by decide +kernel)
  unfold parseP; rw [hb]; rfl
def fewB (r : RelS) : Bool := decide (r.table.cells.length ≤ 70) && decide (r.hidden.length ≤ 80) && decide (r.rowSums.length ≤ 20) && decide (r.colSums.length ≤ 20) && decide (r.noise.weights.length ≤ 40)
def shortB (l : List (List UInt8)) : Bool := decide (l.length ≤ 20) && l.all fun s => decide (s.length ≤ 1200)
theorem few_iff {r : RelS} : fewB r = true ↔ r.table.cells.length ≤ 70 ∧ r.hidden.length ≤ 80 ∧ r.rowSums.length ≤ 20 ∧ r.colSums.length ≤ 20 ∧ r.noise.weights.length ≤ 40 := by
  simp only [fewB, Bool.and_eq_true, decide_eq_true_eq, and_assoc]
theorem short_iff {l : List (List UInt8)} : shortB l = true ↔ l.length ≤ 20 ∧ ∀ s ∈ l, s.length ≤ 1200 := by
  simp only [shortB, Bool.and_eq_true, decide_eq_true_eq, List.all_eq_true]
theorem dle {a : Nat} {b : Nat} : decide ((a : Int) ≤ (b : Int)) = decide (a ≤ b) := by rw [decide_eq_decide]; omega
set_option maxHeartbeats 1000000 in
theorem short_g (l : List (List UInt8)) : Good Tryz.prog 4 [.sl (l.map txP)] (.sc (.bool (shortB l))) := by
  refine .len (es := l.map txP) (by simp) (fun hlen => ?_)
  rw [List.length_map] at hlen
  refine good4 (by simp) ?_
  simp only [ac4, List.length_map, AW, reduceAdd, reduceCtorEq, reduceEqDiff, ↓reduceIte, reduceLT, reduceLeDiff, reduceSub, reducePow, reduceMul, reduceToNat, reduceLE, reduceEq, Int.reduceLT, Int.reduceBEq, Int.reduceBNe]
  cases h0 : decide ((20 : Int) < (l.length : Int))
  rotate_left
  · have := of_decide_eq_true h0
    rw [show shortB l = false by unfold shortB; rw [decide_eq_false (show ¬ l.length ≤ 20 by omega)]; rfl]
    simp only [h0, AW, reduceAdd, reduceCtorEq, reduceEqDiff, ↓reduceIte, reduceLT, reduceLeDiff, reduceSub, reducePow, reduceMul, reduceToNat, reduceLE, reduceEq, Int.reduceLT, Int.reduceBEq, Int.reduceBNe]
  have h0' := of_decide_eq_false h0
  simp only [h0, AW, reduceAdd, reduceCtorEq, reduceEqDiff, ↓reduceIte, reduceLT, reduceLeDiff, reduceSub, reducePow, reduceMul, reduceToNat, reduceLE, reduceEq, Int.reduceLT, Int.reduceBEq, Int.reduceBNe]
  refine run_loop (ι := Nat) (fun k => ⟨[(0, .sl (l.map txP)), (3, .sc (.int .i64 (k : Int)))], [], 5, 19⟩) (fun k => k ≤ l.length ∧ (∀ j (hj : j < l.length), j < k → l[j].length ≤ 1200)) (fun k => l.length - k) 5 (fun _ => rfl) 0 (by simp only [LW, Nat.reduceMod, Nat.reduceDiv, Int.natCast_zero, List.length_map, AW, reduceAdd, reduceCtorEq, reduceEqDiff, ↓reduceIte, reduceLT, reduceLeDiff, reduceSub, reducePow, reduceMul, reduceToNat, reduceLE, reduceEq, Int.reduceLT, Int.reduceBEq, Int.reduceBNe]) ⟨Nat.zero_le _, nofun⟩ (fun k hk => ?_)
  obtain ⟨gk, ik⟩ := hk
  by_cases hltk : k < l.length
  rotate_left
  · have dk : decide ((k : Int) < ((l.length : Nat) : Int)) = false := by rw [decide_eq_false_iff_not]; exact fun h => hltk (Int.ofNat_lt.1 h)
    have ek : k = l.length := Nat.le_antisymm gk (Nat.le_of_not_lt hltk)
    subst ek
    rw [show shortB l = true by unfold shortB; rw [decide_eq_true (by omega), all_yes (p := fun s : List UInt8 => decide (s.length ≤ 1200)) (fun j hj => decide_eq_true (ik j hj hj))]; rfl]
    simp only [dk, List.length_map, AW, reduceAdd, reduceCtorEq, reduceEqDiff, ↓reduceIte, reduceLT, reduceLeDiff, reduceSub, reducePow, reduceMul, reduceToNat, reduceLE, reduceEq, Int.reduceLT, Int.reduceBEq, Int.reduceBNe]
  have dk : decide ((k : Int) < ((l.length : Nat) : Int)) = true := by rw [decide_eq_true_eq]; exact Int.ofNat_lt.2 hltk
  simp only [dk, map_getD hltk, hltk, txP, bA_size, List.length_map, AW, reduceAdd, reduceCtorEq, reduceEqDiff, ↓reduceIte, reduceLT, reduceLeDiff, reduceSub, reducePow, reduceMul, reduceToNat, reduceLE, reduceEq, Int.reduceLT, Int.reduceBEq, Int.reduceBNe]
  cases h1 : decide ((1200 : Int) < (l[k].length : Int))
  rotate_left
  · have := of_decide_eq_true h1
    rw [show shortB l = false by unfold shortB; rw [all_no (p := fun s : List UInt8 => decide (s.length ≤ 1200)) hltk (decide_eq_false (by omega)), Bool.and_false]]
    simp only [AW, reduceAdd, reduceCtorEq, reduceEqDiff, ↓reduceIte, reduceLT, reduceLeDiff, reduceSub, reducePow, reduceMul, reduceToNat, reduceLE, reduceEq, Int.reduceLT, Int.reduceBEq, Int.reduceBNe]
  have h1' := of_decide_eq_false h1
  simp only [wrap_succ hltk hlen, AW, reduceAdd, reduceCtorEq, reduceEqDiff, ↓reduceIte, reduceLT, reduceLeDiff, reduceSub, reducePow, reduceMul, reduceToNat, reduceLE, reduceEq, Int.reduceLT, Int.reduceBEq, Int.reduceBNe]
  refine ⟨k + 1, ⟨hltk, fun j hj hjk => ?_⟩, ?_, meas_lt hltk⟩
  · by_cases e : j = k
    · subst e; omega
    · exact ik j hj (by omega)
  · simp only [LW, Nat.reduceMod, Nat.reduceDiv, AW, reduceAdd, reduceCtorEq, reduceEqDiff, ↓reduceIte, reduceLT, reduceLeDiff, reduceSub, reducePow, reduceMul, reduceToNat, reduceLE, reduceEq, Int.reduceLT, Int.reduceBEq, Int.reduceBNe]
theorem exlines_g (r : RelS) (l : List (List UInt8)) (h : checkR r = 0) (hl : linesX r = l) (h1 : r.hidden.length ≤ 1000000) (h2 : r.rowSums.length ≤ 1000000) (h3 : r.colSums.length ≤ 1000000) : Good Tryz.prog 9 [r.pv] (.tup [.sl (l.map txP), intP 0]) := by
  have := flines_g r h1 h2 h3
  unfold linesP at this
  rw [if_neg (by rw [h]; decide), hl] at this
  exact this
set_option maxHeartbeats 8000000 in
theorem awake_g : Good Tryz.prog 5 [] (.sc (.bool true)) := by
  have g1 := exlines_g exA exLA exA_ok exA_lines (by decide) (by decide) (by decide)
  have g2 := exlines_g exB exLB exB_ok exB_lines (by decide) (by decide) (by decide)
  have g3 := parse_g exLA (by decide) (by decide)
  rw [show parseP exLA = .tup [exA.pv, intP 0] by rw [← exA_lines]; exact parse_lines exA_ok] at g3
  have g4 := parse_g exL2 (by decide) (by decide)
  rw [ex2_bad] at g4
  have g5 := status_g exF exS
  rw [show statP exF exS = .tup [.sl (exLS.map txP), intP 0] by unfold statP; rw [exS_ok, exS_lines]; rfl] at g5
  have g6 := sameR_g exA
  have g7 := sameL_g exLA
  have g8 := sameL_g exLB
  have g9 := sameL_g exLS
  refine good5 (by simp) ?_
  simp only [ac5, AW, reduceAdd, reduceCtorEq, reduceEqDiff, ↓reduceIte, reduceLT, reduceLeDiff, reduceSub, reducePow, reduceMul, reduceToNat, reduceLE, reduceEq, Int.reduceLT, Int.reduceBEq, Int.reduceBNe]
  (first | (refine drawnK rfl ?_; (try simp only [AW, reduceAdd, reduceCtorEq, reduceEqDiff, ↓reduceIte, reduceLT, reduceLeDiff, reduceSub, reducePow, reduceMul, reduceToNat, reduceLE, reduceEq, Int.reduceLT, Int.reduceBEq, Int.reduceBNe])) | skip)
  refine ops_call (g1) (by simp only [RelS.pv, exA, exB, intP, boolP, List.map_cons, List.map_nil, AW, reduceAdd, reduceCtorEq, reduceEqDiff, ↓reduceIte, reduceLT, reduceLeDiff, reduceSub, reducePow, reduceMul, reduceToNat, reduceLE, reduceEq, Int.reduceLT, Int.reduceBEq, Int.reduceBNe]) ?_; simp only [RelS.pv, exA, exB, intP, boolP, List.map_cons, List.map_nil, AW, reduceAdd, reduceCtorEq, reduceEqDiff, ↓reduceIte, reduceLT, reduceLeDiff, reduceSub, reducePow, reduceMul, reduceToNat, reduceLE, reduceEq, Int.reduceLT, Int.reduceBEq, Int.reduceBNe]
  (first | (refine drawnK rfl ?_; (try simp only [AW, reduceAdd, reduceCtorEq, reduceEqDiff, ↓reduceIte, reduceLT, reduceLeDiff, reduceSub, reducePow, reduceMul, reduceToNat, reduceLE, reduceEq, Int.reduceLT, Int.reduceBEq, Int.reduceBNe])) | skip)
  refine ops_call (g2) (by simp only [RelS.pv, exA, exB, intP, boolP, List.map_cons, List.map_nil, AW, reduceAdd, reduceCtorEq, reduceEqDiff, ↓reduceIte, reduceLT, reduceLeDiff, reduceSub, reducePow, reduceMul, reduceToNat, reduceLE, reduceEq, Int.reduceLT, Int.reduceBEq, Int.reduceBNe]) ?_; simp only [RelS.pv, exA, exB, intP, boolP, List.map_cons, List.map_nil, AW, reduceAdd, reduceCtorEq, reduceEqDiff, ↓reduceIte, reduceLT, reduceLeDiff, reduceSub, reducePow, reduceMul, reduceToNat, reduceLE, reduceEq, Int.reduceLT, Int.reduceBEq, Int.reduceBNe]
  (first | (refine drawnK rfl ?_; (try simp only [AW, reduceAdd, reduceCtorEq, reduceEqDiff, ↓reduceIte, reduceLT, reduceLeDiff, reduceSub, reducePow, reduceMul, reduceToNat, reduceLE, reduceEq, Int.reduceLT, Int.reduceBEq, Int.reduceBNe])) | skip)
  refine ops_call (g3) (by simp only [RelS.pv, exA, exB, intP, boolP, List.map_cons, List.map_nil, AW, reduceAdd, reduceCtorEq, reduceEqDiff, ↓reduceIte, reduceLT, reduceLeDiff, reduceSub, reducePow, reduceMul, reduceToNat, reduceLE, reduceEq, Int.reduceLT, Int.reduceBEq, Int.reduceBNe]) ?_; simp only [RelS.pv, exA, exB, intP, boolP, List.map_cons, List.map_nil, AW, reduceAdd, reduceCtorEq, reduceEqDiff, ↓reduceIte, reduceLT, reduceLeDiff, reduceSub, reducePow, reduceMul, reduceToNat, reduceLE, reduceEq, Int.reduceLT, Int.reduceBEq, Int.reduceBNe]
  (first | (refine drawnK rfl ?_; (try simp only [AW, reduceAdd, reduceCtorEq, reduceEqDiff, ↓reduceIte, reduceLT, reduceLeDiff, reduceSub, reducePow, reduceMul, reduceToNat, reduceLE, reduceEq, Int.reduceLT, Int.reduceBEq, Int.reduceBNe])) | skip)
  refine ops_call (g4) (by simp only [exL2, txP, bA, List.map_cons, List.map_nil, relZ, RelS.pv, intP, List.map_nil, AW, reduceAdd, reduceCtorEq, reduceEqDiff, ↓reduceIte, reduceLT, reduceLeDiff, reduceSub, reducePow, reduceMul, reduceToNat, reduceLE, reduceEq, Int.reduceLT, Int.reduceBEq, Int.reduceBNe]) ?_; simp only [exL2, txP, bA, List.map_cons, List.map_nil, relZ, RelS.pv, intP, List.map_nil, AW, reduceAdd, reduceCtorEq, reduceEqDiff, ↓reduceIte, reduceLT, reduceLeDiff, reduceSub, reducePow, reduceMul, reduceToNat, reduceLE, reduceEq, Int.reduceLT, Int.reduceBEq, Int.reduceBNe]
  (first | (refine drawnK rfl ?_; (try simp only [AW, reduceAdd, reduceCtorEq, reduceEqDiff, ↓reduceIte, reduceLT, reduceLeDiff, reduceSub, reducePow, reduceMul, reduceToNat, reduceLE, reduceEq, Int.reduceLT, Int.reduceBEq, Int.reduceBNe])) | skip)
  refine ops_call (g5) (by simp only [FleetS.pv, exF, exS, SpotS.pv, SpotS.vals, intP, List.map_cons, List.map_nil, AW, reduceAdd, reduceCtorEq, reduceEqDiff, ↓reduceIte, reduceLT, reduceLeDiff, reduceSub, reducePow, reduceMul, reduceToNat, reduceLE, reduceEq, Int.reduceLT, Int.reduceBEq, Int.reduceBNe]) ?_; simp only [FleetS.pv, exF, exS, SpotS.pv, SpotS.vals, intP, List.map_cons, List.map_nil, AW, reduceAdd, reduceCtorEq, reduceEqDiff, ↓reduceIte, reduceLT, reduceLeDiff, reduceSub, reducePow, reduceMul, reduceToNat, reduceLE, reduceEq, Int.reduceLT, Int.reduceBEq, Int.reduceBNe]
  refine ops_call (g6) (by simp only [RelS.pv, exA, exB, intP, boolP, List.map_cons, List.map_nil, AW, reduceAdd, reduceCtorEq, reduceEqDiff, ↓reduceIte, reduceLT, reduceLeDiff, reduceSub, reducePow, reduceMul, reduceToNat, reduceLE, reduceEq, Int.reduceLT, Int.reduceBEq, Int.reduceBNe]) ?_; simp only [RelS.pv, exA, exB, intP, boolP, List.map_cons, List.map_nil, AW, reduceAdd, reduceCtorEq, reduceEqDiff, ↓reduceIte, reduceLT, reduceLeDiff, reduceSub, reducePow, reduceMul, reduceToNat, reduceLE, reduceEq, Int.reduceLT, Int.reduceBEq, Int.reduceBNe]
  refine ops_call (g7) (by simp only [exLA, txP, bA, List.map_cons, List.map_nil, AW, reduceAdd, reduceCtorEq, reduceEqDiff, ↓reduceIte, reduceLT, reduceLeDiff, reduceSub, reducePow, reduceMul, reduceToNat, reduceLE, reduceEq, Int.reduceLT, Int.reduceBEq, Int.reduceBNe]) ?_; simp only [exLA, txP, bA, List.map_cons, List.map_nil, AW, reduceAdd, reduceCtorEq, reduceEqDiff, ↓reduceIte, reduceLT, reduceLeDiff, reduceSub, reducePow, reduceMul, reduceToNat, reduceLE, reduceEq, Int.reduceLT, Int.reduceBEq, Int.reduceBNe]
  refine ops_call (g8) (by simp only [exLB, txP, bA, List.map_cons, List.map_nil, AW, reduceAdd, reduceCtorEq, reduceEqDiff, ↓reduceIte, reduceLT, reduceLeDiff, reduceSub, reducePow, reduceMul, reduceToNat, reduceLE, reduceEq, Int.reduceLT, Int.reduceBEq, Int.reduceBNe]) ?_; simp only [exLB, txP, bA, List.map_cons, List.map_nil, AW, reduceAdd, reduceCtorEq, reduceEqDiff, ↓reduceIte, reduceLT, reduceLeDiff, reduceSub, reducePow, reduceMul, reduceToNat, reduceLE, reduceEq, Int.reduceLT, Int.reduceBEq, Int.reduceBNe]
  refine ops_call (g9) (by simp only [exLS, txP, bA, List.map_cons, List.map_nil, AW, reduceAdd, reduceCtorEq, reduceEqDiff, ↓reduceIte, reduceLT, reduceLeDiff, reduceSub, reducePow, reduceMul, reduceToNat, reduceLE, reduceEq, Int.reduceLT, Int.reduceBEq, Int.reduceBNe]) ?_; simp only [exLS, txP, bA, List.map_cons, List.map_nil, AW, reduceAdd, reduceCtorEq, reduceEqDiff, ↓reduceIte, reduceLT, reduceLeDiff, reduceSub, reducePow, reduceMul, reduceToNat, reduceLE, reduceEq, Int.reduceLT, Int.reduceBEq, Int.reduceBNe]


end Go.Proofs.YtjnfldkcbcfboaaGreatDoor
