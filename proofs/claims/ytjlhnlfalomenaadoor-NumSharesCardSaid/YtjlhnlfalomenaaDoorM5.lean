/-
  Numbers: the reference's Sum.
-/
import Derived.Test.YtjlhnlfalomenaaDoorM4
namespace Go.Proofs.YtjlhnlfalomenaaDoor
open Go.RowKit
open Nat (reduceAdd reduceEqDiff reduceLT reduceLeDiff reduceSub reducePow reduceMul)
open Int (reduceToNat reduceLE reduceEq)
set_option linter.unusedVariables false
set_option linter.unusedSimpArgs false
set_option linter.unnecessarySimpa false

def totP (l : List Int) : PV := if l.all valB = true then chkP l.sum else .tup [intP 0, intP 1]
theorem tot_no {l : List Int} {k : Nat} (hk : k < l.length) (h : valB l[k] = false) : l.all valB = false := by
  rw [Bool.eq_false_iff]
  intro h2
  rw [List.all_eq_true.1 h2 _ (List.getElem_mem hk)] at h; cases h
theorem sum_bnd {l : List Int} (h : l.all valB = true) : ∀ k, k ≤ l.length → -(k * 1125899906842624 : Int) ≤ (l.take k).sum ∧ (l.take k).sum ≤ k * 1125899906842624
  | 0, _ => by simp
  | k + 1, hk => by
    have ih := sum_bnd h k (by omega)
    have hv := valB_iff.1 (List.all_eq_true.1 h _ (List.getElem_mem (show k < l.length by omega)))
    rw [List.take_succ_eq_append_getElem (by omega), List.sum_append]
    simp only [List.sum_cons, List.sum_nil]; omega
set_option maxHeartbeats 1000000 in
theorem rsum_g (l : List Int) (hl : l.length ≤ 4096) : Good Tryd.prog 19 [intsP l] (totP l) := by
  have hlen : l.length ≤ maxLen := by unfold maxLen; omega
  refine good19 (by simp) ?_
  simp only [ac19, intsP, AW, reduceAdd, reduceCtorEq, reduceEqDiff, ↓reduceIte, reduceLT, reduceLeDiff, reduceSub, reducePow, reduceMul, reduceToNat, reduceLE, reduceEq, Int.reduceLT, Int.reduceBEq, Int.reduceBNe]
  refine run_loop (ι := Nat) (fun k => ⟨[(0, .sl (l.map intP)), (4, .sc (.int .i64 (k : Int)))], [], 3, 35⟩) (fun k => k ≤ l.length ∧ (∀ j (hj : j < l.length), j < k → valB l[j] = true)) (fun k => l.length - k) 3 (fun _ => rfl) 0 (by simp only [LW, Nat.reduceMod, Nat.reduceDiv, Int.natCast_zero, AW, reduceAdd, reduceCtorEq, reduceEqDiff, ↓reduceIte, reduceLT, reduceLeDiff, reduceSub, reducePow, reduceMul, reduceToNat, reduceLE, reduceEq, Int.reduceLT, Int.reduceBEq, Int.reduceBNe]) ⟨Nat.zero_le _, nofun⟩ (fun k hk => ?_)
  obtain ⟨gk, ik⟩ := hk
  by_cases hltk : k < l.length
  rotate_left
  · have dk : decide ((k : Int) < ((l.length : Nat) : Int)) = false := by rw [decide_eq_false_iff_not]; exact fun h => hltk (Int.ofNat_lt.1 h)
    have ek : k = l.length := Nat.le_antisymm gk (Nat.le_of_not_lt hltk)
    subst ek
    have hall : l.all valB = true := List.all_eq_true.2 (fun x hx => by
      obtain ⟨j, hj, rfl⟩ := List.mem_iff_getElem.1 hx
      exact ik j hj hj)
    simp only [dk, List.length_map, AW, reduceAdd, reduceCtorEq, reduceEqDiff, ↓reduceIte, reduceLT, reduceLeDiff, reduceSub, reducePow, reduceMul, reduceToNat, reduceLE, reduceEq, Int.reduceLT, Int.reduceBEq, Int.reduceBNe]
    refine run_loop (ι := Nat) (fun m => ⟨[(0, .sl (l.map intP)), (5, .sc (.int .i64 (l.take m).sum)), (6, .sc (.int .i64 (m : Int)))], [], 9, 35⟩) (fun m => m ≤ l.length) (fun m => l.length - m) 9 (fun _ => rfl) 0 (by simp only [LW, Nat.reduceMod, Nat.reduceDiv, Int.natCast_zero, List.take_zero, List.sum_nil, AW, reduceAdd, reduceCtorEq, reduceEqDiff, ↓reduceIte, reduceLT, reduceLeDiff, reduceSub, reducePow, reduceMul, reduceToNat, reduceLE, reduceEq, Int.reduceLT, Int.reduceBEq, Int.reduceBNe]) (Nat.zero_le _) (fun m hm => ?_)
    have gm := hm
    by_cases hltm : m < l.length
    rotate_left
    · have dm : decide ((m : Int) < ((l.length : Nat) : Int)) = false := by rw [decide_eq_false_iff_not]; exact fun h => hltm (Int.ofNat_lt.1 h)
      have em : m = l.length := Nat.le_antisymm gm (Nat.le_of_not_lt hltm)
      subst em
      have gs := rvalid_g l.sum
      rw [List.take_length]
      simp only [dm, List.length_map, AW, reduceAdd, reduceCtorEq, reduceEqDiff, ↓reduceIte, reduceLT, reduceLeDiff, reduceSub, reducePow, reduceMul, reduceToNat, reduceLE, reduceEq, Int.reduceLT, Int.reduceBEq, Int.reduceBNe]
      refine ops_call (gs) (by simp only [intP, AW, reduceAdd, reduceCtorEq, reduceEqDiff, ↓reduceIte, reduceLT, reduceLeDiff, reduceSub, reducePow, reduceMul, reduceToNat, reduceLE, reduceEq, Int.reduceLT, Int.reduceBEq, Int.reduceBNe]) ?_; simp only [intP, AW, reduceAdd, reduceCtorEq, reduceEqDiff, ↓reduceIte, reduceLT, reduceLeDiff, reduceSub, reducePow, reduceMul, reduceToNat, reduceLE, reduceEq, Int.reduceLT, Int.reduceBEq, Int.reduceBNe]
      cases h3 : valB l.sum
      · simp only [totP, hall, chkP, h3, intP, AW, reduceAdd, reduceCtorEq, reduceEqDiff, ↓reduceIte, reduceLT, reduceLeDiff, reduceSub, reducePow, reduceMul, reduceToNat, reduceLE, reduceEq, Int.reduceLT, Int.reduceBEq, Int.reduceBNe]
      · simp only [totP, hall, chkP, h3, intP, AW, reduceAdd, reduceCtorEq, reduceEqDiff, ↓reduceIte, reduceLT, reduceLeDiff, reduceSub, reducePow, reduceMul, reduceToNat, reduceLE, reduceEq, Int.reduceLT, Int.reduceBEq, Int.reduceBNe]
    have dm : decide ((m : Int) < ((l.length : Nat) : Int)) = true := by rw [decide_eq_true_eq]; exact Int.ofNat_lt.2 hltm
    have sb := sum_bnd hall (m + 1) hltm
    have es : (l.take (m + 1)).sum = (l.take m).sum + l[m] := by rw [List.take_succ_eq_append_getElem hltm, List.sum_append]; simp
    have ws : IntKind.i64.wrap ((l.take m).sum + l[m]) = (l.take (m + 1)).sum := by rw [← es]; exact wrap_id ⟨by omega, by omega⟩
    simp only [dm, List.length_map, map_getD hltm, hltm, intP, ws, AW, reduceAdd, reduceCtorEq, reduceEqDiff, ↓reduceIte, reduceLT, reduceLeDiff, reduceSub, reducePow, reduceMul, reduceToNat, reduceLE, reduceEq, Int.reduceLT, Int.reduceBEq, Int.reduceBNe]
    (try simp only [wrap_succ hltm hlen, AW, reduceAdd, reduceCtorEq, reduceEqDiff, ↓reduceIte, reduceLT, reduceLeDiff, reduceSub, reducePow, reduceMul, reduceToNat, reduceLE, reduceEq, Int.reduceLT, Int.reduceBEq, Int.reduceBNe])
    refine ⟨m + 1, hltm, ?_, meas_lt hltm⟩
    simp only [LW, Nat.reduceMod, Nat.reduceDiv, AW, reduceAdd, reduceCtorEq, reduceEqDiff, ↓reduceIte, reduceLT, reduceLeDiff, reduceSub, reducePow, reduceMul, reduceToNat, reduceLE, reduceEq, Int.reduceLT, Int.reduceBEq, Int.reduceBNe]
  have dk : decide ((k : Int) < ((l.length : Nat) : Int)) = true := by rw [decide_eq_true_eq]; exact Int.ofNat_lt.2 hltk
  have gv := rvalid_g l[k]
  simp only [dk, List.length_map, map_getD hltk, hltk, intP, AW, reduceAdd, reduceCtorEq, reduceEqDiff, ↓reduceIte, reduceLT, reduceLeDiff, reduceSub, reducePow, reduceMul, reduceToNat, reduceLE, reduceEq, Int.reduceLT, Int.reduceBEq, Int.reduceBNe]
  refine ops_call (gv) (by simp only [intP, AW, reduceAdd, reduceCtorEq, reduceEqDiff, ↓reduceIte, reduceLT, reduceLeDiff, reduceSub, reducePow, reduceMul, reduceToNat, reduceLE, reduceEq, Int.reduceLT, Int.reduceBEq, Int.reduceBNe]) ?_; simp only [intP, AW, reduceAdd, reduceCtorEq, reduceEqDiff, ↓reduceIte, reduceLT, reduceLeDiff, reduceSub, reducePow, reduceMul, reduceToNat, reduceLE, reduceEq, Int.reduceLT, Int.reduceBEq, Int.reduceBNe]
  cases h : valB l[k]
  · simp only [totP, tot_no hltk h, intP, AW, reduceAdd, reduceCtorEq, reduceEqDiff, ↓reduceIte, reduceLT, reduceLeDiff, reduceSub, reducePow, reduceMul, reduceToNat, reduceLE, reduceEq, Int.reduceLT, Int.reduceBEq, Int.reduceBNe]
  · simp only [AW, reduceAdd, reduceCtorEq, reduceEqDiff, ↓reduceIte, reduceLT, reduceLeDiff, reduceSub, reducePow, reduceMul, reduceToNat, reduceLE, reduceEq, Int.reduceLT, Int.reduceBEq, Int.reduceBNe]
    (try simp only [wrap_succ hltk hlen, AW, reduceAdd, reduceCtorEq, reduceEqDiff, ↓reduceIte, reduceLT, reduceLeDiff, reduceSub, reducePow, reduceMul, reduceToNat, reduceLE, reduceEq, Int.reduceLT, Int.reduceBEq, Int.reduceBNe])
    refine ⟨k + 1, ⟨hltk, fun j hj hjk => ?_⟩, ?_, meas_lt hltk⟩
    · by_cases e : j = k
      · subst e; exact h
      · exact ik j hj (by omega)
    · simp only [LW, Nat.reduceMod, Nat.reduceDiv, AW, reduceAdd, reduceCtorEq, reduceEqDiff, ↓reduceIte, reduceLT, reduceLeDiff, reduceSub, reducePow, reduceMul, reduceToNat, reduceLE, reduceEq, Int.reduceLT, Int.reduceBEq, Int.reduceBNe]


end Go.Proofs.YtjlhnlfalomenaaDoor
