/-
  Numbers: the law's own sum.
-/
import Derived.Test.YtjlhnlfalomenaaDoorM6
namespace Go.Proofs.YtjlhnlfalomenaaDoor
open Go.RowKit
open Nat (reduceAdd reduceEqDiff reduceLT reduceLeDiff reduceSub reducePow reduceMul)
open Int (reduceToNat reduceLE reduceEq)
set_option linter.unusedVariables false
set_option linter.unusedSimpArgs false
set_option linter.unnecessarySimpa false

def sumP (l : List Int) : PV := if l.all rg0 = true then .tup [intP l.sum, .sc (.bool true)] else .tup [intP 0, .sc (.bool false)]
theorem sum_no {l : List Int} {k : Nat} (hk : k < l.length) (h : rg0 l[k] = false) : l.all rg0 = false := by
  rw [Bool.eq_false_iff]
  intro h2
  rw [List.all_eq_true.1 h2 _ (List.getElem_mem hk)] at h; cases h
theorem sum_pre {l : List Int} : ∀ k, k ≤ l.length → (∀ j (hj : j < l.length), j < k → rg0 l[j] = true) → 0 ≤ (l.take k).sum ∧ (l.take k).sum ≤ k * 1125899906842624
  | 0, _, _ => by simp
  | k + 1, hk, h => by
    have ih := sum_pre k (by omega) (fun j hj hjk => h j hj (by omega))
    have hv := rg0_iff.1 (h k (by omega) (by omega))
    rw [List.take_succ_eq_append_getElem (by omega), List.sum_append]
    simp only [List.sum_cons, List.sum_nil]; omega
set_option maxHeartbeats 1000000 in
theorem lsum_g (l : List Int) (hl : l.length ≤ 4096) : Good Tryd.prog 29 [intsP l] (sumP l) := by
  have hlen : l.length ≤ maxLen := by unfold maxLen; omega
  refine good29 (by simp) ?_
  simp only [ac29, intsP, AW, reduceAdd, reduceCtorEq, reduceEqDiff, ↓reduceIte, reduceLT, reduceLeDiff, reduceSub, reducePow, reduceMul, reduceToNat, reduceLE, reduceEq, Int.reduceLT, Int.reduceBEq, Int.reduceBNe]
  refine run_loop (ι := Nat) (fun k => ⟨[(0, .sl (l.map intP)), (4, .sc (.int .i64 (l.take k).sum)), (5, .sc (.int .i64 (k : Int)))], [], 4, 25⟩) (fun k => k ≤ l.length ∧ (∀ j (hj : j < l.length), j < k → rg0 l[j] = true)) (fun k => l.length - k) 4 (fun _ => rfl) 0 (by simp only [LW, Nat.reduceMod, Nat.reduceDiv, Int.natCast_zero, List.take_zero, List.sum_nil, AW, reduceAdd, reduceCtorEq, reduceEqDiff, ↓reduceIte, reduceLT, reduceLeDiff, reduceSub, reducePow, reduceMul, reduceToNat, reduceLE, reduceEq, Int.reduceLT, Int.reduceBEq, Int.reduceBNe]) ⟨Nat.zero_le _, nofun⟩ (fun k hk => ?_)
  obtain ⟨gk, ik⟩ := hk
  by_cases hltk : k < l.length
  rotate_left
  · have dk : decide ((k : Int) < ((l.length : Nat) : Int)) = false := by rw [decide_eq_false_iff_not]; exact fun h => hltk (Int.ofNat_lt.1 h)
    have ek : k = l.length := Nat.le_antisymm gk (Nat.le_of_not_lt hltk)
    subst ek
    have hall : l.all rg0 = true := List.all_eq_true.2 (fun x hx => by
      obtain ⟨j, hj, rfl⟩ := List.mem_iff_getElem.1 hx
      exact ik j hj hj)
    rw [List.take_length]
    simp only [dk, List.length_map, sumP, hall, intP, AW, reduceAdd, reduceCtorEq, reduceEqDiff, ↓reduceIte, reduceLT, reduceLeDiff, reduceSub, reducePow, reduceMul, reduceToNat, reduceLE, reduceEq, Int.reduceLT, Int.reduceBEq, Int.reduceBNe]
  have dk : decide ((k : Int) < ((l.length : Nat) : Int)) = true := by rw [decide_eq_true_eq]; exact Int.ofNat_lt.2 hltk
  have gv := count_g l[k] 0
  rw [show (decide (0 ≤ l[k]) && decide (l[k] ≤ 1125899906842624)) = rg0 l[k] from rfl] at gv
  simp only [dk, List.length_map, map_getD hltk, hltk, intP, AW, reduceAdd, reduceCtorEq, reduceEqDiff, ↓reduceIte, reduceLT, reduceLeDiff, reduceSub, reducePow, reduceMul, reduceToNat, reduceLE, reduceEq, Int.reduceLT, Int.reduceBEq, Int.reduceBNe]
  refine ops_call (gv) (by simp only [intP, AW, reduceAdd, reduceCtorEq, reduceEqDiff, ↓reduceIte, reduceLT, reduceLeDiff, reduceSub, reducePow, reduceMul, reduceToNat, reduceLE, reduceEq, Int.reduceLT, Int.reduceBEq, Int.reduceBNe]) ?_; simp only [intP, AW, reduceAdd, reduceCtorEq, reduceEqDiff, ↓reduceIte, reduceLT, reduceLeDiff, reduceSub, reducePow, reduceMul, reduceToNat, reduceLE, reduceEq, Int.reduceLT, Int.reduceBEq, Int.reduceBNe]
  cases h : rg0 l[k]
  · simp only [sumP, sum_no hltk h, intP, AW, reduceAdd, reduceCtorEq, reduceEqDiff, ↓reduceIte, reduceLT, reduceLeDiff, reduceSub, reducePow, reduceMul, reduceToNat, reduceLE, reduceEq, Int.reduceLT, Int.reduceBEq, Int.reduceBNe]
  · have hn : ∀ j (hj : j < l.length), j < k + 1 → rg0 l[j] = true := fun j hj hjk => by
      by_cases e : j = k
      · subst e; exact h
      · exact ik j hj (by omega)
    have sb := sum_pre (k + 1) hltk hn
    have es : (l.take (k + 1)).sum = (l.take k).sum + l[k] := by rw [List.take_succ_eq_append_getElem hltk, List.sum_append]; simp
    have ws : IntKind.i64.wrap ((l.take k).sum + l[k]) = (l.take (k + 1)).sum := by rw [← es]; exact wrap_id ⟨by omega, by omega⟩
    simp only [List.length_map, map_getD hltk, hltk, intP, ws, AW, reduceAdd, reduceCtorEq, reduceEqDiff, ↓reduceIte, reduceLT, reduceLeDiff, reduceSub, reducePow, reduceMul, reduceToNat, reduceLE, reduceEq, Int.reduceLT, Int.reduceBEq, Int.reduceBNe]
    (try simp only [wrap_succ hltk hlen, AW, reduceAdd, reduceCtorEq, reduceEqDiff, ↓reduceIte, reduceLT, reduceLeDiff, reduceSub, reducePow, reduceMul, reduceToNat, reduceLE, reduceEq, Int.reduceLT, Int.reduceBEq, Int.reduceBNe])
    refine ⟨k + 1, ⟨hltk, hn⟩, ?_, meas_lt hltk⟩
    simp only [LW, Nat.reduceMod, Nat.reduceDiv, AW, reduceAdd, reduceCtorEq, reduceEqDiff, ↓reduceIte, reduceLT, reduceLeDiff, reduceSub, reducePow, reduceMul, reduceToNat, reduceLE, reduceEq, Int.reduceLT, Int.reduceBEq, Int.reduceBNe]


end Go.Proofs.YtjlhnlfalomenaaDoor
