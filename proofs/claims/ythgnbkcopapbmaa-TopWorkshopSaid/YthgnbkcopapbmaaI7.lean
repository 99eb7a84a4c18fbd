/-
  slices.Concat, and the program's check of a description of wear.
-/
import Derived.Test.YthgnbkcopapbmaaI6
import Derived.Test.YthgnbkcopapbmaaIc
import Derived.Shelf.Spec.SlicesGrow
namespace Go.Proofs.Ythgnbkcopapbmaa
open Go.RowKit
open Nat (reduceAdd reduceEqDiff reduceLT reduceLeDiff reduceSub reducePow reduceMul)
open Int (reduceToNat reduceLE reduceEq)
set_option linter.unusedVariables false
set_option linter.unusedSimpArgs false
set_option linter.unnecessarySimpa false


open Go.Shelf
def growI_ren : Go.Shelf.Ren := ⟨fun | 4 => 73 | n => n, fun | 22 => 22 | 25 => 3 | 3 => 3 | 4 => 4 | 9 => 9 | 20 => 20 | 0 => 0 | n => n, fun n => n⟩
theorem growI : Lays8.n4 Try.prog growI_ren := {
  mixed := by kernel_rfl
  f4 := ⟨Try.f73.name, by decide, Try.func73.trans (congrArg some (by kernel_rfl))⟩
  t0 := Try.underlying0
  a0 := Try.isAgg0
  z0 := Try.sizeOf0
  v0 := Try.zeroValue0
  t3 := Try.underlying3
  a3 := Try.isAgg3
  z3 := Try.sizeOf3
  v3 := Try.zeroValue3
  t4 := Try.underlying4
  a4 := Try.isAgg4
  z4 := Try.sizeOf4
  v4 := Try.zeroValue4
  t9 := Try.underlying9
  a9 := Try.isAgg9
  z9 := Try.sizeOf9
  v9 := Try.zeroValue9
  t20 := Try.underlying20
  a20 := Try.isAgg20
  z20 := Try.sizeOf20
  v20 := Try.zeroValue20
  t22 := Try.underlying22
  a22 := Try.isAgg22
  z22 := Try.sizeOf22
  v22 := Try.zeroValue22 }
set_option maxRecDepth 100000 in
theorem grow_o (n : Nat) (h0 : 0 < n) (hn : n ≤ 1000000) : GoodO Try.prog 73 [.sc (.slice none 0 0), intP (n : Int)] (fun id => .own id 0) 3 1 [] := by
  intro M w vs hM hp
  obtain ⟨v1, vs1, rfl, h1, hp⟩ := pw_cons.1 hp
  obtain ⟨v2, vs2, rfl, h2, hp⟩ := pw_cons.1 hp
  rw [pw_nil] at hp; subst hp
  have e1 : v1 = .slice none 0 0 := h1.sc_inv
  have e2 : v2 = .int .i64 (n : Int) := h2.sc_inv
  subst e1 e2
  have hi : ∃ i0, Try.prog.info? (growI_ren.t 25) = some i0 ∧ i0.zero = some (.int .i64 0) ∧ i0.size = 1 ∧ i0.bytes = 8 := ⟨_, rfl, rfl, rfl, rfl⟩
  obtain ⟨i0, hi1, hi2, hi3, hi4⟩ := hi
  refine (Any8.slices_Grow_grow growI i0 (.int .i64 0) hi1 hi2 (by omega) none 0 0 n [] w (Nat.le_refl _) (by omega) (by rw [hi4]; omega) (by omega) (by simp) (fun _ => rfl) (fun a h => by cases h)).mono ?_
  rintro e w' ⟨rfl, rfl⟩
  have et : growI_ren.t 25 = 3 := rfl
  rw [et]
  generalize hg : grownCap w (0 + n) 0 3 = g
  have hG := grownCap_ge w (0 + n) 0 3
  have hG2 := grownCap_le_maxLen w (0 + n) 0 3 (by unfold maxLen; omega)
  rw [hg] at hG hG2
  generalize hcur : (#[] ++ Builtin.zeroCells (Value.int IntKind.i64 0).cells (0 + n - 0) ++ Builtin.zeroCells (Value.int IntKind.i64 0).cells (g - (0 + n)) : Array Value) = cur
  have hc : cur.size = g * 1 := by rw [← hcur]; simp [size_zeroCells, Value.cells]; omega
  have how : (w.drew.alloc (.cells cur 3)).ownsRow w.heap.size 3 1 (.slice (some ⟨w.heap.size, 0, none⟩) 0 g) 0 [] := World.ownsRow_made w.drew cur g (Nat.le_refl _) hG2 hc
  have hb : Below w.heap.size w (w.drew.alloc (.cells cur 3)) := by repeat (first | with_reducible exact (Below.refl _ _) | with_reducible refine Below.setCell ?_ ?_ _ | with_reducible refine Below.alloc ?_ ?_ _ | with_reducible refine Below.drew ?_ | with_reducible refine below_drewN ?_ _ | omega | (simp <;> omega))
  exact ⟨_, _, [], rfl, hb, by decide, how, (fun q hq => by cases hq), rfl, pw_nil.2 rfl, fun L β M' id b hM' hL hβ => .own id 0 _ hL (Nat.zero_le _) (fun _ => by rw [hβ]) rfl⟩
theorem cells_ok (l : List Int) : ((l.map intP).all fun p => p.flat.length == 1 && p.flat.all PV.cellOk) = true := List.all_eq_true.2 (fun p hp => by obtain ⟨x, _, rfl⟩ := List.mem_map.1 hp; rfl)
def totL (ls : List (List Int)) (k : Nat) : Nat := ((ls.take k).map List.length).sum
theorem totL_succ {ls : List (List Int)} {k : Nat} (h : k < ls.length) : totL ls (k + 1) = totL ls k + ls[k].length := by
  unfold totL; rw [List.take_succ_eq_append_getElem h]; simp only [List.map_append, List.sum_append, List.map_cons, List.map_nil, List.sum_cons, List.sum_nil, Nat.add_zero]
theorem totL_le {ls : List (List Int)} : ∀ (d k : Nat), k + d = ls.length → totL ls k ≤ totL ls ls.length
  | 0, k, h => by rw [show k = ls.length by omega]; exact Nat.le_refl _
  | d + 1, k, h => by
    have := totL_le (ls := ls) d (k + 1) (by omega)
    rw [totL_succ (show k < ls.length by omega)] at this; omega
theorem catL_succ {ls : List (List Int)} {k : Nat} (h : k < ls.length) : (ls.take (k + 1)).flatten = (ls.take k).flatten ++ ls[k] := by
  rw [List.take_succ_eq_append_getElem h]; simp only [List.flatten_append, List.flatten_cons, List.flatten_nil, List.append_nil]
set_option maxHeartbeats 2000000 in
theorem concat_g (ls : List (List Int)) (h0 : 0 < totL ls ls.length) (h1 : totL ls ls.length ≤ 1000000) (h2 : ls.length ≤ 1000) : Good Try.prog 51 [.sl (ls.map intsP)] (intsP ls.flatten) := by
  have hlen : ls.length ≤ maxLen := by unfold maxLen; omega
  refine good51 (by simp) ?_
  simp only [ac51, AW, reduceAdd, reduceCtorEq, reduceEqDiff, ↓reduceIte, reduceLT, reduceLeDiff, reduceSub, reducePow, reduceMul, reduceToNat, reduceLE, reduceEq, Int.reduceLT, Int.reduceBEq, Int.reduceBNe]
  refine run_loop (ι := Nat) (fun k => ⟨[(0, .sl (ls.map intsP)), (3, .sc (.int .i64 (totL ls k : Int))), (9, .sl (ls.map intsP)), (10, .sc (.int .i64 (ls.length : Int))), (11, .sc (.int .i64 (k : Int)))], [], 5, 36⟩) (fun k => k ≤ ls.length) (fun k => ls.length - k) 5 (fun _ => rfl) 0 (by simp only [LW, Nat.reduceMod, Nat.reduceDiv, Int.natCast_zero, totL, List.take_zero, List.map_nil, List.sum_nil, AW, reduceAdd, reduceCtorEq, reduceEqDiff, ↓reduceIte, reduceLT, reduceLeDiff, reduceSub, reducePow, reduceMul, reduceToNat, reduceLE, reduceEq, Int.reduceLT, Int.reduceBEq, Int.reduceBNe]) (Nat.zero_le _) (fun k hk => ?_)
  have gk := hk
  by_cases hltk : k < ls.length
  rotate_left
  · have dk : decide ((k : Int) < ((ls.length : Nat) : Int)) = false := by rw [decide_eq_false_iff_not]; exact fun h => hltk (Int.ofNat_lt.1 h)
    have ek : k = ls.length := Nat.le_antisymm gk (Nat.le_of_not_lt hltk)
    subst ek
    simp only [dk, AW, reduceAdd, reduceCtorEq, reduceEqDiff, ↓reduceIte, reduceLT, reduceLeDiff, reduceSub, reducePow, reduceMul, reduceToNat, reduceLE, reduceEq, Int.reduceLT, Int.reduceBEq, Int.reduceBNe]
    refine ops_callO0 [.slice none 0 0, .int .i64 (totL ls ls.length : Int)] (grow_o (totL ls ls.length) h0 h1) (by simp only [List.map_cons, List.map_nil, AW, reduceAdd, reduceCtorEq, reduceEqDiff, ↓reduceIte, reduceLT, reduceLeDiff, reduceSub, reducePow, reduceMul, reduceToNat, reduceLE, reduceEq, Int.reduceLT, Int.reduceBEq, Int.reduceBNe]) ?_; simp only [AW, reduceAdd, reduceCtorEq, reduceEqDiff, ↓reduceIte, reduceLT, reduceLeDiff, reduceSub, reducePow, reduceMul, reduceToNat, reduceLE, reduceEq, Int.reduceLT, Int.reduceBEq, Int.reduceBNe]
    refine run_loop (ι := Nat) (fun k => ⟨[(6, .own 7 0), (25, .sl (ls.map intsP)), (26, .sc (.int .i64 (ls.length : Int))), (27, .sc (.int .i64 (k : Int)))], [(7, .row 3 1 0 (((ls.take k).flatten).map intP))], 12, 36⟩) (fun k => k ≤ ls.length) (fun k => ls.length - k) 12 (fun _ => rfl) 0 (by simp only [LW, Nat.reduceMod, Nat.reduceDiv, Int.natCast_zero, List.take_zero, List.flatten_nil, List.map_nil, AW, reduceAdd, reduceCtorEq, reduceEqDiff, ↓reduceIte, reduceLT, reduceLeDiff, reduceSub, reducePow, reduceMul, reduceToNat, reduceLE, reduceEq, Int.reduceLT, Int.reduceBEq, Int.reduceBNe]) (Nat.zero_le _) (fun k hk => ?_)
    have gk := hk
    by_cases hltk : k < ls.length
    rotate_left
    · have dk : decide ((k : Int) < ((ls.length : Nat) : Int)) = false := by rw [decide_eq_false_iff_not]; exact fun h => hltk (Int.ofNat_lt.1 h)
      have ek : k = ls.length := Nat.le_antisymm gk (Nat.le_of_not_lt hltk)
      subst ek
      simp only [dk, List.take_length, intsP, AW, reduceAdd, reduceCtorEq, reduceEqDiff, ↓reduceIte, reduceLT, reduceLeDiff, reduceSub, reducePow, reduceMul, reduceToNat, reduceLE, reduceEq, Int.reduceLT, Int.reduceBEq, Int.reduceBNe]
    have dk : decide ((k : Int) < ((ls.length : Nat) : Int)) = true := by rw [decide_eq_true_eq]; exact Int.ofNat_lt.2 hltk
    have b2 : totL ls (k + 1) ≤ 1000000 := Nat.le_trans (totL_le (ls.length - (k + 1)) (k + 1) (by omega)) h1
    have b3 := totL_succ hltk
    have b4 : (ls.take k).flatten.length = totL ls k := by unfold totL; rw [List.length_flatten]
    have l1 : (ls.take k).flatten.length + ls[k].length ≤ maxLen := by unfold maxLen; omega
    have l2 : ((ls.take k).flatten.length + ls[k].length) * 8 ≤ 140737488355328 := by omega
    simp only [dk, map_getD hltk, hltk, intsP, cells_ok, l1, l2, and_self, AW, reduceAdd, reduceCtorEq, reduceEqDiff, ↓reduceIte, reduceLT, reduceLeDiff, reduceSub, reducePow, reduceMul, reduceToNat, reduceLE, reduceEq, Int.reduceLT, Int.reduceBEq, Int.reduceBNe]
    (try refine drawnK rfl ?_); (try simp only [wrap_succ hltk hlen, AW, reduceAdd, reduceCtorEq, reduceEqDiff, ↓reduceIte, reduceLT, reduceLeDiff, reduceSub, reducePow, reduceMul, reduceToNat, reduceLE, reduceEq, Int.reduceLT, Int.reduceBEq, Int.reduceBNe])
    refine ⟨k + 1, hltk, ?_, meas_lt hltk⟩
    simp only [LW, Nat.reduceMod, Nat.reduceDiv, catL_succ hltk, List.map_append, AW, reduceAdd, reduceCtorEq, reduceEqDiff, ↓reduceIte, reduceLT, reduceLeDiff, reduceSub, reducePow, reduceMul, reduceToNat, reduceLE, reduceEq, Int.reduceLT, Int.reduceBEq, Int.reduceBNe]
  have dk : decide ((k : Int) < ((ls.length : Nat) : Int)) = true := by rw [decide_eq_true_eq]; exact Int.ofNat_lt.2 hltk
  have b1 : totL ls (k + 1) ≤ 1000000 := Nat.le_trans (totL_le (ls.length - (k + 1)) (k + 1) (by omega)) h1
  have e1 := totL_succ hltk
  have w1 : IntKind.wrap .i64 ((totL ls k : Int) + (ls[k].length : Int)) = (totL ls (k + 1) : Nat) := by rw [wrap_id ⟨by omega, by omega⟩, e1]; omega
  have n1 : decide (((totL ls (k + 1) : Nat) : Int) < 0) = false := by rw [decide_eq_false_iff_not]; omega
  simp only [dk, map_getD hltk, hltk, intsP, w1, n1, AW, reduceAdd, reduceCtorEq, reduceEqDiff, ↓reduceIte, reduceLT, reduceLeDiff, reduceSub, reducePow, reduceMul, reduceToNat, reduceLE, reduceEq, Int.reduceLT, Int.reduceBEq, Int.reduceBNe]
  (try simp only [wrap_succ hltk hlen, AW, reduceAdd, reduceCtorEq, reduceEqDiff, ↓reduceIte, reduceLT, reduceLeDiff, reduceSub, reducePow, reduceMul, reduceToNat, reduceLE, reduceEq, Int.reduceLT, Int.reduceBEq, Int.reduceBNe])
  refine ⟨k + 1, hltk, ?_, meas_lt hltk⟩
  simp only [LW, Nat.reduceMod, Nat.reduceDiv, AW, reduceAdd, reduceCtorEq, reduceEqDiff, ↓reduceIte, reduceLT, reduceLeDiff, reduceSub, reducePow, reduceMul, reduceToNat, reduceLE, reduceEq, Int.reduceLT, Int.reduceBEq, Int.reduceBNe]


end Go.Proofs.Ythgnbkcopapbmaa
