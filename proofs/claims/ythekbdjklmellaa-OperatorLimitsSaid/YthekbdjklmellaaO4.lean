/-
  Operators: the weights of a ride's legs, and what the accounts get, walked.
-/
import Derived.Test.YthekbdjklmellaaO3
namespace Go.Proofs.Ythekbdjklmellaa
open Go.RowKit
open Nat (reduceAdd reduceEqDiff reduceLT reduceLeDiff reduceSub reducePow reduceMul)
open Int (reduceToNat reduceLE reduceEq)
set_option linter.unusedVariables false
set_option linter.unusedSimpArgs false
set_option linter.unnecessarySimpa false

def secL (g : LegS) : Int := g.to_.lo - g.from_.lo
def secsL (r : RideS) : List Int := r.legs.map secL
def weightsL (r : RideS) : List Int := if (secsL r).sum = 0 then r.legs.map (fun _ => 1) else secsL r
theorem secs_len (r : RideS) : (secsL r).length = r.legs.length := by simp [secsL]
theorem secs_el {r : RideS} {k : Nat} (hk : k < r.legs.length) : el (secsL r) k = secL r.legs[k] := by
  rw [← el_eq (by rw [secs_len]; exact hk)]; simp [secsL]
def legsOk (r : RideS) : Prop := ∀ g ∈ r.legs, 0 ≤ g.from_.lo ∧ g.from_.lo ≤ 4294943999 ∧ 0 ≤ g.to_.lo ∧ g.to_.lo ≤ 4294943999
theorem sec_b {r : RideS} (h : legsOk r) {k : Nat} (hk : k < r.legs.length) : -4294943999 ≤ secL r.legs[k] ∧ secL r.legs[k] ≤ 4294943999 := by
  have := h _ (List.getElem_mem hk)
  unfold secL; omega
theorem sum_take_el {l : List Int} {k : Nat} (hk : k < l.length) : (l.take (k + 1)).sum = (l.take k).sum + el l k := by
  rw [List.take_succ_eq_append_getElem hk, List.sum_append, el_eq hk]; simp
theorem sum_b {r : RideS} (h : legsOk r) : ∀ k, k ≤ r.legs.length → -(k * 4294943999 : Int) ≤ ((secsL r).take k).sum ∧ ((secsL r).take k).sum ≤ k * 4294943999
  | 0, _ => by simp
  | k + 1, hk => by
    have ih := sum_b h k (by omega)
    have hb := sec_b h (show k < r.legs.length by omega)
    rw [sum_take_el (by rw [secs_len]; omega), secs_el (by omega)]
    omega
theorem tab_eq {l : List Int} {n : Nat} (h : l.length = n) : tabI n (fun i => el l i) = l := el_ext (by rw [tab_len, h]) (fun i hi => by rw [tab_len] at hi; rw [tab_el hi])
set_option maxHeartbeats 4000000 in
theorem weights_g (r : RideS) (hl : r.legs.length ≤ 512) (h : legsOk r) : Good Try.prog 30 [r.pv] (intsP (weightsL r)) := by
  have hlen : r.legs.length ≤ maxLen := by unfold maxLen; omega
  refine good30 (by simp) ?_
  have f0 : (0 : Int) ≤ (r.legs.length : Int) := by omega
  have f2 : ((8 : Nat) : Int) * (r.legs.length : Int) ≤ 281474976710656 := by omega
  have f3 : (r.legs.length : Int) ≤ 9223372036854775807 := by omega
  have j1 : (tabI r.legs.length fun i => if i < 0 then el (secsL r) i else 0) = List.replicate r.legs.length 0 := by rw [← tab_zero]; exact tab_congr (fun i _ => by rw [if_neg (Nat.not_lt_zero _)])
  simp only [ac30, RideS.pv, List.length_map, f0, f2, f3, AW, reduceAdd, reduceCtorEq, reduceEqDiff, ↓reduceIte, reduceLT, reduceLeDiff, reduceSub, reducePow, reduceMul, reduceToNat, reduceLE, reduceEq, Int.reduceLT, Int.reduceBEq, Int.reduceBNe]
  refine run_loop (ι := Nat) (fun k => ⟨[(3, .own 5 0), (4, .sc (.int .i64 ((secsL r).take k).sum)), (13, .sl (r.legs.map LegS.pv)), (14, .sc (.int .i64 (r.legs.length : Int))), (15, .sc (.int .i64 (k : Int)))], [(0, .var [.sc (.int .i64 r.id), .sc (.int .i64 r.rider), .sc (.int .i64 r.start.lo), .sc (.int .i64 r.start.hi), .sc (.int .i64 r.end_.lo), .sc (.int .i64 r.end_.hi), .sc (.bool r.open_), .sl (r.legs.map LegS.pv), .sl (r.pauses.map PauseS.pv), .sc (.int .i64 r.fromWhere), .sc (.int .i64 r.fromPlace), .sc (.int .i64 r.where_), .sc (.int .i64 r.place)]), (5, .row 3 1 0 ((tabI r.legs.length fun i => if i < k then el (secsL r) i else 0).map intP))], 12, 49⟩) (fun k => k ≤ r.legs.length) (fun k => r.legs.length - k) 12 (fun _ => rfl) 0 (by simp only [LW, Nat.reduceMod, Nat.reduceDiv, Int.natCast_zero, j1, List.map_replicate, intP, List.take_zero, List.sum_nil, AW, reduceAdd, reduceCtorEq, reduceEqDiff, ↓reduceIte, reduceLT, reduceLeDiff, reduceSub, reducePow, reduceMul, reduceToNat, reduceLE, reduceEq, Int.reduceLT, Int.reduceBEq, Int.reduceBNe]) (Nat.zero_le _) (fun k hk => ?_)
  have gk := hk
  by_cases hltk : k < r.legs.length
  rotate_left
  · have dk : decide ((k : Int) < ((r.legs.length : Nat) : Int)) = false := by rw [decide_eq_false_iff_not]; exact fun h => hltk (Int.ofNat_lt.1 h)
    have ek : k = r.legs.length := Nat.le_antisymm gk (Nat.le_of_not_lt hltk)
    subst ek
    have e1 : (tabI r.legs.length fun i => if i < r.legs.length then el (secsL r) i else 0) = secsL r := (tab_congr (g := fun i => el (secsL r) i) (fun i hi => by rw [if_pos hi])).trans (tab_eq (secs_len r))
    have e2 : (secsL r).take r.legs.length = secsL r := by rw [← secs_len r, List.take_length]
    simp only [dk, e1, e2, List.length_map, secs_len, AW, reduceAdd, reduceCtorEq, reduceEqDiff, ↓reduceIte, reduceLT, reduceLeDiff, reduceSub, reducePow, reduceMul, reduceToNat, reduceLE, reduceEq, Int.reduceLT, Int.reduceBEq, Int.reduceBNe]
    by_cases hS : (secsL r).sum = 0
    · have d : ((secsL r).sum == 0) = true := by rw [hS]; rfl
      have e3 : weightsL r = r.legs.map (fun _ => 1) := by unfold weightsL; rw [if_pos hS]
      have z0 : (tabI r.legs.length fun i => if i < 0 then 1 else el (secsL r) i) = secsL r := (tab_congr (g := fun i => el (secsL r) i) (fun i hi => by rw [if_neg (Nat.not_lt_zero _)])).trans (tab_eq (secs_len r))
      have z1 : (tabI r.legs.length fun i => if i < r.legs.length then 1 else el (secsL r) i) = r.legs.map (fun _ => (1 : Int)) := by
        refine el_ext (by simp [tab_len]) (fun i hi => ?_)
        rw [tab_len] at hi
        rw [tab_el hi, if_pos hi, ← el_eq (by simpa using hi)]; simp
      refine run_loop (ι := Nat) (fun k => ⟨[(3, .own 5 0), (4, .sc (.int .i64 (secsL r).sum)), (38, .sc (.int .i64 (r.legs.length : Int))), (39, .sc (.int .i64 (k : Int)))], [(0, .var [.sc (.int .i64 r.id), .sc (.int .i64 r.rider), .sc (.int .i64 r.start.lo), .sc (.int .i64 r.start.hi), .sc (.int .i64 r.end_.lo), .sc (.int .i64 r.end_.hi), .sc (.bool r.open_), .sl (r.legs.map LegS.pv), .sl (r.pauses.map PauseS.pv), .sc (.int .i64 r.fromWhere), .sc (.int .i64 r.fromPlace), .sc (.int .i64 r.where_), .sc (.int .i64 r.place)]), (5, .row 3 1 0 ((tabI r.legs.length fun i => if i < k then 1 else el (secsL r) i).map intP))], 16, 49⟩) (fun k => k ≤ r.legs.length) (fun k => r.legs.length - k) 16 (fun _ => rfl) 0 (by simp only [LW, Nat.reduceMod, Nat.reduceDiv, Int.natCast_zero, List.length_map, tab_len, z0, AW, reduceAdd, reduceCtorEq, reduceEqDiff, ↓reduceIte, reduceLT, reduceLeDiff, reduceSub, reducePow, reduceMul, reduceToNat, reduceLE, reduceEq, Int.reduceLT, Int.reduceBEq, Int.reduceBNe]) (Nat.zero_le _) (fun k hk => ?_)
      have gk := hk
      by_cases hltk : k < r.legs.length
      rotate_left
      · have dk : decide ((k : Int) < ((r.legs.length : Nat) : Int)) = false := by rw [decide_eq_false_iff_not]; exact fun h => hltk (Int.ofNat_lt.1 h)
        have ek : k = r.legs.length := Nat.le_antisymm gk (Nat.le_of_not_lt hltk)
        subst ek
        simp only [dk, z1, e3, intsP, AW, reduceAdd, reduceCtorEq, reduceEqDiff, ↓reduceIte, reduceLT, reduceLeDiff, reduceSub, reducePow, reduceMul, reduceToNat, reduceLE, reduceEq, Int.reduceLT, Int.reduceBEq, Int.reduceBNe]
      have dk : decide ((k : Int) < ((r.legs.length : Nat) : Int)) = true := by rw [decide_eq_true_eq]; exact Int.ofNat_lt.2 hltk
      have b1 : k < (tabI r.legs.length fun i => if i < k then 1 else el (secsL r) i).length := by rw [tab_len]; exact hltk
      have s1 : ((tabI r.legs.length fun i => if i < k then 1 else el (secsL r) i).map intP).set k (.sc (.int .i64 1)) = (tabI r.legs.length fun i => if i < (k + 1) then 1 else el (secsL r) i).map intP := by
        show ((tabI r.legs.length fun i => if i < k then 1 else el (secsL r) i).map intP).set k (intP 1) = _
        rw [← List.map_set, tab_set]
        congr 1
        refine tab_congr (fun i hi => ?_)
        (try simp only)
        by_cases hik : i = k
        · subst hik; rw [if_pos rfl, if_pos (Nat.lt_succ_self i)]
        · rw [if_neg hik]
          by_cases h2 : i < k
          · rw [if_pos h2, if_pos (by omega)]
          · rw [if_neg h2, if_neg (by omega)]
      simp only [dk, d, List.length_map, b1, s1, AW, reduceAdd, reduceCtorEq, reduceEqDiff, ↓reduceIte, reduceLT, reduceLeDiff, reduceSub, reducePow, reduceMul, reduceToNat, reduceLE, reduceEq, Int.reduceLT, Int.reduceBEq, Int.reduceBNe]
      (try simp only [wrap_succ hltk hlen, AW, reduceAdd, reduceCtorEq, reduceEqDiff, ↓reduceIte, reduceLT, reduceLeDiff, reduceSub, reducePow, reduceMul, reduceToNat, reduceLE, reduceEq, Int.reduceLT, Int.reduceBEq, Int.reduceBNe])
      refine ⟨k + 1, hltk, ?_, meas_lt hltk⟩
      simp only [LW, Nat.reduceMod, Nat.reduceDiv, AW, reduceAdd, reduceCtorEq, reduceEqDiff, ↓reduceIte, reduceLT, reduceLeDiff, reduceSub, reducePow, reduceMul, reduceToNat, reduceLE, reduceEq, Int.reduceLT, Int.reduceBEq, Int.reduceBNe]
    · have d : ((secsL r).sum == 0) = false := by simpa using hS
      have e3 : weightsL r = secsL r := by unfold weightsL; rw [if_neg hS]
      have z0 : True := trivial
      refine run_loop (ι := Nat) (fun k => ⟨[(3, .own 5 0), (4, .sc (.int .i64 (secsL r).sum)), (38, .sc (.int .i64 (r.legs.length : Int))), (39, .sc (.int .i64 (k : Int)))], [(0, .var [.sc (.int .i64 r.id), .sc (.int .i64 r.rider), .sc (.int .i64 r.start.lo), .sc (.int .i64 r.start.hi), .sc (.int .i64 r.end_.lo), .sc (.int .i64 r.end_.hi), .sc (.bool r.open_), .sl (r.legs.map LegS.pv), .sl (r.pauses.map PauseS.pv), .sc (.int .i64 r.fromWhere), .sc (.int .i64 r.fromPlace), .sc (.int .i64 r.where_), .sc (.int .i64 r.place)]), (5, .row 3 1 0 ((secsL r).map intP))], 16, 49⟩) (fun k => k ≤ r.legs.length) (fun k => r.legs.length - k) 16 (fun _ => rfl) 0 (by simp only [LW, Nat.reduceMod, Nat.reduceDiv, Int.natCast_zero, List.length_map, tab_len, z0, AW, reduceAdd, reduceCtorEq, reduceEqDiff, ↓reduceIte, reduceLT, reduceLeDiff, reduceSub, reducePow, reduceMul, reduceToNat, reduceLE, reduceEq, Int.reduceLT, Int.reduceBEq, Int.reduceBNe]) (Nat.zero_le _) (fun k hk => ?_)
      have gk := hk
      by_cases hltk : k < r.legs.length
      rotate_left
      · have dk : decide ((k : Int) < ((r.legs.length : Nat) : Int)) = false := by rw [decide_eq_false_iff_not]; exact fun h => hltk (Int.ofNat_lt.1 h)
        have ek : k = r.legs.length := Nat.le_antisymm gk (Nat.le_of_not_lt hltk)
        subst ek
        simp only [dk, e3, intsP, AW, reduceAdd, reduceCtorEq, reduceEqDiff, ↓reduceIte, reduceLT, reduceLeDiff, reduceSub, reducePow, reduceMul, reduceToNat, reduceLE, reduceEq, Int.reduceLT, Int.reduceBEq, Int.reduceBNe]
      have dk : decide ((k : Int) < ((r.legs.length : Nat) : Int)) = true := by rw [decide_eq_true_eq]; exact Int.ofNat_lt.2 hltk
      simp only [dk, d, AW, reduceAdd, reduceCtorEq, reduceEqDiff, ↓reduceIte, reduceLT, reduceLeDiff, reduceSub, reducePow, reduceMul, reduceToNat, reduceLE, reduceEq, Int.reduceLT, Int.reduceBEq, Int.reduceBNe]
      (try simp only [wrap_succ hltk hlen, AW, reduceAdd, reduceCtorEq, reduceEqDiff, ↓reduceIte, reduceLT, reduceLeDiff, reduceSub, reducePow, reduceMul, reduceToNat, reduceLE, reduceEq, Int.reduceLT, Int.reduceBEq, Int.reduceBNe])
      refine ⟨k + 1, hltk, ?_, meas_lt hltk⟩
      simp only [LW, Nat.reduceMod, Nat.reduceDiv, AW, reduceAdd, reduceCtorEq, reduceEqDiff, ↓reduceIte, reduceLT, reduceLeDiff, reduceSub, reducePow, reduceMul, reduceToNat, reduceLE, reduceEq, Int.reduceLT, Int.reduceBEq, Int.reduceBNe]
  have dk : decide ((k : Int) < ((r.legs.length : Nat) : Int)) = true := by rw [decide_eq_true_eq]; exact Int.ofNat_lt.2 hltk
  have hb := sec_b h hltk
  have hsb := sum_b h k (by omega)
  have w1 : IntKind.i64.wrap (r.legs[k].to_.lo - r.legs[k].from_.lo) = el (secsL r) k := by rw [secs_el hltk]; exact wrap_id (by unfold I64; unfold secL at hb; omega)
  have s1 := tab_step r.legs.length k (fun i => el (secsL r) i)
  have b1 : k < (tabI r.legs.length fun i => if i < (k + 1) then el (secsL r) i else 0).length := by rw [tab_len]; exact hltk
  have e1 : el (tabI r.legs.length fun i => if i < (k + 1) then el (secsL r) i else 0) k = el (secsL r) k := by rw [tab_el hltk, if_pos (Nat.lt_succ_self k)]
  have w2 : IntKind.i64.wrap (((secsL r).take k).sum + el (secsL r) k) = ((secsL r).take (k + 1)).sum := by
    rw [sum_take_el (by rw [secs_len]; exact hltk)]
    refine wrap_id ?_
    rw [secs_el hltk]
    unfold I64; omega
  simp only [dk, map_getD hltk, hltk, LegS.pv, LegS.vals, List.map_cons, List.map_nil, List.length_map, tab_len, w1, AW, reduceAdd, reduceCtorEq, reduceEqDiff, ↓reduceIte, reduceLT, reduceLeDiff, reduceSub, reducePow, reduceMul, reduceToNat, reduceLE, reduceEq, Int.reduceLT, Int.reduceBEq, Int.reduceBNe]
  (try refine drawnK rfl ?_); (try simp only [List.length_map, List.length_set, tab_len, hltk, w1, s1, b1, map_el b1, e1, w2, AW, reduceAdd, reduceCtorEq, reduceEqDiff, ↓reduceIte, reduceLT, reduceLeDiff, reduceSub, reducePow, reduceMul, reduceToNat, reduceLE, reduceEq, Int.reduceLT, Int.reduceBEq, Int.reduceBNe])
  (try refine drawnK rfl ?_); (try simp only [List.length_map, List.length_set, tab_len, hltk, w1, s1, b1, map_el b1, e1, w2, AW, reduceAdd, reduceCtorEq, reduceEqDiff, ↓reduceIte, reduceLT, reduceLeDiff, reduceSub, reducePow, reduceMul, reduceToNat, reduceLE, reduceEq, Int.reduceLT, Int.reduceBEq, Int.reduceBNe])
  (try simp only [wrap_succ hltk hlen, AW, reduceAdd, reduceCtorEq, reduceEqDiff, ↓reduceIte, reduceLT, reduceLeDiff, reduceSub, reducePow, reduceMul, reduceToNat, reduceLE, reduceEq, Int.reduceLT, Int.reduceBEq, Int.reduceBNe])
  refine ⟨k + 1, hltk, ?_, meas_lt hltk⟩
  simp only [LW, Nat.reduceMod, Nat.reduceDiv, AW, reduceAdd, reduceCtorEq, reduceEqDiff, ↓reduceIte, reduceLT, reduceLeDiff, reduceSub, reducePow, reduceMul, reduceToNat, reduceLE, reduceEq, Int.reduceLT, Int.reduceBEq, Int.reduceBNe]


end Go.Proofs.Ythekbdjklmellaa
