/-
  Inspections: the inspections' check, walked.
-/
import Derived.Test.YthgnbkcopapbmaaI2
namespace Go.Proofs.Ythgnbkcopapbmaa
open Go.RowKit
open Nat (reduceAdd reduceEqDiff reduceLT reduceLeDiff reduceSub reducePow reduceMul)
open Int (reduceToNat reduceLE reduceEq)
set_option linter.unusedVariables false
set_option linter.unusedSimpArgs false
set_option linter.unnecessarySimpa false


def checkE (c : CheckS) : Int := if c.bike < 0 ∨ 128 ≤ c.bike then 1 else if kindB c.kind = false then 14 else if c.at_ < 0 ∨ 4294943999 < c.at_ then 1 else 0
def key3 (c : CheckS) : Int × Int × Int := (c.bike, c.kind, c.at_)
def checksL (l : List CheckS) : Int := if 512 < l.length then 8 else if firstE checkE l ≠ 0 then firstE checkE l else if (l.map key3).Nodup then 0 else 6
theorem checksL_1 {l : List CheckS} (h : 512 < l.length) : checksL l = 8 := by unfold checksL; rw [if_pos h]
theorem checksL_2 {l : List CheckS} (h : ¬ 512 < l.length) {k : Nat} (hk : k < l.length) (h3 : ∀ j (hj : j < l.length), j < k → checkE l[j] = 0) (h4 : checkE l[k] ≠ 0) : checksL l = checkE l[k] := by
  have e := firstE_hit hk h3 h4
  unfold checksL; rw [if_neg h, e, if_pos h4]
theorem checksL_3 {l : List CheckS} (h : ¬ 512 < l.length) (h3 : ∀ j (hj : j < l.length), checkE l[j] = 0) : checksL l = if (l.map key3).Nodup then 0 else 6 := by
  have e := firstE_none h3
  unfold checksL; rw [if_neg h, e, if_neg (by simp)]
theorem dup3_at {l : List CheckS} {i j : Nat} (hij : i < j) (hj : j < l.length) (h : key3 l[i] = key3 l[j]) : ¬ (l.map key3).Nodup := by
  intro hn
  have := List.pairwise_iff_getElem.1 hn i j (by simp; omega) (by simpa using hj) hij
  simp at this; exact this h
theorem nodup3_of {l : List CheckS} (h : ∀ i j (hj : j < l.length) (hij : i < j), key3 l[i] ≠ key3 l[j]) : (l.map key3).Nodup := by
  refine List.pairwise_iff_getElem.2 (fun i j hi hj hij => ?_)
  simp only [List.getElem_map]
  exact h i j (by simpa using hj) hij
def keyVal (c : CheckS) : Value := .agg (List.toArray [.int .i64 c.bike, .int .i64 c.kind, .int .i64 c.at_])
theorem keyVal_inj {c d : CheckS} : keyVal c = keyVal d ↔ key3 c = key3 d := by simp [keyVal, key3]
open Classical in
noncomputable def seenM (l : List CheckS) (k : Nat) : Value → Option Value := fun v => if v ∈ (l.take k).map keyVal then some (.bool true) else none
theorem seenM_zero (l : List CheckS) : seenM l 0 = fun _ => none := by funext v; simp [seenM]
open Classical in
theorem seenM_upd (l : List CheckS) (k : Nat) (hk : k < l.length) : upd (seenM l k) (keyVal l[k]) (.bool true) = seenM l (k + 1) := by
  funext v
  unfold upd seenM
  rw [List.take_succ_eq_append_getElem hk, List.map_append]
  by_cases e : v = keyVal l[k]
  · rw [if_pos e, if_pos (by simp [e])]
  · rw [if_neg e]
    by_cases h : v ∈ (l.take k).map keyVal
    · rw [if_pos h, if_pos (by simp only [List.mem_append]; exact .inl h)]
    · rw [if_neg h, if_neg]
      intro h2
      rcases List.mem_append.1 h2 with h2 | h2
      · exact h h2
      · simp at h2; exact e h2
open Classical in
theorem seenM_get (l : List CheckS) (k : Nat) (hk : k < l.length) : seenM l k (keyVal l[k]) = if (∃ j, ∃ hj : j < k, key3 (l[j]'(by omega)) = key3 l[k]) then some (.bool true) else none := by
  unfold seenM
  by_cases h : keyVal l[k] ∈ (l.take k).map keyVal
  · rw [if_pos h, if_pos]
    obtain ⟨x, hx, e⟩ := List.mem_map.1 h
    obtain ⟨j, hj, rfl⟩ := List.mem_take_iff_getElem.1 hx
    exact ⟨j, by omega, keyVal_inj.1 e⟩
  · rw [if_neg h, if_neg]
    rintro ⟨j, hj, e⟩
    exact h (List.mem_map.2 ⟨l[j], List.mem_take_iff_getElem.2 ⟨j, by omega, rfl⟩, keyVal_inj.2 e⟩)
set_option maxHeartbeats 2000000 in
theorem checks_g (l : List CheckS) : Good Try.prog 17 [.sl (l.map CheckS.pv)] (intP (checksL l)) := by
  refine good17 (by simp) ?_
  simp only [ac17, intP, AW, reduceAdd, reduceCtorEq, reduceEqDiff, ↓reduceIte, reduceLT, reduceLeDiff, reduceSub, reducePow, reduceMul, reduceToNat, reduceLE, reduceEq, Int.reduceLT, Int.reduceBEq, Int.reduceBNe]
  cases h0 : decide ((512 : Int) < l.length)
  rotate_left
  · rw [decide_eq_true_eq] at h0
    simp only [AW, reduceAdd, reduceCtorEq, reduceEqDiff, ↓reduceIte, reduceLT, reduceLeDiff, reduceSub, reducePow, reduceMul, reduceToNat, reduceLE, reduceEq, Int.reduceLT, Int.reduceBEq, Int.reduceBNe]; rw [checksL_1 (by omega)]
  rw [decide_eq_false_iff_not] at h0
  have h8 : ¬ 512 < l.length := by omega
  have hlen : l.length ≤ maxLen := by unfold maxLen; omega
  simp only [AW, reduceAdd, reduceCtorEq, reduceEqDiff, ↓reduceIte, reduceLT, reduceLeDiff, reduceSub, reducePow, reduceMul, reduceToNat, reduceLE, reduceEq, Int.reduceLT, Int.reduceBEq, Int.reduceBNe]
  refine run_loop (ι := Nat) (fun k => ⟨[(0, .sl (l.map CheckS.pv)), (12, .sl (l.map CheckS.pv)), (13, .sc (.int .i64 (l.length : Int))), (14, .sc (.int .i64 (k : Int)))], [], 7, 62⟩) (fun k => k ≤ l.length ∧ (∀ j (hj : j < l.length), j < k → checkE l[j] = 0)) (fun k => l.length - k) 7 (fun _ => rfl) 0 (by simp only [LW, Nat.reduceMod, Nat.reduceDiv, Int.natCast_zero, AW, reduceAdd, reduceCtorEq, reduceEqDiff, ↓reduceIte, reduceLT, reduceLeDiff, reduceSub, reducePow, reduceMul, reduceToNat, reduceLE, reduceEq, Int.reduceLT, Int.reduceBEq, Int.reduceBNe]) ⟨Nat.zero_le _, nofun⟩ (fun k hk => ?_)
  obtain ⟨gk, ik⟩ := hk
  by_cases hltk : k < l.length
  rotate_left
  · have dk : decide ((k : Int) < ((l.length : Nat) : Int)) = false := by rw [decide_eq_false_iff_not]; exact fun h => hltk (Int.ofNat_lt.1 h)
    have ek : k = l.length := Nat.le_antisymm gk (Nat.le_of_not_lt hltk)
    subst ek
    have hall : ∀ j (hj : j < l.length), checkE l[j] = 0 := fun j hj => ik j hj hj
    clear ik gk hltk
    simp only [dk, AW, reduceAdd, reduceCtorEq, reduceEqDiff, ↓reduceIte, reduceLT, reduceLeDiff, reduceSub, reducePow, reduceMul, reduceToNat, reduceLE, reduceEq, Int.reduceLT, Int.reduceBEq, Int.reduceBNe]
    refine run_loop (ι := Nat) (fun k => ⟨[(5, .mp 8), (43, .sl (l.map CheckS.pv)), (44, .sc (.int .i64 (l.length : Int))), (45, .sc (.int .i64 (k : Int)))], [(8, .mapb 90 (seenM l k))], 13, 62⟩) (fun k => k ≤ l.length ∧ (∀ i j (hj : j < l.length) (hij : i < j), j < k → key3 l[i] ≠ key3 l[j])) (fun k => l.length - k) 13 (fun _ => rfl) 0 (by simp only [LW, Nat.reduceMod, Nat.reduceDiv, Int.natCast_zero, seenM_zero, AW, reduceAdd, reduceCtorEq, reduceEqDiff, ↓reduceIte, reduceLT, reduceLeDiff, reduceSub, reducePow, reduceMul, reduceToNat, reduceLE, reduceEq, Int.reduceLT, Int.reduceBEq, Int.reduceBNe]) ⟨Nat.zero_le _, (fun _ _ _ _ h => absurd h (Nat.not_lt_zero _))⟩ (fun k hk => ?_)
    obtain ⟨gk, ik⟩ := hk
    by_cases hltk : k < l.length
    rotate_left
    · have dk : decide ((k : Int) < ((l.length : Nat) : Int)) = false := by rw [decide_eq_false_iff_not]; exact fun h => hltk (Int.ofNat_lt.1 h)
      have ek : k = l.length := Nat.le_antisymm gk (Nat.le_of_not_lt hltk)
      subst ek
      have hn := nodup3_of (l := l) (fun i j hj hij => ik i j hj hij hj)
      simp only [dk, AW, reduceAdd, reduceCtorEq, reduceEqDiff, ↓reduceIte, reduceLT, reduceLeDiff, reduceSub, reducePow, reduceMul, reduceToNat, reduceLE, reduceEq, Int.reduceLT, Int.reduceBEq, Int.reduceBNe]
      rw [checksL_3 h8 hall, if_pos hn]
    have dk : decide ((k : Int) < ((l.length : Nat) : Int)) = true := by rw [decide_eq_true_eq]; exact Int.ofNat_lt.2 hltk
    have kd : Value.agg (List.toArray [.int .i64 l[k].bike, .int .i64 l[k].kind, .int .i64 l[k].at_]) = keyVal l[k] := rfl
    have sg := seenM_get l k hltk
    have su := seenM_upd l k hltk
    simp only [dk, map_getD hltk, hltk, CheckS.pv, CheckS.vals, kd, AW, reduceAdd, reduceCtorEq, reduceEqDiff, ↓reduceIte, reduceLT, reduceLeDiff, reduceSub, reducePow, reduceMul, reduceToNat, reduceLE, reduceEq, Int.reduceLT, Int.reduceBEq, Int.reduceBNe]
    by_cases hd : ∃ j, ∃ hj : j < k, key3 (l[j]'(by omega)) = key3 l[k]
    · rw [if_pos hd] at sg
      obtain ⟨j, hj, e⟩ := hd
      simp only [sg, Option.getD_some, AW, reduceAdd, reduceCtorEq, reduceEqDiff, ↓reduceIte, reduceLT, reduceLeDiff, reduceSub, reducePow, reduceMul, reduceToNat, reduceLE, reduceEq, Int.reduceLT, Int.reduceBEq, Int.reduceBNe]
      rw [checksL_3 h8 hall, if_neg (dup3_at hj hltk e)]
    · rw [if_neg hd] at sg
      simp only [sg, Option.getD_none, kd, su, wrap_succ hltk hlen, AW, reduceAdd, reduceCtorEq, reduceEqDiff, ↓reduceIte, reduceLT, reduceLeDiff, reduceSub, reducePow, reduceMul, reduceToNat, reduceLE, reduceEq, Int.reduceLT, Int.reduceBEq, Int.reduceBNe]
      refine ⟨k + 1, ⟨hltk, fun a b hb hab hbk => ?_⟩, ?_, meas_lt hltk⟩
      · by_cases e : b = k
        · subst e; intro h; exact hd ⟨a, hab, h⟩
        · exact ik a b hb hab (by omega)
      · simp only [LW, Nat.reduceMod, Nat.reduceDiv, su, AW, reduceAdd, reduceCtorEq, reduceEqDiff, ↓reduceIte, reduceLT, reduceLeDiff, reduceSub, reducePow, reduceMul, reduceToNat, reduceLE, reduceEq, Int.reduceLT, Int.reduceBEq, Int.reduceBNe]
  have dk : decide ((k : Int) < ((l.length : Nat) : Int)) = true := by rw [decide_eq_true_eq]; exact Int.ofNat_lt.2 hltk
  simp only [dk, map_getD hltk, hltk, CheckS.pv, CheckS.vals, AW, reduceAdd, reduceCtorEq, reduceEqDiff, ↓reduceIte, reduceLT, reduceLeDiff, reduceSub, reducePow, reduceMul, reduceToNat, reduceLE, reduceEq, Int.reduceLT, Int.reduceBEq, Int.reduceBNe]
  cases h1 : decide (l[k].bike < 0)
  rotate_left
  · rw [decide_eq_true_eq] at h1
    (try simp only [map_getD hltk, hltk, CheckS.pv, CheckS.vals, AW, reduceAdd, reduceCtorEq, reduceEqDiff, ↓reduceIte, reduceLT, reduceLeDiff, reduceSub, reducePow, reduceMul, reduceToNat, reduceLE, reduceEq, Int.reduceLT, Int.reduceBEq, Int.reduceBNe])
    have e1 : checkE l[k] = 1 := by unfold checkE; rw [if_pos (by omega)]
    rw [checksL_2 h8 hltk ik (by rw [e1]; omega), e1]
  (try simp only [map_getD hltk, hltk, CheckS.pv, CheckS.vals, AW, reduceAdd, reduceCtorEq, reduceEqDiff, ↓reduceIte, reduceLT, reduceLeDiff, reduceSub, reducePow, reduceMul, reduceToNat, reduceLE, reduceEq, Int.reduceLT, Int.reduceBEq, Int.reduceBNe])
  cases h2 : decide ((128 : Int) ≤ l[k].bike)
  rotate_left
  · rw [decide_eq_true_eq] at h2
    (try simp only [map_getD hltk, hltk, CheckS.pv, CheckS.vals, AW, reduceAdd, reduceCtorEq, reduceEqDiff, ↓reduceIte, reduceLT, reduceLeDiff, reduceSub, reducePow, reduceMul, reduceToNat, reduceLE, reduceEq, Int.reduceLT, Int.reduceBEq, Int.reduceBNe])
    have e1 : checkE l[k] = 1 := by unfold checkE; rw [if_pos (by omega)]
    rw [checksL_2 h8 hltk ik (by rw [e1]; omega), e1]
  (try simp only [map_getD hltk, hltk, CheckS.pv, CheckS.vals, AW, reduceAdd, reduceCtorEq, reduceEqDiff, ↓reduceIte, reduceLT, reduceLeDiff, reduceSub, reducePow, reduceMul, reduceToNat, reduceLE, reduceEq, Int.reduceLT, Int.reduceBEq, Int.reduceBNe])
  rw [decide_eq_false_iff_not] at h1 h2
  refine ops_call (kind_g l[k].kind) (by simp only [intP, AW, reduceAdd, reduceCtorEq, reduceEqDiff, ↓reduceIte, reduceLT, reduceLeDiff, reduceSub, reducePow, reduceMul, reduceToNat, reduceLE, reduceEq, Int.reduceLT, Int.reduceBEq, Int.reduceBNe]) ?_; simp only [intP, AW, reduceAdd, reduceCtorEq, reduceEqDiff, ↓reduceIte, reduceLT, reduceLeDiff, reduceSub, reducePow, reduceMul, reduceToNat, reduceLE, reduceEq, Int.reduceLT, Int.reduceBEq, Int.reduceBNe]
  cases h3 : kindB l[k].kind
  · simp only [AW, reduceAdd, reduceCtorEq, reduceEqDiff, ↓reduceIte, reduceLT, reduceLeDiff, reduceSub, reducePow, reduceMul, reduceToNat, reduceLE, reduceEq, Int.reduceLT, Int.reduceBEq, Int.reduceBNe]
    have e1 : checkE l[k] = 14 := by unfold checkE; rw [if_neg (by omega), if_pos h3]
    rw [checksL_2 h8 hltk ik (by rw [e1]; omega), e1]
  (try simp only [map_getD hltk, hltk, CheckS.pv, CheckS.vals, AW, reduceAdd, reduceCtorEq, reduceEqDiff, ↓reduceIte, reduceLT, reduceLeDiff, reduceSub, reducePow, reduceMul, reduceToNat, reduceLE, reduceEq, Int.reduceLT, Int.reduceBEq, Int.reduceBNe])
  cases h4 : decide (l[k].at_ < 0)
  rotate_left
  · rw [decide_eq_true_eq] at h4
    (try simp only [map_getD hltk, hltk, CheckS.pv, CheckS.vals, AW, reduceAdd, reduceCtorEq, reduceEqDiff, ↓reduceIte, reduceLT, reduceLeDiff, reduceSub, reducePow, reduceMul, reduceToNat, reduceLE, reduceEq, Int.reduceLT, Int.reduceBEq, Int.reduceBNe])
    have e1 : checkE l[k] = 1 := by unfold checkE; rw [if_neg (by omega), if_neg (by simp [h3]), if_pos (by omega)]
    rw [checksL_2 h8 hltk ik (by rw [e1]; omega), e1]
  (try simp only [map_getD hltk, hltk, CheckS.pv, CheckS.vals, AW, reduceAdd, reduceCtorEq, reduceEqDiff, ↓reduceIte, reduceLT, reduceLeDiff, reduceSub, reducePow, reduceMul, reduceToNat, reduceLE, reduceEq, Int.reduceLT, Int.reduceBEq, Int.reduceBNe])
  cases h5 : decide ((4294943999 : Int) < l[k].at_)
  rotate_left
  · rw [decide_eq_true_eq] at h5
    (try simp only [map_getD hltk, hltk, CheckS.pv, CheckS.vals, AW, reduceAdd, reduceCtorEq, reduceEqDiff, ↓reduceIte, reduceLT, reduceLeDiff, reduceSub, reducePow, reduceMul, reduceToNat, reduceLE, reduceEq, Int.reduceLT, Int.reduceBEq, Int.reduceBNe])
    have e1 : checkE l[k] = 1 := by unfold checkE; rw [if_neg (by omega), if_neg (by simp [h3]), if_pos (by omega)]
    rw [checksL_2 h8 hltk ik (by rw [e1]; omega), e1]
  (try simp only [map_getD hltk, hltk, CheckS.pv, CheckS.vals, AW, reduceAdd, reduceCtorEq, reduceEqDiff, ↓reduceIte, reduceLT, reduceLeDiff, reduceSub, reducePow, reduceMul, reduceToNat, reduceLE, reduceEq, Int.reduceLT, Int.reduceBEq, Int.reduceBNe])
  rw [decide_eq_false_iff_not] at h4 h5
  have e0 : checkE l[k] = 0 := by unfold checkE; rw [if_neg (by omega), if_neg (by simp [h3]), if_neg (by omega)]
  (try simp only [wrap_succ hltk hlen, AW, reduceAdd, reduceCtorEq, reduceEqDiff, ↓reduceIte, reduceLT, reduceLeDiff, reduceSub, reducePow, reduceMul, reduceToNat, reduceLE, reduceEq, Int.reduceLT, Int.reduceBEq, Int.reduceBNe])
  refine ⟨k + 1, ⟨hltk, step_all (p := fun x => checkE x = 0) hltk ik e0⟩, ?_, meas_lt hltk⟩
  simp only [LW, Nat.reduceMod, Nat.reduceDiv, wrap_succ hltk hlen, AW, reduceAdd, reduceCtorEq, reduceEqDiff, ↓reduceIte, reduceLT, reduceLeDiff, reduceSub, reducePow, reduceMul, reduceToNat, reduceLE, reduceEq, Int.reduceLT, Int.reduceBEq, Int.reduceBNe]
end Go.Proofs.Ythgnbkcopapbmaa
