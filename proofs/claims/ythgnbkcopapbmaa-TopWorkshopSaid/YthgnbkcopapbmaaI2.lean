/-
  Inspections: the rules' check, walked.
-/
import Derived.Test.YthgnbkcopapbmaaI1
namespace Go.Proofs.Ythgnbkcopapbmaa
open Go.RowKit
open Nat (reduceAdd reduceEqDiff reduceLT reduceLeDiff reduceSub reducePow reduceMul)
open Int (reduceToNat reduceLE reduceEq)
set_option linter.unusedVariables false
set_option linter.unusedSimpArgs false
set_option linter.unnecessarySimpa false


theorem rulesL_1 {l : List RuleS} (h : 8 < l.length) : rulesL l = 8 := by unfold rulesL; rw [if_pos h]
theorem rulesL_2 {l : List RuleS} (h : ¬ 8 < l.length) {k : Nat} (hk : k < l.length) (h3 : ∀ j (hj : j < l.length), j < k → ruleE l[j] = 0) (h4 : ruleE l[k] ≠ 0) : rulesL l = ruleE l[k] := by
  have e := firstE_hit hk h3 h4
  unfold rulesL; rw [if_neg h, e, if_pos h4]
theorem rulesL_3 {l : List RuleS} (h : ¬ 8 < l.length) (h3 : ∀ j (hj : j < l.length), ruleE l[j] = 0) : rulesL l = if (l.map RuleS.kind).Nodup then 0 else 6 := by
  have e := firstE_none h3
  unfold rulesL; rw [if_neg h, e, if_neg (by simp)]
theorem dup_at {l : List RuleS} {i j : Nat} (hij : i < j) (hj : j < l.length) (h : l[i].kind = l[j].kind) : ¬ (l.map RuleS.kind).Nodup := by
  intro hn
  have := List.pairwise_iff_getElem.1 hn i j (by simp; omega) (by simpa using hj) hij
  simp at this; exact this h
theorem nodup_of {l : List RuleS} (h : ∀ i j (hj : j < l.length) (hij : i < j), l[i].kind ≠ l[j].kind) : (l.map RuleS.kind).Nodup := by
  refine List.pairwise_iff_getElem.2 (fun i j hi hj hij => ?_)
  simp only [List.getElem_map]
  exact h i j (by simpa using hj) hij
def seenR (l : List RuleS) (k i : Nat) : Bool := (l.take k).any (fun r => r.kind == (i : Int))
def seenP (l : List RuleS) (k : Nat) : List PV := (List.range 8).map (fun i => .sc (.bool (seenR l k i)))
theorem seenP_get (l : List RuleS) (k : Nat) {i : Nat} (h : i < 8) : (seenP l k).getD i .dead = .sc (.bool (seenR l k i)) := by
  unfold seenP
  rw [List.getD_eq_getElem?_getD, List.getElem?_map, List.getElem?_range h]; rfl
theorem seenP_len (l : List RuleS) (k : Nat) : (seenP l k).length = 8 := by simp [seenP]
theorem seenP_set (l : List RuleS) (k : Nat) (hk : k < l.length) (i : Nat) (hi : i < 8) (he : l[k].kind = i) : (seenP l k).set i (.sc (.bool true)) = seenP l (k + 1) := by
  apply List.ext_getElem?
  intro j
  rw [List.getElem?_set]
  unfold seenP
  by_cases hj : j < 8
  · rw [List.getElem?_map, List.getElem?_map, List.getElem?_range hj]
    simp only [Option.map_some]
    have hs : seenR l (k + 1) j = (seenR l k j || (l[k].kind == (j : Int))) := by
      unfold seenR; rw [List.take_succ_eq_append_getElem hk, List.any_append]; simp
    by_cases e : i = j
    · subst e; rw [if_pos rfl, if_pos (by simp; omega), hs, he]; simp
    · rw [if_neg e, hs, he]
      have : ((i : Int) == (j : Int)) = false := by rw [beq_eq_false_iff_ne]; omega
      rw [this, Bool.or_false]
  · rw [List.getElem?_eq_none (by simp; omega), List.getElem?_eq_none (l := (List.range 8).map _) (by simp; omega)]
    split
    · omega
    · rfl
theorem seenP_clean (l : List RuleS) (k : Nat) (μ : List (Nat × Box)) (n : Nat) : (seenP l k).map (clean1 μ n) = seenP l k := by
  unfold seenP; rw [List.map_map]; rfl
set_option maxHeartbeats 2000000 in
theorem rules_g (l : List RuleS) : Good Try.prog 16 [.sl (l.map RuleS.pv)] (intP (rulesL l)) := by
  refine good16 (by simp) ?_
  simp only [ac16, intP, AW, reduceAdd, reduceCtorEq, reduceEqDiff, ↓reduceIte, reduceLT, reduceLeDiff, reduceSub, reducePow, reduceMul, reduceToNat, reduceLE, reduceEq, Int.reduceLT, Int.reduceBEq, Int.reduceBNe]
  cases h0 : decide ((8 : Int) < l.length)
  rotate_left
  · rw [decide_eq_true_eq] at h0
    simp only [AW, reduceAdd, reduceCtorEq, reduceEqDiff, ↓reduceIte, reduceLT, reduceLeDiff, reduceSub, reducePow, reduceMul, reduceToNat, reduceLE, reduceEq, Int.reduceLT, Int.reduceBEq, Int.reduceBNe]; rw [rulesL_1 (by omega)]
  rw [decide_eq_false_iff_not] at h0
  have h8 : ¬ 8 < l.length := by omega
  have hlen : l.length ≤ maxLen := by unfold maxLen; omega
  simp only [AW, reduceAdd, reduceCtorEq, reduceEqDiff, ↓reduceIte, reduceLT, reduceLeDiff, reduceSub, reducePow, reduceMul, reduceToNat, reduceLE, reduceEq, Int.reduceLT, Int.reduceBEq, Int.reduceBNe]
  refine run_loop (ι := Nat) (fun k => ⟨[(0, .sl (l.map RuleS.pv)), (11, .sl (l.map RuleS.pv)), (12, .sc (.int .i64 (l.length : Int))), (13, .sc (.int .i64 (k : Int)))], [], 7, 56⟩) (fun k => k ≤ l.length ∧ (∀ j (hj : j < l.length), j < k → ruleE l[j] = 0)) (fun k => l.length - k) 7 (fun _ => rfl) 0 (by simp only [LW, Nat.reduceMod, Nat.reduceDiv, Int.natCast_zero, AW, reduceAdd, reduceCtorEq, reduceEqDiff, ↓reduceIte, reduceLT, reduceLeDiff, reduceSub, reducePow, reduceMul, reduceToNat, reduceLE, reduceEq, Int.reduceLT, Int.reduceBEq, Int.reduceBNe]) ⟨Nat.zero_le _, nofun⟩ (fun k hk => ?_)
  obtain ⟨gk, ik⟩ := hk
  by_cases hltk : k < l.length
  rotate_left
  · have dk : decide ((k : Int) < ((l.length : Nat) : Int)) = false := by rw [decide_eq_false_iff_not]; exact fun h => hltk (Int.ofNat_lt.1 h)
    have ek : k = l.length := Nat.le_antisymm gk (Nat.le_of_not_lt hltk)
    subst ek
    have hall : ∀ j (hj : j < l.length), ruleE l[j] = 0 := fun j hj => ik j hj hj
    have hkind : ∀ j (hj : j < l.length), kindB l[j].kind = true := fun j hj => by
      have := hall j hj
      unfold ruleE at this
      cases hb : kindB l[j].kind
      · rw [if_pos hb] at this; omega
      · rfl
    clear ik gk hltk
    simp only [dk, AW, reduceAdd, reduceCtorEq, reduceEqDiff, ↓reduceIte, reduceLT, reduceLeDiff, reduceSub, reducePow, reduceMul, reduceToNat, reduceLE, reduceEq, Int.reduceLT, Int.reduceBEq, Int.reduceBNe]
    refine run_loop (ι := Nat) (fun k => ⟨[(5, .ptr 8 0), (42, .sl (l.map RuleS.pv)), (43, .sc (.int .i64 (l.length : Int))), (44, .sc (.int .i64 (k : Int)))], [(8, .var (seenP l k))], 12, 56⟩) (fun k => k ≤ l.length ∧ (∀ i j (hj : j < l.length) (hij : i < j), j < k → l[i].kind ≠ l[j].kind)) (fun k => l.length - k) 12 (fun _ => rfl) 0 (by simp only [LW, Nat.reduceMod, Nat.reduceDiv, Int.natCast_zero, seenP, seenR, List.take_zero, List.any_nil, show List.range 8 = [0, 1, 2, 3, 4, 5, 6, 7] from rfl, AW, reduceAdd, reduceCtorEq, reduceEqDiff, ↓reduceIte, reduceLT, reduceLeDiff, reduceSub, reducePow, reduceMul, reduceToNat, reduceLE, reduceEq, Int.reduceLT, Int.reduceBEq, Int.reduceBNe]) ⟨Nat.zero_le _, (fun _ _ _ _ h => absurd h (Nat.not_lt_zero _))⟩ (fun k hk => ?_)
    obtain ⟨gk, ik⟩ := hk
    by_cases hltk : k < l.length
    rotate_left
    · have dk : decide ((k : Int) < ((l.length : Nat) : Int)) = false := by rw [decide_eq_false_iff_not]; exact fun h => hltk (Int.ofNat_lt.1 h)
      have ek : k = l.length := Nat.le_antisymm gk (Nat.le_of_not_lt hltk)
      subst ek
      have hn := nodup_of (l := l) (fun i j hj hij => ik i j hj hij hj)
      simp only [dk, AW, reduceAdd, reduceCtorEq, reduceEqDiff, ↓reduceIte, reduceLT, reduceLeDiff, reduceSub, reducePow, reduceMul, reduceToNat, reduceLE, reduceEq, Int.reduceLT, Int.reduceBEq, Int.reduceBNe]
      rw [rulesL_3 h8 hall, if_pos hn]
    have dk : decide ((k : Int) < ((l.length : Nat) : Int)) = true := by rw [decide_eq_true_eq]; exact Int.ofNat_lt.2 hltk
    have hkd := hkind k hltk
    simp only [kindB, Bool.and_eq_true, decide_eq_true_eq] at hkd
    obtain ⟨i, hi⟩ : ∃ i : Nat, l[k].kind = i := ⟨l[k].kind.toNat, by omega⟩
    have hi8 : i < 8 := by omega
    have sl := seenP_len l k
    have sg := seenP_get l k hi8
    have ss := seenP_set l k hltk i hi8 hi
    have q1 : i + 1 ≤ 8 := hi8
    simp only [dk, map_getD hltk, hltk, RuleS.pv, RuleS.vals, hi, hi8, sl, sg, q1, Nat.mul_one, AW, reduceAdd, reduceCtorEq, reduceEqDiff, ↓reduceIte, reduceLT, reduceLeDiff, reduceSub, reducePow, reduceMul, reduceToNat, reduceLE, reduceEq, Int.reduceLT, Int.reduceBEq, Int.reduceBNe]
    cases hb : seenR l k i
    · simp only [hi, hi8, sl, sg, q1, Nat.mul_one, ss, wrap_succ hltk hlen, AW, reduceAdd, reduceCtorEq, reduceEqDiff, ↓reduceIte, reduceLT, reduceLeDiff, reduceSub, reducePow, reduceMul, reduceToNat, reduceLE, reduceEq, Int.reduceLT, Int.reduceBEq, Int.reduceBNe]
      refine ⟨k + 1, ⟨hltk, fun a b hb2 hab hbk => ?_⟩, ?_, meas_lt hltk⟩
      · by_cases e : b = k
        · subst e
          intro h
          have : seenR l b i = true := by
            unfold seenR; rw [List.any_eq_true]
            exact ⟨l[a], List.mem_take_iff_getElem.2 ⟨a, by omega, rfl⟩, by rw [h, hi]; simp⟩
          rw [this] at hb; cases hb
        · exact ik a b hb2 hab (by omega)
      · simp only [LW, Nat.reduceMod, Nat.reduceDiv, ss, seenP_clean, AW, reduceAdd, reduceCtorEq, reduceEqDiff, ↓reduceIte, reduceLT, reduceLeDiff, reduceSub, reducePow, reduceMul, reduceToNat, reduceLE, reduceEq, Int.reduceLT, Int.reduceBEq, Int.reduceBNe]
    · have : ¬ (l.map RuleS.kind).Nodup := by
        unfold seenR at hb; rw [List.any_eq_true] at hb
        obtain ⟨x, hx, he⟩ := hb
        obtain ⟨a, ha, rfl⟩ := List.mem_take_iff_getElem.1 hx
        exact dup_at (i := a) (j := k) (by omega) hltk (by rw [hi]; simpa using he)
      simp only [AW, reduceAdd, reduceCtorEq, reduceEqDiff, ↓reduceIte, reduceLT, reduceLeDiff, reduceSub, reducePow, reduceMul, reduceToNat, reduceLE, reduceEq, Int.reduceLT, Int.reduceBEq, Int.reduceBNe]
      rw [rulesL_3 h8 hall, if_neg this]
  have dk : decide ((k : Int) < ((l.length : Nat) : Int)) = true := by rw [decide_eq_true_eq]; exact Int.ofNat_lt.2 hltk
  simp only [dk, map_getD hltk, hltk, RuleS.pv, RuleS.vals, AW, reduceAdd, reduceCtorEq, reduceEqDiff, ↓reduceIte, reduceLT, reduceLeDiff, reduceSub, reducePow, reduceMul, reduceToNat, reduceLE, reduceEq, Int.reduceLT, Int.reduceBEq, Int.reduceBNe]
  refine ops_call (kind_g l[k].kind) (by simp only [intP, AW, reduceAdd, reduceCtorEq, reduceEqDiff, ↓reduceIte, reduceLT, reduceLeDiff, reduceSub, reducePow, reduceMul, reduceToNat, reduceLE, reduceEq, Int.reduceLT, Int.reduceBEq, Int.reduceBNe]) ?_; simp only [intP, AW, reduceAdd, reduceCtorEq, reduceEqDiff, ↓reduceIte, reduceLT, reduceLeDiff, reduceSub, reducePow, reduceMul, reduceToNat, reduceLE, reduceEq, Int.reduceLT, Int.reduceBEq, Int.reduceBNe]
  cases h1 : kindB l[k].kind
  · simp only [AW, reduceAdd, reduceCtorEq, reduceEqDiff, ↓reduceIte, reduceLT, reduceLeDiff, reduceSub, reducePow, reduceMul, reduceToNat, reduceLE, reduceEq, Int.reduceLT, Int.reduceBEq, Int.reduceBNe]
    have e1 : ruleE l[k] = 14 := by unfold ruleE; rw [if_pos h1]
    rw [rulesL_2 h8 hltk ik (by rw [e1]; omega), e1]
  (try simp only [map_getD hltk, hltk, RuleS.pv, RuleS.vals, AW, reduceAdd, reduceCtorEq, reduceEqDiff, ↓reduceIte, reduceLT, reduceLeDiff, reduceSub, reducePow, reduceMul, reduceToNat, reduceLE, reduceEq, Int.reduceLT, Int.reduceBEq, Int.reduceBNe])
  cases h2 : decide (l[k].limit < 1)
  rotate_left
  · rw [decide_eq_true_eq] at h2
    (try simp only [map_getD hltk, hltk, RuleS.pv, RuleS.vals, AW, reduceAdd, reduceCtorEq, reduceEqDiff, ↓reduceIte, reduceLT, reduceLeDiff, reduceSub, reducePow, reduceMul, reduceToNat, reduceLE, reduceEq, Int.reduceLT, Int.reduceBEq, Int.reduceBNe])
    have e1 : ruleE l[k] = 1 := by unfold ruleE; rw [if_neg (by simp [h1]), if_pos (by omega)]
    rw [rulesL_2 h8 hltk ik (by rw [e1]; omega), e1]
  (try simp only [map_getD hltk, hltk, RuleS.pv, RuleS.vals, AW, reduceAdd, reduceCtorEq, reduceEqDiff, ↓reduceIte, reduceLT, reduceLeDiff, reduceSub, reducePow, reduceMul, reduceToNat, reduceLE, reduceEq, Int.reduceLT, Int.reduceBEq, Int.reduceBNe])
  cases h3 : decide ((1125899906842624 : Int) < l[k].limit)
  rotate_left
  · rw [decide_eq_true_eq] at h3
    (try simp only [map_getD hltk, hltk, RuleS.pv, RuleS.vals, AW, reduceAdd, reduceCtorEq, reduceEqDiff, ↓reduceIte, reduceLT, reduceLeDiff, reduceSub, reducePow, reduceMul, reduceToNat, reduceLE, reduceEq, Int.reduceLT, Int.reduceBEq, Int.reduceBNe])
    have e1 : ruleE l[k] = 1 := by unfold ruleE; rw [if_neg (by simp [h1]), if_pos (by omega)]
    rw [rulesL_2 h8 hltk ik (by rw [e1]; omega), e1]
  (try simp only [map_getD hltk, hltk, RuleS.pv, RuleS.vals, AW, reduceAdd, reduceCtorEq, reduceEqDiff, ↓reduceIte, reduceLT, reduceLeDiff, reduceSub, reducePow, reduceMul, reduceToNat, reduceLE, reduceEq, Int.reduceLT, Int.reduceBEq, Int.reduceBNe])
  cases h4 : decide (l[k].days < 1)
  rotate_left
  · rw [decide_eq_true_eq] at h4
    (try simp only [map_getD hltk, hltk, RuleS.pv, RuleS.vals, AW, reduceAdd, reduceCtorEq, reduceEqDiff, ↓reduceIte, reduceLT, reduceLeDiff, reduceSub, reducePow, reduceMul, reduceToNat, reduceLE, reduceEq, Int.reduceLT, Int.reduceBEq, Int.reduceBNe])
    have e1 : ruleE l[k] = 1 := by unfold ruleE; rw [if_neg (by simp [h1]), if_pos (by omega)]
    rw [rulesL_2 h8 hltk ik (by rw [e1]; omega), e1]
  (try simp only [map_getD hltk, hltk, RuleS.pv, RuleS.vals, AW, reduceAdd, reduceCtorEq, reduceEqDiff, ↓reduceIte, reduceLT, reduceLeDiff, reduceSub, reducePow, reduceMul, reduceToNat, reduceLE, reduceEq, Int.reduceLT, Int.reduceBEq, Int.reduceBNe])
  cases h5 : decide ((49709 : Int) < l[k].days)
  rotate_left
  · rw [decide_eq_true_eq] at h5
    (try simp only [map_getD hltk, hltk, RuleS.pv, RuleS.vals, AW, reduceAdd, reduceCtorEq, reduceEqDiff, ↓reduceIte, reduceLT, reduceLeDiff, reduceSub, reducePow, reduceMul, reduceToNat, reduceLE, reduceEq, Int.reduceLT, Int.reduceBEq, Int.reduceBNe])
    have e1 : ruleE l[k] = 1 := by unfold ruleE; rw [if_neg (by simp [h1]), if_pos (by omega)]
    rw [rulesL_2 h8 hltk ik (by rw [e1]; omega), e1]
  (try simp only [map_getD hltk, hltk, RuleS.pv, RuleS.vals, AW, reduceAdd, reduceCtorEq, reduceEqDiff, ↓reduceIte, reduceLT, reduceLeDiff, reduceSub, reducePow, reduceMul, reduceToNat, reduceLE, reduceEq, Int.reduceLT, Int.reduceBEq, Int.reduceBNe])
  have e0 : ruleE l[k] = 0 := by
    rw [decide_eq_false_iff_not] at h2 h3 h4 h5
    unfold ruleE; rw [if_neg (by simp [h1]), if_neg (by omega)]
  (try simp only [wrap_succ hltk hlen, AW, reduceAdd, reduceCtorEq, reduceEqDiff, ↓reduceIte, reduceLT, reduceLeDiff, reduceSub, reducePow, reduceMul, reduceToNat, reduceLE, reduceEq, Int.reduceLT, Int.reduceBEq, Int.reduceBNe])
  refine ⟨k + 1, ⟨hltk, step_all (p := fun x => ruleE x = 0) hltk ik e0⟩, ?_, meas_lt hltk⟩
  simp only [LW, Nat.reduceMod, Nat.reduceDiv, wrap_succ hltk hlen, AW, reduceAdd, reduceCtorEq, reduceEqDiff, ↓reduceIte, reduceLT, reduceLeDiff, reduceSub, reducePow, reduceMul, reduceToNat, reduceLE, reduceEq, Int.reduceLT, Int.reduceBEq, Int.reduceBNe]
end Go.Proofs.Ythgnbkcopapbmaa
