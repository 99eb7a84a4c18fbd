/-
  Inspections: what is due, plain laws; InspectDue and InspectBlocked.
-/
import Derived.Test.YtnjgckkbhlcjoaaIq
namespace Go.Proofs.Ytnjgckkbhlcjoaa
open Go.RowKit
set_option linter.unusedVariables false
set_option linter.unusedSimpArgs false
set_option linter.unnecessarySimpa false

theorem due_bad {rules : List RuleS} {l : List CheckS} {w : WearS} {rs : List RideS} {b now : Int} (h : (dueL rules l w rs b now).2 ≠ 0) : (dueL rules l w rs b now).1 = [] := by
  unfold dueL at h ⊢
  split
  · rfl
  split
  · rfl
  split
  · rfl
  split
  · rfl
  · rename_i h1 h2 h3 h4; rw [if_neg h1, if_neg h2, if_neg h3, if_neg h4] at h; exact absurd rfl h
theorem due_ok {rules : List RuleS} {l : List CheckS} {w : WearS} {rs : List RideS} {b now : Int} (h : (dueL rules l w rs b now).2 = 0) :
    rulesL rules = 0 ∧ checksL l = 0 ∧ ¬(b < 0 ∨ 128 ≤ b ∨ now < 0 ∨ 4294943999 < now) ∧ (∀ r ∈ rules, errR l w rs b now r = 0) ∧ (dueL rules l w rs b now).1 = outR rules l w rs b now rules.length := by
  rw [outR_all]
  unfold dueL at h ⊢
  split at h
  · rename_i h1; exact absurd h h1
  split at h
  · rename_i h1; exact absurd h h1
  split at h
  · simp at h
  split at h
  · rename_i h1; exact absurd h h1
  rename_i h1 h2 h3 h4
  rw [if_neg h1, if_neg h2, if_neg h3, if_neg h4]
  exact ⟨by simpa using h1, by simpa using h2, h3, firstE_zero (by simpa using h4), rfl⟩
theorem rules_ok {rules : List RuleS} (h : rulesL rules = 0) : rules.length ≤ 8 ∧ (∀ r ∈ rules, 0 ≤ r.kind ∧ r.kind < 8 ∧ 1 ≤ r.limit ∧ r.limit ≤ 1125899906842624 ∧ 1 ≤ r.days ∧ r.days ≤ 49709) ∧ (rules.map RuleS.kind).Nodup := by
  unfold rulesL at h
  split at h
  · simp at h
  split at h
  · rename_i h2; exact absurd h h2
  rename_i h1 h2
  split at h
  rotate_left
  · simp at h
  rename_i h3
  refine ⟨by omega, fun r hr => ?_, h3⟩
  have := firstE_zero (by simpa using h2) r hr
  unfold ruleE at this
  split at this
  · simp at this
  rename_i hk
  have hk2 : kindB r.kind = true := by simpa using hk
  simp only [kindB, Bool.and_eq_true, decide_eq_true_eq] at hk2
  split at this
  · simp at this
  omega
theorem rules_mk {rules : List RuleS} (h : rules.length ≤ 8) (h2 : ∀ r ∈ rules, 0 ≤ r.kind ∧ r.kind < 8 ∧ 1 ≤ r.limit ∧ r.limit ≤ 1125899906842624 ∧ 1 ≤ r.days ∧ r.days ≤ 49709) (h3 : (rules.map RuleS.kind).Nodup) : rulesL rules = 0 := by
  unfold rulesL
  have e : firstE ruleE rules = 0 := firstE_none fun j hj => by
    obtain ⟨a1, a2, a3, a4, a5, a6⟩ := h2 _ (List.getElem_mem hj)
    unfold ruleE
    rw [if_neg (by simp [kindB]; omega), if_neg (by omega)]
  rw [if_neg (by omega), if_neg (by simpa using e), if_pos h3]
theorem nodup_inj {α β : Type} {f : α → β} {l : List α} (h : (l.map f).Nodup) {x y : α} (hx : x ∈ l) (hy : y ∈ l) (e : f x = f y) : x = y := by
  obtain ⟨i, hi, rfl⟩ := List.mem_iff_getElem.1 hx
  obtain ⟨j, hj, rfl⟩ := List.mem_iff_getElem.1 hy
  rw [List.nodup_iff_pairwise_ne, List.pairwise_iff_getElem] at h
  rcases Nat.lt_trichotomy i j with h1 | h1 | h1
  · exact absurd (by rw [List.getElem_map, List.getElem_map]; exact e) (h i j (by simpa using hi) (by simpa using hj) h1)
  · subst h1; rfl
  · exact absurd (by rw [List.getElem_map, List.getElem_map]; exact e.symm) (h j i (by simpa using hj) (by simpa using hi) h1)
/-- A rule's kind is among those due exactly if the rule has a reason. -/
theorem has_out {rules : List RuleS} {l : List CheckS} {w : WearS} {rs : List RideS} {b now : Int} (h : rulesL rules = 0) {r : RuleS} (hr : r ∈ rules) : hasL (outR rules l w rs b now rules.length) r.kind = dueR l w rs b now r := by
  rw [outR_all]
  unfold hasL
  cases hd : dueR l w rs b now r
  · simp only [List.contains_eq_mem, List.mem_map, List.mem_filter, decide_eq_false_iff_not]
    rintro ⟨x, ⟨hx, hp⟩, e⟩
    have := nodup_inj (rules_ok h).2.2 hx hr e
    subst this; rw [hd] at hp; cases hp
  · simp only [List.contains_eq_mem, List.mem_map, List.mem_filter, decide_eq_true_eq]
    exact ⟨r, ⟨hr, hd⟩, rfl⟩
theorem has_out_no {rules : List RuleS} {l : List CheckS} {w : WearS} {rs : List RideS} {b now : Int} {k : Int} (h : ∀ r ∈ rules, r.kind ≠ k) : hasL (outR rules l w rs b now rules.length) k = false := by
  rw [outR_all]
  unfold hasL
  simp only [List.contains_eq_mem, List.mem_map, List.mem_filter, decide_eq_false_iff_not]
  rintro ⟨x, ⟨hx, _⟩, e⟩
  exact h x hx e
theorem outR_pre {rules : List RuleS} {l : List CheckS} {w : WearS} {rs : List RideS} {b now : Int} {k : Nat} (hk : k ≤ rules.length) : outR rules l w rs b now k <+: outR rules l w rs b now rules.length := by
  unfold outR; rw [List.take_length]
  exact ((List.take_prefix k rules).filter _).map _
theorem outR_at {rules : List RuleS} {l : List CheckS} {w : WearS} {rs : List RideS} {b now : Int} {k : Nat} (hk : k < rules.length) (hp : dueR l w rs b now rules[k] = true) :
    ∃ h : (outR rules l w rs b now k).length < (outR rules l w rs b now rules.length).length, (outR rules l w rs b now rules.length)[(outR rules l w rs b now k).length] = rules[k].kind := by
  have h1 := outR_pre (rules := rules) (l := l) (w := w) (rs := rs) (b := b) (now := now) (k := k + 1) hk
  rw [outR_yes hk hp] at h1
  obtain ⟨t, ht⟩ := h1
  have hl : (outR rules l w rs b now k).length < (outR rules l w rs b now rules.length).length := by rw [← ht]; simp
  refine ⟨hl, ?_⟩
  have : (outR rules l w rs b now rules.length)[(outR rules l w rs b now k).length]? = some rules[k].kind := by rw [← ht]; simp
  rw [List.getElem?_eq_getElem hl] at this
  exact Option.some.inj this
theorem pig : ∀ (n : Nat) (l : List Nat), l.Nodup → (∀ x ∈ l, x < n) → l.length ≤ n
  | 0, l, _, h => by
    cases l with
    | nil => exact Nat.le_refl _
    | cons x l => exact absurd (h x List.mem_cons_self) (Nat.not_lt_zero _)
  | n + 1, l, hn, h => by
    by_cases hin : n ∈ l
    · have := pig n (l.erase n) (hn.erase n) (fun x hx => by
        have := (hn.mem_erase_iff).1 hx
        have := h x this.2; omega)
      rw [List.length_erase_of_mem hin] at this; omega
    · have := pig n l hn (fun x hx => by
        have h1 := h x hx
        have : x ≠ n := fun e => hin (e ▸ hx)
        omega)
      omega
/-- With rules for all kinds each kind has its rule. -/
theorem all_kinds {rules : List RuleS} (h : rulesL rules = 0) (h8 : rules.length = 8) {k : Nat} (hk : k < 8) : ∃ r ∈ rules, r.kind = k := by
  obtain ⟨-, h2, h3⟩ := rules_ok h
  have e : ((rules.map RuleS.kind).map Int.toNat).Nodup := by
    rw [List.nodup_iff_pairwise_ne, List.pairwise_map]
    rw [List.nodup_iff_pairwise_ne] at h3
    refine List.Pairwise.imp_of_mem (fun {a b} ha hb hab => ?_) h3
    obtain ⟨x, hx, rfl⟩ := List.mem_map.1 ha
    obtain ⟨y, hy, rfl⟩ := List.mem_map.1 hb
    have := h2 x hx; have := h2 y hy; omega
  have this : k ∈ (rules.map RuleS.kind).map Int.toNat := by
    by_cases hin : k ∈ (rules.map RuleS.kind).map Int.toNat
    · exact hin
    · have := pig 8 (k :: (rules.map RuleS.kind).map Int.toNat) (List.nodup_cons.2 ⟨hin, e⟩) (fun n hn => by
        rcases List.mem_cons.1 hn with rfl | hn
        · exact hk
        · obtain ⟨i, hi, rfl⟩ := List.mem_map.1 hn
          obtain ⟨x, hx, rfl⟩ := List.mem_map.1 hi
          have := h2 x hx; omega)
      simp [h8] at this
  obtain ⟨i, hi, e⟩ := List.mem_map.1 this
  obtain ⟨x, hx, rfl⟩ := List.mem_map.1 hi
  have := h2 x hx
  exact ⟨x, hx, by omega⟩
theorem blocked_due {c : CaseS} (h8 : c.rules.length = 8) (h : (dueC c).2 = 0) (hb : blockedL c.checks c.bike c.now = true) : 0 < (dueC c).1.length := by
  unfold dueC at h ⊢
  obtain ⟨h1, -, -, -, h5⟩ := due_ok h
  rw [h5]
  unfold blockedL at hb
  rw [List.any_eq_true] at hb
  obtain ⟨k, hk, hm⟩ := hb
  obtain ⟨r, hr, e⟩ := all_kinds h1 h8 (List.mem_range.1 hk)
  have hd : dueR c.checks c.wear c.rides c.bike c.now r = true := by
    unfold dueR reasonB
    rw [e]
    cases hl : lastL c.checks c.bike (k : Int) c.now with
    | none => rw [hl] at hm; simp at hm
    | some x => rw [hl] at hm; simp only [Option.isSome_some, Bool.true_and, lastK, Option.getD_some, Bool.or_eq_true]; left; exact hm
  have := has_out (l := c.checks) (w := c.wear) (rs := c.rides) (b := c.bike) (now := c.now) h1 hr
  rw [hd] at this
  unfold hasL at this
  exact List.length_pos_of_mem (by simpa using this)
set_option maxHeartbeats 8000000 in
theorem inspectDue_good (c : CaseS) : Good Try.prog 6 [c.pv] (.sc (.bool true)) := by
  refine good6 (by simp) ?_
  simp only [ac6, CaseS.pv, AW, Nat.reduceAdd, reduceCtorEq, Nat.reduceEqDiff, ↓reduceIte, Nat.reduceLT, Nat.reduceLeDiff, Nat.reduceSub, Nat.reducePow, Nat.reduceMul, Int.reduceToNat, Int.reduceLE, Int.reduceEq, Int.reduceLT, Int.reduceBEq, Int.reduceBNe]
  refine ops_call (few_g c) (by simp only [CaseS.pv, AW, Nat.reduceAdd, reduceCtorEq, Nat.reduceEqDiff, ↓reduceIte, Nat.reduceLT, Nat.reduceLeDiff, Nat.reduceSub, Nat.reducePow, Nat.reduceMul, Int.reduceToNat, Int.reduceLE, Int.reduceEq, Int.reduceLT, Int.reduceBEq, Int.reduceBNe]) ?_; simp only [CaseS.pv, AW, Nat.reduceAdd, reduceCtorEq, Nat.reduceEqDiff, ↓reduceIte, Nat.reduceLT, Nat.reduceLeDiff, Nat.reduceSub, Nat.reducePow, Nat.reduceMul, Int.reduceToNat, Int.reduceLE, Int.reduceEq, Int.reduceLT, Int.reduceBEq, Int.reduceBNe]
  cases fewC c
  · simp only [AW, Nat.reduceAdd, reduceCtorEq, Nat.reduceEqDiff, ↓reduceIte, Nat.reduceLT, Nat.reduceLeDiff, Nat.reduceSub, Nat.reducePow, Nat.reduceMul, Int.reduceToNat, Int.reduceLE, Int.reduceEq, Int.reduceLT, Int.reduceBEq, Int.reduceBNe]; refine ops_call (awake) (by simp only [AW, Nat.reduceAdd, reduceCtorEq, Nat.reduceEqDiff, ↓reduceIte, Nat.reduceLT, Nat.reduceLeDiff, Nat.reduceSub, Nat.reducePow, Nat.reduceMul, Int.reduceToNat, Int.reduceLE, Int.reduceEq, Int.reduceLT, Int.reduceBEq, Int.reduceBNe]) ?_; simp only [AW, Nat.reduceAdd, reduceCtorEq, Nat.reduceEqDiff, ↓reduceIte, Nat.reduceLT, Nat.reduceLeDiff, Nat.reduceSub, Nat.reducePow, Nat.reduceMul, Int.reduceToNat, Int.reduceLE, Int.reduceEq, Int.reduceLT, Int.reduceBEq, Int.reduceBNe]
  simp only [AW, Nat.reduceAdd, reduceCtorEq, Nat.reduceEqDiff, ↓reduceIte, Nat.reduceLT, Nat.reduceLeDiff, Nat.reduceSub, Nat.reducePow, Nat.reduceMul, Int.reduceToNat, Int.reduceLE, Int.reduceEq, Int.reduceLT, Int.reduceBEq, Int.reduceBNe]
  refine ops_call (due_c c) (by simp only [CaseS.pv, dueP, intP, AW, Nat.reduceAdd, reduceCtorEq, Nat.reduceEqDiff, ↓reduceIte, Nat.reduceLT, Nat.reduceLeDiff, Nat.reduceSub, Nat.reducePow, Nat.reduceMul, Int.reduceToNat, Int.reduceLE, Int.reduceEq, Int.reduceLT, Int.reduceBEq, Int.reduceBNe]) ?_; simp only [CaseS.pv, dueP, intP, AW, Nat.reduceAdd, reduceCtorEq, Nat.reduceEqDiff, ↓reduceIte, Nat.reduceLT, Nat.reduceLeDiff, Nat.reduceSub, Nat.reducePow, Nat.reduceMul, Int.reduceToNat, Int.reduceLE, Int.reduceEq, Int.reduceLT, Int.reduceBEq, Int.reduceBNe]
  cases h0 : ((dueC c).2 != 0)
  rotate_left
  · have z0 : (((0 : Nat) : Int) == 0) = true := rfl
    simp only [AW, Nat.reduceAdd, reduceCtorEq, Nat.reduceEqDiff, ↓reduceIte, Nat.reduceLT, Nat.reduceLeDiff, Nat.reduceSub, Nat.reducePow, Nat.reduceMul, Int.reduceToNat, Int.reduceLE, Int.reduceEq, Int.reduceLT, Int.reduceBEq, Int.reduceBNe]
    have hn : (dueC c).1 = [] := due_bad (by simpa [dueC] using h0)
    (try simp only [hn, List.map_nil, List.length_nil, z0, AW, Nat.reduceAdd, reduceCtorEq, Nat.reduceEqDiff, ↓reduceIte, Nat.reduceLT, Nat.reduceLeDiff, Nat.reduceSub, Nat.reducePow, Nat.reduceMul, Int.reduceToNat, Int.reduceLE, Int.reduceEq, Int.reduceLT, Int.reduceBEq, Int.reduceBNe])
    refine ops_call (awake) (by simp only [AW, Nat.reduceAdd, reduceCtorEq, Nat.reduceEqDiff, ↓reduceIte, Nat.reduceLT, Nat.reduceLeDiff, Nat.reduceSub, Nat.reducePow, Nat.reduceMul, Int.reduceToNat, Int.reduceLE, Int.reduceEq, Int.reduceLT, Int.reduceBEq, Int.reduceBNe]) ?_; simp only [AW, Nat.reduceAdd, reduceCtorEq, Nat.reduceEqDiff, ↓reduceIte, Nat.reduceLT, Nat.reduceLeDiff, Nat.reduceSub, Nat.reducePow, Nat.reduceMul, Int.reduceToNat, Int.reduceLE, Int.reduceEq, Int.reduceLT, Int.reduceBEq, Int.reduceBNe]
  have h00 : (dueL c.rules c.checks c.wear c.rides c.bike c.now).2 = 0 := by simpa [dueC] using h0
  obtain ⟨h1, h2, h3, h4, h5⟩ := due_ok h00
  have hlr := rules_len h1
  have hlen : c.rules.length ≤ maxLen := by unfold maxLen; omega
  have w1 := i64_now (a := c.now) (by omega) (by omega)
  unfold dueC
  simp only [AW, Nat.reduceAdd, reduceCtorEq, Nat.reduceEqDiff, ↓reduceIte, Nat.reduceLT, Nat.reduceLeDiff, Nat.reduceSub, Nat.reducePow, Nat.reduceMul, Int.reduceToNat, Int.reduceLE, Int.reduceEq, Int.reduceLT, Int.reduceBEq, Int.reduceBNe]
  refine run_loop (ι := Nat) (fun k => ⟨[(1, .ptr 0 0), (3, .sl ((dueL c.rules c.checks c.wear c.rides c.bike c.now).1.map intP)), (5, .sc (.int .i64 ((outR c.rules c.checks c.wear c.rides c.bike c.now k).length : Int))), (6, .sc (.int .i64 (k : Int)))], [(0, .var [.sl (c.rules.map RuleS.pv), .sl (c.checks.map CheckS.pv), .sl (c.wear.hour.map intP), .sl (c.wear.ride.map intP), .sl (c.rides.map RideS.pv), .sc (.int .i64 c.bike), .sc (.int .i64 c.now)])], 16, 134⟩) (fun k => k ≤ c.rules.length) (fun k => c.rules.length - k) 16 (fun _ => rfl) 0 (by simp only [LW, Nat.reduceMod, Nat.reduceDiv, Int.natCast_zero, outR, List.take_zero, List.filter_nil, List.map_nil, List.length_nil, AW, Nat.reduceAdd, reduceCtorEq, Nat.reduceEqDiff, ↓reduceIte, Nat.reduceLT, Nat.reduceLeDiff, Nat.reduceSub, Nat.reducePow, Nat.reduceMul, Int.reduceToNat, Int.reduceLE, Int.reduceEq, Int.reduceLT, Int.reduceBEq, Int.reduceBNe]) (Nat.zero_le _) (fun k hk => ?_)
  have gk := hk
  by_cases hltk : k < c.rules.length
  rotate_left
  · have dk : decide ((k : Int) < ((c.rules.length : Nat) : Int)) = false := by rw [decide_eq_false_iff_not]; exact fun h => hltk (Int.ofNat_lt.1 h)
    have ek : k = c.rules.length := Nat.le_antisymm gk (Nat.le_of_not_lt hltk)
    subst ek
    have z1 : ((((outR c.rules c.checks c.wear c.rides c.bike c.now c.rules.length).length : Int)) == (((dueL c.rules c.checks c.wear c.rides c.bike c.now).1.length : Nat) : Int)) = true := by rw [h5]; simp
    simp only [dk, z1, AW, Nat.reduceAdd, reduceCtorEq, Nat.reduceEqDiff, ↓reduceIte, Nat.reduceLT, Nat.reduceLeDiff, Nat.reduceSub, Nat.reducePow, Nat.reduceMul, Int.reduceToNat, Int.reduceLE, Int.reduceEq, Int.reduceLT, Int.reduceBEq, Int.reduceBNe]
    refine ops_call (awake) (by simp only [AW, Nat.reduceAdd, reduceCtorEq, Nat.reduceEqDiff, ↓reduceIte, Nat.reduceLT, Nat.reduceLeDiff, Nat.reduceSub, Nat.reducePow, Nat.reduceMul, Int.reduceToNat, Int.reduceLE, Int.reduceEq, Int.reduceLT, Int.reduceBEq, Int.reduceBNe]) ?_; simp only [AW, Nat.reduceAdd, reduceCtorEq, Nat.reduceEqDiff, ↓reduceIte, Nat.reduceLT, Nat.reduceLeDiff, Nat.reduceSub, Nat.reducePow, Nat.reduceMul, Int.reduceToNat, Int.reduceLE, Int.reduceEq, Int.reduceLT, Int.reduceBEq, Int.reduceBNe]
  have dk : decide ((k : Int) < ((c.rules.length : Nat) : Int)) = true := by rw [decide_eq_true_eq]; exact Int.ofNat_lt.2 hltk
  simp only [dk, map_getD hltk, hltk, RuleS.pv, RuleS.vals, List.map_cons, List.map_nil, AW, Nat.reduceAdd, reduceCtorEq, Nat.reduceEqDiff, ↓reduceIte, Nat.reduceLT, Nat.reduceLeDiff, Nat.reduceSub, Nat.reducePow, Nat.reduceMul, Int.reduceToNat, Int.reduceLE, Int.reduceEq, Int.reduceLT, Int.reduceBEq, Int.reduceBNe]
  refine ops_call (last_g c.checks c.bike c.rules[k].kind c.now) (by simp only [intP, lastP_eq, CheckS.pv, CheckS.vals, List.map_cons, List.map_nil, AW, Nat.reduceAdd, reduceCtorEq, Nat.reduceEqDiff, ↓reduceIte, Nat.reduceLT, Nat.reduceLeDiff, Nat.reduceSub, Nat.reducePow, Nat.reduceMul, Int.reduceToNat, Int.reduceLE, Int.reduceEq, Int.reduceLT, Int.reduceBEq, Int.reduceBNe]) ?_; simp only [intP, lastP_eq, CheckS.pv, CheckS.vals, List.map_cons, List.map_nil, AW, Nat.reduceAdd, reduceCtorEq, Nat.reduceEqDiff, ↓reduceIte, Nat.reduceLT, Nat.reduceLeDiff, Nat.reduceSub, Nat.reducePow, Nat.reduceMul, Int.reduceToNat, Int.reduceLE, Int.reduceEq, Int.reduceLT, Int.reduceBEq, Int.reduceBNe]
  simp only [w1, map_getD hltk, hltk, RuleS.pv, RuleS.vals, List.map_cons, List.map_nil, AW, Nat.reduceAdd, reduceCtorEq, Nat.reduceEqDiff, ↓reduceIte, Nat.reduceLT, Nat.reduceLeDiff, Nat.reduceSub, Nat.reducePow, Nat.reduceMul, Int.reduceToNat, Int.reduceLE, Int.reduceEq, Int.reduceLT, Int.reduceBEq, Int.reduceBNe]
  refine ops_call (of_g c.wear c.rides c.bike c.rules[k].kind (lastK (lastL c.checks c.bike c.rules[k].kind c.now)).at_ (c.now + 1)) (by simp only [pairP, intP, WearS.pv, AW, Nat.reduceAdd, reduceCtorEq, Nat.reduceEqDiff, ↓reduceIte, Nat.reduceLT, Nat.reduceLeDiff, Nat.reduceSub, Nat.reducePow, Nat.reduceMul, Int.reduceToNat, Int.reduceLE, Int.reduceEq, Int.reduceLT, Int.reduceBEq, Int.reduceBNe]) ?_; simp only [pairP, intP, WearS.pv, AW, Nat.reduceAdd, reduceCtorEq, Nat.reduceEqDiff, ↓reduceIte, Nat.reduceLT, Nat.reduceLeDiff, Nat.reduceSub, Nat.reducePow, Nat.reduceMul, Int.reduceToNat, Int.reduceLE, Int.reduceEq, Int.reduceLT, Int.reduceBEq, Int.reduceBNe]
  (try refine drawnK rfl ?_); (try simp only [AW, Nat.reduceAdd, reduceCtorEq, Nat.reduceEqDiff, ↓reduceIte, Nat.reduceLT, Nat.reduceLeDiff, Nat.reduceSub, Nat.reducePow, Nat.reduceMul, Int.reduceToNat, Int.reduceLE, Int.reduceEq, Int.reduceLT, Int.reduceBEq, Int.reduceBNe])
  have e0 : (ofW c.wear c.rides c.bike c.rules[k].kind (lastK (lastL c.checks c.bike c.rules[k].kind c.now)).at_ (c.now + 1)).2 = 0 := h4 _ (List.getElem_mem hltk)
  have e1 : ((0 : Int) != 0) = false := rfl
  rw [e0]
  have hd : dueR c.checks c.wear c.rides c.bike c.now c.rules[k] = reasonB (lastL c.checks c.bike c.rules[k].kind c.now) c.now (ofW c.wear c.rides c.bike c.rules[k].kind (lastK (lastL c.checks c.bike c.rules[k].kind c.now)).at_ (c.now + 1)).1 c.rules[k] := rfl
  have hat := lastK_at (b := c.bike) (k := c.rules[k].kind) h2 (show 0 ≤ c.now by omega)
  have t1 := i64_div (t := c.now) (by omega) (by omega)
  have t2 := i64_div hat.1 (by omega)
  have t3 := i64_sub (a := c.now) (by omega) (by omega) hat.1 (by omega)
  unfold reasonB at hd
  generalize (ofW c.wear c.rides c.bike c.rules[k].kind (lastK (lastL c.checks c.bike c.rules[k].kind c.now)).at_ (c.now + 1)).1 = wn at *
  generalize lastK (lastL c.checks c.bike c.rules[k].kind c.now) = y at *
  cases c10 : (lastL c.checks c.bike c.rules[k].kind c.now).isSome
  · (try simp only [map_getD hltk, hltk, RuleS.pv, RuleS.vals, List.map_cons, List.map_nil, CheckS.pv, CheckS.vals, t1, t2, t3, AW, Nat.reduceAdd, reduceCtorEq, Nat.reduceEqDiff, ↓reduceIte, Nat.reduceLT, Nat.reduceLeDiff, Nat.reduceSub, Nat.reducePow, Nat.reduceMul, Int.reduceToNat, Int.reduceLE, Int.reduceEq, Int.reduceLT, Int.reduceBEq, Int.reduceBNe])
    cases c11 : decide (c.rules[k].days ≤ c.now / 86400 - y.at_ / 86400)
    rotate_left
    · (try simp only [map_getD hltk, hltk, RuleS.pv, RuleS.vals, List.map_cons, List.map_nil, CheckS.pv, CheckS.vals, t1, t2, t3, AW, Nat.reduceAdd, reduceCtorEq, Nat.reduceEqDiff, ↓reduceIte, Nat.reduceLT, Nat.reduceLeDiff, Nat.reduceSub, Nat.reducePow, Nat.reduceMul, Int.reduceToNat, Int.reduceLE, Int.reduceEq, Int.reduceLT, Int.reduceBEq, Int.reduceBNe])
      have hy : dueR c.checks c.wear c.rides c.bike c.now c.rules[k] = true := by rw [hd]; simp [reasonB, *]
      have hh := has_out (l := c.checks) (w := c.wear) (rs := c.rides) (b := c.bike) (now := c.now) h1 (List.getElem_mem hltk)
      rw [← h5, hy] at hh
      obtain ⟨q1, q2⟩ := outR_at hltk hy
      have nx : (outR c.rules c.checks c.wear c.rides c.bike c.now (k + 1)).length = (outR c.rules c.checks c.wear c.rides c.bike c.now k).length + 1 := by rw [outR_yes hltk hy]; simp
      have q3 : (outR c.rules c.checks c.wear c.rides c.bike c.now k).length < (dueL c.rules c.checks c.wear c.rides c.bike c.now).1.length := by rw [h5]; exact q1
      have q4 : (dueL c.rules c.checks c.wear c.rides c.bike c.now).1[(outR c.rules c.checks c.wear c.rides c.bike c.now k).length] = c.rules[k].kind := by simp only [h5]; exact q2
      have q5 : (dueL c.rules c.checks c.wear c.rides c.bike c.now).1.length ≤ maxLen := by rw [h5]; have := outR_len c.rules c.checks c.wear c.rides c.bike c.now c.rules.length hlr; unfold maxLen; omega
      generalize (dueL c.rules c.checks c.wear c.rides c.bike c.now).1 = out at *
      generalize outR c.rules c.checks c.wear c.rides c.bike c.now k = pre at *
      have q6 : decide ((out.length : Int) ≤ (pre.length : Int)) = false := by rw [decide_eq_false_iff_not]; omega
      have q7 : (out[pre.length] != c.rules[k].kind) = false := by simp [q4]
      (try simp only [map_getD hltk, hltk, RuleS.pv, RuleS.vals, List.map_cons, List.map_nil, CheckS.pv, CheckS.vals, t1, t2, t3, AW, Nat.reduceAdd, reduceCtorEq, Nat.reduceEqDiff, ↓reduceIte, Nat.reduceLT, Nat.reduceLeDiff, Nat.reduceSub, Nat.reducePow, Nat.reduceMul, Int.reduceToNat, Int.reduceLE, Int.reduceEq, Int.reduceLT, Int.reduceBEq, Int.reduceBNe])
      (try simp only [map_getD q3, q3, q6, q7, intP, map_getD hltk, hltk, RuleS.pv, RuleS.vals, List.map_cons, List.map_nil, AW, Nat.reduceAdd, reduceCtorEq, Nat.reduceEqDiff, ↓reduceIte, Nat.reduceLT, Nat.reduceLeDiff, Nat.reduceSub, Nat.reducePow, Nat.reduceMul, Int.reduceToNat, Int.reduceLE, Int.reduceEq, Int.reduceLT, Int.reduceBEq, Int.reduceBNe])
      refine ops_call (has_g out c.rules[k].kind) (by simp only [intsP, intP, map_getD hltk, hltk, RuleS.pv, RuleS.vals, List.map_cons, List.map_nil, AW, Nat.reduceAdd, reduceCtorEq, Nat.reduceEqDiff, ↓reduceIte, Nat.reduceLT, Nat.reduceLeDiff, Nat.reduceSub, Nat.reducePow, Nat.reduceMul, Int.reduceToNat, Int.reduceLE, Int.reduceEq, Int.reduceLT, Int.reduceBEq, Int.reduceBNe]) ?_; simp only [intsP, intP, map_getD hltk, hltk, RuleS.pv, RuleS.vals, List.map_cons, List.map_nil, AW, Nat.reduceAdd, reduceCtorEq, Nat.reduceEqDiff, ↓reduceIte, Nat.reduceLT, Nat.reduceLeDiff, Nat.reduceSub, Nat.reducePow, Nat.reduceMul, Int.reduceToNat, Int.reduceLE, Int.reduceEq, Int.reduceLT, Int.reduceBEq, Int.reduceBNe]
      simp only [hh, AW, Nat.reduceAdd, reduceCtorEq, Nat.reduceEqDiff, ↓reduceIte, Nat.reduceLT, Nat.reduceLeDiff, Nat.reduceSub, Nat.reducePow, Nat.reduceMul, Int.reduceToNat, Int.reduceLE, Int.reduceEq, Int.reduceLT, Int.reduceBEq, Int.reduceBNe]
      (try refine drawnK rfl ?_); (try simp only [AW, Nat.reduceAdd, reduceCtorEq, Nat.reduceEqDiff, ↓reduceIte, Nat.reduceLT, Nat.reduceLeDiff, Nat.reduceSub, Nat.reducePow, Nat.reduceMul, Int.reduceToNat, Int.reduceLE, Int.reduceEq, Int.reduceLT, Int.reduceBEq, Int.reduceBNe])
      (try simp only [wrap_succ hltk hlen, wrap_succ q3 q5, AW, Nat.reduceAdd, reduceCtorEq, Nat.reduceEqDiff, ↓reduceIte, Nat.reduceLT, Nat.reduceLeDiff, Nat.reduceSub, Nat.reducePow, Nat.reduceMul, Int.reduceToNat, Int.reduceLE, Int.reduceEq, Int.reduceLT, Int.reduceBEq, Int.reduceBNe])
      refine ⟨k + 1, hltk, ?_, meas_lt hltk⟩
      simp only [LW, Nat.reduceMod, Nat.reduceDiv, nx, AW, Nat.reduceAdd, reduceCtorEq, Nat.reduceEqDiff, ↓reduceIte, Nat.reduceLT, Nat.reduceLeDiff, Nat.reduceSub, Nat.reducePow, Nat.reduceMul, Int.reduceToNat, Int.reduceLE, Int.reduceEq, Int.reduceLT, Int.reduceBEq, Int.reduceBNe]
    (try simp only [map_getD hltk, hltk, RuleS.pv, RuleS.vals, List.map_cons, List.map_nil, CheckS.pv, CheckS.vals, t1, t2, t3, AW, Nat.reduceAdd, reduceCtorEq, Nat.reduceEqDiff, ↓reduceIte, Nat.reduceLT, Nat.reduceLeDiff, Nat.reduceSub, Nat.reducePow, Nat.reduceMul, Int.reduceToNat, Int.reduceLE, Int.reduceEq, Int.reduceLT, Int.reduceBEq, Int.reduceBNe])
    cases c12 : decide (c.rules[k].limit ≤ wn)
    rotate_left
    · (try simp only [map_getD hltk, hltk, RuleS.pv, RuleS.vals, List.map_cons, List.map_nil, CheckS.pv, CheckS.vals, t1, t2, t3, AW, Nat.reduceAdd, reduceCtorEq, Nat.reduceEqDiff, ↓reduceIte, Nat.reduceLT, Nat.reduceLeDiff, Nat.reduceSub, Nat.reducePow, Nat.reduceMul, Int.reduceToNat, Int.reduceLE, Int.reduceEq, Int.reduceLT, Int.reduceBEq, Int.reduceBNe])
      have hy : dueR c.checks c.wear c.rides c.bike c.now c.rules[k] = true := by rw [hd]; simp [reasonB, *]
      have hh := has_out (l := c.checks) (w := c.wear) (rs := c.rides) (b := c.bike) (now := c.now) h1 (List.getElem_mem hltk)
      rw [← h5, hy] at hh
      obtain ⟨q1, q2⟩ := outR_at hltk hy
      have nx : (outR c.rules c.checks c.wear c.rides c.bike c.now (k + 1)).length = (outR c.rules c.checks c.wear c.rides c.bike c.now k).length + 1 := by rw [outR_yes hltk hy]; simp
      have q3 : (outR c.rules c.checks c.wear c.rides c.bike c.now k).length < (dueL c.rules c.checks c.wear c.rides c.bike c.now).1.length := by rw [h5]; exact q1
      have q4 : (dueL c.rules c.checks c.wear c.rides c.bike c.now).1[(outR c.rules c.checks c.wear c.rides c.bike c.now k).length] = c.rules[k].kind := by simp only [h5]; exact q2
      have q5 : (dueL c.rules c.checks c.wear c.rides c.bike c.now).1.length ≤ maxLen := by rw [h5]; have := outR_len c.rules c.checks c.wear c.rides c.bike c.now c.rules.length hlr; unfold maxLen; omega
      generalize (dueL c.rules c.checks c.wear c.rides c.bike c.now).1 = out at *
      generalize outR c.rules c.checks c.wear c.rides c.bike c.now k = pre at *
      have q6 : decide ((out.length : Int) ≤ (pre.length : Int)) = false := by rw [decide_eq_false_iff_not]; omega
      have q7 : (out[pre.length] != c.rules[k].kind) = false := by simp [q4]
      (try simp only [map_getD hltk, hltk, RuleS.pv, RuleS.vals, List.map_cons, List.map_nil, CheckS.pv, CheckS.vals, t1, t2, t3, AW, Nat.reduceAdd, reduceCtorEq, Nat.reduceEqDiff, ↓reduceIte, Nat.reduceLT, Nat.reduceLeDiff, Nat.reduceSub, Nat.reducePow, Nat.reduceMul, Int.reduceToNat, Int.reduceLE, Int.reduceEq, Int.reduceLT, Int.reduceBEq, Int.reduceBNe])
      (try simp only [map_getD q3, q3, q6, q7, intP, map_getD hltk, hltk, RuleS.pv, RuleS.vals, List.map_cons, List.map_nil, AW, Nat.reduceAdd, reduceCtorEq, Nat.reduceEqDiff, ↓reduceIte, Nat.reduceLT, Nat.reduceLeDiff, Nat.reduceSub, Nat.reducePow, Nat.reduceMul, Int.reduceToNat, Int.reduceLE, Int.reduceEq, Int.reduceLT, Int.reduceBEq, Int.reduceBNe])
      refine ops_call (has_g out c.rules[k].kind) (by simp only [intsP, intP, map_getD hltk, hltk, RuleS.pv, RuleS.vals, List.map_cons, List.map_nil, AW, Nat.reduceAdd, reduceCtorEq, Nat.reduceEqDiff, ↓reduceIte, Nat.reduceLT, Nat.reduceLeDiff, Nat.reduceSub, Nat.reducePow, Nat.reduceMul, Int.reduceToNat, Int.reduceLE, Int.reduceEq, Int.reduceLT, Int.reduceBEq, Int.reduceBNe]) ?_; simp only [intsP, intP, map_getD hltk, hltk, RuleS.pv, RuleS.vals, List.map_cons, List.map_nil, AW, Nat.reduceAdd, reduceCtorEq, Nat.reduceEqDiff, ↓reduceIte, Nat.reduceLT, Nat.reduceLeDiff, Nat.reduceSub, Nat.reducePow, Nat.reduceMul, Int.reduceToNat, Int.reduceLE, Int.reduceEq, Int.reduceLT, Int.reduceBEq, Int.reduceBNe]
      simp only [hh, AW, Nat.reduceAdd, reduceCtorEq, Nat.reduceEqDiff, ↓reduceIte, Nat.reduceLT, Nat.reduceLeDiff, Nat.reduceSub, Nat.reducePow, Nat.reduceMul, Int.reduceToNat, Int.reduceLE, Int.reduceEq, Int.reduceLT, Int.reduceBEq, Int.reduceBNe]
      (try refine drawnK rfl ?_); (try simp only [AW, Nat.reduceAdd, reduceCtorEq, Nat.reduceEqDiff, ↓reduceIte, Nat.reduceLT, Nat.reduceLeDiff, Nat.reduceSub, Nat.reducePow, Nat.reduceMul, Int.reduceToNat, Int.reduceLE, Int.reduceEq, Int.reduceLT, Int.reduceBEq, Int.reduceBNe])
      (try simp only [wrap_succ hltk hlen, wrap_succ q3 q5, AW, Nat.reduceAdd, reduceCtorEq, Nat.reduceEqDiff, ↓reduceIte, Nat.reduceLT, Nat.reduceLeDiff, Nat.reduceSub, Nat.reducePow, Nat.reduceMul, Int.reduceToNat, Int.reduceLE, Int.reduceEq, Int.reduceLT, Int.reduceBEq, Int.reduceBNe])
      refine ⟨k + 1, hltk, ?_, meas_lt hltk⟩
      simp only [LW, Nat.reduceMod, Nat.reduceDiv, nx, AW, Nat.reduceAdd, reduceCtorEq, Nat.reduceEqDiff, ↓reduceIte, Nat.reduceLT, Nat.reduceLeDiff, Nat.reduceSub, Nat.reducePow, Nat.reduceMul, Int.reduceToNat, Int.reduceLE, Int.reduceEq, Int.reduceLT, Int.reduceBEq, Int.reduceBNe]
    (try simp only [map_getD hltk, hltk, RuleS.pv, RuleS.vals, List.map_cons, List.map_nil, CheckS.pv, CheckS.vals, t1, t2, t3, AW, Nat.reduceAdd, reduceCtorEq, Nat.reduceEqDiff, ↓reduceIte, Nat.reduceLT, Nat.reduceLeDiff, Nat.reduceSub, Nat.reducePow, Nat.reduceMul, Int.reduceToNat, Int.reduceLE, Int.reduceEq, Int.reduceLT, Int.reduceBEq, Int.reduceBNe])
    have hy : dueR c.checks c.wear c.rides c.bike c.now c.rules[k] = false := by rw [hd]; simp [reasonB, *]
    have hh := has_out (l := c.checks) (w := c.wear) (rs := c.rides) (b := c.bike) (now := c.now) h1 (List.getElem_mem hltk)
    rw [← h5, hy] at hh
    have nx : (outR c.rules c.checks c.wear c.rides c.bike c.now (k + 1)).length = (outR c.rules c.checks c.wear c.rides c.bike c.now k).length := by rw [outR_no hltk hy]
    generalize (dueL c.rules c.checks c.wear c.rides c.bike c.now).1 = out at *
    generalize outR c.rules c.checks c.wear c.rides c.bike c.now k = pre at *
    (try simp only [map_getD hltk, hltk, RuleS.pv, RuleS.vals, List.map_cons, List.map_nil, CheckS.pv, CheckS.vals, t1, t2, t3, AW, Nat.reduceAdd, reduceCtorEq, Nat.reduceEqDiff, ↓reduceIte, Nat.reduceLT, Nat.reduceLeDiff, Nat.reduceSub, Nat.reducePow, Nat.reduceMul, Int.reduceToNat, Int.reduceLE, Int.reduceEq, Int.reduceLT, Int.reduceBEq, Int.reduceBNe])
    refine ops_call (has_g out c.rules[k].kind) (by simp only [intsP, intP, map_getD hltk, hltk, RuleS.pv, RuleS.vals, List.map_cons, List.map_nil, AW, Nat.reduceAdd, reduceCtorEq, Nat.reduceEqDiff, ↓reduceIte, Nat.reduceLT, Nat.reduceLeDiff, Nat.reduceSub, Nat.reducePow, Nat.reduceMul, Int.reduceToNat, Int.reduceLE, Int.reduceEq, Int.reduceLT, Int.reduceBEq, Int.reduceBNe]) ?_; simp only [intsP, intP, map_getD hltk, hltk, RuleS.pv, RuleS.vals, List.map_cons, List.map_nil, AW, Nat.reduceAdd, reduceCtorEq, Nat.reduceEqDiff, ↓reduceIte, Nat.reduceLT, Nat.reduceLeDiff, Nat.reduceSub, Nat.reducePow, Nat.reduceMul, Int.reduceToNat, Int.reduceLE, Int.reduceEq, Int.reduceLT, Int.reduceBEq, Int.reduceBNe]
    simp only [hh, AW, Nat.reduceAdd, reduceCtorEq, Nat.reduceEqDiff, ↓reduceIte, Nat.reduceLT, Nat.reduceLeDiff, Nat.reduceSub, Nat.reducePow, Nat.reduceMul, Int.reduceToNat, Int.reduceLE, Int.reduceEq, Int.reduceLT, Int.reduceBEq, Int.reduceBNe]
    (try refine drawnK rfl ?_); (try simp only [AW, Nat.reduceAdd, reduceCtorEq, Nat.reduceEqDiff, ↓reduceIte, Nat.reduceLT, Nat.reduceLeDiff, Nat.reduceSub, Nat.reducePow, Nat.reduceMul, Int.reduceToNat, Int.reduceLE, Int.reduceEq, Int.reduceLT, Int.reduceBEq, Int.reduceBNe])
    (try simp only [wrap_succ hltk hlen, AW, Nat.reduceAdd, reduceCtorEq, Nat.reduceEqDiff, ↓reduceIte, Nat.reduceLT, Nat.reduceLeDiff, Nat.reduceSub, Nat.reducePow, Nat.reduceMul, Int.reduceToNat, Int.reduceLE, Int.reduceEq, Int.reduceLT, Int.reduceBEq, Int.reduceBNe])
    refine ⟨k + 1, hltk, ?_, meas_lt hltk⟩
    simp only [LW, Nat.reduceMod, Nat.reduceDiv, nx, AW, Nat.reduceAdd, reduceCtorEq, Nat.reduceEqDiff, ↓reduceIte, Nat.reduceLT, Nat.reduceLeDiff, Nat.reduceSub, Nat.reducePow, Nat.reduceMul, Int.reduceToNat, Int.reduceLE, Int.reduceEq, Int.reduceLT, Int.reduceBEq, Int.reduceBNe]

  (try simp only [map_getD hltk, hltk, RuleS.pv, RuleS.vals, List.map_cons, List.map_nil, CheckS.pv, CheckS.vals, t1, t2, t3, AW, Nat.reduceAdd, reduceCtorEq, Nat.reduceEqDiff, ↓reduceIte, Nat.reduceLT, Nat.reduceLeDiff, Nat.reduceSub, Nat.reducePow, Nat.reduceMul, Int.reduceToNat, Int.reduceLE, Int.reduceEq, Int.reduceLT, Int.reduceBEq, Int.reduceBNe])
  cases c13 : y.good
  · (try simp only [map_getD hltk, hltk, RuleS.pv, RuleS.vals, List.map_cons, List.map_nil, CheckS.pv, CheckS.vals, t1, t2, t3, AW, Nat.reduceAdd, reduceCtorEq, Nat.reduceEqDiff, ↓reduceIte, Nat.reduceLT, Nat.reduceLeDiff, Nat.reduceSub, Nat.reducePow, Nat.reduceMul, Int.reduceToNat, Int.reduceLE, Int.reduceEq, Int.reduceLT, Int.reduceBEq, Int.reduceBNe])
    have hy : dueR c.checks c.wear c.rides c.bike c.now c.rules[k] = true := by rw [hd]; simp [reasonB, *]
    have hh := has_out (l := c.checks) (w := c.wear) (rs := c.rides) (b := c.bike) (now := c.now) h1 (List.getElem_mem hltk)
    rw [← h5, hy] at hh
    obtain ⟨q1, q2⟩ := outR_at hltk hy
    have nx : (outR c.rules c.checks c.wear c.rides c.bike c.now (k + 1)).length = (outR c.rules c.checks c.wear c.rides c.bike c.now k).length + 1 := by rw [outR_yes hltk hy]; simp
    have q3 : (outR c.rules c.checks c.wear c.rides c.bike c.now k).length < (dueL c.rules c.checks c.wear c.rides c.bike c.now).1.length := by rw [h5]; exact q1
    have q4 : (dueL c.rules c.checks c.wear c.rides c.bike c.now).1[(outR c.rules c.checks c.wear c.rides c.bike c.now k).length] = c.rules[k].kind := by simp only [h5]; exact q2
    have q5 : (dueL c.rules c.checks c.wear c.rides c.bike c.now).1.length ≤ maxLen := by rw [h5]; have := outR_len c.rules c.checks c.wear c.rides c.bike c.now c.rules.length hlr; unfold maxLen; omega
    generalize (dueL c.rules c.checks c.wear c.rides c.bike c.now).1 = out at *
    generalize outR c.rules c.checks c.wear c.rides c.bike c.now k = pre at *
    have q6 : decide ((out.length : Int) ≤ (pre.length : Int)) = false := by rw [decide_eq_false_iff_not]; omega
    have q7 : (out[pre.length] != c.rules[k].kind) = false := by simp [q4]
    (try simp only [map_getD hltk, hltk, RuleS.pv, RuleS.vals, List.map_cons, List.map_nil, CheckS.pv, CheckS.vals, t1, t2, t3, AW, Nat.reduceAdd, reduceCtorEq, Nat.reduceEqDiff, ↓reduceIte, Nat.reduceLT, Nat.reduceLeDiff, Nat.reduceSub, Nat.reducePow, Nat.reduceMul, Int.reduceToNat, Int.reduceLE, Int.reduceEq, Int.reduceLT, Int.reduceBEq, Int.reduceBNe])
    (try simp only [map_getD q3, q3, q6, q7, intP, map_getD hltk, hltk, RuleS.pv, RuleS.vals, List.map_cons, List.map_nil, AW, Nat.reduceAdd, reduceCtorEq, Nat.reduceEqDiff, ↓reduceIte, Nat.reduceLT, Nat.reduceLeDiff, Nat.reduceSub, Nat.reducePow, Nat.reduceMul, Int.reduceToNat, Int.reduceLE, Int.reduceEq, Int.reduceLT, Int.reduceBEq, Int.reduceBNe])
    refine ops_call (has_g out c.rules[k].kind) (by simp only [intsP, intP, map_getD hltk, hltk, RuleS.pv, RuleS.vals, List.map_cons, List.map_nil, AW, Nat.reduceAdd, reduceCtorEq, Nat.reduceEqDiff, ↓reduceIte, Nat.reduceLT, Nat.reduceLeDiff, Nat.reduceSub, Nat.reducePow, Nat.reduceMul, Int.reduceToNat, Int.reduceLE, Int.reduceEq, Int.reduceLT, Int.reduceBEq, Int.reduceBNe]) ?_; simp only [intsP, intP, map_getD hltk, hltk, RuleS.pv, RuleS.vals, List.map_cons, List.map_nil, AW, Nat.reduceAdd, reduceCtorEq, Nat.reduceEqDiff, ↓reduceIte, Nat.reduceLT, Nat.reduceLeDiff, Nat.reduceSub, Nat.reducePow, Nat.reduceMul, Int.reduceToNat, Int.reduceLE, Int.reduceEq, Int.reduceLT, Int.reduceBEq, Int.reduceBNe]
    simp only [hh, AW, Nat.reduceAdd, reduceCtorEq, Nat.reduceEqDiff, ↓reduceIte, Nat.reduceLT, Nat.reduceLeDiff, Nat.reduceSub, Nat.reducePow, Nat.reduceMul, Int.reduceToNat, Int.reduceLE, Int.reduceEq, Int.reduceLT, Int.reduceBEq, Int.reduceBNe]
    (try refine drawnK rfl ?_); (try simp only [AW, Nat.reduceAdd, reduceCtorEq, Nat.reduceEqDiff, ↓reduceIte, Nat.reduceLT, Nat.reduceLeDiff, Nat.reduceSub, Nat.reducePow, Nat.reduceMul, Int.reduceToNat, Int.reduceLE, Int.reduceEq, Int.reduceLT, Int.reduceBEq, Int.reduceBNe])
    (try simp only [wrap_succ hltk hlen, wrap_succ q3 q5, AW, Nat.reduceAdd, reduceCtorEq, Nat.reduceEqDiff, ↓reduceIte, Nat.reduceLT, Nat.reduceLeDiff, Nat.reduceSub, Nat.reducePow, Nat.reduceMul, Int.reduceToNat, Int.reduceLE, Int.reduceEq, Int.reduceLT, Int.reduceBEq, Int.reduceBNe])
    refine ⟨k + 1, hltk, ?_, meas_lt hltk⟩
    simp only [LW, Nat.reduceMod, Nat.reduceDiv, nx, AW, Nat.reduceAdd, reduceCtorEq, Nat.reduceEqDiff, ↓reduceIte, Nat.reduceLT, Nat.reduceLeDiff, Nat.reduceSub, Nat.reducePow, Nat.reduceMul, Int.reduceToNat, Int.reduceLE, Int.reduceEq, Int.reduceLT, Int.reduceBEq, Int.reduceBNe]
  (try simp only [map_getD hltk, hltk, RuleS.pv, RuleS.vals, List.map_cons, List.map_nil, CheckS.pv, CheckS.vals, t1, t2, t3, AW, Nat.reduceAdd, reduceCtorEq, Nat.reduceEqDiff, ↓reduceIte, Nat.reduceLT, Nat.reduceLeDiff, Nat.reduceSub, Nat.reducePow, Nat.reduceMul, Int.reduceToNat, Int.reduceLE, Int.reduceEq, Int.reduceLT, Int.reduceBEq, Int.reduceBNe])
  cases c11 : decide (c.rules[k].days ≤ c.now / 86400 - y.at_ / 86400)
  rotate_left
  · (try simp only [map_getD hltk, hltk, RuleS.pv, RuleS.vals, List.map_cons, List.map_nil, CheckS.pv, CheckS.vals, t1, t2, t3, AW, Nat.reduceAdd, reduceCtorEq, Nat.reduceEqDiff, ↓reduceIte, Nat.reduceLT, Nat.reduceLeDiff, Nat.reduceSub, Nat.reducePow, Nat.reduceMul, Int.reduceToNat, Int.reduceLE, Int.reduceEq, Int.reduceLT, Int.reduceBEq, Int.reduceBNe])
    have hy : dueR c.checks c.wear c.rides c.bike c.now c.rules[k] = true := by rw [hd]; simp [reasonB, *]
    have hh := has_out (l := c.checks) (w := c.wear) (rs := c.rides) (b := c.bike) (now := c.now) h1 (List.getElem_mem hltk)
    rw [← h5, hy] at hh
    obtain ⟨q1, q2⟩ := outR_at hltk hy
    have nx : (outR c.rules c.checks c.wear c.rides c.bike c.now (k + 1)).length = (outR c.rules c.checks c.wear c.rides c.bike c.now k).length + 1 := by rw [outR_yes hltk hy]; simp
    have q3 : (outR c.rules c.checks c.wear c.rides c.bike c.now k).length < (dueL c.rules c.checks c.wear c.rides c.bike c.now).1.length := by rw [h5]; exact q1
    have q4 : (dueL c.rules c.checks c.wear c.rides c.bike c.now).1[(outR c.rules c.checks c.wear c.rides c.bike c.now k).length] = c.rules[k].kind := by simp only [h5]; exact q2
    have q5 : (dueL c.rules c.checks c.wear c.rides c.bike c.now).1.length ≤ maxLen := by rw [h5]; have := outR_len c.rules c.checks c.wear c.rides c.bike c.now c.rules.length hlr; unfold maxLen; omega
    generalize (dueL c.rules c.checks c.wear c.rides c.bike c.now).1 = out at *
    generalize outR c.rules c.checks c.wear c.rides c.bike c.now k = pre at *
    have q6 : decide ((out.length : Int) ≤ (pre.length : Int)) = false := by rw [decide_eq_false_iff_not]; omega
    have q7 : (out[pre.length] != c.rules[k].kind) = false := by simp [q4]
    (try simp only [map_getD hltk, hltk, RuleS.pv, RuleS.vals, List.map_cons, List.map_nil, CheckS.pv, CheckS.vals, t1, t2, t3, AW, Nat.reduceAdd, reduceCtorEq, Nat.reduceEqDiff, ↓reduceIte, Nat.reduceLT, Nat.reduceLeDiff, Nat.reduceSub, Nat.reducePow, Nat.reduceMul, Int.reduceToNat, Int.reduceLE, Int.reduceEq, Int.reduceLT, Int.reduceBEq, Int.reduceBNe])
    (try simp only [map_getD q3, q3, q6, q7, intP, map_getD hltk, hltk, RuleS.pv, RuleS.vals, List.map_cons, List.map_nil, AW, Nat.reduceAdd, reduceCtorEq, Nat.reduceEqDiff, ↓reduceIte, Nat.reduceLT, Nat.reduceLeDiff, Nat.reduceSub, Nat.reducePow, Nat.reduceMul, Int.reduceToNat, Int.reduceLE, Int.reduceEq, Int.reduceLT, Int.reduceBEq, Int.reduceBNe])
    refine ops_call (has_g out c.rules[k].kind) (by simp only [intsP, intP, map_getD hltk, hltk, RuleS.pv, RuleS.vals, List.map_cons, List.map_nil, AW, Nat.reduceAdd, reduceCtorEq, Nat.reduceEqDiff, ↓reduceIte, Nat.reduceLT, Nat.reduceLeDiff, Nat.reduceSub, Nat.reducePow, Nat.reduceMul, Int.reduceToNat, Int.reduceLE, Int.reduceEq, Int.reduceLT, Int.reduceBEq, Int.reduceBNe]) ?_; simp only [intsP, intP, map_getD hltk, hltk, RuleS.pv, RuleS.vals, List.map_cons, List.map_nil, AW, Nat.reduceAdd, reduceCtorEq, Nat.reduceEqDiff, ↓reduceIte, Nat.reduceLT, Nat.reduceLeDiff, Nat.reduceSub, Nat.reducePow, Nat.reduceMul, Int.reduceToNat, Int.reduceLE, Int.reduceEq, Int.reduceLT, Int.reduceBEq, Int.reduceBNe]
    simp only [hh, AW, Nat.reduceAdd, reduceCtorEq, Nat.reduceEqDiff, ↓reduceIte, Nat.reduceLT, Nat.reduceLeDiff, Nat.reduceSub, Nat.reducePow, Nat.reduceMul, Int.reduceToNat, Int.reduceLE, Int.reduceEq, Int.reduceLT, Int.reduceBEq, Int.reduceBNe]
    (try refine drawnK rfl ?_); (try simp only [AW, Nat.reduceAdd, reduceCtorEq, Nat.reduceEqDiff, ↓reduceIte, Nat.reduceLT, Nat.reduceLeDiff, Nat.reduceSub, Nat.reducePow, Nat.reduceMul, Int.reduceToNat, Int.reduceLE, Int.reduceEq, Int.reduceLT, Int.reduceBEq, Int.reduceBNe])
    (try simp only [wrap_succ hltk hlen, wrap_succ q3 q5, AW, Nat.reduceAdd, reduceCtorEq, Nat.reduceEqDiff, ↓reduceIte, Nat.reduceLT, Nat.reduceLeDiff, Nat.reduceSub, Nat.reducePow, Nat.reduceMul, Int.reduceToNat, Int.reduceLE, Int.reduceEq, Int.reduceLT, Int.reduceBEq, Int.reduceBNe])
    refine ⟨k + 1, hltk, ?_, meas_lt hltk⟩
    simp only [LW, Nat.reduceMod, Nat.reduceDiv, nx, AW, Nat.reduceAdd, reduceCtorEq, Nat.reduceEqDiff, ↓reduceIte, Nat.reduceLT, Nat.reduceLeDiff, Nat.reduceSub, Nat.reducePow, Nat.reduceMul, Int.reduceToNat, Int.reduceLE, Int.reduceEq, Int.reduceLT, Int.reduceBEq, Int.reduceBNe]
  (try simp only [map_getD hltk, hltk, RuleS.pv, RuleS.vals, List.map_cons, List.map_nil, CheckS.pv, CheckS.vals, t1, t2, t3, AW, Nat.reduceAdd, reduceCtorEq, Nat.reduceEqDiff, ↓reduceIte, Nat.reduceLT, Nat.reduceLeDiff, Nat.reduceSub, Nat.reducePow, Nat.reduceMul, Int.reduceToNat, Int.reduceLE, Int.reduceEq, Int.reduceLT, Int.reduceBEq, Int.reduceBNe])
  cases c12 : decide (c.rules[k].limit ≤ wn)
  rotate_left
  · (try simp only [map_getD hltk, hltk, RuleS.pv, RuleS.vals, List.map_cons, List.map_nil, CheckS.pv, CheckS.vals, t1, t2, t3, AW, Nat.reduceAdd, reduceCtorEq, Nat.reduceEqDiff, ↓reduceIte, Nat.reduceLT, Nat.reduceLeDiff, Nat.reduceSub, Nat.reducePow, Nat.reduceMul, Int.reduceToNat, Int.reduceLE, Int.reduceEq, Int.reduceLT, Int.reduceBEq, Int.reduceBNe])
    have hy : dueR c.checks c.wear c.rides c.bike c.now c.rules[k] = true := by rw [hd]; simp [reasonB, *]
    have hh := has_out (l := c.checks) (w := c.wear) (rs := c.rides) (b := c.bike) (now := c.now) h1 (List.getElem_mem hltk)
    rw [← h5, hy] at hh
    obtain ⟨q1, q2⟩ := outR_at hltk hy
    have nx : (outR c.rules c.checks c.wear c.rides c.bike c.now (k + 1)).length = (outR c.rules c.checks c.wear c.rides c.bike c.now k).length + 1 := by rw [outR_yes hltk hy]; simp
    have q3 : (outR c.rules c.checks c.wear c.rides c.bike c.now k).length < (dueL c.rules c.checks c.wear c.rides c.bike c.now).1.length := by rw [h5]; exact q1
    have q4 : (dueL c.rules c.checks c.wear c.rides c.bike c.now).1[(outR c.rules c.checks c.wear c.rides c.bike c.now k).length] = c.rules[k].kind := by simp only [h5]; exact q2
    have q5 : (dueL c.rules c.checks c.wear c.rides c.bike c.now).1.length ≤ maxLen := by rw [h5]; have := outR_len c.rules c.checks c.wear c.rides c.bike c.now c.rules.length hlr; unfold maxLen; omega
    generalize (dueL c.rules c.checks c.wear c.rides c.bike c.now).1 = out at *
    generalize outR c.rules c.checks c.wear c.rides c.bike c.now k = pre at *
    have q6 : decide ((out.length : Int) ≤ (pre.length : Int)) = false := by rw [decide_eq_false_iff_not]; omega
    have q7 : (out[pre.length] != c.rules[k].kind) = false := by simp [q4]
    (try simp only [map_getD hltk, hltk, RuleS.pv, RuleS.vals, List.map_cons, List.map_nil, CheckS.pv, CheckS.vals, t1, t2, t3, AW, Nat.reduceAdd, reduceCtorEq, Nat.reduceEqDiff, ↓reduceIte, Nat.reduceLT, Nat.reduceLeDiff, Nat.reduceSub, Nat.reducePow, Nat.reduceMul, Int.reduceToNat, Int.reduceLE, Int.reduceEq, Int.reduceLT, Int.reduceBEq, Int.reduceBNe])
    (try simp only [map_getD q3, q3, q6, q7, intP, map_getD hltk, hltk, RuleS.pv, RuleS.vals, List.map_cons, List.map_nil, AW, Nat.reduceAdd, reduceCtorEq, Nat.reduceEqDiff, ↓reduceIte, Nat.reduceLT, Nat.reduceLeDiff, Nat.reduceSub, Nat.reducePow, Nat.reduceMul, Int.reduceToNat, Int.reduceLE, Int.reduceEq, Int.reduceLT, Int.reduceBEq, Int.reduceBNe])
    refine ops_call (has_g out c.rules[k].kind) (by simp only [intsP, intP, map_getD hltk, hltk, RuleS.pv, RuleS.vals, List.map_cons, List.map_nil, AW, Nat.reduceAdd, reduceCtorEq, Nat.reduceEqDiff, ↓reduceIte, Nat.reduceLT, Nat.reduceLeDiff, Nat.reduceSub, Nat.reducePow, Nat.reduceMul, Int.reduceToNat, Int.reduceLE, Int.reduceEq, Int.reduceLT, Int.reduceBEq, Int.reduceBNe]) ?_; simp only [intsP, intP, map_getD hltk, hltk, RuleS.pv, RuleS.vals, List.map_cons, List.map_nil, AW, Nat.reduceAdd, reduceCtorEq, Nat.reduceEqDiff, ↓reduceIte, Nat.reduceLT, Nat.reduceLeDiff, Nat.reduceSub, Nat.reducePow, Nat.reduceMul, Int.reduceToNat, Int.reduceLE, Int.reduceEq, Int.reduceLT, Int.reduceBEq, Int.reduceBNe]
    simp only [hh, AW, Nat.reduceAdd, reduceCtorEq, Nat.reduceEqDiff, ↓reduceIte, Nat.reduceLT, Nat.reduceLeDiff, Nat.reduceSub, Nat.reducePow, Nat.reduceMul, Int.reduceToNat, Int.reduceLE, Int.reduceEq, Int.reduceLT, Int.reduceBEq, Int.reduceBNe]
    (try refine drawnK rfl ?_); (try simp only [AW, Nat.reduceAdd, reduceCtorEq, Nat.reduceEqDiff, ↓reduceIte, Nat.reduceLT, Nat.reduceLeDiff, Nat.reduceSub, Nat.reducePow, Nat.reduceMul, Int.reduceToNat, Int.reduceLE, Int.reduceEq, Int.reduceLT, Int.reduceBEq, Int.reduceBNe])
    (try simp only [wrap_succ hltk hlen, wrap_succ q3 q5, AW, Nat.reduceAdd, reduceCtorEq, Nat.reduceEqDiff, ↓reduceIte, Nat.reduceLT, Nat.reduceLeDiff, Nat.reduceSub, Nat.reducePow, Nat.reduceMul, Int.reduceToNat, Int.reduceLE, Int.reduceEq, Int.reduceLT, Int.reduceBEq, Int.reduceBNe])
    refine ⟨k + 1, hltk, ?_, meas_lt hltk⟩
    simp only [LW, Nat.reduceMod, Nat.reduceDiv, nx, AW, Nat.reduceAdd, reduceCtorEq, Nat.reduceEqDiff, ↓reduceIte, Nat.reduceLT, Nat.reduceLeDiff, Nat.reduceSub, Nat.reducePow, Nat.reduceMul, Int.reduceToNat, Int.reduceLE, Int.reduceEq, Int.reduceLT, Int.reduceBEq, Int.reduceBNe]
  (try simp only [map_getD hltk, hltk, RuleS.pv, RuleS.vals, List.map_cons, List.map_nil, CheckS.pv, CheckS.vals, t1, t2, t3, AW, Nat.reduceAdd, reduceCtorEq, Nat.reduceEqDiff, ↓reduceIte, Nat.reduceLT, Nat.reduceLeDiff, Nat.reduceSub, Nat.reducePow, Nat.reduceMul, Int.reduceToNat, Int.reduceLE, Int.reduceEq, Int.reduceLT, Int.reduceBEq, Int.reduceBNe])
  have hy : dueR c.checks c.wear c.rides c.bike c.now c.rules[k] = false := by rw [hd]; simp [reasonB, *]
  have hh := has_out (l := c.checks) (w := c.wear) (rs := c.rides) (b := c.bike) (now := c.now) h1 (List.getElem_mem hltk)
  rw [← h5, hy] at hh
  have nx : (outR c.rules c.checks c.wear c.rides c.bike c.now (k + 1)).length = (outR c.rules c.checks c.wear c.rides c.bike c.now k).length := by rw [outR_no hltk hy]
  generalize (dueL c.rules c.checks c.wear c.rides c.bike c.now).1 = out at *
  generalize outR c.rules c.checks c.wear c.rides c.bike c.now k = pre at *
  (try simp only [map_getD hltk, hltk, RuleS.pv, RuleS.vals, List.map_cons, List.map_nil, CheckS.pv, CheckS.vals, t1, t2, t3, AW, Nat.reduceAdd, reduceCtorEq, Nat.reduceEqDiff, ↓reduceIte, Nat.reduceLT, Nat.reduceLeDiff, Nat.reduceSub, Nat.reducePow, Nat.reduceMul, Int.reduceToNat, Int.reduceLE, Int.reduceEq, Int.reduceLT, Int.reduceBEq, Int.reduceBNe])
  refine ops_call (has_g out c.rules[k].kind) (by simp only [intsP, intP, map_getD hltk, hltk, RuleS.pv, RuleS.vals, List.map_cons, List.map_nil, AW, Nat.reduceAdd, reduceCtorEq, Nat.reduceEqDiff, ↓reduceIte, Nat.reduceLT, Nat.reduceLeDiff, Nat.reduceSub, Nat.reducePow, Nat.reduceMul, Int.reduceToNat, Int.reduceLE, Int.reduceEq, Int.reduceLT, Int.reduceBEq, Int.reduceBNe]) ?_; simp only [intsP, intP, map_getD hltk, hltk, RuleS.pv, RuleS.vals, List.map_cons, List.map_nil, AW, Nat.reduceAdd, reduceCtorEq, Nat.reduceEqDiff, ↓reduceIte, Nat.reduceLT, Nat.reduceLeDiff, Nat.reduceSub, Nat.reducePow, Nat.reduceMul, Int.reduceToNat, Int.reduceLE, Int.reduceEq, Int.reduceLT, Int.reduceBEq, Int.reduceBNe]
  simp only [hh, AW, Nat.reduceAdd, reduceCtorEq, Nat.reduceEqDiff, ↓reduceIte, Nat.reduceLT, Nat.reduceLeDiff, Nat.reduceSub, Nat.reducePow, Nat.reduceMul, Int.reduceToNat, Int.reduceLE, Int.reduceEq, Int.reduceLT, Int.reduceBEq, Int.reduceBNe]
  (try refine drawnK rfl ?_); (try simp only [AW, Nat.reduceAdd, reduceCtorEq, Nat.reduceEqDiff, ↓reduceIte, Nat.reduceLT, Nat.reduceLeDiff, Nat.reduceSub, Nat.reducePow, Nat.reduceMul, Int.reduceToNat, Int.reduceLE, Int.reduceEq, Int.reduceLT, Int.reduceBEq, Int.reduceBNe])
  (try simp only [wrap_succ hltk hlen, AW, Nat.reduceAdd, reduceCtorEq, Nat.reduceEqDiff, ↓reduceIte, Nat.reduceLT, Nat.reduceLeDiff, Nat.reduceSub, Nat.reducePow, Nat.reduceMul, Int.reduceToNat, Int.reduceLE, Int.reduceEq, Int.reduceLT, Int.reduceBEq, Int.reduceBNe])
  refine ⟨k + 1, hltk, ?_, meas_lt hltk⟩
  simp only [LW, Nat.reduceMod, Nat.reduceDiv, nx, AW, Nat.reduceAdd, reduceCtorEq, Nat.reduceEqDiff, ↓reduceIte, Nat.reduceLT, Nat.reduceLeDiff, Nat.reduceSub, Nat.reducePow, Nat.reduceMul, Int.reduceToNat, Int.reduceLE, Int.reduceEq, Int.reduceLT, Int.reduceBEq, Int.reduceBNe]

set_option maxHeartbeats 2000000 in
theorem inspectBlocked_good (c : CaseS) : Good Try.prog 10 [c.pv] (.sc (.bool true)) := by
  refine good10 (by simp) ?_
  simp only [ac10, CaseS.pv, AW, Nat.reduceAdd, reduceCtorEq, Nat.reduceEqDiff, ↓reduceIte, Nat.reduceLT, Nat.reduceLeDiff, Nat.reduceSub, Nat.reducePow, Nat.reduceMul, Int.reduceToNat, Int.reduceLE, Int.reduceEq, Int.reduceLT, Int.reduceBEq, Int.reduceBNe]
  refine ops_call (few_g c) (by simp only [CaseS.pv, AW, Nat.reduceAdd, reduceCtorEq, Nat.reduceEqDiff, ↓reduceIte, Nat.reduceLT, Nat.reduceLeDiff, Nat.reduceSub, Nat.reducePow, Nat.reduceMul, Int.reduceToNat, Int.reduceLE, Int.reduceEq, Int.reduceLT, Int.reduceBEq, Int.reduceBNe]) ?_; simp only [CaseS.pv, AW, Nat.reduceAdd, reduceCtorEq, Nat.reduceEqDiff, ↓reduceIte, Nat.reduceLT, Nat.reduceLeDiff, Nat.reduceSub, Nat.reducePow, Nat.reduceMul, Int.reduceToNat, Int.reduceLE, Int.reduceEq, Int.reduceLT, Int.reduceBEq, Int.reduceBNe]
  cases fewC c
  · simp only [AW, Nat.reduceAdd, reduceCtorEq, Nat.reduceEqDiff, ↓reduceIte, Nat.reduceLT, Nat.reduceLeDiff, Nat.reduceSub, Nat.reducePow, Nat.reduceMul, Int.reduceToNat, Int.reduceLE, Int.reduceEq, Int.reduceLT, Int.reduceBEq, Int.reduceBNe]; refine ops_call (awake) (by simp only [AW, Nat.reduceAdd, reduceCtorEq, Nat.reduceEqDiff, ↓reduceIte, Nat.reduceLT, Nat.reduceLeDiff, Nat.reduceSub, Nat.reducePow, Nat.reduceMul, Int.reduceToNat, Int.reduceLE, Int.reduceEq, Int.reduceLT, Int.reduceBEq, Int.reduceBNe]) ?_; simp only [AW, Nat.reduceAdd, reduceCtorEq, Nat.reduceEqDiff, ↓reduceIte, Nat.reduceLT, Nat.reduceLeDiff, Nat.reduceSub, Nat.reducePow, Nat.reduceMul, Int.reduceToNat, Int.reduceLE, Int.reduceEq, Int.reduceLT, Int.reduceBEq, Int.reduceBNe]
  simp only [AW, Nat.reduceAdd, reduceCtorEq, Nat.reduceEqDiff, ↓reduceIte, Nat.reduceLT, Nat.reduceLeDiff, Nat.reduceSub, Nat.reducePow, Nat.reduceMul, Int.reduceToNat, Int.reduceLE, Int.reduceEq, Int.reduceLT, Int.reduceBEq, Int.reduceBNe]
  cases h8 : ((c.rules.length : Int) != 8)
  rotate_left
  · simp only [AW, Nat.reduceAdd, reduceCtorEq, Nat.reduceEqDiff, ↓reduceIte, Nat.reduceLT, Nat.reduceLeDiff, Nat.reduceSub, Nat.reducePow, Nat.reduceMul, Int.reduceToNat, Int.reduceLE, Int.reduceEq, Int.reduceLT, Int.reduceBEq, Int.reduceBNe]; refine ops_call (awake) (by simp only [AW, Nat.reduceAdd, reduceCtorEq, Nat.reduceEqDiff, ↓reduceIte, Nat.reduceLT, Nat.reduceLeDiff, Nat.reduceSub, Nat.reducePow, Nat.reduceMul, Int.reduceToNat, Int.reduceLE, Int.reduceEq, Int.reduceLT, Int.reduceBEq, Int.reduceBNe]) ?_; simp only [AW, Nat.reduceAdd, reduceCtorEq, Nat.reduceEqDiff, ↓reduceIte, Nat.reduceLT, Nat.reduceLeDiff, Nat.reduceSub, Nat.reducePow, Nat.reduceMul, Int.reduceToNat, Int.reduceLE, Int.reduceEq, Int.reduceLT, Int.reduceBEq, Int.reduceBNe]
  have h8' : c.rules.length = 8 := by have : (c.rules.length : Int) = 8 := by simpa using h8
                                      omega
  simp only [AW, Nat.reduceAdd, reduceCtorEq, Nat.reduceEqDiff, ↓reduceIte, Nat.reduceLT, Nat.reduceLeDiff, Nat.reduceSub, Nat.reducePow, Nat.reduceMul, Int.reduceToNat, Int.reduceLE, Int.reduceEq, Int.reduceLT, Int.reduceBEq, Int.reduceBNe]
  refine ops_call (due_c c) (by simp only [CaseS.pv, dueP, intP, AW, Nat.reduceAdd, reduceCtorEq, Nat.reduceEqDiff, ↓reduceIte, Nat.reduceLT, Nat.reduceLeDiff, Nat.reduceSub, Nat.reducePow, Nat.reduceMul, Int.reduceToNat, Int.reduceLE, Int.reduceEq, Int.reduceLT, Int.reduceBEq, Int.reduceBNe]) ?_; simp only [CaseS.pv, dueP, intP, AW, Nat.reduceAdd, reduceCtorEq, Nat.reduceEqDiff, ↓reduceIte, Nat.reduceLT, Nat.reduceLeDiff, Nat.reduceSub, Nat.reducePow, Nat.reduceMul, Int.reduceToNat, Int.reduceLE, Int.reduceEq, Int.reduceLT, Int.reduceBEq, Int.reduceBNe]
  cases h0 : ((dueC c).2 != 0)
  rotate_left
  · simp only [AW, Nat.reduceAdd, reduceCtorEq, Nat.reduceEqDiff, ↓reduceIte, Nat.reduceLT, Nat.reduceLeDiff, Nat.reduceSub, Nat.reducePow, Nat.reduceMul, Int.reduceToNat, Int.reduceLE, Int.reduceEq, Int.reduceLT, Int.reduceBEq, Int.reduceBNe]
    refine ops_call (awake) (by simp only [AW, Nat.reduceAdd, reduceCtorEq, Nat.reduceEqDiff, ↓reduceIte, Nat.reduceLT, Nat.reduceLeDiff, Nat.reduceSub, Nat.reducePow, Nat.reduceMul, Int.reduceToNat, Int.reduceLE, Int.reduceEq, Int.reduceLT, Int.reduceBEq, Int.reduceBNe]) ?_; simp only [AW, Nat.reduceAdd, reduceCtorEq, Nat.reduceEqDiff, ↓reduceIte, Nat.reduceLT, Nat.reduceLeDiff, Nat.reduceSub, Nat.reducePow, Nat.reduceMul, Int.reduceToNat, Int.reduceLE, Int.reduceEq, Int.reduceLT, Int.reduceBEq, Int.reduceBNe]
  simp only [AW, Nat.reduceAdd, reduceCtorEq, Nat.reduceEqDiff, ↓reduceIte, Nat.reduceLT, Nat.reduceLeDiff, Nat.reduceSub, Nat.reducePow, Nat.reduceMul, Int.reduceToNat, Int.reduceLE, Int.reduceEq, Int.reduceLT, Int.reduceBEq, Int.reduceBNe]
  refine ops_call (blocked_g c.checks c.bike c.now) (by simp only [intP, AW, Nat.reduceAdd, reduceCtorEq, Nat.reduceEqDiff, ↓reduceIte, Nat.reduceLT, Nat.reduceLeDiff, Nat.reduceSub, Nat.reducePow, Nat.reduceMul, Int.reduceToNat, Int.reduceLE, Int.reduceEq, Int.reduceLT, Int.reduceBEq, Int.reduceBNe]) ?_; simp only [intP, AW, Nat.reduceAdd, reduceCtorEq, Nat.reduceEqDiff, ↓reduceIte, Nat.reduceLT, Nat.reduceLeDiff, Nat.reduceSub, Nat.reducePow, Nat.reduceMul, Int.reduceToNat, Int.reduceLE, Int.reduceEq, Int.reduceLT, Int.reduceBEq, Int.reduceBNe]
  cases hb : blockedL c.checks c.bike c.now
  · simp only [AW, Nat.reduceAdd, reduceCtorEq, Nat.reduceEqDiff, ↓reduceIte, Nat.reduceLT, Nat.reduceLeDiff, Nat.reduceSub, Nat.reducePow, Nat.reduceMul, Int.reduceToNat, Int.reduceLE, Int.reduceEq, Int.reduceLT, Int.reduceBEq, Int.reduceBNe]; refine ops_call (awake) (by simp only [AW, Nat.reduceAdd, reduceCtorEq, Nat.reduceEqDiff, ↓reduceIte, Nat.reduceLT, Nat.reduceLeDiff, Nat.reduceSub, Nat.reducePow, Nat.reduceMul, Int.reduceToNat, Int.reduceLE, Int.reduceEq, Int.reduceLT, Int.reduceBEq, Int.reduceBNe]) ?_; simp only [AW, Nat.reduceAdd, reduceCtorEq, Nat.reduceEqDiff, ↓reduceIte, Nat.reduceLT, Nat.reduceLeDiff, Nat.reduceSub, Nat.reducePow, Nat.reduceMul, Int.reduceToNat, Int.reduceLE, Int.reduceEq, Int.reduceLT, Int.reduceBEq, Int.reduceBNe]
  have hp := blocked_due h8' (by simpa using h0) hb
  have hp2 : decide ((0 : Int) < ((dueC c).1.length : Int)) = true := by rw [decide_eq_true_eq]; omega
  simp only [hp2, AW, Nat.reduceAdd, reduceCtorEq, Nat.reduceEqDiff, ↓reduceIte, Nat.reduceLT, Nat.reduceLeDiff, Nat.reduceSub, Nat.reducePow, Nat.reduceMul, Int.reduceToNat, Int.reduceLE, Int.reduceEq, Int.reduceLT, Int.reduceBEq, Int.reduceBNe]
  refine ops_call (awake) (by simp only [AW, Nat.reduceAdd, reduceCtorEq, Nat.reduceEqDiff, ↓reduceIte, Nat.reduceLT, Nat.reduceLeDiff, Nat.reduceSub, Nat.reducePow, Nat.reduceMul, Int.reduceToNat, Int.reduceLE, Int.reduceEq, Int.reduceLT, Int.reduceBEq, Int.reduceBNe]) ?_; simp only [AW, Nat.reduceAdd, reduceCtorEq, Nat.reduceEqDiff, ↓reduceIte, Nat.reduceLT, Nat.reduceLeDiff, Nat.reduceSub, Nat.reducePow, Nat.reduceMul, Int.reduceToNat, Int.reduceLE, Int.reduceEq, Int.reduceLT, Int.reduceBEq, Int.reduceBNe]


end Go.Proofs.Ytnjgckkbhlcjoaa
