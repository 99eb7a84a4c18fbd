/-
  Inspections: Due of the program and of the reference.
-/
import Derived.Test.YthgnbkcopapbmaaIo
namespace Go.Proofs.Ythgnbkcopapbmaa
open Go.RowKit
open Nat (reduceAdd reduceEqDiff reduceLT reduceLeDiff reduceSub reducePow reduceMul)
open Int (reduceToNat reduceLE reduceEq)
set_option linter.unusedVariables false
set_option linter.unusedSimpArgs false
set_option linter.unnecessarySimpa false


theorem lastK_none : lastK none = zeroK := rfl
theorem i64_div {t : Int} (h0 : 0 ≤ t) (h1 : t ≤ 4294943999) : IntKind.wrap .i64 (t.tdiv 86400) = t / 86400 := by
  rw [Int.tdiv_eq_ediv_of_nonneg h0]; exact wrap_id ⟨by omega, by omega⟩
theorem i64_sub {a b : Int} (h0 : 0 ≤ a) (h1 : a ≤ 4294943999) (h2 : 0 ≤ b) (h3 : b ≤ 4294943999) : IntKind.wrap .i64 (a / 86400 - b / 86400) = a / 86400 - b / 86400 := wrap_id ⟨by omega, by omega⟩
theorem i64_now {a : Int} (h0 : 0 ≤ a) (h1 : a ≤ 4294943999) : IntKind.wrap .i64 (a + 1) = a + 1 := wrap_id ⟨by omega, by omega⟩
theorem cap8 {n : Nat} (h : n ≤ 8) : n + 1 ≤ maxLen ∧ (n + 1) * 8 ≤ 140737488355328 := by unfold maxLen; omega
noncomputable def outR (rules : List RuleS) (l : List CheckS) (w : WearS) (rs : List RideS) (b now : Int) (k : Nat) : List Int := ((rules.take k).filter (dueR l w rs b now)).map RuleS.kind
theorem outR_yes {rules : List RuleS} {l : List CheckS} {w : WearS} {rs : List RideS} {b now : Int} {k : Nat} (h : k < rules.length) (hp : dueR l w rs b now rules[k] = true) : outR rules l w rs b now (k + 1) = outR rules l w rs b now k ++ [rules[k].kind] := by
  unfold outR; rw [filt_succ _ _ _ h, if_pos hp]
theorem outR_no {rules : List RuleS} {l : List CheckS} {w : WearS} {rs : List RideS} {b now : Int} {k : Nat} (h : k < rules.length) (hp : dueR l w rs b now rules[k] = false) : outR rules l w rs b now (k + 1) = outR rules l w rs b now k := by
  unfold outR; rw [filt_succ _ _ _ h, if_neg (by simp [hp]), List.append_nil]
theorem outR_len (rules : List RuleS) (l : List CheckS) (w : WearS) (rs : List RideS) (b now : Int) (k : Nat) (h : rules.length ≤ 8) : (outR rules l w rs b now k).length ≤ 8 := by
  unfold outR; rw [List.length_map]
  exact Nat.le_trans (List.length_filter_le _ _) (Nat.le_trans (List.length_take_le' _ _) h)
theorem outR_all (rules : List RuleS) (l : List CheckS) (w : WearS) (rs : List RideS) (b now : Int) : outR rules l w rs b now rules.length = (rules.filter (dueR l w rs b now)).map RuleS.kind := by unfold outR; rw [List.take_length]
theorem dueL_5' {rules : List RuleS} {l : List CheckS} {w : WearS} {rs : List RideS} {b now : Int} (h : rulesL rules = 0) (h2 : checksL l = 0) (h3 : ¬(b < 0 ∨ 128 ≤ b ∨ now < 0 ∨ 4294943999 < now)) {k : Nat} (hk : k < rules.length) (ik : ∀ j (hj : j < rules.length), j < k → errR l w rs b now rules[j] = 0) (h4 : errR l w rs b now rules[k] ≠ 0) : dueL rules l w rs b now = ([], errR l w rs b now rules[k]) := by
  have e := firstE_hit hk ik h4
  rw [dueL_4 h h2 h3 (by rw [e]; exact h4), e]
set_option maxHeartbeats 8000000 in
theorem due_g (rules : List RuleS) (l : List CheckS) (w : WearS) (rs : List RideS) (b now : Int) : Good Try.prog 6 [.sl (rules.map RuleS.pv), .sl (l.map CheckS.pv), w.pv, .sl (rs.map RideS.pv), intP b, intP now] (dueP (dueL rules l w rs b now)) := by
  refine good6 (by simp) ?_
  simp only [ac6, intP, WearS.pv, AW, reduceAdd, reduceCtorEq, reduceEqDiff, ↓reduceIte, reduceLT, reduceLeDiff, reduceSub, reducePow, reduceMul, reduceToNat, reduceLE, reduceEq, Int.reduceLT, Int.reduceBEq, Int.reduceBNe]
  refine ops_call (rules_g rules) (by simp only [intP, AW, reduceAdd, reduceCtorEq, reduceEqDiff, ↓reduceIte, reduceLT, reduceLeDiff, reduceSub, reducePow, reduceMul, reduceToNat, reduceLE, reduceEq, Int.reduceLT, Int.reduceBEq, Int.reduceBNe]) ?_; simp only [intP, AW, reduceAdd, reduceCtorEq, reduceEqDiff, ↓reduceIte, reduceLT, reduceLeDiff, reduceSub, reducePow, reduceMul, reduceToNat, reduceLE, reduceEq, Int.reduceLT, Int.reduceBEq, Int.reduceBNe]
  cases c1 : (rulesL rules != 0)
  rotate_left
  · simp only [AW, reduceAdd, reduceCtorEq, reduceEqDiff, ↓reduceIte, reduceLT, reduceLeDiff, reduceSub, reducePow, reduceMul, reduceToNat, reduceLE, reduceEq, Int.reduceLT, Int.reduceBEq, Int.reduceBNe]
    rw [dueL_1 (by simpa using c1)]
    simp only [dueP, intP, List.map_nil, AW, reduceAdd, reduceCtorEq, reduceEqDiff, ↓reduceIte, reduceLT, reduceLeDiff, reduceSub, reducePow, reduceMul, reduceToNat, reduceLE, reduceEq, Int.reduceLT, Int.reduceBEq, Int.reduceBNe]
  have h1 : rulesL rules = 0 := by simpa using c1
  simp only [AW, reduceAdd, reduceCtorEq, reduceEqDiff, ↓reduceIte, reduceLT, reduceLeDiff, reduceSub, reducePow, reduceMul, reduceToNat, reduceLE, reduceEq, Int.reduceLT, Int.reduceBEq, Int.reduceBNe]
  refine ops_call (checks_g l) (by simp only [intP, AW, reduceAdd, reduceCtorEq, reduceEqDiff, ↓reduceIte, reduceLT, reduceLeDiff, reduceSub, reducePow, reduceMul, reduceToNat, reduceLE, reduceEq, Int.reduceLT, Int.reduceBEq, Int.reduceBNe]) ?_; simp only [intP, AW, reduceAdd, reduceCtorEq, reduceEqDiff, ↓reduceIte, reduceLT, reduceLeDiff, reduceSub, reducePow, reduceMul, reduceToNat, reduceLE, reduceEq, Int.reduceLT, Int.reduceBEq, Int.reduceBNe]
  cases c2 : (checksL l != 0)
  rotate_left
  · simp only [AW, reduceAdd, reduceCtorEq, reduceEqDiff, ↓reduceIte, reduceLT, reduceLeDiff, reduceSub, reducePow, reduceMul, reduceToNat, reduceLE, reduceEq, Int.reduceLT, Int.reduceBEq, Int.reduceBNe]
    rw [dueL_2 h1 (by simpa using c2)]
    simp only [dueP, intP, List.map_nil, AW, reduceAdd, reduceCtorEq, reduceEqDiff, ↓reduceIte, reduceLT, reduceLeDiff, reduceSub, reducePow, reduceMul, reduceToNat, reduceLE, reduceEq, Int.reduceLT, Int.reduceBEq, Int.reduceBNe]
  have h2 : checksL l = 0 := by simpa using c2
  simp only [AW, reduceAdd, reduceCtorEq, reduceEqDiff, ↓reduceIte, reduceLT, reduceLeDiff, reduceSub, reducePow, reduceMul, reduceToNat, reduceLE, reduceEq, Int.reduceLT, Int.reduceBEq, Int.reduceBNe]
  cases c3 : decide (b < 0)
  rotate_left
  · rw [decide_eq_true_eq] at c3
    (try simp only [AW, reduceAdd, reduceCtorEq, reduceEqDiff, ↓reduceIte, reduceLT, reduceLeDiff, reduceSub, reducePow, reduceMul, reduceToNat, reduceLE, reduceEq, Int.reduceLT, Int.reduceBEq, Int.reduceBNe])
    rw [dueL_3 h1 h2 (by omega)]
    simp only [dueP, intP, List.map_nil, AW, reduceAdd, reduceCtorEq, reduceEqDiff, ↓reduceIte, reduceLT, reduceLeDiff, reduceSub, reducePow, reduceMul, reduceToNat, reduceLE, reduceEq, Int.reduceLT, Int.reduceBEq, Int.reduceBNe]
  (try simp only [AW, reduceAdd, reduceCtorEq, reduceEqDiff, ↓reduceIte, reduceLT, reduceLeDiff, reduceSub, reducePow, reduceMul, reduceToNat, reduceLE, reduceEq, Int.reduceLT, Int.reduceBEq, Int.reduceBNe])
  cases c4 : decide ((128 : Int) ≤ b)
  rotate_left
  · rw [decide_eq_true_eq] at c4
    (try simp only [AW, reduceAdd, reduceCtorEq, reduceEqDiff, ↓reduceIte, reduceLT, reduceLeDiff, reduceSub, reducePow, reduceMul, reduceToNat, reduceLE, reduceEq, Int.reduceLT, Int.reduceBEq, Int.reduceBNe])
    rw [dueL_3 h1 h2 (by omega)]
    simp only [dueP, intP, List.map_nil, AW, reduceAdd, reduceCtorEq, reduceEqDiff, ↓reduceIte, reduceLT, reduceLeDiff, reduceSub, reducePow, reduceMul, reduceToNat, reduceLE, reduceEq, Int.reduceLT, Int.reduceBEq, Int.reduceBNe]
  (try simp only [AW, reduceAdd, reduceCtorEq, reduceEqDiff, ↓reduceIte, reduceLT, reduceLeDiff, reduceSub, reducePow, reduceMul, reduceToNat, reduceLE, reduceEq, Int.reduceLT, Int.reduceBEq, Int.reduceBNe])
  cases c5 : decide (now < 0)
  rotate_left
  · rw [decide_eq_true_eq] at c5
    (try simp only [AW, reduceAdd, reduceCtorEq, reduceEqDiff, ↓reduceIte, reduceLT, reduceLeDiff, reduceSub, reducePow, reduceMul, reduceToNat, reduceLE, reduceEq, Int.reduceLT, Int.reduceBEq, Int.reduceBNe])
    rw [dueL_3 h1 h2 (by omega)]
    simp only [dueP, intP, List.map_nil, AW, reduceAdd, reduceCtorEq, reduceEqDiff, ↓reduceIte, reduceLT, reduceLeDiff, reduceSub, reducePow, reduceMul, reduceToNat, reduceLE, reduceEq, Int.reduceLT, Int.reduceBEq, Int.reduceBNe]
  (try simp only [AW, reduceAdd, reduceCtorEq, reduceEqDiff, ↓reduceIte, reduceLT, reduceLeDiff, reduceSub, reducePow, reduceMul, reduceToNat, reduceLE, reduceEq, Int.reduceLT, Int.reduceBEq, Int.reduceBNe])
  cases c6 : decide ((4294943999 : Int) < now)
  rotate_left
  · rw [decide_eq_true_eq] at c6
    (try simp only [AW, reduceAdd, reduceCtorEq, reduceEqDiff, ↓reduceIte, reduceLT, reduceLeDiff, reduceSub, reducePow, reduceMul, reduceToNat, reduceLE, reduceEq, Int.reduceLT, Int.reduceBEq, Int.reduceBNe])
    rw [dueL_3 h1 h2 (by omega)]
    simp only [dueP, intP, List.map_nil, AW, reduceAdd, reduceCtorEq, reduceEqDiff, ↓reduceIte, reduceLT, reduceLeDiff, reduceSub, reducePow, reduceMul, reduceToNat, reduceLE, reduceEq, Int.reduceLT, Int.reduceBEq, Int.reduceBNe]
  (try simp only [AW, reduceAdd, reduceCtorEq, reduceEqDiff, ↓reduceIte, reduceLT, reduceLeDiff, reduceSub, reducePow, reduceMul, reduceToNat, reduceLE, reduceEq, Int.reduceLT, Int.reduceBEq, Int.reduceBNe])
  rw [decide_eq_false_iff_not] at c3 c4 c5 c6
  have h3 : ¬(b < 0 ∨ 128 ≤ b ∨ now < 0 ∨ 4294943999 < now) := by omega
  have hlr := rules_len h1
  have hlen : rules.length ≤ maxLen := by unfold maxLen; omega
  have w1 := i64_now (a := now) (by omega) (by omega)
  (try simp only [AW, reduceAdd, reduceCtorEq, reduceEqDiff, ↓reduceIte, reduceLT, reduceLeDiff, reduceSub, reducePow, reduceMul, reduceToNat, reduceLE, reduceEq, Int.reduceLT, Int.reduceBEq, Int.reduceBNe])
  refine run_loop (ι := Nat) (fun k => ⟨[(1, .sl (l.map CheckS.pv)), (3, .sl (rs.map RideS.pv)), (4, .sc (.int .i64 b)), (5, .sc (.int .i64 now)), (8, .ptr 0 0), (16, .own 31 0), (47, .sl (rules.map RuleS.pv)), (48, .sc (.int .i64 (rules.length : Int))), (49, .sc (.int .i64 (k : Int)))], [(0, .var [.sl (w.hour.map intP), .sl (w.ride.map intP)]), (31, .row 3 1 0 ((outR rules l w rs b now k).map intP))], 32, 109⟩) (fun k => k ≤ rules.length ∧ (∀ j (hj : j < rules.length), j < k → errR l w rs b now rules[j] = 0)) (fun k => rules.length - k) 32 (fun _ => rfl) 0 (by simp only [LW, Nat.reduceMod, Nat.reduceDiv, Int.natCast_zero, outR, List.take_zero, List.filter_nil, List.map_nil, AW, reduceAdd, reduceCtorEq, reduceEqDiff, ↓reduceIte, reduceLT, reduceLeDiff, reduceSub, reducePow, reduceMul, reduceToNat, reduceLE, reduceEq, Int.reduceLT, Int.reduceBEq, Int.reduceBNe]) ⟨Nat.zero_le _, nofun⟩ (fun k hk => ?_)
  obtain ⟨gk, ik⟩ := hk
  by_cases hltk : k < rules.length
  rotate_left
  · have dk : decide ((k : Int) < ((rules.length : Nat) : Int)) = false := by rw [decide_eq_false_iff_not]; exact fun h => hltk (Int.ofNat_lt.1 h)
    have ek : k = rules.length := Nat.le_antisymm gk (Nat.le_of_not_lt hltk)
    subst ek
    have e4 : firstE (errR l w rs b now) rules = 0 := firstE_none fun j hj => ik j hj hj
    rw [dueL_5 h1 h2 h3 e4, ← outR_all]
    simp only [dk, dueP, intP, AW, reduceAdd, reduceCtorEq, reduceEqDiff, ↓reduceIte, reduceLT, reduceLeDiff, reduceSub, reducePow, reduceMul, reduceToNat, reduceLE, reduceEq, Int.reduceLT, Int.reduceBEq, Int.reduceBNe]
  have dk : decide ((k : Int) < ((rules.length : Nat) : Int)) = true := by rw [decide_eq_true_eq]; exact Int.ofNat_lt.2 hltk
  simp only [dk, map_getD hltk, hltk, RuleS.pv, RuleS.vals, List.map_cons, List.map_nil, AW, reduceAdd, reduceCtorEq, reduceEqDiff, ↓reduceIte, reduceLT, reduceLeDiff, reduceSub, reducePow, reduceMul, reduceToNat, reduceLE, reduceEq, Int.reduceLT, Int.reduceBEq, Int.reduceBNe]
  refine ops_call (last_g l b rules[k].kind now) (by simp only [intP, lastP_eq, CheckS.pv, CheckS.vals, List.map_cons, List.map_nil, AW, reduceAdd, reduceCtorEq, reduceEqDiff, ↓reduceIte, reduceLT, reduceLeDiff, reduceSub, reducePow, reduceMul, reduceToNat, reduceLE, reduceEq, Int.reduceLT, Int.reduceBEq, Int.reduceBNe]) ?_; simp only [intP, lastP_eq, CheckS.pv, CheckS.vals, List.map_cons, List.map_nil, AW, reduceAdd, reduceCtorEq, reduceEqDiff, ↓reduceIte, reduceLT, reduceLeDiff, reduceSub, reducePow, reduceMul, reduceToNat, reduceLE, reduceEq, Int.reduceLT, Int.reduceBEq, Int.reduceBNe]
  simp only [w1, map_getD hltk, hltk, RuleS.pv, RuleS.vals, List.map_cons, List.map_nil, AW, reduceAdd, reduceCtorEq, reduceEqDiff, ↓reduceIte, reduceLT, reduceLeDiff, reduceSub, reducePow, reduceMul, reduceToNat, reduceLE, reduceEq, Int.reduceLT, Int.reduceBEq, Int.reduceBNe]
  refine ops_call (of_g w rs b rules[k].kind (lastK (lastL l b rules[k].kind now)).at_ (now + 1)) (by simp only [pairP, intP, WearS.pv, AW, reduceAdd, reduceCtorEq, reduceEqDiff, ↓reduceIte, reduceLT, reduceLeDiff, reduceSub, reducePow, reduceMul, reduceToNat, reduceLE, reduceEq, Int.reduceLT, Int.reduceBEq, Int.reduceBNe]) ?_; simp only [pairP, intP, WearS.pv, AW, reduceAdd, reduceCtorEq, reduceEqDiff, ↓reduceIte, reduceLT, reduceLeDiff, reduceSub, reducePow, reduceMul, reduceToNat, reduceLE, reduceEq, Int.reduceLT, Int.reduceBEq, Int.reduceBNe]
  (try refine drawnK rfl ?_); (try simp only [AW, reduceAdd, reduceCtorEq, reduceEqDiff, ↓reduceIte, reduceLT, reduceLeDiff, reduceSub, reducePow, reduceMul, reduceToNat, reduceLE, reduceEq, Int.reduceLT, Int.reduceBEq, Int.reduceBNe])
  cases c8 : ((ofW w rs b rules[k].kind (lastK (lastL l b rules[k].kind now)).at_ (now + 1)).2 != 0)
  rotate_left
  · simp only [AW, reduceAdd, reduceCtorEq, reduceEqDiff, ↓reduceIte, reduceLT, reduceLeDiff, reduceSub, reducePow, reduceMul, reduceToNat, reduceLE, reduceEq, Int.reduceLT, Int.reduceBEq, Int.reduceBNe]
    have c9 : errR l w rs b now rules[k] ≠ 0 := by simpa [errR, wornR] using c8
    rw [dueL_5' h1 h2 h3 hltk ik c9]
    simp only [dueP, intP, errR, wornR, List.map_nil, AW, reduceAdd, reduceCtorEq, reduceEqDiff, ↓reduceIte, reduceLT, reduceLeDiff, reduceSub, reducePow, reduceMul, reduceToNat, reduceLE, reduceEq, Int.reduceLT, Int.reduceBEq, Int.reduceBNe]
  have e0 : errR l w rs b now rules[k] = 0 := by simpa [errR, wornR] using c8
  simp only [AW, reduceAdd, reduceCtorEq, reduceEqDiff, ↓reduceIte, reduceLT, reduceLeDiff, reduceSub, reducePow, reduceMul, reduceToNat, reduceLE, reduceEq, Int.reduceLT, Int.reduceBEq, Int.reduceBNe]
  have yes : dueR l w rs b now rules[k] = true → outR rules l w rs b now (k + 1) = outR rules l w rs b now k ++ [rules[k].kind] := outR_yes hltk
  have no : dueR l w rs b now rules[k] = false → outR rules l w rs b now (k + 1) = outR rules l w rs b now k := outR_no hltk
  have hd : dueR l w rs b now rules[k] = reasonB (lastL l b rules[k].kind now) now (ofW w rs b rules[k].kind (lastK (lastL l b rules[k].kind now)).at_ (now + 1)).1 rules[k] := rfl
  have hat := lastK_at (b := b) (k := rules[k].kind) h2 (show 0 ≤ now by omega)
  have L1 := outR_len rules l w rs b now k hlr
  obtain ⟨g1, g2⟩ := cap8 L1
  have t1 := i64_div (t := now) (by omega) (by omega)
  have t2 := i64_div hat.1 (by omega)
  have t3 := i64_sub (a := now) (by omega) (by omega) hat.1 (by omega)
  rw [hd] at yes no
  unfold reasonB at yes no
  clear hd c8
  generalize (ofW w rs b rules[k].kind (lastK (lastL l b rules[k].kind now)).at_ (now + 1)).1 = wn at *
  generalize lastK (lastL l b rules[k].kind now) = c at *
  have tail : ∀ x : Bool, True := fun _ => trivial
  cases c10 : (lastL l b rules[k].kind now).isSome
  · (try simp only [map_getD hltk, hltk, RuleS.pv, RuleS.vals, List.map_cons, List.map_nil, CheckS.pv, CheckS.vals, t1, t2, t3, AW, reduceAdd, reduceCtorEq, reduceEqDiff, ↓reduceIte, reduceLT, reduceLeDiff, reduceSub, reducePow, reduceMul, reduceToNat, reduceLE, reduceEq, Int.reduceLT, Int.reduceBEq, Int.reduceBNe])
    cases c11 : decide (rules[k].days ≤ now / 86400 - c.at_ / 86400)
    rotate_left
    · (try simp only [map_getD hltk, hltk, RuleS.pv, RuleS.vals, List.map_cons, List.map_nil, CheckS.pv, CheckS.vals, t1, t2, t3, AW, reduceAdd, reduceCtorEq, reduceEqDiff, ↓reduceIte, reduceLT, reduceLeDiff, reduceSub, reducePow, reduceMul, reduceToNat, reduceLE, reduceEq, Int.reduceLT, Int.reduceBEq, Int.reduceBNe])
      (try refine drawnK rfl ?_); (try simp only [map_getD hltk, hltk, RuleS.pv, RuleS.vals, List.map_cons, List.map_nil, CheckS.pv, CheckS.vals, t1, t2, t3, g1, g2, and_self, AW, reduceAdd, reduceCtorEq, reduceEqDiff, ↓reduceIte, reduceLT, reduceLeDiff, reduceSub, reducePow, reduceMul, reduceToNat, reduceLE, reduceEq, Int.reduceLT, Int.reduceBEq, Int.reduceBNe])
      (try refine drawnK rfl ?_); (try simp only [map_getD hltk, hltk, RuleS.pv, RuleS.vals, List.map_cons, List.map_nil, CheckS.pv, CheckS.vals, t1, t2, t3, g1, g2, and_self, AW, reduceAdd, reduceCtorEq, reduceEqDiff, ↓reduceIte, reduceLT, reduceLeDiff, reduceSub, reducePow, reduceMul, reduceToNat, reduceLE, reduceEq, Int.reduceLT, Int.reduceBEq, Int.reduceBNe])
      (try simp only [wrap_succ hltk hlen, AW, reduceAdd, reduceCtorEq, reduceEqDiff, ↓reduceIte, reduceLT, reduceLeDiff, reduceSub, reducePow, reduceMul, reduceToNat, reduceLE, reduceEq, Int.reduceLT, Int.reduceBEq, Int.reduceBNe])
      refine ⟨k + 1, ⟨hltk, step_all (p := fun x => errR l w rs b now x = 0) hltk ik e0⟩, ?_, meas_lt hltk⟩
      simp only [LW, Nat.reduceMod, Nat.reduceDiv, yes (by simp [reasonB, *]), List.map_append, List.map_cons, List.map_nil, intP, AW, reduceAdd, reduceCtorEq, reduceEqDiff, ↓reduceIte, reduceLT, reduceLeDiff, reduceSub, reducePow, reduceMul, reduceToNat, reduceLE, reduceEq, Int.reduceLT, Int.reduceBEq, Int.reduceBNe]
    (try simp only [map_getD hltk, hltk, RuleS.pv, RuleS.vals, List.map_cons, List.map_nil, CheckS.pv, CheckS.vals, t1, t2, t3, AW, reduceAdd, reduceCtorEq, reduceEqDiff, ↓reduceIte, reduceLT, reduceLeDiff, reduceSub, reducePow, reduceMul, reduceToNat, reduceLE, reduceEq, Int.reduceLT, Int.reduceBEq, Int.reduceBNe])
    cases c12 : decide (rules[k].limit ≤ wn)
    rotate_left
    · (try simp only [map_getD hltk, hltk, RuleS.pv, RuleS.vals, List.map_cons, List.map_nil, CheckS.pv, CheckS.vals, t1, t2, t3, AW, reduceAdd, reduceCtorEq, reduceEqDiff, ↓reduceIte, reduceLT, reduceLeDiff, reduceSub, reducePow, reduceMul, reduceToNat, reduceLE, reduceEq, Int.reduceLT, Int.reduceBEq, Int.reduceBNe])
      (try refine drawnK rfl ?_); (try simp only [map_getD hltk, hltk, RuleS.pv, RuleS.vals, List.map_cons, List.map_nil, CheckS.pv, CheckS.vals, t1, t2, t3, g1, g2, and_self, AW, reduceAdd, reduceCtorEq, reduceEqDiff, ↓reduceIte, reduceLT, reduceLeDiff, reduceSub, reducePow, reduceMul, reduceToNat, reduceLE, reduceEq, Int.reduceLT, Int.reduceBEq, Int.reduceBNe])
      (try refine drawnK rfl ?_); (try simp only [map_getD hltk, hltk, RuleS.pv, RuleS.vals, List.map_cons, List.map_nil, CheckS.pv, CheckS.vals, t1, t2, t3, g1, g2, and_self, AW, reduceAdd, reduceCtorEq, reduceEqDiff, ↓reduceIte, reduceLT, reduceLeDiff, reduceSub, reducePow, reduceMul, reduceToNat, reduceLE, reduceEq, Int.reduceLT, Int.reduceBEq, Int.reduceBNe])
      (try simp only [wrap_succ hltk hlen, AW, reduceAdd, reduceCtorEq, reduceEqDiff, ↓reduceIte, reduceLT, reduceLeDiff, reduceSub, reducePow, reduceMul, reduceToNat, reduceLE, reduceEq, Int.reduceLT, Int.reduceBEq, Int.reduceBNe])
      refine ⟨k + 1, ⟨hltk, step_all (p := fun x => errR l w rs b now x = 0) hltk ik e0⟩, ?_, meas_lt hltk⟩
      simp only [LW, Nat.reduceMod, Nat.reduceDiv, yes (by simp [reasonB, *]), List.map_append, List.map_cons, List.map_nil, intP, AW, reduceAdd, reduceCtorEq, reduceEqDiff, ↓reduceIte, reduceLT, reduceLeDiff, reduceSub, reducePow, reduceMul, reduceToNat, reduceLE, reduceEq, Int.reduceLT, Int.reduceBEq, Int.reduceBNe]
    (try simp only [map_getD hltk, hltk, RuleS.pv, RuleS.vals, List.map_cons, List.map_nil, CheckS.pv, CheckS.vals, t1, t2, t3, AW, reduceAdd, reduceCtorEq, reduceEqDiff, ↓reduceIte, reduceLT, reduceLeDiff, reduceSub, reducePow, reduceMul, reduceToNat, reduceLE, reduceEq, Int.reduceLT, Int.reduceBEq, Int.reduceBNe])
    (try refine drawnK rfl ?_); (try simp only [map_getD hltk, hltk, RuleS.pv, RuleS.vals, List.map_cons, List.map_nil, CheckS.pv, CheckS.vals, t1, t2, t3, g1, g2, and_self, AW, reduceAdd, reduceCtorEq, reduceEqDiff, ↓reduceIte, reduceLT, reduceLeDiff, reduceSub, reducePow, reduceMul, reduceToNat, reduceLE, reduceEq, Int.reduceLT, Int.reduceBEq, Int.reduceBNe])
    (try refine drawnK rfl ?_); (try simp only [map_getD hltk, hltk, RuleS.pv, RuleS.vals, List.map_cons, List.map_nil, CheckS.pv, CheckS.vals, t1, t2, t3, g1, g2, and_self, AW, reduceAdd, reduceCtorEq, reduceEqDiff, ↓reduceIte, reduceLT, reduceLeDiff, reduceSub, reducePow, reduceMul, reduceToNat, reduceLE, reduceEq, Int.reduceLT, Int.reduceBEq, Int.reduceBNe])
    (try simp only [wrap_succ hltk hlen, AW, reduceAdd, reduceCtorEq, reduceEqDiff, ↓reduceIte, reduceLT, reduceLeDiff, reduceSub, reducePow, reduceMul, reduceToNat, reduceLE, reduceEq, Int.reduceLT, Int.reduceBEq, Int.reduceBNe])
    refine ⟨k + 1, ⟨hltk, step_all (p := fun x => errR l w rs b now x = 0) hltk ik e0⟩, ?_, meas_lt hltk⟩
    simp only [LW, Nat.reduceMod, Nat.reduceDiv, no (by simp [reasonB, *]), List.map_append, List.map_cons, List.map_nil, intP, AW, reduceAdd, reduceCtorEq, reduceEqDiff, ↓reduceIte, reduceLT, reduceLeDiff, reduceSub, reducePow, reduceMul, reduceToNat, reduceLE, reduceEq, Int.reduceLT, Int.reduceBEq, Int.reduceBNe]

  (try simp only [map_getD hltk, hltk, RuleS.pv, RuleS.vals, List.map_cons, List.map_nil, CheckS.pv, CheckS.vals, t1, t2, t3, AW, reduceAdd, reduceCtorEq, reduceEqDiff, ↓reduceIte, reduceLT, reduceLeDiff, reduceSub, reducePow, reduceMul, reduceToNat, reduceLE, reduceEq, Int.reduceLT, Int.reduceBEq, Int.reduceBNe])
  cases c13 : c.good
  · (try simp only [map_getD hltk, hltk, RuleS.pv, RuleS.vals, List.map_cons, List.map_nil, CheckS.pv, CheckS.vals, t1, t2, t3, AW, reduceAdd, reduceCtorEq, reduceEqDiff, ↓reduceIte, reduceLT, reduceLeDiff, reduceSub, reducePow, reduceMul, reduceToNat, reduceLE, reduceEq, Int.reduceLT, Int.reduceBEq, Int.reduceBNe])
    (try refine drawnK rfl ?_); (try simp only [map_getD hltk, hltk, RuleS.pv, RuleS.vals, List.map_cons, List.map_nil, CheckS.pv, CheckS.vals, t1, t2, t3, g1, g2, and_self, AW, reduceAdd, reduceCtorEq, reduceEqDiff, ↓reduceIte, reduceLT, reduceLeDiff, reduceSub, reducePow, reduceMul, reduceToNat, reduceLE, reduceEq, Int.reduceLT, Int.reduceBEq, Int.reduceBNe])
    (try refine drawnK rfl ?_); (try simp only [map_getD hltk, hltk, RuleS.pv, RuleS.vals, List.map_cons, List.map_nil, CheckS.pv, CheckS.vals, t1, t2, t3, g1, g2, and_self, AW, reduceAdd, reduceCtorEq, reduceEqDiff, ↓reduceIte, reduceLT, reduceLeDiff, reduceSub, reducePow, reduceMul, reduceToNat, reduceLE, reduceEq, Int.reduceLT, Int.reduceBEq, Int.reduceBNe])
    (try simp only [wrap_succ hltk hlen, AW, reduceAdd, reduceCtorEq, reduceEqDiff, ↓reduceIte, reduceLT, reduceLeDiff, reduceSub, reducePow, reduceMul, reduceToNat, reduceLE, reduceEq, Int.reduceLT, Int.reduceBEq, Int.reduceBNe])
    refine ⟨k + 1, ⟨hltk, step_all (p := fun x => errR l w rs b now x = 0) hltk ik e0⟩, ?_, meas_lt hltk⟩
    simp only [LW, Nat.reduceMod, Nat.reduceDiv, yes (by simp [reasonB, *]), List.map_append, List.map_cons, List.map_nil, intP, AW, reduceAdd, reduceCtorEq, reduceEqDiff, ↓reduceIte, reduceLT, reduceLeDiff, reduceSub, reducePow, reduceMul, reduceToNat, reduceLE, reduceEq, Int.reduceLT, Int.reduceBEq, Int.reduceBNe]
  (try simp only [map_getD hltk, hltk, RuleS.pv, RuleS.vals, List.map_cons, List.map_nil, CheckS.pv, CheckS.vals, t1, t2, t3, AW, reduceAdd, reduceCtorEq, reduceEqDiff, ↓reduceIte, reduceLT, reduceLeDiff, reduceSub, reducePow, reduceMul, reduceToNat, reduceLE, reduceEq, Int.reduceLT, Int.reduceBEq, Int.reduceBNe])
  cases c11 : decide (rules[k].days ≤ now / 86400 - c.at_ / 86400)
  rotate_left
  · (try simp only [map_getD hltk, hltk, RuleS.pv, RuleS.vals, List.map_cons, List.map_nil, CheckS.pv, CheckS.vals, t1, t2, t3, AW, reduceAdd, reduceCtorEq, reduceEqDiff, ↓reduceIte, reduceLT, reduceLeDiff, reduceSub, reducePow, reduceMul, reduceToNat, reduceLE, reduceEq, Int.reduceLT, Int.reduceBEq, Int.reduceBNe])
    (try refine drawnK rfl ?_); (try simp only [map_getD hltk, hltk, RuleS.pv, RuleS.vals, List.map_cons, List.map_nil, CheckS.pv, CheckS.vals, t1, t2, t3, g1, g2, and_self, AW, reduceAdd, reduceCtorEq, reduceEqDiff, ↓reduceIte, reduceLT, reduceLeDiff, reduceSub, reducePow, reduceMul, reduceToNat, reduceLE, reduceEq, Int.reduceLT, Int.reduceBEq, Int.reduceBNe])
    (try refine drawnK rfl ?_); (try simp only [map_getD hltk, hltk, RuleS.pv, RuleS.vals, List.map_cons, List.map_nil, CheckS.pv, CheckS.vals, t1, t2, t3, g1, g2, and_self, AW, reduceAdd, reduceCtorEq, reduceEqDiff, ↓reduceIte, reduceLT, reduceLeDiff, reduceSub, reducePow, reduceMul, reduceToNat, reduceLE, reduceEq, Int.reduceLT, Int.reduceBEq, Int.reduceBNe])
    (try simp only [wrap_succ hltk hlen, AW, reduceAdd, reduceCtorEq, reduceEqDiff, ↓reduceIte, reduceLT, reduceLeDiff, reduceSub, reducePow, reduceMul, reduceToNat, reduceLE, reduceEq, Int.reduceLT, Int.reduceBEq, Int.reduceBNe])
    refine ⟨k + 1, ⟨hltk, step_all (p := fun x => errR l w rs b now x = 0) hltk ik e0⟩, ?_, meas_lt hltk⟩
    simp only [LW, Nat.reduceMod, Nat.reduceDiv, yes (by simp [reasonB, *]), List.map_append, List.map_cons, List.map_nil, intP, AW, reduceAdd, reduceCtorEq, reduceEqDiff, ↓reduceIte, reduceLT, reduceLeDiff, reduceSub, reducePow, reduceMul, reduceToNat, reduceLE, reduceEq, Int.reduceLT, Int.reduceBEq, Int.reduceBNe]
  (try simp only [map_getD hltk, hltk, RuleS.pv, RuleS.vals, List.map_cons, List.map_nil, CheckS.pv, CheckS.vals, t1, t2, t3, AW, reduceAdd, reduceCtorEq, reduceEqDiff, ↓reduceIte, reduceLT, reduceLeDiff, reduceSub, reducePow, reduceMul, reduceToNat, reduceLE, reduceEq, Int.reduceLT, Int.reduceBEq, Int.reduceBNe])
  cases c12 : decide (rules[k].limit ≤ wn)
  rotate_left
  · (try simp only [map_getD hltk, hltk, RuleS.pv, RuleS.vals, List.map_cons, List.map_nil, CheckS.pv, CheckS.vals, t1, t2, t3, AW, reduceAdd, reduceCtorEq, reduceEqDiff, ↓reduceIte, reduceLT, reduceLeDiff, reduceSub, reducePow, reduceMul, reduceToNat, reduceLE, reduceEq, Int.reduceLT, Int.reduceBEq, Int.reduceBNe])
    (try refine drawnK rfl ?_); (try simp only [map_getD hltk, hltk, RuleS.pv, RuleS.vals, List.map_cons, List.map_nil, CheckS.pv, CheckS.vals, t1, t2, t3, g1, g2, and_self, AW, reduceAdd, reduceCtorEq, reduceEqDiff, ↓reduceIte, reduceLT, reduceLeDiff, reduceSub, reducePow, reduceMul, reduceToNat, reduceLE, reduceEq, Int.reduceLT, Int.reduceBEq, Int.reduceBNe])
    (try refine drawnK rfl ?_); (try simp only [map_getD hltk, hltk, RuleS.pv, RuleS.vals, List.map_cons, List.map_nil, CheckS.pv, CheckS.vals, t1, t2, t3, g1, g2, and_self, AW, reduceAdd, reduceCtorEq, reduceEqDiff, ↓reduceIte, reduceLT, reduceLeDiff, reduceSub, reducePow, reduceMul, reduceToNat, reduceLE, reduceEq, Int.reduceLT, Int.reduceBEq, Int.reduceBNe])
    (try simp only [wrap_succ hltk hlen, AW, reduceAdd, reduceCtorEq, reduceEqDiff, ↓reduceIte, reduceLT, reduceLeDiff, reduceSub, reducePow, reduceMul, reduceToNat, reduceLE, reduceEq, Int.reduceLT, Int.reduceBEq, Int.reduceBNe])
    refine ⟨k + 1, ⟨hltk, step_all (p := fun x => errR l w rs b now x = 0) hltk ik e0⟩, ?_, meas_lt hltk⟩
    simp only [LW, Nat.reduceMod, Nat.reduceDiv, yes (by simp [reasonB, *]), List.map_append, List.map_cons, List.map_nil, intP, AW, reduceAdd, reduceCtorEq, reduceEqDiff, ↓reduceIte, reduceLT, reduceLeDiff, reduceSub, reducePow, reduceMul, reduceToNat, reduceLE, reduceEq, Int.reduceLT, Int.reduceBEq, Int.reduceBNe]
  (try simp only [map_getD hltk, hltk, RuleS.pv, RuleS.vals, List.map_cons, List.map_nil, CheckS.pv, CheckS.vals, t1, t2, t3, AW, reduceAdd, reduceCtorEq, reduceEqDiff, ↓reduceIte, reduceLT, reduceLeDiff, reduceSub, reducePow, reduceMul, reduceToNat, reduceLE, reduceEq, Int.reduceLT, Int.reduceBEq, Int.reduceBNe])
  (try refine drawnK rfl ?_); (try simp only [map_getD hltk, hltk, RuleS.pv, RuleS.vals, List.map_cons, List.map_nil, CheckS.pv, CheckS.vals, t1, t2, t3, g1, g2, and_self, AW, reduceAdd, reduceCtorEq, reduceEqDiff, ↓reduceIte, reduceLT, reduceLeDiff, reduceSub, reducePow, reduceMul, reduceToNat, reduceLE, reduceEq, Int.reduceLT, Int.reduceBEq, Int.reduceBNe])
  (try refine drawnK rfl ?_); (try simp only [map_getD hltk, hltk, RuleS.pv, RuleS.vals, List.map_cons, List.map_nil, CheckS.pv, CheckS.vals, t1, t2, t3, g1, g2, and_self, AW, reduceAdd, reduceCtorEq, reduceEqDiff, ↓reduceIte, reduceLT, reduceLeDiff, reduceSub, reducePow, reduceMul, reduceToNat, reduceLE, reduceEq, Int.reduceLT, Int.reduceBEq, Int.reduceBNe])
  (try simp only [wrap_succ hltk hlen, AW, reduceAdd, reduceCtorEq, reduceEqDiff, ↓reduceIte, reduceLT, reduceLeDiff, reduceSub, reducePow, reduceMul, reduceToNat, reduceLE, reduceEq, Int.reduceLT, Int.reduceBEq, Int.reduceBNe])
  refine ⟨k + 1, ⟨hltk, step_all (p := fun x => errR l w rs b now x = 0) hltk ik e0⟩, ?_, meas_lt hltk⟩
  simp only [LW, Nat.reduceMod, Nat.reduceDiv, no (by simp [reasonB, *]), List.map_append, List.map_cons, List.map_nil, intP, AW, reduceAdd, reduceCtorEq, reduceEqDiff, ↓reduceIte, reduceLT, reduceLeDiff, reduceSub, reducePow, reduceMul, reduceToNat, reduceLE, reduceEq, Int.reduceLT, Int.reduceBEq, Int.reduceBNe]

end Go.Proofs.Ythgnbkcopapbmaa
