/-
  Inspections: other rules, kinds and bicycles play no part.
-/
import Derived.Test.YtnjgckkbhlcjoaaIt
namespace Go.Proofs.Ytnjgckkbhlcjoaa
open Go.RowKit
set_option linter.unusedVariables false
set_option linter.unusedSimpArgs false
set_option linter.unnecessarySimpa false

def mineB (b kind : Int) (x : CheckS) : Bool := (x.bike == b) && (x.kind == kind)
def moreR (r : RuleS) (more days : Int) : RuleS := ⟨r.kind, if 1125899906842624 < r.limit + more then 1125899906842624 else r.limit + more, if 49709 < r.days + days then 49709 else r.days + days⟩
theorem last_mine (l : List CheckS) (b kind now : Int) : lastL (l.filter (mineB b kind)) b kind now = lastL l b kind now := by
  have e1 : lastL (l.filter (mineB b kind)) b kind now = _ := fold_filter b kind now _ none
  have e2 : lastL l b kind now = _ := fold_filter b kind now l none
  rw [e1, e2, List.filter_filter]
  congr 1
  refine List.filter_congr fun x _ => ?_
  simp only [matchB, mineB]
  cases x.bike == b <;> cases x.kind == kind <;> simp
theorem checks_filter {l : List CheckS} (h : checksL l = 0) (p : CheckS → Bool) : checksL (l.filter p) = 0 := by
  unfold checksL at h
  split at h
  · simp at h
  split at h
  · rename_i h2; exact absurd h h2
  rename_i h1 h2
  split at h
  rotate_left
  · simp at h
  rename_i h3
  have hl := List.length_filter_le p l
  have e : firstE checkE (l.filter p) = 0 := firstE_none fun j hj => firstE_zero (by simpa using h2) _ (List.mem_filter.1 (List.getElem_mem hj)).1
  unfold checksL
  rw [if_neg (by omega), if_neg (by rw [e]; simp), if_pos ((List.filter_sublist.map _).nodup h3)]
theorem one_rule {r : RuleS} (h : 0 ≤ r.kind ∧ r.kind < 8 ∧ 1 ≤ r.limit ∧ r.limit ≤ 1125899906842624 ∧ 1 ≤ r.days ∧ r.days ≤ 49709) : rulesL [r] = 0 :=
  rules_mk (by simp) (fun x hx => by rw [List.mem_singleton.1 hx]; exact h) (by simp)
theorem due_one {r : RuleS} {l : List CheckS} {w : WearS} {rs : List RideS} {b now : Int} (h1 : rulesL [r] = 0) (h2 : checksL l = 0) (h3 : ¬(b < 0 ∨ 128 ≤ b ∨ now < 0 ∨ 4294943999 < now)) (h4 : errR l w rs b now r = 0) :
    dueL [r] l w rs b now = (if dueR l w rs b now r = true then [r.kind] else [], 0) := by
  rw [dueL_5 h1 h2 h3 (firstE_none fun j hj => by have : j = 0 := by simpa using hj
                                                  subst this; exact h4)]
  cases hd : dueR l w rs b now r <;> simp [hd]
theorem others_law {rules : List RuleS} {l : List CheckS} {w : WearS} {rs : List RideS} {b now : Int} (hd : (dueL rules l w rs b now).2 = 0) {i : Nat} (hi : i < rules.length) {more days : Int} (hm : 0 ≤ more ∧ more ≤ 1000000) (hy : 0 ≤ days ∧ days ≤ 1000) :
    ∃ x y : Bool, hasL (dueL rules l w rs b now).1 rules[i].kind = x ∧ dueL [rules[i]] (l.filter (mineB b rules[i].kind)) w rs b now = (if x = true then [rules[i].kind] else [], 0) ∧
      dueL [moreR rules[i] more days] (l.filter (mineB b rules[i].kind)) w rs b now = (if y = true then [rules[i].kind] else [], 0) ∧ (y = true → x = true) := by
  obtain ⟨h1, h2, h3, h4, h5⟩ := due_ok hd
  have hr := List.getElem_mem hi
  have k0 := (rules_ok h1).2.1 _ hr
  have e0 := h4 _ hr
  rw [h5, has_out h1 hr]
  generalize rules[i] = r at *
  have c2 := checks_filter h2 (mineB b r.kind)
  have k1 := one_rule k0
  have k2 : rulesL [moreR r more days] = 0 := by
    refine one_rule ⟨k0.1, k0.2.1, ?_⟩
    unfold moreR; simp only
    refine ⟨?_, ?_, ?_, ?_⟩ <;> split <;> omega
  have ew : wornR (l.filter (mineB b r.kind)) w rs b now r = wornR l w rs b now r := by unfold wornR; rw [last_mine]
  have ew2 : wornR (l.filter (mineB b r.kind)) w rs b now (moreR r more days) = wornR l w rs b now r := by unfold wornR moreR; simp only; rw [last_mine]
  have ed : dueR (l.filter (mineB b r.kind)) w rs b now r = dueR l w rs b now r := by unfold dueR; rw [ew, last_mine]
  refine ⟨dueR l w rs b now r, dueR (l.filter (mineB b r.kind)) w rs b now (moreR r more days), rfl, ?_, ?_, ?_⟩
  · rw [due_one k1 c2 h3 (by unfold errR; rw [ew]; exact e0), ed]
  · rw [due_one k2 c2 h3 (by unfold errR; rw [ew2]; exact e0)]; rfl
  · intro h
    unfold dueR at h ⊢
    rw [ew2] at h
    have em : lastL (l.filter (mineB b r.kind)) b (moreR r more days).kind now = lastL l b r.kind now := last_mine l b r.kind now
    rw [em] at h
    unfold reasonB at h ⊢
    simp only [Bool.or_eq_true, decide_eq_true_eq] at h ⊢
    have l1 : r.limit ≤ (moreR r more days).limit := by unfold moreR; simp only; split <;> omega
    have l2 : r.days ≤ (moreR r more days).days := by unfold moreR; simp only; split <;> omega
    rcases h with h | h | h
    · exact .inl h
    · exact .inr (.inl (by omega))
    · exact .inr (.inr (by omega))
theorem moreR_pv (r : RuleS) (m d : Int) : (moreR r m d).pv = .agg [.sc (.int .i64 r.kind), .sc (.int .i64 (if 1125899906842624 < r.limit + m then 1125899906842624 else r.limit + m)), .sc (.int .i64 (if 49709 < r.days + d then 49709 else r.days + d))] := rfl
set_option maxHeartbeats 8000000 in
theorem inspectOthers_good (c : CaseS) (at_ more days : Int) : Good Try.prog 9 [c.pv, intP at_, intP more, intP days] (.sc (.bool true)) := by
  refine good9 (by simp) ?_
  simp only [ac9, CaseS.pv, intP, AW, Nat.reduceAdd, reduceCtorEq, Nat.reduceEqDiff, ↓reduceIte, Nat.reduceLT, Nat.reduceLeDiff, Nat.reduceSub, Nat.reducePow, Nat.reduceMul, Int.reduceToNat, Int.reduceLE, Int.reduceEq, Int.reduceLT, Int.reduceBEq, Int.reduceBNe]
  refine ops_call (few_g c) (by simp only [CaseS.pv, AW, Nat.reduceAdd, reduceCtorEq, Nat.reduceEqDiff, ↓reduceIte, Nat.reduceLT, Nat.reduceLeDiff, Nat.reduceSub, Nat.reducePow, Nat.reduceMul, Int.reduceToNat, Int.reduceLE, Int.reduceEq, Int.reduceLT, Int.reduceBEq, Int.reduceBNe]) ?_; simp only [CaseS.pv, AW, Nat.reduceAdd, reduceCtorEq, Nat.reduceEqDiff, ↓reduceIte, Nat.reduceLT, Nat.reduceLeDiff, Nat.reduceSub, Nat.reducePow, Nat.reduceMul, Int.reduceToNat, Int.reduceLE, Int.reduceEq, Int.reduceLT, Int.reduceBEq, Int.reduceBNe]
  cases hf : fewC c
  · simp only [AW, Nat.reduceAdd, reduceCtorEq, Nat.reduceEqDiff, ↓reduceIte, Nat.reduceLT, Nat.reduceLeDiff, Nat.reduceSub, Nat.reducePow, Nat.reduceMul, Int.reduceToNat, Int.reduceLE, Int.reduceEq, Int.reduceLT, Int.reduceBEq, Int.reduceBNe]; refine ops_call (awake) (by simp only [AW, Nat.reduceAdd, reduceCtorEq, Nat.reduceEqDiff, ↓reduceIte, Nat.reduceLT, Nat.reduceLeDiff, Nat.reduceSub, Nat.reducePow, Nat.reduceMul, Int.reduceToNat, Int.reduceLE, Int.reduceEq, Int.reduceLT, Int.reduceBEq, Int.reduceBNe]) ?_; simp only [AW, Nat.reduceAdd, reduceCtorEq, Nat.reduceEqDiff, ↓reduceIte, Nat.reduceLT, Nat.reduceLeDiff, Nat.reduceSub, Nat.reducePow, Nat.reduceMul, Int.reduceToNat, Int.reduceLE, Int.reduceEq, Int.reduceLT, Int.reduceBEq, Int.reduceBNe]
  obtain ⟨f1, f2, f3⟩ := fewC_ok hf
  have hlen : c.checks.length ≤ maxLen := by unfold maxLen; omega
  simp only [AW, Nat.reduceAdd, reduceCtorEq, Nat.reduceEqDiff, ↓reduceIte, Nat.reduceLT, Nat.reduceLeDiff, Nat.reduceSub, Nat.reducePow, Nat.reduceMul, Int.reduceToNat, Int.reduceLE, Int.reduceEq, Int.reduceLT, Int.reduceBEq, Int.reduceBNe]
  cases c1 : decide (at_ < 0)
  rotate_left
  · simp only [AW, Nat.reduceAdd, reduceCtorEq, Nat.reduceEqDiff, ↓reduceIte, Nat.reduceLT, Nat.reduceLeDiff, Nat.reduceSub, Nat.reducePow, Nat.reduceMul, Int.reduceToNat, Int.reduceLE, Int.reduceEq, Int.reduceLT, Int.reduceBEq, Int.reduceBNe]; refine ops_call (awake) (by simp only [AW, Nat.reduceAdd, reduceCtorEq, Nat.reduceEqDiff, ↓reduceIte, Nat.reduceLT, Nat.reduceLeDiff, Nat.reduceSub, Nat.reducePow, Nat.reduceMul, Int.reduceToNat, Int.reduceLE, Int.reduceEq, Int.reduceLT, Int.reduceBEq, Int.reduceBNe]) ?_; simp only [AW, Nat.reduceAdd, reduceCtorEq, Nat.reduceEqDiff, ↓reduceIte, Nat.reduceLT, Nat.reduceLeDiff, Nat.reduceSub, Nat.reducePow, Nat.reduceMul, Int.reduceToNat, Int.reduceLE, Int.reduceEq, Int.reduceLT, Int.reduceBEq, Int.reduceBNe]
  simp only [AW, Nat.reduceAdd, reduceCtorEq, Nat.reduceEqDiff, ↓reduceIte, Nat.reduceLT, Nat.reduceLeDiff, Nat.reduceSub, Nat.reducePow, Nat.reduceMul, Int.reduceToNat, Int.reduceLE, Int.reduceEq, Int.reduceLT, Int.reduceBEq, Int.reduceBNe]
  cases c2 : decide ((c.rules.length : Int) ≤ at_)
  rotate_left
  · simp only [AW, Nat.reduceAdd, reduceCtorEq, Nat.reduceEqDiff, ↓reduceIte, Nat.reduceLT, Nat.reduceLeDiff, Nat.reduceSub, Nat.reducePow, Nat.reduceMul, Int.reduceToNat, Int.reduceLE, Int.reduceEq, Int.reduceLT, Int.reduceBEq, Int.reduceBNe]; refine ops_call (awake) (by simp only [AW, Nat.reduceAdd, reduceCtorEq, Nat.reduceEqDiff, ↓reduceIte, Nat.reduceLT, Nat.reduceLeDiff, Nat.reduceSub, Nat.reducePow, Nat.reduceMul, Int.reduceToNat, Int.reduceLE, Int.reduceEq, Int.reduceLT, Int.reduceBEq, Int.reduceBNe]) ?_; simp only [AW, Nat.reduceAdd, reduceCtorEq, Nat.reduceEqDiff, ↓reduceIte, Nat.reduceLT, Nat.reduceLeDiff, Nat.reduceSub, Nat.reducePow, Nat.reduceMul, Int.reduceToNat, Int.reduceLE, Int.reduceEq, Int.reduceLT, Int.reduceBEq, Int.reduceBNe]
  simp only [AW, Nat.reduceAdd, reduceCtorEq, Nat.reduceEqDiff, ↓reduceIte, Nat.reduceLT, Nat.reduceLeDiff, Nat.reduceSub, Nat.reducePow, Nat.reduceMul, Int.reduceToNat, Int.reduceLE, Int.reduceEq, Int.reduceLT, Int.reduceBEq, Int.reduceBNe]
  cases c3 : decide (more < 0)
  rotate_left
  · simp only [AW, Nat.reduceAdd, reduceCtorEq, Nat.reduceEqDiff, ↓reduceIte, Nat.reduceLT, Nat.reduceLeDiff, Nat.reduceSub, Nat.reducePow, Nat.reduceMul, Int.reduceToNat, Int.reduceLE, Int.reduceEq, Int.reduceLT, Int.reduceBEq, Int.reduceBNe]; refine ops_call (awake) (by simp only [AW, Nat.reduceAdd, reduceCtorEq, Nat.reduceEqDiff, ↓reduceIte, Nat.reduceLT, Nat.reduceLeDiff, Nat.reduceSub, Nat.reducePow, Nat.reduceMul, Int.reduceToNat, Int.reduceLE, Int.reduceEq, Int.reduceLT, Int.reduceBEq, Int.reduceBNe]) ?_; simp only [AW, Nat.reduceAdd, reduceCtorEq, Nat.reduceEqDiff, ↓reduceIte, Nat.reduceLT, Nat.reduceLeDiff, Nat.reduceSub, Nat.reducePow, Nat.reduceMul, Int.reduceToNat, Int.reduceLE, Int.reduceEq, Int.reduceLT, Int.reduceBEq, Int.reduceBNe]
  simp only [AW, Nat.reduceAdd, reduceCtorEq, Nat.reduceEqDiff, ↓reduceIte, Nat.reduceLT, Nat.reduceLeDiff, Nat.reduceSub, Nat.reducePow, Nat.reduceMul, Int.reduceToNat, Int.reduceLE, Int.reduceEq, Int.reduceLT, Int.reduceBEq, Int.reduceBNe]
  cases c4 : decide ((1000000 : Int) < more)
  rotate_left
  · simp only [AW, Nat.reduceAdd, reduceCtorEq, Nat.reduceEqDiff, ↓reduceIte, Nat.reduceLT, Nat.reduceLeDiff, Nat.reduceSub, Nat.reducePow, Nat.reduceMul, Int.reduceToNat, Int.reduceLE, Int.reduceEq, Int.reduceLT, Int.reduceBEq, Int.reduceBNe]; refine ops_call (awake) (by simp only [AW, Nat.reduceAdd, reduceCtorEq, Nat.reduceEqDiff, ↓reduceIte, Nat.reduceLT, Nat.reduceLeDiff, Nat.reduceSub, Nat.reducePow, Nat.reduceMul, Int.reduceToNat, Int.reduceLE, Int.reduceEq, Int.reduceLT, Int.reduceBEq, Int.reduceBNe]) ?_; simp only [AW, Nat.reduceAdd, reduceCtorEq, Nat.reduceEqDiff, ↓reduceIte, Nat.reduceLT, Nat.reduceLeDiff, Nat.reduceSub, Nat.reducePow, Nat.reduceMul, Int.reduceToNat, Int.reduceLE, Int.reduceEq, Int.reduceLT, Int.reduceBEq, Int.reduceBNe]
  simp only [AW, Nat.reduceAdd, reduceCtorEq, Nat.reduceEqDiff, ↓reduceIte, Nat.reduceLT, Nat.reduceLeDiff, Nat.reduceSub, Nat.reducePow, Nat.reduceMul, Int.reduceToNat, Int.reduceLE, Int.reduceEq, Int.reduceLT, Int.reduceBEq, Int.reduceBNe]
  cases c5 : decide (days < 0)
  rotate_left
  · simp only [AW, Nat.reduceAdd, reduceCtorEq, Nat.reduceEqDiff, ↓reduceIte, Nat.reduceLT, Nat.reduceLeDiff, Nat.reduceSub, Nat.reducePow, Nat.reduceMul, Int.reduceToNat, Int.reduceLE, Int.reduceEq, Int.reduceLT, Int.reduceBEq, Int.reduceBNe]; refine ops_call (awake) (by simp only [AW, Nat.reduceAdd, reduceCtorEq, Nat.reduceEqDiff, ↓reduceIte, Nat.reduceLT, Nat.reduceLeDiff, Nat.reduceSub, Nat.reducePow, Nat.reduceMul, Int.reduceToNat, Int.reduceLE, Int.reduceEq, Int.reduceLT, Int.reduceBEq, Int.reduceBNe]) ?_; simp only [AW, Nat.reduceAdd, reduceCtorEq, Nat.reduceEqDiff, ↓reduceIte, Nat.reduceLT, Nat.reduceLeDiff, Nat.reduceSub, Nat.reducePow, Nat.reduceMul, Int.reduceToNat, Int.reduceLE, Int.reduceEq, Int.reduceLT, Int.reduceBEq, Int.reduceBNe]
  simp only [AW, Nat.reduceAdd, reduceCtorEq, Nat.reduceEqDiff, ↓reduceIte, Nat.reduceLT, Nat.reduceLeDiff, Nat.reduceSub, Nat.reducePow, Nat.reduceMul, Int.reduceToNat, Int.reduceLE, Int.reduceEq, Int.reduceLT, Int.reduceBEq, Int.reduceBNe]
  cases c6 : decide ((1000 : Int) < days)
  rotate_left
  · simp only [AW, Nat.reduceAdd, reduceCtorEq, Nat.reduceEqDiff, ↓reduceIte, Nat.reduceLT, Nat.reduceLeDiff, Nat.reduceSub, Nat.reducePow, Nat.reduceMul, Int.reduceToNat, Int.reduceLE, Int.reduceEq, Int.reduceLT, Int.reduceBEq, Int.reduceBNe]; refine ops_call (awake) (by simp only [AW, Nat.reduceAdd, reduceCtorEq, Nat.reduceEqDiff, ↓reduceIte, Nat.reduceLT, Nat.reduceLeDiff, Nat.reduceSub, Nat.reducePow, Nat.reduceMul, Int.reduceToNat, Int.reduceLE, Int.reduceEq, Int.reduceLT, Int.reduceBEq, Int.reduceBNe]) ?_; simp only [AW, Nat.reduceAdd, reduceCtorEq, Nat.reduceEqDiff, ↓reduceIte, Nat.reduceLT, Nat.reduceLeDiff, Nat.reduceSub, Nat.reducePow, Nat.reduceMul, Int.reduceToNat, Int.reduceLE, Int.reduceEq, Int.reduceLT, Int.reduceBEq, Int.reduceBNe]
  simp only [AW, Nat.reduceAdd, reduceCtorEq, Nat.reduceEqDiff, ↓reduceIte, Nat.reduceLT, Nat.reduceLeDiff, Nat.reduceSub, Nat.reducePow, Nat.reduceMul, Int.reduceToNat, Int.reduceLE, Int.reduceEq, Int.reduceLT, Int.reduceBEq, Int.reduceBNe]
  rw [decide_eq_false_iff_not] at c1 c2 c3 c4 c5 c6
  refine ops_call (due_c c) (by simp only [CaseS.pv, dueP, intP, AW, Nat.reduceAdd, reduceCtorEq, Nat.reduceEqDiff, ↓reduceIte, Nat.reduceLT, Nat.reduceLeDiff, Nat.reduceSub, Nat.reducePow, Nat.reduceMul, Int.reduceToNat, Int.reduceLE, Int.reduceEq, Int.reduceLT, Int.reduceBEq, Int.reduceBNe]) ?_; simp only [CaseS.pv, dueP, intP, AW, Nat.reduceAdd, reduceCtorEq, Nat.reduceEqDiff, ↓reduceIte, Nat.reduceLT, Nat.reduceLeDiff, Nat.reduceSub, Nat.reducePow, Nat.reduceMul, Int.reduceToNat, Int.reduceLE, Int.reduceEq, Int.reduceLT, Int.reduceBEq, Int.reduceBNe]
  cases e0 : ((dueC c).2 != 0)
  rotate_left
  · simp only [AW, Nat.reduceAdd, reduceCtorEq, Nat.reduceEqDiff, ↓reduceIte, Nat.reduceLT, Nat.reduceLeDiff, Nat.reduceSub, Nat.reducePow, Nat.reduceMul, Int.reduceToNat, Int.reduceLE, Int.reduceEq, Int.reduceLT, Int.reduceBEq, Int.reduceBNe]; refine ops_call (awake) (by simp only [AW, Nat.reduceAdd, reduceCtorEq, Nat.reduceEqDiff, ↓reduceIte, Nat.reduceLT, Nat.reduceLeDiff, Nat.reduceSub, Nat.reducePow, Nat.reduceMul, Int.reduceToNat, Int.reduceLE, Int.reduceEq, Int.reduceLT, Int.reduceBEq, Int.reduceBNe]) ?_; simp only [AW, Nat.reduceAdd, reduceCtorEq, Nat.reduceEqDiff, ↓reduceIte, Nat.reduceLT, Nat.reduceLeDiff, Nat.reduceSub, Nat.reducePow, Nat.reduceMul, Int.reduceToNat, Int.reduceLE, Int.reduceEq, Int.reduceLT, Int.reduceBEq, Int.reduceBNe]
  obtain ⟨i, rfl⟩ : ∃ i : Nat, at_ = i := ⟨at_.toNat, by omega⟩
  have hi : i < c.rules.length := by omega
  have e0 : (dueL c.rules c.checks c.wear c.rides c.bike c.now).2 = 0 := by simpa [dueC] using e0
  obtain ⟨x, y, o1, o2, o3, o4⟩ := others_law (more := more) (days := days) e0 hi (by omega) (by omega)
  have kr := (rules_ok (due_ok e0).1).2.1 _ (List.getElem_mem hi)
  have v1 : IntKind.wrap .i64 (c.rules[i].limit + more) = c.rules[i].limit + more := wrap_id ⟨by omega, by omega⟩
  have v2 : IntKind.wrap .i64 (c.rules[i].days + days) = c.rules[i].days + days := wrap_id ⟨by omega, by omega⟩
  have hg := has_g (dueL c.rules c.checks c.wear c.rides c.bike c.now).1 c.rules[i].kind
  rw [o1] at hg
  have gd1 : Good Try.prog _ _ (dueP (dueL [c.rules[i]] (c.checks.filter (mineB c.bike c.rules[i].kind)) c.wear c.rides c.bike c.now)) := due_c ⟨[c.rules[i]], c.checks.filter (mineB c.bike c.rules[i].kind), c.wear, c.rides, c.bike, c.now⟩
  have gd2 : Good Try.prog _ _ (dueP (dueL [moreR c.rules[i] more days] (c.checks.filter (mineB c.bike c.rules[i].kind)) c.wear c.rides c.bike c.now)) := due_c ⟨[moreR c.rules[i] more days], c.checks.filter (mineB c.bike c.rules[i].kind), c.wear, c.rides, c.bike, c.now⟩
  rw [o2] at gd1
  rw [o3] at gd2
  clear e0 o1 o2 o3
  unfold dueC
  generalize (dueL c.rules c.checks c.wear c.rides c.bike c.now).1 = A at *
  simp only [map_getD hi, hi, CheckS.pv, CheckS.vals, RuleS.pv, RuleS.vals, List.map_cons, List.map_nil, AW, Nat.reduceAdd, reduceCtorEq, Nat.reduceEqDiff, ↓reduceIte, Nat.reduceLT, Nat.reduceLeDiff, Nat.reduceSub, Nat.reducePow, Nat.reduceMul, Int.reduceToNat, Int.reduceLE, Int.reduceEq, Int.reduceLT, Int.reduceBEq, Int.reduceBNe]
  (try refine drawnK rfl ?_); (try simp only [AW, Nat.reduceAdd, reduceCtorEq, Nat.reduceEqDiff, ↓reduceIte, Nat.reduceLT, Nat.reduceLeDiff, Nat.reduceSub, Nat.reducePow, Nat.reduceMul, Int.reduceToNat, Int.reduceLE, Int.reduceEq, Int.reduceLT, Int.reduceBEq, Int.reduceBNe])
  refine run_loop (ι := Nat) (fun k => ⟨[(2, .sc (.int .i64 more)), (3, .sc (.int .i64 days)), (4, .ptr 0 0), (9, .sl (A.map intP)), (11, .ptr 46 0), (12, .ptr 49 0), (13, .sc (.int .i64 (k : Int)))], [(0, .var [.sl (c.rules.map RuleS.pv), .sl (c.checks.map CheckS.pv), .sl (c.wear.hour.map intP), .sl (c.wear.ride.map intP), .sl (c.rides.map RideS.pv), .sc (.int .i64 c.bike), .sc (.int .i64 c.now)]), (46, .var [.sc (.int .i64 c.rules[i].kind), .sc (.int .i64 c.rules[i].limit), .sc (.int .i64 c.rules[i].days)]), (49, .var [.own 52 0, .own 58 0, .sl (c.wear.hour.map intP), .sl (c.wear.ride.map intP), .sl (c.rides.map RideS.pv), .sc (.int .i64 c.bike), .sc (.int .i64 c.now)]), (52, .row 47 3 0 [.agg [.sc (.int .i64 c.rules[i].kind), .sc (.int .i64 c.rules[i].limit), .sc (.int .i64 c.rules[i].days)]]), (58, .row 30 4 0 (((c.checks.take k).filter (mineB c.bike c.rules[i].kind)).map CheckS.pv))], 59, 157⟩) (fun k => k ≤ c.checks.length) (fun k => c.checks.length - k) 59 (fun _ => rfl) 0 (by simp only [LW, Nat.reduceMod, Nat.reduceDiv, Int.natCast_zero, List.take_zero, List.filter_nil, List.map_nil, AW, Nat.reduceAdd, reduceCtorEq, Nat.reduceEqDiff, ↓reduceIte, Nat.reduceLT, Nat.reduceLeDiff, Nat.reduceSub, Nat.reducePow, Nat.reduceMul, Int.reduceToNat, Int.reduceLE, Int.reduceEq, Int.reduceLT, Int.reduceBEq, Int.reduceBNe]) (Nat.zero_le _) (fun k hk => ?_)
  have gk := hk
  by_cases hltk : k < c.checks.length
  rotate_left
  · have dk : decide ((k : Int) < ((c.checks.length : Nat) : Int)) = false := by rw [decide_eq_false_iff_not]; exact fun h => hltk (Int.ofNat_lt.1 h)
    have ek : k = c.checks.length := Nat.le_antisymm gk (Nat.le_of_not_lt hltk)
    subst ek
    simp only [dk, List.take_length, AW, Nat.reduceAdd, reduceCtorEq, Nat.reduceEqDiff, ↓reduceIte, Nat.reduceLT, Nat.reduceLeDiff, Nat.reduceSub, Nat.reducePow, Nat.reduceMul, Int.reduceToNat, Int.reduceLE, Int.reduceEq, Int.reduceLT, Int.reduceBEq, Int.reduceBNe]
    refine ops_call (gd1) (by simp only [CaseS.pv, dueP, intP, CheckS.pv, CheckS.vals, RuleS.pv, RuleS.vals, List.map_cons, List.map_nil, AW, Nat.reduceAdd, reduceCtorEq, Nat.reduceEqDiff, ↓reduceIte, Nat.reduceLT, Nat.reduceLeDiff, Nat.reduceSub, Nat.reducePow, Nat.reduceMul, Int.reduceToNat, Int.reduceLE, Int.reduceEq, Int.reduceLT, Int.reduceBEq, Int.reduceBNe]) ?_; simp only [CaseS.pv, dueP, intP, CheckS.pv, CheckS.vals, RuleS.pv, RuleS.vals, List.map_cons, List.map_nil, AW, Nat.reduceAdd, reduceCtorEq, Nat.reduceEqDiff, ↓reduceIte, Nat.reduceLT, Nat.reduceLeDiff, Nat.reduceSub, Nat.reducePow, Nat.reduceMul, Int.reduceToNat, Int.reduceLE, Int.reduceEq, Int.reduceLT, Int.reduceBEq, Int.reduceBNe]
    simp only [v1, v2, AW, Nat.reduceAdd, reduceCtorEq, Nat.reduceEqDiff, ↓reduceIte, Nat.reduceLT, Nat.reduceLeDiff, Nat.reduceSub, Nat.reducePow, Nat.reduceMul, Int.reduceToNat, Int.reduceLE, Int.reduceEq, Int.reduceLT, Int.reduceBEq, Int.reduceBNe]
    refine ops_call (gd2) (by simp only [CaseS.pv, dueP, intP, moreR, CheckS.pv, CheckS.vals, RuleS.pv, RuleS.vals, List.map_cons, List.map_nil, AW, Nat.reduceAdd, reduceCtorEq, Nat.reduceEqDiff, ↓reduceIte, Nat.reduceLT, Nat.reduceLeDiff, Nat.reduceSub, Nat.reducePow, Nat.reduceMul, Int.reduceToNat, Int.reduceLE, Int.reduceEq, Int.reduceLT, Int.reduceBEq, Int.reduceBNe]) ?_; simp only [CaseS.pv, dueP, intP, moreR, CheckS.pv, CheckS.vals, RuleS.pv, RuleS.vals, List.map_cons, List.map_nil, AW, Nat.reduceAdd, reduceCtorEq, Nat.reduceEqDiff, ↓reduceIte, Nat.reduceLT, Nat.reduceLeDiff, Nat.reduceSub, Nat.reducePow, Nat.reduceMul, Int.reduceToNat, Int.reduceLE, Int.reduceEq, Int.reduceLT, Int.reduceBEq, Int.reduceBNe]
    (try refine drawnK rfl ?_); (try simp only [AW, Nat.reduceAdd, reduceCtorEq, Nat.reduceEqDiff, ↓reduceIte, Nat.reduceLT, Nat.reduceLeDiff, Nat.reduceSub, Nat.reducePow, Nat.reduceMul, Int.reduceToNat, Int.reduceLE, Int.reduceEq, Int.reduceLT, Int.reduceBEq, Int.reduceBNe])
    have h1 : hasL [c.rules[i].kind] c.rules[i].kind = true := by simp [hasL]
    have h2 : hasL [] c.rules[i].kind = false := rfl
    have g1 := has_g [c.rules[i].kind] c.rules[i].kind
    have g2 := has_g [] c.rules[i].kind
    rw [h1] at g1
    rw [h2] at g2
    have z0 : (((0 : Nat) : Int) == 0) = true := rfl
    have z1 : ((1 : Int) == 0) = false := rfl
    have z2 : decide ((0 : Int) < 1) = true := rfl
    have z3 : decide ((0 : Int) < ((0 : Nat) : Int)) = false := rfl
    have z4 : (((1 : Nat) : Int) == 0) = false := rfl
    have z5 : decide ((0 : Int) < ((1 : Nat) : Int)) = true := rfl
    cases x
    · cases y
      rotate_left
      · exact absurd (o4 rfl) (by decide)
      simp only [Bool.false_eq_true, if_false, List.map_nil, AW, Nat.reduceAdd, reduceCtorEq, Nat.reduceEqDiff, ↓reduceIte, Nat.reduceLT, Nat.reduceLeDiff, Nat.reduceSub, Nat.reducePow, Nat.reduceMul, Int.reduceToNat, Int.reduceLE, Int.reduceEq, Int.reduceLT, Int.reduceBEq, Int.reduceBNe]
      refine ops_call (g2) (by simp only [intsP, intP, List.map_nil, AW, Nat.reduceAdd, reduceCtorEq, Nat.reduceEqDiff, ↓reduceIte, Nat.reduceLT, Nat.reduceLeDiff, Nat.reduceSub, Nat.reducePow, Nat.reduceMul, Int.reduceToNat, Int.reduceLE, Int.reduceEq, Int.reduceLT, Int.reduceBEq, Int.reduceBNe]) ?_; simp only [intsP, intP, List.map_nil, AW, Nat.reduceAdd, reduceCtorEq, Nat.reduceEqDiff, ↓reduceIte, Nat.reduceLT, Nat.reduceLeDiff, Nat.reduceSub, Nat.reducePow, Nat.reduceMul, Int.reduceToNat, Int.reduceLE, Int.reduceEq, Int.reduceLT, Int.reduceBEq, Int.reduceBNe]
      refine ops_call (hg) (by simp only [intsP, intP, AW, Nat.reduceAdd, reduceCtorEq, Nat.reduceEqDiff, ↓reduceIte, Nat.reduceLT, Nat.reduceLeDiff, Nat.reduceSub, Nat.reducePow, Nat.reduceMul, Int.reduceToNat, Int.reduceLE, Int.reduceEq, Int.reduceLT, Int.reduceBEq, Int.reduceBNe]) ?_; simp only [intsP, intP, AW, Nat.reduceAdd, reduceCtorEq, Nat.reduceEqDiff, ↓reduceIte, Nat.reduceLT, Nat.reduceLeDiff, Nat.reduceSub, Nat.reducePow, Nat.reduceMul, Int.reduceToNat, Int.reduceLE, Int.reduceEq, Int.reduceLT, Int.reduceBEq, Int.reduceBNe]
      (try refine drawnK rfl ?_); (try simp only [List.length_nil, z0, z1, z2, z3, AW, Nat.reduceAdd, reduceCtorEq, Nat.reduceEqDiff, ↓reduceIte, Nat.reduceLT, Nat.reduceLeDiff, Nat.reduceSub, Nat.reducePow, Nat.reduceMul, Int.reduceToNat, Int.reduceLE, Int.reduceEq, Int.reduceLT, Int.reduceBEq, Int.reduceBNe])
      refine ops_call (awake) (by simp only [AW, Nat.reduceAdd, reduceCtorEq, Nat.reduceEqDiff, ↓reduceIte, Nat.reduceLT, Nat.reduceLeDiff, Nat.reduceSub, Nat.reducePow, Nat.reduceMul, Int.reduceToNat, Int.reduceLE, Int.reduceEq, Int.reduceLT, Int.reduceBEq, Int.reduceBNe]) ?_; simp only [AW, Nat.reduceAdd, reduceCtorEq, Nat.reduceEqDiff, ↓reduceIte, Nat.reduceLT, Nat.reduceLeDiff, Nat.reduceSub, Nat.reducePow, Nat.reduceMul, Int.reduceToNat, Int.reduceLE, Int.reduceEq, Int.reduceLT, Int.reduceBEq, Int.reduceBNe]
      exact rfl
    · cases y
      · simp only [if_true, Bool.false_eq_true, if_false, List.map_cons, List.map_nil, AW, Nat.reduceAdd, reduceCtorEq, Nat.reduceEqDiff, ↓reduceIte, Nat.reduceLT, Nat.reduceLeDiff, Nat.reduceSub, Nat.reducePow, Nat.reduceMul, Int.reduceToNat, Int.reduceLE, Int.reduceEq, Int.reduceLT, Int.reduceBEq, Int.reduceBNe]
        refine ops_call (g1) (by simp only [intsP, intP, List.map_cons, List.map_nil, AW, Nat.reduceAdd, reduceCtorEq, Nat.reduceEqDiff, ↓reduceIte, Nat.reduceLT, Nat.reduceLeDiff, Nat.reduceSub, Nat.reducePow, Nat.reduceMul, Int.reduceToNat, Int.reduceLE, Int.reduceEq, Int.reduceLT, Int.reduceBEq, Int.reduceBNe]) ?_; simp only [intsP, intP, List.map_cons, List.map_nil, AW, Nat.reduceAdd, reduceCtorEq, Nat.reduceEqDiff, ↓reduceIte, Nat.reduceLT, Nat.reduceLeDiff, Nat.reduceSub, Nat.reducePow, Nat.reduceMul, Int.reduceToNat, Int.reduceLE, Int.reduceEq, Int.reduceLT, Int.reduceBEq, Int.reduceBNe]
        refine ops_call (hg) (by simp only [intsP, intP, AW, Nat.reduceAdd, reduceCtorEq, Nat.reduceEqDiff, ↓reduceIte, Nat.reduceLT, Nat.reduceLeDiff, Nat.reduceSub, Nat.reducePow, Nat.reduceMul, Int.reduceToNat, Int.reduceLE, Int.reduceEq, Int.reduceLT, Int.reduceBEq, Int.reduceBNe]) ?_; simp only [intsP, intP, AW, Nat.reduceAdd, reduceCtorEq, Nat.reduceEqDiff, ↓reduceIte, Nat.reduceLT, Nat.reduceLeDiff, Nat.reduceSub, Nat.reducePow, Nat.reduceMul, Int.reduceToNat, Int.reduceLE, Int.reduceEq, Int.reduceLT, Int.reduceBEq, Int.reduceBNe]
        (try refine drawnK rfl ?_); (try simp only [List.length_nil, List.length_cons, z0, z1, z2, z3, z4, z5, AW, Nat.reduceAdd, reduceCtorEq, Nat.reduceEqDiff, ↓reduceIte, Nat.reduceLT, Nat.reduceLeDiff, Nat.reduceSub, Nat.reducePow, Nat.reduceMul, Int.reduceToNat, Int.reduceLE, Int.reduceEq, Int.reduceLT, Int.reduceBEq, Int.reduceBNe])
        refine ops_call (awake) (by simp only [AW, Nat.reduceAdd, reduceCtorEq, Nat.reduceEqDiff, ↓reduceIte, Nat.reduceLT, Nat.reduceLeDiff, Nat.reduceSub, Nat.reducePow, Nat.reduceMul, Int.reduceToNat, Int.reduceLE, Int.reduceEq, Int.reduceLT, Int.reduceBEq, Int.reduceBNe]) ?_; simp only [AW, Nat.reduceAdd, reduceCtorEq, Nat.reduceEqDiff, ↓reduceIte, Nat.reduceLT, Nat.reduceLeDiff, Nat.reduceSub, Nat.reducePow, Nat.reduceMul, Int.reduceToNat, Int.reduceLE, Int.reduceEq, Int.reduceLT, Int.reduceBEq, Int.reduceBNe]
        exact rfl
      · simp only [if_true, List.map_cons, List.map_nil, AW, Nat.reduceAdd, reduceCtorEq, Nat.reduceEqDiff, ↓reduceIte, Nat.reduceLT, Nat.reduceLeDiff, Nat.reduceSub, Nat.reducePow, Nat.reduceMul, Int.reduceToNat, Int.reduceLE, Int.reduceEq, Int.reduceLT, Int.reduceBEq, Int.reduceBNe]
        refine ops_call (g1) (by simp only [intsP, intP, List.map_cons, List.map_nil, AW, Nat.reduceAdd, reduceCtorEq, Nat.reduceEqDiff, ↓reduceIte, Nat.reduceLT, Nat.reduceLeDiff, Nat.reduceSub, Nat.reducePow, Nat.reduceMul, Int.reduceToNat, Int.reduceLE, Int.reduceEq, Int.reduceLT, Int.reduceBEq, Int.reduceBNe]) ?_; simp only [intsP, intP, List.map_cons, List.map_nil, AW, Nat.reduceAdd, reduceCtorEq, Nat.reduceEqDiff, ↓reduceIte, Nat.reduceLT, Nat.reduceLeDiff, Nat.reduceSub, Nat.reducePow, Nat.reduceMul, Int.reduceToNat, Int.reduceLE, Int.reduceEq, Int.reduceLT, Int.reduceBEq, Int.reduceBNe]
        refine ops_call (hg) (by simp only [intsP, intP, AW, Nat.reduceAdd, reduceCtorEq, Nat.reduceEqDiff, ↓reduceIte, Nat.reduceLT, Nat.reduceLeDiff, Nat.reduceSub, Nat.reducePow, Nat.reduceMul, Int.reduceToNat, Int.reduceLE, Int.reduceEq, Int.reduceLT, Int.reduceBEq, Int.reduceBNe]) ?_; simp only [intsP, intP, AW, Nat.reduceAdd, reduceCtorEq, Nat.reduceEqDiff, ↓reduceIte, Nat.reduceLT, Nat.reduceLeDiff, Nat.reduceSub, Nat.reducePow, Nat.reduceMul, Int.reduceToNat, Int.reduceLE, Int.reduceEq, Int.reduceLT, Int.reduceBEq, Int.reduceBNe]
        (try refine drawnK rfl ?_); (try simp only [List.length_nil, List.length_cons, z0, z1, z2, z3, z4, z5, AW, Nat.reduceAdd, reduceCtorEq, Nat.reduceEqDiff, ↓reduceIte, Nat.reduceLT, Nat.reduceLeDiff, Nat.reduceSub, Nat.reducePow, Nat.reduceMul, Int.reduceToNat, Int.reduceLE, Int.reduceEq, Int.reduceLT, Int.reduceBEq, Int.reduceBNe])
        refine ops_call (awake) (by simp only [AW, Nat.reduceAdd, reduceCtorEq, Nat.reduceEqDiff, ↓reduceIte, Nat.reduceLT, Nat.reduceLeDiff, Nat.reduceSub, Nat.reducePow, Nat.reduceMul, Int.reduceToNat, Int.reduceLE, Int.reduceEq, Int.reduceLT, Int.reduceBEq, Int.reduceBNe]) ?_; simp only [AW, Nat.reduceAdd, reduceCtorEq, Nat.reduceEqDiff, ↓reduceIte, Nat.reduceLT, Nat.reduceLeDiff, Nat.reduceSub, Nat.reducePow, Nat.reduceMul, Int.reduceToNat, Int.reduceLE, Int.reduceEq, Int.reduceLT, Int.reduceBEq, Int.reduceBNe]
        exact rfl
  have dk : decide ((k : Int) < ((c.checks.length : Nat) : Int)) = true := by rw [decide_eq_true_eq]; exact Int.ofNat_lt.2 hltk
  have L1 : ((c.checks.take k).filter (mineB c.bike c.rules[i].kind)).length ≤ 41 := Nat.le_trans (List.length_filter_le _ _) (Nat.le_trans (List.length_take_le' _ _) (by omega))
  obtain ⟨g1, g2, -, -⟩ := cap41 L1
  simp only [dk, map_getD hltk, hltk, CheckS.pv, CheckS.vals, RuleS.pv, RuleS.vals, List.map_cons, List.map_nil, AW, Nat.reduceAdd, reduceCtorEq, Nat.reduceEqDiff, ↓reduceIte, Nat.reduceLT, Nat.reduceLeDiff, Nat.reduceSub, Nat.reducePow, Nat.reduceMul, Int.reduceToNat, Int.reduceLE, Int.reduceEq, Int.reduceLT, Int.reduceBEq, Int.reduceBNe]
  cases c7 : (c.checks[k].bike == c.bike)
  · (try simp only [map_getD hltk, hltk, CheckS.pv, CheckS.vals, RuleS.pv, RuleS.vals, List.map_cons, List.map_nil, g1, g2, and_self, AW, Nat.reduceAdd, reduceCtorEq, Nat.reduceEqDiff, ↓reduceIte, Nat.reduceLT, Nat.reduceLeDiff, Nat.reduceSub, Nat.reducePow, Nat.reduceMul, Int.reduceToNat, Int.reduceLE, Int.reduceEq, Int.reduceLT, Int.reduceBEq, Int.reduceBNe])
    (try refine drawnK rfl ?_); (try simp only [map_getD hltk, hltk, CheckS.pv, CheckS.vals, RuleS.pv, RuleS.vals, List.map_cons, List.map_nil, g1, g2, and_self, AW, Nat.reduceAdd, reduceCtorEq, Nat.reduceEqDiff, ↓reduceIte, Nat.reduceLT, Nat.reduceLeDiff, Nat.reduceSub, Nat.reducePow, Nat.reduceMul, Int.reduceToNat, Int.reduceLE, Int.reduceEq, Int.reduceLT, Int.reduceBEq, Int.reduceBNe])
    (try refine drawnK rfl ?_); (try simp only [map_getD hltk, hltk, CheckS.pv, CheckS.vals, RuleS.pv, RuleS.vals, List.map_cons, List.map_nil, g1, g2, and_self, AW, Nat.reduceAdd, reduceCtorEq, Nat.reduceEqDiff, ↓reduceIte, Nat.reduceLT, Nat.reduceLeDiff, Nat.reduceSub, Nat.reducePow, Nat.reduceMul, Int.reduceToNat, Int.reduceLE, Int.reduceEq, Int.reduceLT, Int.reduceBEq, Int.reduceBNe])
    (try simp only [wrap_succ hltk hlen, AW, Nat.reduceAdd, reduceCtorEq, Nat.reduceEqDiff, ↓reduceIte, Nat.reduceLT, Nat.reduceLeDiff, Nat.reduceSub, Nat.reducePow, Nat.reduceMul, Int.reduceToNat, Int.reduceLE, Int.reduceEq, Int.reduceLT, Int.reduceBEq, Int.reduceBNe])
    have eo : mineB c.bike c.rules[i].kind c.checks[k] = false := by simp [mineB, *]
    have es : (c.checks.take (k + 1)).filter (mineB c.bike c.rules[i].kind) = (c.checks.take k).filter (mineB c.bike c.rules[i].kind) := by
      rw [List.take_succ_eq_append_getElem hltk, List.filter_append]; simp [eo]
    refine ⟨k + 1, hltk, ?_, meas_lt hltk⟩
    simp only [LW, Nat.reduceMod, Nat.reduceDiv, es, List.map_append, CheckS.pv, CheckS.vals, RuleS.pv, RuleS.vals, List.map_cons, List.map_nil, AW, Nat.reduceAdd, reduceCtorEq, Nat.reduceEqDiff, ↓reduceIte, Nat.reduceLT, Nat.reduceLeDiff, Nat.reduceSub, Nat.reducePow, Nat.reduceMul, Int.reduceToNat, Int.reduceLE, Int.reduceEq, Int.reduceLT, Int.reduceBEq, Int.reduceBNe]
  (try simp only [map_getD hltk, hltk, CheckS.pv, CheckS.vals, RuleS.pv, RuleS.vals, List.map_cons, List.map_nil, g1, g2, and_self, AW, Nat.reduceAdd, reduceCtorEq, Nat.reduceEqDiff, ↓reduceIte, Nat.reduceLT, Nat.reduceLeDiff, Nat.reduceSub, Nat.reducePow, Nat.reduceMul, Int.reduceToNat, Int.reduceLE, Int.reduceEq, Int.reduceLT, Int.reduceBEq, Int.reduceBNe])
  cases c8 : (c.checks[k].kind == c.rules[i].kind)
  · (try simp only [map_getD hltk, hltk, CheckS.pv, CheckS.vals, RuleS.pv, RuleS.vals, List.map_cons, List.map_nil, g1, g2, and_self, AW, Nat.reduceAdd, reduceCtorEq, Nat.reduceEqDiff, ↓reduceIte, Nat.reduceLT, Nat.reduceLeDiff, Nat.reduceSub, Nat.reducePow, Nat.reduceMul, Int.reduceToNat, Int.reduceLE, Int.reduceEq, Int.reduceLT, Int.reduceBEq, Int.reduceBNe])
    (try refine drawnK rfl ?_); (try simp only [map_getD hltk, hltk, CheckS.pv, CheckS.vals, RuleS.pv, RuleS.vals, List.map_cons, List.map_nil, g1, g2, and_self, AW, Nat.reduceAdd, reduceCtorEq, Nat.reduceEqDiff, ↓reduceIte, Nat.reduceLT, Nat.reduceLeDiff, Nat.reduceSub, Nat.reducePow, Nat.reduceMul, Int.reduceToNat, Int.reduceLE, Int.reduceEq, Int.reduceLT, Int.reduceBEq, Int.reduceBNe])
    (try refine drawnK rfl ?_); (try simp only [map_getD hltk, hltk, CheckS.pv, CheckS.vals, RuleS.pv, RuleS.vals, List.map_cons, List.map_nil, g1, g2, and_self, AW, Nat.reduceAdd, reduceCtorEq, Nat.reduceEqDiff, ↓reduceIte, Nat.reduceLT, Nat.reduceLeDiff, Nat.reduceSub, Nat.reducePow, Nat.reduceMul, Int.reduceToNat, Int.reduceLE, Int.reduceEq, Int.reduceLT, Int.reduceBEq, Int.reduceBNe])
    (try simp only [wrap_succ hltk hlen, AW, Nat.reduceAdd, reduceCtorEq, Nat.reduceEqDiff, ↓reduceIte, Nat.reduceLT, Nat.reduceLeDiff, Nat.reduceSub, Nat.reducePow, Nat.reduceMul, Int.reduceToNat, Int.reduceLE, Int.reduceEq, Int.reduceLT, Int.reduceBEq, Int.reduceBNe])
    have eo : mineB c.bike c.rules[i].kind c.checks[k] = false := by simp [mineB, *]
    have es : (c.checks.take (k + 1)).filter (mineB c.bike c.rules[i].kind) = (c.checks.take k).filter (mineB c.bike c.rules[i].kind) := by
      rw [List.take_succ_eq_append_getElem hltk, List.filter_append]; simp [eo]
    refine ⟨k + 1, hltk, ?_, meas_lt hltk⟩
    simp only [LW, Nat.reduceMod, Nat.reduceDiv, es, List.map_append, CheckS.pv, CheckS.vals, RuleS.pv, RuleS.vals, List.map_cons, List.map_nil, AW, Nat.reduceAdd, reduceCtorEq, Nat.reduceEqDiff, ↓reduceIte, Nat.reduceLT, Nat.reduceLeDiff, Nat.reduceSub, Nat.reducePow, Nat.reduceMul, Int.reduceToNat, Int.reduceLE, Int.reduceEq, Int.reduceLT, Int.reduceBEq, Int.reduceBNe]
  (try simp only [map_getD hltk, hltk, CheckS.pv, CheckS.vals, RuleS.pv, RuleS.vals, List.map_cons, List.map_nil, g1, g2, and_self, AW, Nat.reduceAdd, reduceCtorEq, Nat.reduceEqDiff, ↓reduceIte, Nat.reduceLT, Nat.reduceLeDiff, Nat.reduceSub, Nat.reducePow, Nat.reduceMul, Int.reduceToNat, Int.reduceLE, Int.reduceEq, Int.reduceLT, Int.reduceBEq, Int.reduceBNe])
  (try refine drawnK rfl ?_); (try simp only [map_getD hltk, hltk, CheckS.pv, CheckS.vals, RuleS.pv, RuleS.vals, List.map_cons, List.map_nil, g1, g2, and_self, AW, Nat.reduceAdd, reduceCtorEq, Nat.reduceEqDiff, ↓reduceIte, Nat.reduceLT, Nat.reduceLeDiff, Nat.reduceSub, Nat.reducePow, Nat.reduceMul, Int.reduceToNat, Int.reduceLE, Int.reduceEq, Int.reduceLT, Int.reduceBEq, Int.reduceBNe])
  (try refine drawnK rfl ?_); (try simp only [map_getD hltk, hltk, CheckS.pv, CheckS.vals, RuleS.pv, RuleS.vals, List.map_cons, List.map_nil, g1, g2, and_self, AW, Nat.reduceAdd, reduceCtorEq, Nat.reduceEqDiff, ↓reduceIte, Nat.reduceLT, Nat.reduceLeDiff, Nat.reduceSub, Nat.reducePow, Nat.reduceMul, Int.reduceToNat, Int.reduceLE, Int.reduceEq, Int.reduceLT, Int.reduceBEq, Int.reduceBNe])
  (try simp only [wrap_succ hltk hlen, AW, Nat.reduceAdd, reduceCtorEq, Nat.reduceEqDiff, ↓reduceIte, Nat.reduceLT, Nat.reduceLeDiff, Nat.reduceSub, Nat.reducePow, Nat.reduceMul, Int.reduceToNat, Int.reduceLE, Int.reduceEq, Int.reduceLT, Int.reduceBEq, Int.reduceBNe])
  have eo : mineB c.bike c.rules[i].kind c.checks[k] = true := by simp [mineB, *]
  have es : (c.checks.take (k + 1)).filter (mineB c.bike c.rules[i].kind) = (c.checks.take k).filter (mineB c.bike c.rules[i].kind) ++ [c.checks[k]] := by
    rw [List.take_succ_eq_append_getElem hltk, List.filter_append]; simp [eo]
  refine ⟨k + 1, hltk, ?_, meas_lt hltk⟩
  simp only [LW, Nat.reduceMod, Nat.reduceDiv, es, List.map_append, CheckS.pv, CheckS.vals, RuleS.pv, RuleS.vals, List.map_cons, List.map_nil, AW, Nat.reduceAdd, reduceCtorEq, Nat.reduceEqDiff, ↓reduceIte, Nat.reduceLT, Nat.reduceLeDiff, Nat.reduceSub, Nat.reducePow, Nat.reduceMul, Int.reduceToNat, Int.reduceLE, Int.reduceEq, Int.reduceLT, Int.reduceBEq, Int.reduceBNe]


end Go.Proofs.Ytnjgckkbhlcjoaa
