/-
  Inspections: what is due remains so until the next inspection.
-/
import Derived.Test.YtnjgckkbhlcjoaaIr
namespace Go.Proofs.Ytnjgckkbhlcjoaa
open Go.RowKit
set_option linter.unusedVariables false
set_option linter.unusedSimpArgs false
set_option linter.unnecessarySimpa false

theorem addS_pos {b f t : Int} {r : RideS} (h : checkL r = 0) {k : Nat} (hk : k < r.legs.length) : 0 ≤ addS b f t r k r.legs[k] := by
  obtain ⟨h1, h2, h3, _⟩ := check_parts h
  have hord : legOrd r k := by
    simp only [orderedL, Bool.and_eq_true, decide_eq_true_eq] at h3
    exact h3.1.1 k
  have hl := hord hk
  unfold addS
  split
  · rename_i hc
    rcases hl with hl | ⟨hl, hl2⟩
    · omega
    · rcases hc.2 with hc | hc
      · rw [hl] at hc; cases hc
      · omega
  · omega
theorem legM_mono {b f t t' : Int} {x : LegS} (ht : t ≤ t') (h : legM b f t x = true) : legM b f t' x = true := by
  simp only [legM, Bool.and_eq_true, decide_eq_true_eq] at h ⊢
  exact ⟨h.1, h.2.1, by omega⟩
theorem addN_mono {b f t t' : Int} (ht : t ≤ t') (x : LegS) : addN b f t x ≤ addN b f t' x := by
  unfold addN
  cases h : legM b f t x
  · simp only [Bool.false_eq_true, if_false]; split <;> omega
  · rw [legM_mono ht h]; exact Int.le_refl _
theorem addS_mono {b f t t' : Int} {r : RideS} (ht : t ≤ t') (h : checkL r = 0) {k : Nat} (hk : k < r.legs.length) : addS b f t r k r.legs[k] ≤ addS b f t' r k r.legs[k] := by
  cases hm : legM b f t r.legs[k]
  · have e : addS b f t r k r.legs[k] = 0 := by unfold addS; rw [hm]; simp
    rw [e]; exact addS_pos h hk
  · unfold addS; rw [hm, legM_mono ht hm]; exact Int.le_refl _
theorem legN_mono {b f t t' : Int} (ht : t ≤ t') (r : RideS) : ∀ k, k ≤ r.legs.length → legN b f t r k ≤ legN b f t' r k
  | 0, _ => by simp [legN]
  | k + 1, h => by
    have h1 := legN_mono (b := b) (f := f) ht r k (by omega)
    have h2 := addN_mono (b := b) (f := f) ht r.legs[k]
    rw [legN_succ (by omega), legN_succ (by omega)]; omega
theorem legS_mono {b f t t' : Int} (ht : t ≤ t') {r : RideS} (hr : checkL r = 0) : ∀ k, k ≤ r.legs.length → legS b f t r k ≤ legS b f t' r k
  | 0, _ => by simp [legS]
  | k + 1, h => by
    have h1 := legS_mono (b := b) (f := f) ht hr k (by omega)
    have h2 := addS_mono (b := b) (f := f) ht hr (show k < r.legs.length by omega)
    rw [legS_succ (by omega), legS_succ (by omega)]; omega
theorem useN_mono {b f t t' : Int} (ht : t ≤ t') (rs : List RideS) : ∀ k, k ≤ rs.length → useN b f t rs k ≤ useN b f t' rs k
  | 0, _ => by simp [useN]
  | k + 1, h => by
    have h1 := useN_mono (b := b) (f := f) ht rs k (by omega)
    have h2 := legN_mono (b := b) (f := f) ht rs[k] _ (Nat.le_refl _)
    rw [useN_succ (by omega), useN_succ (by omega)]; omega
theorem useS_mono {b f t t' : Int} (ht : t ≤ t') {rs : List RideS} (hr : ∀ r ∈ rs, checkL r = 0) : ∀ k, k ≤ rs.length → useS b f t rs k ≤ useS b f t' rs k
  | 0, _ => by simp [useS]
  | k + 1, h => by
    have h1 := useS_mono (b := b) (f := f) ht hr k (by omega)
    have h2 := legS_mono (b := b) (f := f) ht (hr _ (List.getElem_mem (show k < rs.length by omega))) _ (Nat.le_refl _)
    rw [useS_succ (by omega), useS_succ (by omega)]; omega
theorem ofW_ok {w : WearS} {rs : List RideS} {b k f t : Int} (h : (ofW w rs b k f t).2 = 0) :
    wearC w = 0 ∧ ¬(k < 0 ∨ (w.hour.length : Int) ≤ k) ∧ winE b f t rs = 0 ∧ (ofW w rs b k f t).1 = wornL w k.toNat (useN b f t rs rs.length) (useS b f t rs rs.length) := by
  unfold ofW at h ⊢
  split at h
  · rename_i h1; exact absurd h h1
  split at h
  · simp at h
  split at h
  · rename_i h1; exact absurd h h1
  rename_i h1 h2 h3
  rw [if_neg h1, if_neg h2, if_neg h3]
  exact ⟨by simpa using h1, h2, by simpa using h3, rfl⟩
theorem wornL_mono {w : WearS} (hw : wearC w = 0) {k : Nat} (hk : k < w.hour.length) {n n' s s' : Int} (h1 : n ≤ n') (h2 : s ≤ s') : wornL w k n s ≤ wornL w k n' s' := by
  obtain ⟨q1, q2, q3, q4, q5⟩ := wear_ok hw
  have hk2 : k < w.ride.length := by omega
  have r1 := q5 _ (List.getElem_mem hk2)
  have r2 := q4 _ (List.getElem_mem hk)
  simp only [wornL, List.getD_eq_getElem?_getD, List.getElem?_eq_getElem hk, List.getElem?_eq_getElem hk2, Option.getD_some]
  have a1 := Int.mul_le_mul_of_nonneg_left h1 r1.1
  have a2 := Int.ediv_le_ediv (show (0 : Int) < 3600 by decide) (Int.mul_le_mul_of_nonneg_left h2 r2.1)
  omega
theorem winE_now {b f t t' : Int} {rs : List RideS} (hb : 0 ≤ b ∧ b < 128) (hf : 0 ≤ f ∧ f ≤ t) (ht : t ≤ t') (h : t' ≤ 4294944000) : winE b f t rs = winE b f t' rs := by
  have e1 : ¬(b < 0 ∨ 128 ≤ b ∨ f < 0 ∨ t < f ∨ 4294944000 < t) := by omega
  have e2 : ¬(b < 0 ∨ 128 ≤ b ∨ f < 0 ∨ t' < f ∨ 4294944000 < t') := by omega
  unfold winE; rw [if_neg e1, if_neg e2]
theorem ofW_now {w : WearS} {b f t t' : Int} {rs : List RideS} (k : Int) (hb : 0 ≤ b ∧ b < 128) (hf : 0 ≤ f ∧ f ≤ t) (ht : t ≤ t') (h : t' ≤ 4294944000) : (ofW w rs b k f t).2 = (ofW w rs b k f t').2 := by
  unfold ofW
  rw [winE_now hb hf ht h]
  split
  · rfl
  split
  · rfl
  split
  · rfl
  · rfl
theorem ofW_mono {w : WearS} {b k f t t' : Int} {rs : List RideS} (ht : t ≤ t') (h1 : (ofW w rs b k f t).2 = 0) (h2 : (ofW w rs b k f t').2 = 0) : (ofW w rs b k f t).1 ≤ (ofW w rs b k f t').1 := by
  obtain ⟨a1, a2, a3, a4⟩ := ofW_ok h1
  obtain ⟨-, -, -, b4⟩ := ofW_ok h2
  rw [a4, b4]
  obtain ⟨-, -, -, -, -, -, p7⟩ := win_ok a3
  exact wornL_mono a1 (by omega) (useN_mono ht rs _ (Nat.le_refl _)) (useS_mono ht p7 _ (Nat.le_refl _))
theorem lastL_now {l : List CheckS} {b k now later : Int} (ht : now ≤ later) (h : ∀ x ∈ l, ¬(x.bike = b ∧ now < x.at_ ∧ x.at_ ≤ later)) : lastL l b k later = lastL l b k now := by
  unfold lastL
  suffices ∀ (m : Option CheckS), l.foldl (stepB b k later) m = l.foldl (stepB b k now) m from this none
  induction l with
  | nil => intro m; rfl
  | cons x l ih =>
    intro m
    rw [List.foldl_cons, List.foldl_cons]
    have e : stepB b k later m x = stepB b k now m x := by
      have hx := h x List.mem_cons_self
      have em : matchB b k later x = matchB b k now x := by
        unfold matchB
        by_cases hb : x.bike = b
        · by_cases h1 : x.at_ ≤ now
          · rw [decide_eq_true h1, decide_eq_true (show x.at_ ≤ later by omega)]
          · rw [decide_eq_false h1, decide_eq_false (show ¬ x.at_ ≤ later by omega)]
        · rw [beq_false_of_ne hb, Bool.false_and, Bool.false_and]
      unfold stepB; rw [em]
    rw [e]
    exact ih (fun y hy => h y (List.mem_cons_of_mem _ hy)) _
theorem errR_now {l : List CheckS} {w : WearS} {rs : List RideS} {b now later : Int} (hc : checksL l = 0) (hb : 0 ≤ b ∧ b < 128) (h0 : 0 ≤ now) (ht : now ≤ later) (h9 : later ≤ 4294943999) (h : ∀ x ∈ l, ¬(x.bike = b ∧ now < x.at_ ∧ x.at_ ≤ later)) (r : RuleS) : errR l w rs b later r = errR l w rs b now r := by
  unfold errR wornR
  rw [lastL_now ht h]
  have := lastK_at (b := b) (k := r.kind) hc h0
  exact (ofW_now r.kind hb ⟨this.1, by omega⟩ (by omega) (by omega)).symm
theorem stays_err {rules : List RuleS} {l : List CheckS} {w : WearS} {rs : List RideS} {b now later : Int} (h0 : 0 ≤ now) (ht : now ≤ later) (h9 : later ≤ 4294943999) (h : ∀ x ∈ l, ¬(x.bike = b ∧ now < x.at_ ∧ x.at_ ≤ later)) : (dueL rules l w rs b later).2 = (dueL rules l w rs b now).2 := by
  by_cases h1 : rulesL rules = 0
  · by_cases h2 : checksL l = 0
    · by_cases h3 : 0 ≤ b ∧ b < 128
      · have e : errR l w rs b later = errR l w rs b now := funext (errR_now h2 h3 h0 ht h9 h)
        by_cases h4 : firstE (errR l w rs b now) rules = 0
        · rw [dueL_5 h1 h2 (by omega) h4, dueL_5 h1 h2 (by omega) (by rw [e]; exact h4)]
        · rw [dueL_4 h1 h2 (by omega) h4, dueL_4 h1 h2 (by omega) (by rw [e]; exact h4), e]
      · rw [dueL_3 h1 h2 (by omega), dueL_3 h1 h2 (by omega)]
    · rw [dueL_2 h1 h2, dueL_2 h1 h2]
  · rw [dueL_1 h1, dueL_1 h1]
theorem stays_has {rules : List RuleS} {l : List CheckS} {w : WearS} {rs : List RideS} {b now later : Int} (h0 : 0 ≤ now) (ht : now ≤ later) (h9 : later ≤ 4294943999) (h : ∀ x ∈ l, ¬(x.bike = b ∧ now < x.at_ ∧ x.at_ ≤ later)) (n : Int) (hn : n ∈ (dueL rules l w rs b now).1) : hasL (dueL rules l w rs b later).1 n = true := by
  by_cases hz : (dueL rules l w rs b now).2 = 0
  · have hz2 := (stays_err (rules := rules) (w := w) (rs := rs) h0 ht h9 h).trans hz
    obtain ⟨h1, h2, h3, h4, h5⟩ := due_ok hz
    obtain ⟨-, -, -, k4, k5⟩ := due_ok hz2
    rw [h5, outR_all] at hn
    obtain ⟨r, hr, rfl⟩ := List.mem_map.1 hn
    obtain ⟨hr, hd⟩ := List.mem_filter.1 hr
    rw [k5, has_out h1 hr]
    have e1 := h4 r hr
    have e2 := k4 r hr
    unfold errR at e1 e2
    unfold dueR at hd ⊢
    unfold wornR at *
    rw [lastL_now ht h] at *
    have hm := ofW_mono (by omega) e1 e2
    unfold reasonB at *
    simp only [Bool.or_eq_true, decide_eq_true_eq] at hd ⊢
    rcases hd with hd | hd | hd
    · exact .inl hd
    · exact .inr (.inl (by omega))
    · exact .inr (.inr (by omega))
  · rw [due_bad hz] at hn; cases hn
set_option maxHeartbeats 4000000 in
theorem inspectStays_good (c : CaseS) (later : Int) : Good Try.prog 8 [c.pv, intP later] (.sc (.bool true)) := by
  refine good8 (by simp) ?_
  simp only [ac8, CaseS.pv, intP, AW, Nat.reduceAdd, reduceCtorEq, Nat.reduceEqDiff, ↓reduceIte, Nat.reduceLT, Nat.reduceLeDiff, Nat.reduceSub, Nat.reducePow, Nat.reduceMul, Int.reduceToNat, Int.reduceLE, Int.reduceEq, Int.reduceLT, Int.reduceBEq, Int.reduceBNe]
  refine ops_call (few_g c) (by simp only [CaseS.pv, AW, Nat.reduceAdd, reduceCtorEq, Nat.reduceEqDiff, ↓reduceIte, Nat.reduceLT, Nat.reduceLeDiff, Nat.reduceSub, Nat.reducePow, Nat.reduceMul, Int.reduceToNat, Int.reduceLE, Int.reduceEq, Int.reduceLT, Int.reduceBEq, Int.reduceBNe]) ?_; simp only [CaseS.pv, AW, Nat.reduceAdd, reduceCtorEq, Nat.reduceEqDiff, ↓reduceIte, Nat.reduceLT, Nat.reduceLeDiff, Nat.reduceSub, Nat.reducePow, Nat.reduceMul, Int.reduceToNat, Int.reduceLE, Int.reduceEq, Int.reduceLT, Int.reduceBEq, Int.reduceBNe]
  cases hf : fewC c
  · simp only [AW, Nat.reduceAdd, reduceCtorEq, Nat.reduceEqDiff, ↓reduceIte, Nat.reduceLT, Nat.reduceLeDiff, Nat.reduceSub, Nat.reducePow, Nat.reduceMul, Int.reduceToNat, Int.reduceLE, Int.reduceEq, Int.reduceLT, Int.reduceBEq, Int.reduceBNe]; refine ops_call (awake) (by simp only [AW, Nat.reduceAdd, reduceCtorEq, Nat.reduceEqDiff, ↓reduceIte, Nat.reduceLT, Nat.reduceLeDiff, Nat.reduceSub, Nat.reducePow, Nat.reduceMul, Int.reduceToNat, Int.reduceLE, Int.reduceEq, Int.reduceLT, Int.reduceBEq, Int.reduceBNe]) ?_; simp only [AW, Nat.reduceAdd, reduceCtorEq, Nat.reduceEqDiff, ↓reduceIte, Nat.reduceLT, Nat.reduceLeDiff, Nat.reduceSub, Nat.reducePow, Nat.reduceMul, Int.reduceToNat, Int.reduceLE, Int.reduceEq, Int.reduceLT, Int.reduceBEq, Int.reduceBNe]
  obtain ⟨f1, f2, f3⟩ := fewC_ok hf
  have hlen : c.checks.length ≤ maxLen := by unfold maxLen; omega
  simp only [AW, Nat.reduceAdd, reduceCtorEq, Nat.reduceEqDiff, ↓reduceIte, Nat.reduceLT, Nat.reduceLeDiff, Nat.reduceSub, Nat.reducePow, Nat.reduceMul, Int.reduceToNat, Int.reduceLE, Int.reduceEq, Int.reduceLT, Int.reduceBEq, Int.reduceBNe]
  cases c1 : decide (c.now < 0)
  rotate_left
  · simp only [AW, Nat.reduceAdd, reduceCtorEq, Nat.reduceEqDiff, ↓reduceIte, Nat.reduceLT, Nat.reduceLeDiff, Nat.reduceSub, Nat.reducePow, Nat.reduceMul, Int.reduceToNat, Int.reduceLE, Int.reduceEq, Int.reduceLT, Int.reduceBEq, Int.reduceBNe]; refine ops_call (awake) (by simp only [AW, Nat.reduceAdd, reduceCtorEq, Nat.reduceEqDiff, ↓reduceIte, Nat.reduceLT, Nat.reduceLeDiff, Nat.reduceSub, Nat.reducePow, Nat.reduceMul, Int.reduceToNat, Int.reduceLE, Int.reduceEq, Int.reduceLT, Int.reduceBEq, Int.reduceBNe]) ?_; simp only [AW, Nat.reduceAdd, reduceCtorEq, Nat.reduceEqDiff, ↓reduceIte, Nat.reduceLT, Nat.reduceLeDiff, Nat.reduceSub, Nat.reducePow, Nat.reduceMul, Int.reduceToNat, Int.reduceLE, Int.reduceEq, Int.reduceLT, Int.reduceBEq, Int.reduceBNe]
  simp only [AW, Nat.reduceAdd, reduceCtorEq, Nat.reduceEqDiff, ↓reduceIte, Nat.reduceLT, Nat.reduceLeDiff, Nat.reduceSub, Nat.reducePow, Nat.reduceMul, Int.reduceToNat, Int.reduceLE, Int.reduceEq, Int.reduceLT, Int.reduceBEq, Int.reduceBNe]
  cases c2 : decide (later < c.now)
  rotate_left
  · simp only [AW, Nat.reduceAdd, reduceCtorEq, Nat.reduceEqDiff, ↓reduceIte, Nat.reduceLT, Nat.reduceLeDiff, Nat.reduceSub, Nat.reducePow, Nat.reduceMul, Int.reduceToNat, Int.reduceLE, Int.reduceEq, Int.reduceLT, Int.reduceBEq, Int.reduceBNe]; refine ops_call (awake) (by simp only [AW, Nat.reduceAdd, reduceCtorEq, Nat.reduceEqDiff, ↓reduceIte, Nat.reduceLT, Nat.reduceLeDiff, Nat.reduceSub, Nat.reducePow, Nat.reduceMul, Int.reduceToNat, Int.reduceLE, Int.reduceEq, Int.reduceLT, Int.reduceBEq, Int.reduceBNe]) ?_; simp only [AW, Nat.reduceAdd, reduceCtorEq, Nat.reduceEqDiff, ↓reduceIte, Nat.reduceLT, Nat.reduceLeDiff, Nat.reduceSub, Nat.reducePow, Nat.reduceMul, Int.reduceToNat, Int.reduceLE, Int.reduceEq, Int.reduceLT, Int.reduceBEq, Int.reduceBNe]
  simp only [AW, Nat.reduceAdd, reduceCtorEq, Nat.reduceEqDiff, ↓reduceIte, Nat.reduceLT, Nat.reduceLeDiff, Nat.reduceSub, Nat.reducePow, Nat.reduceMul, Int.reduceToNat, Int.reduceLE, Int.reduceEq, Int.reduceLT, Int.reduceBEq, Int.reduceBNe]
  cases c3 : decide ((4294943999 : Int) < later)
  rotate_left
  · simp only [AW, Nat.reduceAdd, reduceCtorEq, Nat.reduceEqDiff, ↓reduceIte, Nat.reduceLT, Nat.reduceLeDiff, Nat.reduceSub, Nat.reducePow, Nat.reduceMul, Int.reduceToNat, Int.reduceLE, Int.reduceEq, Int.reduceLT, Int.reduceBEq, Int.reduceBNe]; refine ops_call (awake) (by simp only [AW, Nat.reduceAdd, reduceCtorEq, Nat.reduceEqDiff, ↓reduceIte, Nat.reduceLT, Nat.reduceLeDiff, Nat.reduceSub, Nat.reducePow, Nat.reduceMul, Int.reduceToNat, Int.reduceLE, Int.reduceEq, Int.reduceLT, Int.reduceBEq, Int.reduceBNe]) ?_; simp only [AW, Nat.reduceAdd, reduceCtorEq, Nat.reduceEqDiff, ↓reduceIte, Nat.reduceLT, Nat.reduceLeDiff, Nat.reduceSub, Nat.reducePow, Nat.reduceMul, Int.reduceToNat, Int.reduceLE, Int.reduceEq, Int.reduceLT, Int.reduceBEq, Int.reduceBNe]
  simp only [AW, Nat.reduceAdd, reduceCtorEq, Nat.reduceEqDiff, ↓reduceIte, Nat.reduceLT, Nat.reduceLeDiff, Nat.reduceSub, Nat.reducePow, Nat.reduceMul, Int.reduceToNat, Int.reduceLE, Int.reduceEq, Int.reduceLT, Int.reduceBEq, Int.reduceBNe]
  rw [decide_eq_false_iff_not] at c1 c2 c3
  refine ops_call (due_c c) (by simp only [CaseS.pv, dueP, intP, AW, Nat.reduceAdd, reduceCtorEq, Nat.reduceEqDiff, ↓reduceIte, Nat.reduceLT, Nat.reduceLeDiff, Nat.reduceSub, Nat.reducePow, Nat.reduceMul, Int.reduceToNat, Int.reduceLE, Int.reduceEq, Int.reduceLT, Int.reduceBEq, Int.reduceBNe]) ?_; simp only [CaseS.pv, dueP, intP, AW, Nat.reduceAdd, reduceCtorEq, Nat.reduceEqDiff, ↓reduceIte, Nat.reduceLT, Nat.reduceLeDiff, Nat.reduceSub, Nat.reducePow, Nat.reduceMul, Int.reduceToNat, Int.reduceLE, Int.reduceEq, Int.reduceLT, Int.reduceBEq, Int.reduceBNe]
  refine run_loop (ι := Nat) (fun k => ⟨[(1, .sc (.int .i64 later)), (2, .ptr 0 0), (5, .sl ((dueC c).1.map intP)), (6, .sc (.int .i64 (dueC c).2)), (7, .sc (.int .i64 (k : Int)))], [(0, .var [.sl (c.rules.map RuleS.pv), .sl (c.checks.map CheckS.pv), .sl (c.wear.hour.map intP), .sl (c.wear.ride.map intP), .sl (c.rides.map RideS.pv), .sc (.int .i64 c.bike), .sc (.int .i64 c.now)])], 28, 97⟩) (fun k => k ≤ c.checks.length ∧ (∀ j (hj : j < c.checks.length), j < k → ¬(c.checks[j].bike = c.bike ∧ c.now < c.checks[j].at_ ∧ c.checks[j].at_ ≤ later))) (fun k => c.checks.length - k) 28 (fun _ => rfl) 0 (by simp only [LW, Nat.reduceMod, Nat.reduceDiv, Int.natCast_zero, AW, Nat.reduceAdd, reduceCtorEq, Nat.reduceEqDiff, ↓reduceIte, Nat.reduceLT, Nat.reduceLeDiff, Nat.reduceSub, Nat.reducePow, Nat.reduceMul, Int.reduceToNat, Int.reduceLE, Int.reduceEq, Int.reduceLT, Int.reduceBEq, Int.reduceBNe]) ⟨Nat.zero_le _, nofun⟩ (fun k hk => ?_)
  obtain ⟨gk, ik⟩ := hk
  by_cases hltk : k < c.checks.length
  rotate_left
  · have dk : decide ((k : Int) < ((c.checks.length : Nat) : Int)) = false := by rw [decide_eq_false_iff_not]; exact fun h => hltk (Int.ofNat_lt.1 h)
    have ek : k = c.checks.length := Nat.le_antisymm gk (Nat.le_of_not_lt hltk)
    subst ek
    have hall : ∀ x ∈ c.checks, ¬(x.bike = c.bike ∧ c.now < x.at_ ∧ x.at_ ≤ later) := fun x hx => by
      obtain ⟨j, hj, rfl⟩ := List.mem_iff_getElem.1 hx
      exact ik j hj hj
    have se := stays_err (rules := c.rules) (w := c.wear) (rs := c.rides) (by omega) (by omega) (by omega) hall
    have sh := stays_has (rules := c.rules) (w := c.wear) (rs := c.rides) (by omega) (by omega) (by omega) hall
    have gd : Good Try.prog _ _ (dueP (dueL c.rules c.checks c.wear c.rides c.bike later)) := due_c ⟨c.rules, c.checks, c.wear, c.rides, c.bike, later⟩
    have al : (dueL c.rules c.checks c.wear c.rides c.bike c.now).1.length ≤ maxLen := by
      by_cases hz : (dueL c.rules c.checks c.wear c.rides c.bike c.now).2 = 0
      · obtain ⟨h1, -, -, -, h5⟩ := due_ok hz
        rw [h5]; have := outR_len c.rules c.checks c.wear c.rides c.bike c.now c.rules.length (rules_len h1); unfold maxLen; omega
      · rw [due_bad hz]; exact Nat.zero_le _
    clear ik gk hltk
    simp only [dk, AW, Nat.reduceAdd, reduceCtorEq, Nat.reduceEqDiff, ↓reduceIte, Nat.reduceLT, Nat.reduceLeDiff, Nat.reduceSub, Nat.reducePow, Nat.reduceMul, Int.reduceToNat, Int.reduceLE, Int.reduceEq, Int.reduceLT, Int.reduceBEq, Int.reduceBNe]
    refine ops_call (gd) (by simp only [CaseS.pv, dueP, intP, AW, Nat.reduceAdd, reduceCtorEq, Nat.reduceEqDiff, ↓reduceIte, Nat.reduceLT, Nat.reduceLeDiff, Nat.reduceSub, Nat.reducePow, Nat.reduceMul, Int.reduceToNat, Int.reduceLE, Int.reduceEq, Int.reduceLT, Int.reduceBEq, Int.reduceBNe]) ?_; simp only [CaseS.pv, dueP, intP, AW, Nat.reduceAdd, reduceCtorEq, Nat.reduceEqDiff, ↓reduceIte, Nat.reduceLT, Nat.reduceLeDiff, Nat.reduceSub, Nat.reducePow, Nat.reduceMul, Int.reduceToNat, Int.reduceLE, Int.reduceEq, Int.reduceLT, Int.reduceBEq, Int.reduceBNe]
    rw [se]
    unfold dueC
    generalize (dueL c.rules c.checks c.wear c.rides c.bike c.now).1 = A at *
    generalize (dueL c.rules c.checks c.wear c.rides c.bike later).1 = B at *
    generalize (dueL c.rules c.checks c.wear c.rides c.bike c.now).2 = e at *
    have e1 : (e != e) = false := by simp
    simp only [e1, AW, Nat.reduceAdd, reduceCtorEq, Nat.reduceEqDiff, ↓reduceIte, Nat.reduceLT, Nat.reduceLeDiff, Nat.reduceSub, Nat.reducePow, Nat.reduceMul, Int.reduceToNat, Int.reduceLE, Int.reduceEq, Int.reduceLT, Int.reduceBEq, Int.reduceBNe]
    refine run_loop (ι := Nat) (fun i => ⟨[(5, .sl (A.map intP)), (8, .sl (B.map intP)), (10, .sc (.int .i64 (i : Int)))], [(0, .var [.sl (c.rules.map RuleS.pv), .sl (c.checks.map CheckS.pv), .sl (c.wear.hour.map intP), .sl (c.wear.ride.map intP), .sl (c.rides.map RideS.pv), .sc (.int .i64 c.bike), .sc (.int .i64 later)])], 47, 97⟩) (fun i => i ≤ A.length) (fun i => A.length - i) 47 (fun _ => rfl) 0 (by simp only [LW, Nat.reduceMod, Nat.reduceDiv, Int.natCast_zero, AW, Nat.reduceAdd, reduceCtorEq, Nat.reduceEqDiff, ↓reduceIte, Nat.reduceLT, Nat.reduceLeDiff, Nat.reduceSub, Nat.reducePow, Nat.reduceMul, Int.reduceToNat, Int.reduceLE, Int.reduceEq, Int.reduceLT, Int.reduceBEq, Int.reduceBNe]) (Nat.zero_le _) (fun i hi => ?_)
    have gi := hi
    by_cases hlti : i < A.length
    rotate_left
    · have di : decide ((i : Int) < ((A.length : Nat) : Int)) = false := by rw [decide_eq_false_iff_not]; exact fun h => hlti (Int.ofNat_lt.1 h)
      have ei : i = A.length := Nat.le_antisymm gi (Nat.le_of_not_lt hlti)
      subst ei
      simp only [di, AW, Nat.reduceAdd, reduceCtorEq, Nat.reduceEqDiff, ↓reduceIte, Nat.reduceLT, Nat.reduceLeDiff, Nat.reduceSub, Nat.reducePow, Nat.reduceMul, Int.reduceToNat, Int.reduceLE, Int.reduceEq, Int.reduceLT, Int.reduceBEq, Int.reduceBNe]
      refine ops_call (awake) (by simp only [AW, Nat.reduceAdd, reduceCtorEq, Nat.reduceEqDiff, ↓reduceIte, Nat.reduceLT, Nat.reduceLeDiff, Nat.reduceSub, Nat.reducePow, Nat.reduceMul, Int.reduceToNat, Int.reduceLE, Int.reduceEq, Int.reduceLT, Int.reduceBEq, Int.reduceBNe]) ?_; simp only [AW, Nat.reduceAdd, reduceCtorEq, Nat.reduceEqDiff, ↓reduceIte, Nat.reduceLT, Nat.reduceLeDiff, Nat.reduceSub, Nat.reducePow, Nat.reduceMul, Int.reduceToNat, Int.reduceLE, Int.reduceEq, Int.reduceLT, Int.reduceBEq, Int.reduceBNe]
    have di : decide ((i : Int) < ((A.length : Nat) : Int)) = true := by rw [decide_eq_true_eq]; exact Int.ofNat_lt.2 hlti
    simp only [di, map_getD hlti, hlti, intP, AW, Nat.reduceAdd, reduceCtorEq, Nat.reduceEqDiff, ↓reduceIte, Nat.reduceLT, Nat.reduceLeDiff, Nat.reduceSub, Nat.reducePow, Nat.reduceMul, Int.reduceToNat, Int.reduceLE, Int.reduceEq, Int.reduceLT, Int.reduceBEq, Int.reduceBNe]
    refine ops_call (has_g B A[i]) (by simp only [intsP, intP, AW, Nat.reduceAdd, reduceCtorEq, Nat.reduceEqDiff, ↓reduceIte, Nat.reduceLT, Nat.reduceLeDiff, Nat.reduceSub, Nat.reducePow, Nat.reduceMul, Int.reduceToNat, Int.reduceLE, Int.reduceEq, Int.reduceLT, Int.reduceBEq, Int.reduceBNe]) ?_; simp only [intsP, intP, AW, Nat.reduceAdd, reduceCtorEq, Nat.reduceEqDiff, ↓reduceIte, Nat.reduceLT, Nat.reduceLeDiff, Nat.reduceSub, Nat.reducePow, Nat.reduceMul, Int.reduceToNat, Int.reduceLE, Int.reduceEq, Int.reduceLT, Int.reduceBEq, Int.reduceBNe]
    rw [sh _ (List.getElem_mem hlti)]
    simp only [AW, Nat.reduceAdd, reduceCtorEq, Nat.reduceEqDiff, ↓reduceIte, Nat.reduceLT, Nat.reduceLeDiff, Nat.reduceSub, Nat.reducePow, Nat.reduceMul, Int.reduceToNat, Int.reduceLE, Int.reduceEq, Int.reduceLT, Int.reduceBEq, Int.reduceBNe]
    (try simp only [wrap_succ hlti al, AW, Nat.reduceAdd, reduceCtorEq, Nat.reduceEqDiff, ↓reduceIte, Nat.reduceLT, Nat.reduceLeDiff, Nat.reduceSub, Nat.reducePow, Nat.reduceMul, Int.reduceToNat, Int.reduceLE, Int.reduceEq, Int.reduceLT, Int.reduceBEq, Int.reduceBNe])
    refine ⟨i + 1, hlti, ?_, meas_lt hlti⟩
    simp only [LW, Nat.reduceMod, Nat.reduceDiv, AW, Nat.reduceAdd, reduceCtorEq, Nat.reduceEqDiff, ↓reduceIte, Nat.reduceLT, Nat.reduceLeDiff, Nat.reduceSub, Nat.reducePow, Nat.reduceMul, Int.reduceToNat, Int.reduceLE, Int.reduceEq, Int.reduceLT, Int.reduceBEq, Int.reduceBNe]
  have dk : decide ((k : Int) < ((c.checks.length : Nat) : Int)) = true := by rw [decide_eq_true_eq]; exact Int.ofNat_lt.2 hltk
  simp only [dk, map_getD hltk, hltk, CheckS.pv, CheckS.vals, List.map_cons, List.map_nil, AW, Nat.reduceAdd, reduceCtorEq, Nat.reduceEqDiff, ↓reduceIte, Nat.reduceLT, Nat.reduceLeDiff, Nat.reduceSub, Nat.reducePow, Nat.reduceMul, Int.reduceToNat, Int.reduceLE, Int.reduceEq, Int.reduceLT, Int.reduceBEq, Int.reduceBNe]
  cases c4 : (c.checks[k].bike == c.bike)
  · (try simp only [map_getD hltk, hltk, CheckS.pv, CheckS.vals, List.map_cons, List.map_nil, AW, Nat.reduceAdd, reduceCtorEq, Nat.reduceEqDiff, ↓reduceIte, Nat.reduceLT, Nat.reduceLeDiff, Nat.reduceSub, Nat.reducePow, Nat.reduceMul, Int.reduceToNat, Int.reduceLE, Int.reduceEq, Int.reduceLT, Int.reduceBEq, Int.reduceBNe])
    have c5 : ¬ c.checks[k].bike = c.bike := by simpa using c4
    (try refine drawnK rfl ?_); (try simp only [map_getD hltk, hltk, CheckS.pv, CheckS.vals, List.map_cons, List.map_nil, AW, Nat.reduceAdd, reduceCtorEq, Nat.reduceEqDiff, ↓reduceIte, Nat.reduceLT, Nat.reduceLeDiff, Nat.reduceSub, Nat.reducePow, Nat.reduceMul, Int.reduceToNat, Int.reduceLE, Int.reduceEq, Int.reduceLT, Int.reduceBEq, Int.reduceBNe])
    (try simp only [wrap_succ hltk hlen, AW, Nat.reduceAdd, reduceCtorEq, Nat.reduceEqDiff, ↓reduceIte, Nat.reduceLT, Nat.reduceLeDiff, Nat.reduceSub, Nat.reducePow, Nat.reduceMul, Int.reduceToNat, Int.reduceLE, Int.reduceEq, Int.reduceLT, Int.reduceBEq, Int.reduceBNe])
    refine ⟨k + 1, ⟨hltk, step_all (p := fun x => ¬(x.bike = c.bike ∧ c.now < x.at_ ∧ x.at_ ≤ later)) hltk ik (by omega)⟩, ?_, meas_lt hltk⟩
    simp only [LW, Nat.reduceMod, Nat.reduceDiv, AW, Nat.reduceAdd, reduceCtorEq, Nat.reduceEqDiff, ↓reduceIte, Nat.reduceLT, Nat.reduceLeDiff, Nat.reduceSub, Nat.reducePow, Nat.reduceMul, Int.reduceToNat, Int.reduceLE, Int.reduceEq, Int.reduceLT, Int.reduceBEq, Int.reduceBNe]
  (try simp only [map_getD hltk, hltk, CheckS.pv, CheckS.vals, List.map_cons, List.map_nil, AW, Nat.reduceAdd, reduceCtorEq, Nat.reduceEqDiff, ↓reduceIte, Nat.reduceLT, Nat.reduceLeDiff, Nat.reduceSub, Nat.reducePow, Nat.reduceMul, Int.reduceToNat, Int.reduceLE, Int.reduceEq, Int.reduceLT, Int.reduceBEq, Int.reduceBNe])
  cases c5 : decide (c.now < c.checks[k].at_)
  · (try simp only [map_getD hltk, hltk, CheckS.pv, CheckS.vals, List.map_cons, List.map_nil, AW, Nat.reduceAdd, reduceCtorEq, Nat.reduceEqDiff, ↓reduceIte, Nat.reduceLT, Nat.reduceLeDiff, Nat.reduceSub, Nat.reducePow, Nat.reduceMul, Int.reduceToNat, Int.reduceLE, Int.reduceEq, Int.reduceLT, Int.reduceBEq, Int.reduceBNe])
    rw [decide_eq_false_iff_not] at c5
    (try refine drawnK rfl ?_); (try simp only [map_getD hltk, hltk, CheckS.pv, CheckS.vals, List.map_cons, List.map_nil, AW, Nat.reduceAdd, reduceCtorEq, Nat.reduceEqDiff, ↓reduceIte, Nat.reduceLT, Nat.reduceLeDiff, Nat.reduceSub, Nat.reducePow, Nat.reduceMul, Int.reduceToNat, Int.reduceLE, Int.reduceEq, Int.reduceLT, Int.reduceBEq, Int.reduceBNe])
    (try simp only [wrap_succ hltk hlen, AW, Nat.reduceAdd, reduceCtorEq, Nat.reduceEqDiff, ↓reduceIte, Nat.reduceLT, Nat.reduceLeDiff, Nat.reduceSub, Nat.reducePow, Nat.reduceMul, Int.reduceToNat, Int.reduceLE, Int.reduceEq, Int.reduceLT, Int.reduceBEq, Int.reduceBNe])
    refine ⟨k + 1, ⟨hltk, step_all (p := fun x => ¬(x.bike = c.bike ∧ c.now < x.at_ ∧ x.at_ ≤ later)) hltk ik (by omega)⟩, ?_, meas_lt hltk⟩
    simp only [LW, Nat.reduceMod, Nat.reduceDiv, AW, Nat.reduceAdd, reduceCtorEq, Nat.reduceEqDiff, ↓reduceIte, Nat.reduceLT, Nat.reduceLeDiff, Nat.reduceSub, Nat.reducePow, Nat.reduceMul, Int.reduceToNat, Int.reduceLE, Int.reduceEq, Int.reduceLT, Int.reduceBEq, Int.reduceBNe]
  (try simp only [map_getD hltk, hltk, CheckS.pv, CheckS.vals, List.map_cons, List.map_nil, AW, Nat.reduceAdd, reduceCtorEq, Nat.reduceEqDiff, ↓reduceIte, Nat.reduceLT, Nat.reduceLeDiff, Nat.reduceSub, Nat.reducePow, Nat.reduceMul, Int.reduceToNat, Int.reduceLE, Int.reduceEq, Int.reduceLT, Int.reduceBEq, Int.reduceBNe])
  cases c6 : decide (c.checks[k].at_ ≤ later)
  · (try simp only [map_getD hltk, hltk, CheckS.pv, CheckS.vals, List.map_cons, List.map_nil, AW, Nat.reduceAdd, reduceCtorEq, Nat.reduceEqDiff, ↓reduceIte, Nat.reduceLT, Nat.reduceLeDiff, Nat.reduceSub, Nat.reducePow, Nat.reduceMul, Int.reduceToNat, Int.reduceLE, Int.reduceEq, Int.reduceLT, Int.reduceBEq, Int.reduceBNe])
    rw [decide_eq_false_iff_not] at c6
    (try refine drawnK rfl ?_); (try simp only [map_getD hltk, hltk, CheckS.pv, CheckS.vals, List.map_cons, List.map_nil, AW, Nat.reduceAdd, reduceCtorEq, Nat.reduceEqDiff, ↓reduceIte, Nat.reduceLT, Nat.reduceLeDiff, Nat.reduceSub, Nat.reducePow, Nat.reduceMul, Int.reduceToNat, Int.reduceLE, Int.reduceEq, Int.reduceLT, Int.reduceBEq, Int.reduceBNe])
    (try simp only [wrap_succ hltk hlen, AW, Nat.reduceAdd, reduceCtorEq, Nat.reduceEqDiff, ↓reduceIte, Nat.reduceLT, Nat.reduceLeDiff, Nat.reduceSub, Nat.reducePow, Nat.reduceMul, Int.reduceToNat, Int.reduceLE, Int.reduceEq, Int.reduceLT, Int.reduceBEq, Int.reduceBNe])
    refine ⟨k + 1, ⟨hltk, step_all (p := fun x => ¬(x.bike = c.bike ∧ c.now < x.at_ ∧ x.at_ ≤ later)) hltk ik (by omega)⟩, ?_, meas_lt hltk⟩
    simp only [LW, Nat.reduceMod, Nat.reduceDiv, AW, Nat.reduceAdd, reduceCtorEq, Nat.reduceEqDiff, ↓reduceIte, Nat.reduceLT, Nat.reduceLeDiff, Nat.reduceSub, Nat.reducePow, Nat.reduceMul, Int.reduceToNat, Int.reduceLE, Int.reduceEq, Int.reduceLT, Int.reduceBEq, Int.reduceBNe]
  (try simp only [map_getD hltk, hltk, CheckS.pv, CheckS.vals, List.map_cons, List.map_nil, AW, Nat.reduceAdd, reduceCtorEq, Nat.reduceEqDiff, ↓reduceIte, Nat.reduceLT, Nat.reduceLeDiff, Nat.reduceSub, Nat.reducePow, Nat.reduceMul, Int.reduceToNat, Int.reduceLE, Int.reduceEq, Int.reduceLT, Int.reduceBEq, Int.reduceBNe])
  (try refine drawnK rfl ?_); (try simp only [AW, Nat.reduceAdd, reduceCtorEq, Nat.reduceEqDiff, ↓reduceIte, Nat.reduceLT, Nat.reduceLeDiff, Nat.reduceSub, Nat.reducePow, Nat.reduceMul, Int.reduceToNat, Int.reduceLE, Int.reduceEq, Int.reduceLT, Int.reduceBEq, Int.reduceBNe])
  refine ops_call (awake) (by simp only [AW, Nat.reduceAdd, reduceCtorEq, Nat.reduceEqDiff, ↓reduceIte, Nat.reduceLT, Nat.reduceLeDiff, Nat.reduceSub, Nat.reducePow, Nat.reduceMul, Int.reduceToNat, Int.reduceLE, Int.reduceEq, Int.reduceLT, Int.reduceBEq, Int.reduceBNe]) ?_; simp only [AW, Nat.reduceAdd, reduceCtorEq, Nat.reduceEqDiff, ↓reduceIte, Nat.reduceLT, Nat.reduceLeDiff, Nat.reduceSub, Nat.reducePow, Nat.reduceMul, Int.reduceToNat, Int.reduceLE, Int.reduceEq, Int.reduceLT, Int.reduceBEq, Int.reduceBNe]


end Go.Proofs.Ytnjgckkbhlcjoaa
