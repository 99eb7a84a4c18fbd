/-
  The workshop: the law, walked.
-/
import Derived.Test.YthgnbkcopapbmaaTc
import Derived.Test.YthgnbkcopapbmaaRq
namespace Go.Proofs.Ythgnbkcopapbmaa
open Go.RowKit
open Nat (reduceAdd reduceEqDiff reduceLT reduceLeDiff reduceSub reducePow reduceMul)
open Int (reduceToNat reduceLE reduceEq)
set_option linter.unusedVariables false
set_option linter.unusedSimpArgs false
set_option linter.unnecessarySimpa false


theorem due_ok {rules : List RuleS} {l : List CheckS} {w : WearS} {rs : List RideS} {b now : Int} (h : (dueL rules l w rs b now).2 = 0) : rulesL rules = 0 ∧ checksL l = 0 ∧ ¬(b < 0 ∨ 128 ≤ b ∨ now < 0 ∨ 4294943999 < now) ∧ firstE (errR l w rs b now) rules = 0 := by
  unfold dueL at h
  split at h
  · rename_i h1; exact absurd h h1
  split at h
  · rename_i h1; exact absurd h h1
  split at h
  · cases h
  split at h
  · rename_i h1; exact absurd h h1
  exact ⟨by omega, by omega, by assumption, by omega⟩
def oneR (kind limit : Int) : List RuleS := [⟨kind, limit, 49709⟩]
theorem win_end {b f t : Int} {rs : List RideS} (h : winE b f t rs = 0) : winE b f 4294944000 rs = 0 := by
  obtain ⟨h1, h2, h3, h4, h5, h6, h7⟩ := win_ok h
  unfold winE
  rw [if_neg (by omega), if_neg (by omega)]
  exact firstE_none fun j hj => h7 _ (List.getElem_mem hj)
/-- What Due and Reaches say of one rule. -/
theorem workshop_cases {w : WearS} {rs : List RideS} {b kind limit now : Int} (h : (dueL (oneR kind limit) [] w rs b now).2 = 0) :
    0 ≤ now ∧ now ≤ 4294943999 ∧ (now / 86400 < 49709 → (∃ t, reachL w rs b kind 0 limit = (t, 0) ∧ 0 ≤ t ∧ t ≤ 4294944000 ∧ ((t ≤ now + 1 ∧ (dueL (oneR kind limit) [] w rs b now).1 = [kind]) ∨ (now + 1 < t ∧ (dueL (oneR kind limit) [] w rs b now).1 = []))) ∨ (reachL w rs b kind 0 limit = (0, 10) ∧ (dueL (oneR kind limit) [] w rs b now).1 = [])) := by
  obtain ⟨r1, r2, r3, r4⟩ := due_ok h
  refine ⟨by omega, by omega, fun hd => ?_⟩
  have rule0 : ruleE ⟨kind, limit, 49709⟩ = 0 := by
    unfold rulesL at r1
    split at r1
    · cases r1
    split at r1
    · rename_i h1; exact absurd r1 h1
    · rename_i h1; exact firstE_zero (l := oneR kind limit) (by simpa using h1) _ (List.mem_singleton.2 rfl)
  have hl : 0 ≤ limit ∧ limit ≤ 1125899906842624 := by
    unfold ruleE at rule0
    split at rule0
    · cases rule0
    split at rule0
    · cases rule0
    rename_i h1
    simp only [not_or] at h1; omega
  have e0 : errR [] w rs b now ⟨kind, limit, 49709⟩ = 0 := firstE_zero r4 _ (List.mem_singleton.2 rfl)
  have e1 : (ofW w rs b kind 0 (now + 1)).2 = 0 := e0
  obtain ⟨w0, k0, k1, z0⟩ := ofW_ok e1
  have ze := win_end z0
  obtain ⟨p1, p2, p3, p4, p5, p6, p7⟩ := win_ok z0
  have o0 : (ofW w rs b kind 0 4294944000).2 = 0 := by rw [ofW_4 w0 (by omega) ze]
  have hw1 : (ofW w rs b kind 0 (now + 1)).1 = wearAt w rs b 0 kind.toNat (now + 1) := by rw [ofW_4 w0 (by omega) z0]; rfl
  have hdue : (dueL (oneR kind limit) [] w rs b now).1 = if limit ≤ wearAt w rs b 0 kind.toNat (now + 1) then [kind] else [] := by
    rw [dueL_5 r1 r2 r3 r4]
    have hb : dueR [] w rs b now ⟨kind, limit, 49709⟩ = decide (limit ≤ wearAt w rs b 0 kind.toNat (now + 1)) := by
      show ((false && !(lastK none).good) || (decide (49709 ≤ now / 86400 - 0 / 86400) || decide (limit ≤ (ofW w rs b kind 0 (now + 1)).1))) = _
      rw [hw1, decide_eq_false (show ¬ (49709 ≤ now / 86400 - 0 / 86400) by omega)]; rfl
    unfold oneR
    rw [List.filter_cons, hb]
    by_cases hc : limit ≤ wearAt w rs b 0 kind.toNat (now + 1)
    · rw [decide_eq_true hc, if_pos rfl, if_pos hc]; rfl
    · rw [decide_eq_false hc, if_neg (by simp), if_neg hc]; rfl
  have iff := reach_iff (w := w) (rs := rs) (b := b) (f := 0) (limit := limit) (T := now + 1) (k := kind.toNat) w0 p7 (by omega)
  have c4 : ¬(limit < 0 ∨ 1125899906842624 < limit) := by omega
  cases hf : (sortL (0 :: atL b 0 rs rs.length)).find? (fun t => decide (limit ≤ wearAt w rs b 0 kind.toNat t)) with
  | none =>
    refine .inr ⟨reachL_4 o0 c4 hf, ?_⟩
    rw [hdue, if_neg (fun hc => by obtain ⟨t, ht, _⟩ := iff.1 hc; rw [hf] at ht; cases ht)]
  | some t =>
    have ht : 0 ≤ t ∧ t ≤ 4294944000 := by
      have hm := sortL_mem.1 (List.mem_of_find?_eq_some hf)
      rcases List.mem_cons.1 hm with rfl | hm
      · exact ⟨by omega, by omega⟩
      · unfold atL atR at hm
        obtain ⟨r, hr, hx⟩ := List.mem_flatMap.1 hm
        obtain ⟨x, hx2, rfl⟩ := List.mem_map.1 hx
        have hx := List.mem_of_mem_take (List.mem_filter.1 hx2).1
        obtain ⟨i, hi, rfl⟩ := List.mem_iff_getElem.1 hx
        have := (legs_ok (p7 r (List.mem_of_mem_take hr))).rng i hi
        omega
    refine .inl ⟨t, reachL_3 o0 c4 hf, ht.1, ht.2, ?_⟩
    by_cases hc : limit ≤ wearAt w rs b 0 kind.toNat (now + 1)
    · obtain ⟨t2, h1, h2⟩ := iff.1 hc
      rw [hf] at h1; cases h1
      exact .inl ⟨h2, by rw [hdue, if_pos hc]⟩
    · refine .inr ⟨?_, by rw [hdue, if_neg hc]⟩
      by_cases hlt : now + 1 < t
      · exact hlt
      · exact absurd (iff.2 ⟨t, hf, by omega⟩) hc
def rideW : RideS := ⟨1, 0, ⟨100, 100⟩, ⟨3700, 3700⟩, false, [⟨0, ⟨100, 100⟩, ⟨3700, 3700⟩⟩], [], 2, 0, 2, 0⟩
def wearX : WearS := ⟨[50], [7]⟩
theorem checkL_fun : checkL = checkD := funext checkD_eq
theorem wx1 : ofW wearX [rideW] 0 0 0 101 = (57, 0) := by delta ofW winE; simp only [checkL_fun]; decide +kernel
theorem wx3 : dueL (oneR 0 57) [] wearX [rideW] 0 100 = ([0], 0) := by delta dueL errR dueR wornR ofW winE; simp only [checkL_fun]; decide +kernel
theorem wx4 : dueL (oneR 0 57) [] wearX [rideW] 0 99 = ([], 0) := by delta dueL errR dueR wornR ofW winE; simp only [checkL_fun]; decide +kernel
theorem wx0 : (ofW wearX [rideW] 0 0 0 4294944000).2 = 0 := by delta ofW winE; simp only [checkL_fun]; decide +kernel
theorem sortX : sortL [0, 101] = [0, 101] := List.mergeSort_of_pairwise (by decide)
theorem wx2 : reachL wearX [rideW] 0 0 0 57 = (101, 0) := by
  refine reachL_3 wx0 (by decide) ?_
  rw [show (0 :: atL 0 0 [rideW] [rideW].length : List Int) = [0, 101] by decide +kernel, sortX]
  decide +kernel
theorem instant_g (t : Int) : Good Try.prog 14 [intP t] (.agg [.sc (.int .i64 t), .sc (.int .i64 t)]) := by
  refine good14 (by simp) ?_
  simp only [ac14, intP, AW, reduceAdd, reduceCtorEq, reduceEqDiff, ↓reduceIte, reduceLT, reduceLeDiff, reduceSub, reducePow, reduceMul, reduceToNat, reduceLE, reduceEq, Int.reduceLT, Int.reduceBEq, Int.reduceBNe]
set_option maxHeartbeats 4000000 in
theorem wornAwake_g : Good Try.prog 5 [] (.sc (.bool true)) := by
  refine good5 (by simp) ?_
  have h1 := of_g wearX [rideW] 0 0 0 101
  have h2 := reaches_g wearX [rideW] 0 0 0 57
  have h3 := due_g (oneR 0 57) [] wearX [rideW] 0 100
  have h4 := due_g (oneR 0 57) [] wearX [rideW] 0 99
  rw [wx1] at h1; rw [wx2] at h2; rw [wx3] at h3; rw [wx4] at h4
  simp only [ac5, AW, reduceAdd, reduceCtorEq, reduceEqDiff, ↓reduceIte, reduceLT, reduceLeDiff, reduceSub, reducePow, reduceMul, reduceToNat, reduceLE, reduceEq, Int.reduceLT, Int.reduceBEq, Int.reduceBNe]
  refine ops_call (instant_g 100) (by simp only [intP, AW, reduceAdd, reduceCtorEq, reduceEqDiff, ↓reduceIte, reduceLT, reduceLeDiff, reduceSub, reducePow, reduceMul, reduceToNat, reduceLE, reduceEq, Int.reduceLT, Int.reduceBEq, Int.reduceBNe]) ?_; simp only [intP, AW, reduceAdd, reduceCtorEq, reduceEqDiff, ↓reduceIte, reduceLT, reduceLeDiff, reduceSub, reducePow, reduceMul, reduceToNat, reduceLE, reduceEq, Int.reduceLT, Int.reduceBEq, Int.reduceBNe]
  refine ops_call (instant_g 3700) (by simp only [intP, AW, reduceAdd, reduceCtorEq, reduceEqDiff, ↓reduceIte, reduceLT, reduceLeDiff, reduceSub, reducePow, reduceMul, reduceToNat, reduceLE, reduceEq, Int.reduceLT, Int.reduceBEq, Int.reduceBNe]) ?_; simp only [intP, AW, reduceAdd, reduceCtorEq, reduceEqDiff, ↓reduceIte, reduceLT, reduceLeDiff, reduceSub, reducePow, reduceMul, reduceToNat, reduceLE, reduceEq, Int.reduceLT, Int.reduceBEq, Int.reduceBNe]
  refine ops_call (instant_g 100) (by simp only [intP, AW, reduceAdd, reduceCtorEq, reduceEqDiff, ↓reduceIte, reduceLT, reduceLeDiff, reduceSub, reducePow, reduceMul, reduceToNat, reduceLE, reduceEq, Int.reduceLT, Int.reduceBEq, Int.reduceBNe]) ?_; simp only [intP, AW, reduceAdd, reduceCtorEq, reduceEqDiff, ↓reduceIte, reduceLT, reduceLeDiff, reduceSub, reducePow, reduceMul, reduceToNat, reduceLE, reduceEq, Int.reduceLT, Int.reduceBEq, Int.reduceBNe]
  refine ops_call (instant_g 3700) (by simp only [intP, AW, reduceAdd, reduceCtorEq, reduceEqDiff, ↓reduceIte, reduceLT, reduceLeDiff, reduceSub, reducePow, reduceMul, reduceToNat, reduceLE, reduceEq, Int.reduceLT, Int.reduceBEq, Int.reduceBNe]) ?_; simp only [intP, AW, reduceAdd, reduceCtorEq, reduceEqDiff, ↓reduceIte, reduceLT, reduceLeDiff, reduceSub, reducePow, reduceMul, reduceToNat, reduceLE, reduceEq, Int.reduceLT, Int.reduceBEq, Int.reduceBNe]
  (try refine drawnK rfl ?_); (try simp only [AW, reduceAdd, reduceCtorEq, reduceEqDiff, ↓reduceIte, reduceLT, reduceLeDiff, reduceSub, reducePow, reduceMul, reduceToNat, reduceLE, reduceEq, Int.reduceLT, Int.reduceBEq, Int.reduceBNe])
  refine ops_call (h1) (by simp only [wearX, WearS.pv, rideW, RideS.pv, LegS.pv, LegS.vals, intP, List.map_cons, List.map_nil, pairP, AW, reduceAdd, reduceCtorEq, reduceEqDiff, ↓reduceIte, reduceLT, reduceLeDiff, reduceSub, reducePow, reduceMul, reduceToNat, reduceLE, reduceEq, Int.reduceLT, Int.reduceBEq, Int.reduceBNe]) ?_; simp only [wearX, WearS.pv, rideW, RideS.pv, LegS.pv, LegS.vals, intP, List.map_cons, List.map_nil, pairP, AW, reduceAdd, reduceCtorEq, reduceEqDiff, ↓reduceIte, reduceLT, reduceLeDiff, reduceSub, reducePow, reduceMul, reduceToNat, reduceLE, reduceEq, Int.reduceLT, Int.reduceBEq, Int.reduceBNe]
  (try refine drawnK rfl ?_); (try simp only [AW, reduceAdd, reduceCtorEq, reduceEqDiff, ↓reduceIte, reduceLT, reduceLeDiff, reduceSub, reducePow, reduceMul, reduceToNat, reduceLE, reduceEq, Int.reduceLT, Int.reduceBEq, Int.reduceBNe])
  refine ops_call (h2) (by simp only [wearX, WearS.pv, rideW, RideS.pv, LegS.pv, LegS.vals, intP, List.map_cons, List.map_nil, pairP, AW, reduceAdd, reduceCtorEq, reduceEqDiff, ↓reduceIte, reduceLT, reduceLeDiff, reduceSub, reducePow, reduceMul, reduceToNat, reduceLE, reduceEq, Int.reduceLT, Int.reduceBEq, Int.reduceBNe]) ?_; simp only [wearX, WearS.pv, rideW, RideS.pv, LegS.pv, LegS.vals, intP, List.map_cons, List.map_nil, pairP, AW, reduceAdd, reduceCtorEq, reduceEqDiff, ↓reduceIte, reduceLT, reduceLeDiff, reduceSub, reducePow, reduceMul, reduceToNat, reduceLE, reduceEq, Int.reduceLT, Int.reduceBEq, Int.reduceBNe]
  (try refine drawnK rfl ?_); (try simp only [AW, reduceAdd, reduceCtorEq, reduceEqDiff, ↓reduceIte, reduceLT, reduceLeDiff, reduceSub, reducePow, reduceMul, reduceToNat, reduceLE, reduceEq, Int.reduceLT, Int.reduceBEq, Int.reduceBNe])
  refine ops_call (h3) (by simp only [wearX, WearS.pv, rideW, RideS.pv, LegS.pv, LegS.vals, intP, List.map_cons, List.map_nil, oneR, RuleS.pv, RuleS.vals, dueP, AW, reduceAdd, reduceCtorEq, reduceEqDiff, ↓reduceIte, reduceLT, reduceLeDiff, reduceSub, reducePow, reduceMul, reduceToNat, reduceLE, reduceEq, Int.reduceLT, Int.reduceBEq, Int.reduceBNe]) ?_; simp only [wearX, WearS.pv, rideW, RideS.pv, LegS.pv, LegS.vals, intP, List.map_cons, List.map_nil, oneR, RuleS.pv, RuleS.vals, dueP, AW, reduceAdd, reduceCtorEq, reduceEqDiff, ↓reduceIte, reduceLT, reduceLeDiff, reduceSub, reducePow, reduceMul, reduceToNat, reduceLE, reduceEq, Int.reduceLT, Int.reduceBEq, Int.reduceBNe]
  (try refine drawnK rfl ?_); (try simp only [AW, reduceAdd, reduceCtorEq, reduceEqDiff, ↓reduceIte, reduceLT, reduceLeDiff, reduceSub, reducePow, reduceMul, reduceToNat, reduceLE, reduceEq, Int.reduceLT, Int.reduceBEq, Int.reduceBNe])
  have z1 : (((1 : Nat) : Int) == 1) = true := rfl
  have z0 : (((0 : Nat) : Int) == 0) = true := rfl
  refine ops_call (h4) (by simp only [wearX, WearS.pv, rideW, RideS.pv, LegS.pv, LegS.vals, intP, List.map_cons, List.map_nil, oneR, RuleS.pv, RuleS.vals, dueP, AW, reduceAdd, reduceCtorEq, reduceEqDiff, ↓reduceIte, reduceLT, reduceLeDiff, reduceSub, reducePow, reduceMul, reduceToNat, reduceLE, reduceEq, Int.reduceLT, Int.reduceBEq, Int.reduceBNe]) ?_; simp only [wearX, WearS.pv, rideW, RideS.pv, LegS.pv, LegS.vals, intP, List.map_cons, List.map_nil, oneR, RuleS.pv, RuleS.vals, dueP, AW, reduceAdd, reduceCtorEq, reduceEqDiff, ↓reduceIte, reduceLT, reduceLeDiff, reduceSub, reducePow, reduceMul, reduceToNat, reduceLE, reduceEq, Int.reduceLT, Int.reduceBEq, Int.reduceBNe]
  (try simp only [z1, List.length_cons, List.length_nil, AW, reduceAdd, reduceCtorEq, reduceEqDiff, ↓reduceIte, reduceLT, reduceLeDiff, reduceSub, reducePow, reduceMul, reduceToNat, reduceLE, reduceEq, Int.reduceLT, Int.reduceBEq, Int.reduceBNe])
  (try simp only [z0, AW, reduceAdd, reduceCtorEq, reduceEqDiff, ↓reduceIte, reduceLT, reduceLeDiff, reduceSub, reducePow, reduceMul, reduceToNat, reduceLE, reduceEq, Int.reduceLT, Int.reduceBEq, Int.reduceBNe])
  (try refine drawnK rfl ?_); (try simp only [z0, AW, reduceAdd, reduceCtorEq, reduceEqDiff, ↓reduceIte, reduceLT, reduceLeDiff, reduceSub, reducePow, reduceMul, reduceToNat, reduceLE, reduceEq, Int.reduceLT, Int.reduceBEq, Int.reduceBNe])
set_option maxHeartbeats 4000000 in
theorem topWorkshop_good (w : WearS) (rs : List RideS) (b kind limit now : Int) : Good Try.prog 3 [w.pv, .sl (rs.map RideS.pv), .sc (.int .i64 b), .sc (.int .i64 kind), .sc (.int .i64 limit), .sc (.int .i64 now)] (.sc (.bool true)) := by
  refine good3 (by simp) ?_
  simp only [ac3, WearS.pv, List.length_map, AW, reduceAdd, reduceCtorEq, reduceEqDiff, ↓reduceIte, reduceLT, reduceLeDiff, reduceSub, reducePow, reduceMul, reduceToNat, reduceLE, reduceEq, Int.reduceLT, Int.reduceBEq, Int.reduceBNe]
  cases c1 : decide ((30 : Int) < (rs.length : Int))
  rotate_left
  · simp only [AW, reduceAdd, reduceCtorEq, reduceEqDiff, ↓reduceIte, reduceLT, reduceLeDiff, reduceSub, reducePow, reduceMul, reduceToNat, reduceLE, reduceEq, Int.reduceLT, Int.reduceBEq, Int.reduceBNe]; refine ops_call (wornAwake_g) (by simp only [AW, reduceAdd, reduceCtorEq, reduceEqDiff, ↓reduceIte, reduceLT, reduceLeDiff, reduceSub, reducePow, reduceMul, reduceToNat, reduceLE, reduceEq, Int.reduceLT, Int.reduceBEq, Int.reduceBNe]) ?_; simp only [AW, reduceAdd, reduceCtorEq, reduceEqDiff, ↓reduceIte, reduceLT, reduceLeDiff, reduceSub, reducePow, reduceMul, reduceToNat, reduceLE, reduceEq, Int.reduceLT, Int.reduceBEq, Int.reduceBNe]
  have hlen : rs.length ≤ maxLen := by simp only [decide_eq_false_iff_not] at c1; unfold maxLen; omega
  simp only [List.length_map, AW, reduceAdd, reduceCtorEq, reduceEqDiff, ↓reduceIte, reduceLT, reduceLeDiff, reduceSub, reducePow, reduceMul, reduceToNat, reduceLE, reduceEq, Int.reduceLT, Int.reduceBEq, Int.reduceBNe]
  cases c2 : decide ((20 : Int) < (w.hour.length : Int))
  rotate_left
  · simp only [AW, reduceAdd, reduceCtorEq, reduceEqDiff, ↓reduceIte, reduceLT, reduceLeDiff, reduceSub, reducePow, reduceMul, reduceToNat, reduceLE, reduceEq, Int.reduceLT, Int.reduceBEq, Int.reduceBNe]; refine ops_call (wornAwake_g) (by simp only [AW, reduceAdd, reduceCtorEq, reduceEqDiff, ↓reduceIte, reduceLT, reduceLeDiff, reduceSub, reducePow, reduceMul, reduceToNat, reduceLE, reduceEq, Int.reduceLT, Int.reduceBEq, Int.reduceBNe]) ?_; simp only [AW, reduceAdd, reduceCtorEq, reduceEqDiff, ↓reduceIte, reduceLT, reduceLeDiff, reduceSub, reducePow, reduceMul, reduceToNat, reduceLE, reduceEq, Int.reduceLT, Int.reduceBEq, Int.reduceBNe]
  simp only [List.length_map, AW, reduceAdd, reduceCtorEq, reduceEqDiff, ↓reduceIte, reduceLT, reduceLeDiff, reduceSub, reducePow, reduceMul, reduceToNat, reduceLE, reduceEq, Int.reduceLT, Int.reduceBEq, Int.reduceBNe]
  cases c3 : decide ((20 : Int) < (w.ride.length : Int))
  rotate_left
  · simp only [AW, reduceAdd, reduceCtorEq, reduceEqDiff, ↓reduceIte, reduceLT, reduceLeDiff, reduceSub, reducePow, reduceMul, reduceToNat, reduceLE, reduceEq, Int.reduceLT, Int.reduceBEq, Int.reduceBNe]; refine ops_call (wornAwake_g) (by simp only [AW, reduceAdd, reduceCtorEq, reduceEqDiff, ↓reduceIte, reduceLT, reduceLeDiff, reduceSub, reducePow, reduceMul, reduceToNat, reduceLE, reduceEq, Int.reduceLT, Int.reduceBEq, Int.reduceBNe]) ?_; simp only [AW, reduceAdd, reduceCtorEq, reduceEqDiff, ↓reduceIte, reduceLT, reduceLeDiff, reduceSub, reducePow, reduceMul, reduceToNat, reduceLE, reduceEq, Int.reduceLT, Int.reduceBEq, Int.reduceBNe]
  simp only [AW, reduceAdd, reduceCtorEq, reduceEqDiff, ↓reduceIte, reduceLT, reduceLeDiff, reduceSub, reducePow, reduceMul, reduceToNat, reduceLE, reduceEq, Int.reduceLT, Int.reduceBEq, Int.reduceBNe]
  refine run_loop (ι := Nat) (fun k => ⟨[(1, .sl (rs.map RideS.pv)), (2, .sc (.int .i64 b)), (3, .sc (.int .i64 kind)), (4, .sc (.int .i64 limit)), (5, .sc (.int .i64 now)), (6, .ptr 0 0), (13, .sc (.int .i64 (k : Int)))], [(0, .var [.sl (w.hour.map intP), .sl (w.ride.map intP)])], 18, 116⟩) (fun k => k ≤ rs.length) (fun k => rs.length - k) 18 (fun _ => rfl) 0 (by simp only [LW, Nat.reduceMod, Nat.reduceDiv, Int.natCast_zero, AW, reduceAdd, reduceCtorEq, reduceEqDiff, ↓reduceIte, reduceLT, reduceLeDiff, reduceSub, reducePow, reduceMul, reduceToNat, reduceLE, reduceEq, Int.reduceLT, Int.reduceBEq, Int.reduceBNe]) (Nat.zero_le _) (fun k hk => ?_)
  have gk := hk
  by_cases hltk : k < rs.length
  rotate_left
  · have dk : decide ((k : Int) < ((rs.length : Nat) : Int)) = false := by rw [decide_eq_false_iff_not]; exact fun h => hltk (Int.ofNat_lt.1 h)
    have ek : k = rs.length := Nat.le_antisymm gk (Nat.le_of_not_lt hltk)
    rw [ek] at dk ⊢
    have g1 := due_g (oneR kind limit) [] w rs b now
    have g2 := reaches_g w rs b kind 0 limit
    have WC := @workshop_cases w rs b kind limit now
    obtain ⟨l, hl⟩ : ∃ l, l = (dueL (oneR kind limit) [] w rs b now).1 := ⟨_, rfl⟩
    obtain ⟨e, he⟩ : ∃ e, e = (dueL (oneR kind limit) [] w rs b now).2 := ⟨_, rfl⟩
    rw [dueP, ← hl, ← he] at g1
    rw [← hl, ← he] at WC
    simp only [dk, List.length_map, AW, reduceAdd, reduceCtorEq, reduceEqDiff, ↓reduceIte, reduceLT, reduceLeDiff, reduceSub, reducePow, reduceMul, reduceToNat, reduceLE, reduceEq, Int.reduceLT, Int.reduceBEq, Int.reduceBNe]
    refine ops_call (g1) (by simp only [oneR, RuleS.pv, RuleS.vals, WearS.pv, intP, List.map_cons, List.map_nil, AW, reduceAdd, reduceCtorEq, reduceEqDiff, ↓reduceIte, reduceLT, reduceLeDiff, reduceSub, reducePow, reduceMul, reduceToNat, reduceLE, reduceEq, Int.reduceLT, Int.reduceBEq, Int.reduceBNe]) ?_; simp only [oneR, RuleS.pv, RuleS.vals, WearS.pv, intP, List.map_cons, List.map_nil, AW, reduceAdd, reduceCtorEq, reduceEqDiff, ↓reduceIte, reduceLT, reduceLeDiff, reduceSub, reducePow, reduceMul, reduceToNat, reduceLE, reduceEq, Int.reduceLT, Int.reduceBEq, Int.reduceBNe]
    refine ops_call (g2) (by simp only [WearS.pv, intP, pairP, AW, reduceAdd, reduceCtorEq, reduceEqDiff, ↓reduceIte, reduceLT, reduceLeDiff, reduceSub, reducePow, reduceMul, reduceToNat, reduceLE, reduceEq, Int.reduceLT, Int.reduceBEq, Int.reduceBNe]) ?_; simp only [WearS.pv, intP, pairP, AW, reduceAdd, reduceCtorEq, reduceEqDiff, ↓reduceIte, reduceLT, reduceLeDiff, reduceSub, reducePow, reduceMul, reduceToNat, reduceLE, reduceEq, Int.reduceLT, Int.reduceBEq, Int.reduceBNe]
    (try refine drawnK rfl ?_); (try simp only [AW, reduceAdd, reduceCtorEq, reduceEqDiff, ↓reduceIte, reduceLT, reduceLeDiff, reduceSub, reducePow, reduceMul, reduceToNat, reduceLE, reduceEq, Int.reduceLT, Int.reduceBEq, Int.reduceBNe])
    cases c4 : (e != 0)
    rotate_left
    · simp only [AW, reduceAdd, reduceCtorEq, reduceEqDiff, ↓reduceIte, reduceLT, reduceLeDiff, reduceSub, reducePow, reduceMul, reduceToNat, reduceLE, reduceEq, Int.reduceLT, Int.reduceBEq, Int.reduceBNe]; (try refine drawnK rfl ?_); (try simp only [AW, reduceAdd, reduceCtorEq, reduceEqDiff, ↓reduceIte, reduceLT, reduceLeDiff, reduceSub, reducePow, reduceMul, reduceToNat, reduceLE, reduceEq, Int.reduceLT, Int.reduceBEq, Int.reduceBNe]); refine ops_call (wornAwake_g) (by simp only [AW, reduceAdd, reduceCtorEq, reduceEqDiff, ↓reduceIte, reduceLT, reduceLeDiff, reduceSub, reducePow, reduceMul, reduceToNat, reduceLE, reduceEq, Int.reduceLT, Int.reduceBEq, Int.reduceBNe]) ?_; simp only [AW, reduceAdd, reduceCtorEq, reduceEqDiff, ↓reduceIte, reduceLT, reduceLeDiff, reduceSub, reducePow, reduceMul, reduceToNat, reduceLE, reduceEq, Int.reduceLT, Int.reduceBEq, Int.reduceBNe]
    have e0 : e = 0 := by simpa using c4
    obtain ⟨n1, n2, WC⟩ := WC e0
    have wd := i64_div n1 n2
    simp only [wd, AW, reduceAdd, reduceCtorEq, reduceEqDiff, ↓reduceIte, reduceLT, reduceLeDiff, reduceSub, reducePow, reduceMul, reduceToNat, reduceLE, reduceEq, Int.reduceLT, Int.reduceBEq, Int.reduceBNe]
    cases c5 : decide ((49709 : Int) ≤ now / 86400)
    rotate_left
    · (try simp only [AW, reduceAdd, reduceCtorEq, reduceEqDiff, ↓reduceIte, reduceLT, reduceLeDiff, reduceSub, reducePow, reduceMul, reduceToNat, reduceLE, reduceEq, Int.reduceLT, Int.reduceBEq, Int.reduceBNe]); (try refine drawnK rfl ?_); (try simp only [AW, reduceAdd, reduceCtorEq, reduceEqDiff, ↓reduceIte, reduceLT, reduceLeDiff, reduceSub, reducePow, reduceMul, reduceToNat, reduceLE, reduceEq, Int.reduceLT, Int.reduceBEq, Int.reduceBNe]); refine ops_call (wornAwake_g) (by simp only [AW, reduceAdd, reduceCtorEq, reduceEqDiff, ↓reduceIte, reduceLT, reduceLeDiff, reduceSub, reducePow, reduceMul, reduceToNat, reduceLE, reduceEq, Int.reduceLT, Int.reduceBEq, Int.reduceBNe]) ?_; simp only [AW, reduceAdd, reduceCtorEq, reduceEqDiff, ↓reduceIte, reduceLT, reduceLeDiff, reduceSub, reducePow, reduceMul, reduceToNat, reduceLE, reduceEq, Int.reduceLT, Int.reduceBEq, Int.reduceBNe]
    have c5 := WC (by simpa using c5)
    (try simp only [AW, reduceAdd, reduceCtorEq, reduceEqDiff, ↓reduceIte, reduceLT, reduceLeDiff, reduceSub, reducePow, reduceMul, reduceToNat, reduceLE, reduceEq, Int.reduceLT, Int.reduceBEq, Int.reduceBNe]); (try refine drawnK rfl ?_); (try simp only [AW, reduceAdd, reduceCtorEq, reduceEqDiff, ↓reduceIte, reduceLT, reduceLeDiff, reduceSub, reducePow, reduceMul, reduceToNat, reduceLE, reduceEq, Int.reduceLT, Int.reduceBEq, Int.reduceBNe])
    have z0 : (((0 : Nat) : Int) == 1) = false := rfl
    have z1 : (((1 : Nat) : Int) == 1) = true := rfl
    have y0 : decide (((0 : Nat) : Int) ≤ 1) = true := rfl
    have y1 : decide (((1 : Nat) : Int) ≤ 1) = true := rfl
    rcases c5 with ⟨t, hr, t0, t1, ⟨h5, h6⟩ | ⟨h5, h6⟩⟩ | ⟨hr, h6⟩
    · have wt : IntKind.i64.wrap (t - 1) = t - 1 := wrap_id ⟨by omega, by omega⟩
      have d3 : decide (t - 1 ≤ now) = true := by rw [decide_eq_true_eq]; omega
      rw [hr, h6]
      (try simp only [wt, d3, z1, y1, List.length_map, List.length_cons, List.length_nil, AW, reduceAdd, reduceCtorEq, reduceEqDiff, ↓reduceIte, reduceLT, reduceLeDiff, reduceSub, reducePow, reduceMul, reduceToNat, reduceLE, reduceEq, Int.reduceLT, Int.reduceBEq, Int.reduceBNe])
      (try refine drawnK rfl ?_); (try simp only [wt, d3, z1, y1, List.length_map, List.length_cons, List.length_nil, AW, reduceAdd, reduceCtorEq, reduceEqDiff, ↓reduceIte, reduceLT, reduceLeDiff, reduceSub, reducePow, reduceMul, reduceToNat, reduceLE, reduceEq, Int.reduceLT, Int.reduceBEq, Int.reduceBNe])
      refine ops_call (wornAwake_g) (by simp only [AW, reduceAdd, reduceCtorEq, reduceEqDiff, ↓reduceIte, reduceLT, reduceLeDiff, reduceSub, reducePow, reduceMul, reduceToNat, reduceLE, reduceEq, Int.reduceLT, Int.reduceBEq, Int.reduceBNe]) ?_; simp only [AW, reduceAdd, reduceCtorEq, reduceEqDiff, ↓reduceIte, reduceLT, reduceLeDiff, reduceSub, reducePow, reduceMul, reduceToNat, reduceLE, reduceEq, Int.reduceLT, Int.reduceBEq, Int.reduceBNe]
    · have wt : IntKind.i64.wrap (t - 1) = t - 1 := wrap_id ⟨by omega, by omega⟩
      have d3 : decide (t - 1 ≤ now) = false := by rw [decide_eq_false_iff_not]; omega
      rw [hr, h6]
      (try simp only [wt, d3, z0, y0, List.length_map, List.length_nil, AW, reduceAdd, reduceCtorEq, reduceEqDiff, ↓reduceIte, reduceLT, reduceLeDiff, reduceSub, reducePow, reduceMul, reduceToNat, reduceLE, reduceEq, Int.reduceLT, Int.reduceBEq, Int.reduceBNe])
      (try refine drawnK rfl ?_); (try simp only [wt, d3, z0, y0, List.length_map, List.length_nil, AW, reduceAdd, reduceCtorEq, reduceEqDiff, ↓reduceIte, reduceLT, reduceLeDiff, reduceSub, reducePow, reduceMul, reduceToNat, reduceLE, reduceEq, Int.reduceLT, Int.reduceBEq, Int.reduceBNe])
      refine ops_call (wornAwake_g) (by simp only [AW, reduceAdd, reduceCtorEq, reduceEqDiff, ↓reduceIte, reduceLT, reduceLeDiff, reduceSub, reducePow, reduceMul, reduceToNat, reduceLE, reduceEq, Int.reduceLT, Int.reduceBEq, Int.reduceBNe]) ?_; simp only [AW, reduceAdd, reduceCtorEq, reduceEqDiff, ↓reduceIte, reduceLT, reduceLeDiff, reduceSub, reducePow, reduceMul, reduceToNat, reduceLE, reduceEq, Int.reduceLT, Int.reduceBEq, Int.reduceBNe]
    · rw [hr, h6]
      (try simp only [z0, y0, List.length_map, List.length_nil, AW, reduceAdd, reduceCtorEq, reduceEqDiff, ↓reduceIte, reduceLT, reduceLeDiff, reduceSub, reducePow, reduceMul, reduceToNat, reduceLE, reduceEq, Int.reduceLT, Int.reduceBEq, Int.reduceBNe])
      (try refine drawnK rfl ?_); (try simp only [z0, y0, List.length_map, List.length_nil, AW, reduceAdd, reduceCtorEq, reduceEqDiff, ↓reduceIte, reduceLT, reduceLeDiff, reduceSub, reducePow, reduceMul, reduceToNat, reduceLE, reduceEq, Int.reduceLT, Int.reduceBEq, Int.reduceBNe])
      refine ops_call (wornAwake_g) (by simp only [AW, reduceAdd, reduceCtorEq, reduceEqDiff, ↓reduceIte, reduceLT, reduceLeDiff, reduceSub, reducePow, reduceMul, reduceToNat, reduceLE, reduceEq, Int.reduceLT, Int.reduceBEq, Int.reduceBNe]) ?_; simp only [AW, reduceAdd, reduceCtorEq, reduceEqDiff, ↓reduceIte, reduceLT, reduceLeDiff, reduceSub, reducePow, reduceMul, reduceToNat, reduceLE, reduceEq, Int.reduceLT, Int.reduceBEq, Int.reduceBNe]
  have dk : decide ((k : Int) < ((rs.length : Nat) : Int)) = true := by rw [decide_eq_true_eq]; exact Int.ofNat_lt.2 hltk
  simp only [dk, List.length_map, map_getD hltk, hltk, RideS.pv, AW, reduceAdd, reduceCtorEq, reduceEqDiff, ↓reduceIte, reduceLT, reduceLeDiff, reduceSub, reducePow, reduceMul, reduceToNat, reduceLE, reduceEq, Int.reduceLT, Int.reduceBEq, Int.reduceBNe]
  cases d1 : decide ((10 : Int) < (rs[k].legs.length : Int))
  rotate_left
  · (try simp only [AW, reduceAdd, reduceCtorEq, reduceEqDiff, ↓reduceIte, reduceLT, reduceLeDiff, reduceSub, reducePow, reduceMul, reduceToNat, reduceLE, reduceEq, Int.reduceLT, Int.reduceBEq, Int.reduceBNe]); (try refine drawnK rfl ?_); (try simp only [AW, reduceAdd, reduceCtorEq, reduceEqDiff, ↓reduceIte, reduceLT, reduceLeDiff, reduceSub, reducePow, reduceMul, reduceToNat, reduceLE, reduceEq, Int.reduceLT, Int.reduceBEq, Int.reduceBNe]); refine ops_call (wornAwake_g) (by simp only [AW, reduceAdd, reduceCtorEq, reduceEqDiff, ↓reduceIte, reduceLT, reduceLeDiff, reduceSub, reducePow, reduceMul, reduceToNat, reduceLE, reduceEq, Int.reduceLT, Int.reduceBEq, Int.reduceBNe]) ?_; simp only [AW, reduceAdd, reduceCtorEq, reduceEqDiff, ↓reduceIte, reduceLT, reduceLeDiff, reduceSub, reducePow, reduceMul, reduceToNat, reduceLE, reduceEq, Int.reduceLT, Int.reduceBEq, Int.reduceBNe]
  (try simp only [List.length_map, map_getD hltk, hltk, RideS.pv, AW, reduceAdd, reduceCtorEq, reduceEqDiff, ↓reduceIte, reduceLT, reduceLeDiff, reduceSub, reducePow, reduceMul, reduceToNat, reduceLE, reduceEq, Int.reduceLT, Int.reduceBEq, Int.reduceBNe])
  cases d2 : decide ((10 : Int) < (rs[k].pauses.length : Int))
  rotate_left
  · (try simp only [AW, reduceAdd, reduceCtorEq, reduceEqDiff, ↓reduceIte, reduceLT, reduceLeDiff, reduceSub, reducePow, reduceMul, reduceToNat, reduceLE, reduceEq, Int.reduceLT, Int.reduceBEq, Int.reduceBNe]); (try refine drawnK rfl ?_); (try simp only [AW, reduceAdd, reduceCtorEq, reduceEqDiff, ↓reduceIte, reduceLT, reduceLeDiff, reduceSub, reducePow, reduceMul, reduceToNat, reduceLE, reduceEq, Int.reduceLT, Int.reduceBEq, Int.reduceBNe]); refine ops_call (wornAwake_g) (by simp only [AW, reduceAdd, reduceCtorEq, reduceEqDiff, ↓reduceIte, reduceLT, reduceLeDiff, reduceSub, reducePow, reduceMul, reduceToNat, reduceLE, reduceEq, Int.reduceLT, Int.reduceBEq, Int.reduceBNe]) ?_; simp only [AW, reduceAdd, reduceCtorEq, reduceEqDiff, ↓reduceIte, reduceLT, reduceLeDiff, reduceSub, reducePow, reduceMul, reduceToNat, reduceLE, reduceEq, Int.reduceLT, Int.reduceBEq, Int.reduceBNe]
  (try simp only [AW, reduceAdd, reduceCtorEq, reduceEqDiff, ↓reduceIte, reduceLT, reduceLeDiff, reduceSub, reducePow, reduceMul, reduceToNat, reduceLE, reduceEq, Int.reduceLT, Int.reduceBEq, Int.reduceBNe]); (try refine drawnK rfl ?_); (try simp only [AW, reduceAdd, reduceCtorEq, reduceEqDiff, ↓reduceIte, reduceLT, reduceLeDiff, reduceSub, reducePow, reduceMul, reduceToNat, reduceLE, reduceEq, Int.reduceLT, Int.reduceBEq, Int.reduceBNe])
  (try simp only [wrap_succ hltk hlen, AW, reduceAdd, reduceCtorEq, reduceEqDiff, ↓reduceIte, reduceLT, reduceLeDiff, reduceSub, reducePow, reduceMul, reduceToNat, reduceLE, reduceEq, Int.reduceLT, Int.reduceBEq, Int.reduceBNe])
  refine ⟨k + 1, hltk, ?_, meas_lt hltk⟩
  simp only [LW, Nat.reduceMod, Nat.reduceDiv, AW, reduceAdd, reduceCtorEq, reduceEqDiff, ↓reduceIte, reduceLT, reduceLeDiff, reduceSub, reducePow, reduceMul, reduceToNat, reduceLE, reduceEq, Int.reduceLT, Int.reduceBEq, Int.reduceBNe]


end Go.Proofs.Ythgnbkcopapbmaa
