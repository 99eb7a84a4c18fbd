/-
  Operators: who gets what of a fare, walked.
-/
import Derived.Test.YthekbdjklmellaaO5
namespace Go.Proofs.Ythekbdjklmellaa
open Go.RowKit
open Nat (reduceAdd reduceEqDiff reduceLT reduceLeDiff reduceSub reducePow reduceMul)
open Int (reduceToNat reduceLE reduceEq)
set_option linter.unusedVariables false
set_option linter.unusedSimpArgs false
set_option linter.unnecessarySimpa false

theorem sharesC_1 {l : List ContrS} {r : RideS} {a : Int} (h : checkC l ≠ 0) : sharesC l r a = ([], checkC l) := by unfold sharesC; rw [if_pos h]
theorem sharesC_2 {l : List ContrS} {r : RideS} {a : Int} (h : checkC l = 0) (h2 : checkL r ≠ 0) : sharesC l r a = ([], checkL r) := by unfold sharesC; rw [if_neg (by simp [h]), if_pos h2]
theorem sharesC_3 {l : List ContrS} {r : RideS} {a : Int} (h : checkC l = 0) (h2 : checkL r = 0) (h3 : r.open_ = true) : sharesC l r a = ([], 26) := by unfold sharesC; rw [if_neg (by simp [h]), if_neg (by simp [h2]), if_pos h3]
theorem sharesC_4 {l : List ContrS} {r : RideS} {a : Int} (h : checkC l = 0) (h2 : checkL r = 0) (h3 : r.open_ = false) (h4 : a < 0 ∨ 1000000000000 < a) : sharesC l r a = ([], 1) := by unfold sharesC; rw [if_neg (by simp [h]), if_neg (by simp [h2]), if_neg (by simp [h3]), if_pos h4]
theorem sharesC_5 {l : List ContrS} {r : RideS} {a : Int} (h : checkC l = 0) (h2 : checkL r = 0) (h3 : r.open_ = false) (h4 : ¬(a < 0 ∨ 1000000000000 < a)) (h5 : (shareL a (weightsL r)).2 ≠ 0) : sharesC l r a = ([], ((shareL a (weightsL r)).2 : Int)) := by unfold sharesC; rw [if_neg (by simp [h]), if_neg (by simp [h2]), if_neg (by simp [h3]), if_neg h4, if_pos h5]
theorem sharesC_6 {l : List ContrS} {r : RideS} {a : Int} (h : checkC l = 0) (h2 : checkL r = 0) (h3 : r.open_ = false) (h4 : ¬(a < 0 ∨ 1000000000000 < a)) (h5 : (shareL a (weightsL r)).2 = 0) : sharesC l r a = (linesK (accK l r.legs (shareL a (weightsL r)).1 r.legs.length) 9, 0) := by unfold sharesC; rw [if_neg (by simp [h]), if_neg (by simp [h2]), if_neg (by simp [h3]), if_neg h4, if_neg (by simp [h5])]
theorem stepA_none {l : List ContrS} {g : LegS} {p : Int} {acc : List Int} (h : l.findIdx? (holdB g.bike g.from_.lo) = none) : stepA l g p acc = acc.set 0 (el acc 0 + p) := by
  have e2 : l.find? (holdB g.bike g.from_.lo) = none := by rw [List.find?_eq_none]; rw [List.findIdx?_eq_none_iff] at h; intro x hx; simp [h x hx]
  unfold stepA; rw [e2]
theorem stepA_some {l : List ContrS} {g : LegS} {p : Int} {acc : List Int} {i : Nat} (hi : i < l.length) (h : l.findIdx? (holdB g.bike g.from_.lo) = some i) : stepA l g p acc = (acc.set (1 + l[i].op).toNat (el acc (1 + l[i].op).toNat + el (shareL p [l[i].share, 1000 - l[i].share]).1 0)).set 0 (el (acc.set (1 + l[i].op).toNat (el acc (1 + l[i].op).toNat + el (shareL p [l[i].share, 1000 - l[i].share]).1 0)) 0 + el (shareL p [l[i].share, 1000 - l[i].share]).1 1) := by
  have e2 : l.find? (holdB g.bike g.from_.lo) = some l[i] := by
    rw [List.find?_eq_some_iff_getElem]
    obtain ⟨_, h2, h3⟩ := List.findIdx?_eq_some_iff_getElem.1 h
    exact ⟨h2, i, hi, rfl, fun j hj => by simpa using h3 j hj⟩
  unfold stepA; rw [e2]
theorem set_i (l : List Int) (i : Nat) (v : Int) : (l.map intP).set i (.sc (.int .i64 v)) = (l.set i v).map intP := by rw [List.map_set]; rfl
theorem take9 {l : List Int} (h : l.length = 9) : (l.map intP).take 9 = l.map intP := List.take_of_length_le (by simp [h])
theorem cl1 (μ : List (Nat × Box)) (n : Nat) (l : List Int) : (l.map intP).map (clean1 μ n) = l.map intP := by
  rw [List.map_map]; rfl
set_option maxHeartbeats 8000000 in
theorem shares_g (l : List ContrS) (r : RideS) (amount : Int) : Good Try.prog 20 [csP l, r.pv, intP amount] (sharesP l r amount) := by
  refine good20 (by simp) ?_
  simp only [ac20, csP, intP, RideS.pv, AW, reduceAdd, reduceCtorEq, reduceEqDiff, ↓reduceIte, reduceLT, reduceLeDiff, reduceSub, reducePow, reduceMul, reduceToNat, reduceLE, reduceEq, Int.reduceLT, Int.reduceBEq, Int.reduceBNe]
  refine ops_call (ccheck_g l) (by simp only [intP, AW, reduceAdd, reduceCtorEq, reduceEqDiff, ↓reduceIte, reduceLT, reduceLeDiff, reduceSub, reducePow, reduceMul, reduceToNat, reduceLE, reduceEq, Int.reduceLT, Int.reduceBEq, Int.reduceBNe]) ?_; simp only [intP, AW, reduceAdd, reduceCtorEq, reduceEqDiff, ↓reduceIte, reduceLT, reduceLeDiff, reduceSub, reducePow, reduceMul, reduceToNat, reduceLE, reduceEq, Int.reduceLT, Int.reduceBEq, Int.reduceBNe]
  cases h0 : (checkC l != 0)
  rotate_left
  · simp only [sharesP, sharesC_1 (by simpa using h0), lnP, intP, List.map_nil, AW, reduceAdd, reduceCtorEq, reduceEqDiff, ↓reduceIte, reduceLT, reduceLeDiff, reduceSub, reducePow, reduceMul, reduceToNat, reduceLE, reduceEq, Int.reduceLT, Int.reduceBEq, Int.reduceBNe]
  have h0 : checkC l = 0 := by simpa using h0
  have h512 := check_len h0
  have hco := contrs_ok h0
  simp only [AW, reduceAdd, reduceCtorEq, reduceEqDiff, ↓reduceIte, reduceLT, reduceLeDiff, reduceSub, reducePow, reduceMul, reduceToNat, reduceLE, reduceEq, Int.reduceLT, Int.reduceBEq, Int.reduceBNe]
  refine ops_call (rcheck_g r) (by simp only [RideS.pv, AW, reduceAdd, reduceCtorEq, reduceEqDiff, ↓reduceIte, reduceLT, reduceLeDiff, reduceSub, reducePow, reduceMul, reduceToNat, reduceLE, reduceEq, Int.reduceLT, Int.reduceBEq, Int.reduceBNe]) ?_; simp only [RideS.pv, AW, reduceAdd, reduceCtorEq, reduceEqDiff, ↓reduceIte, reduceLT, reduceLeDiff, reduceSub, reducePow, reduceMul, reduceToNat, reduceLE, reduceEq, Int.reduceLT, Int.reduceBEq, Int.reduceBNe]
  cases h1 : (checkL r != 0)
  rotate_left
  · simp only [sharesP, sharesC_2 h0 (by simpa using h1), lnP, intP, List.map_nil, AW, reduceAdd, reduceCtorEq, reduceEqDiff, ↓reduceIte, reduceLT, reduceLeDiff, reduceSub, reducePow, reduceMul, reduceToNat, reduceLE, reduceEq, Int.reduceLT, Int.reduceBEq, Int.reduceBNe]
  have h1 : checkL r = 0 := by simpa using h1
  obtain ⟨hok, hl1, hl2⟩ := ride_legs h1
  have hlegm : r.legs.length ≤ maxLen := by unfold maxLen; omega
  simp only [AW, reduceAdd, reduceCtorEq, reduceEqDiff, ↓reduceIte, reduceLT, reduceLeDiff, reduceSub, reducePow, reduceMul, reduceToNat, reduceLE, reduceEq, Int.reduceLT, Int.reduceBEq, Int.reduceBNe]
  cases h2 : r.open_
  rotate_left
  · simp only [sharesP, sharesC_3 h0 h1 h2, lnP, intP, List.map_nil, AW, reduceAdd, reduceCtorEq, reduceEqDiff, ↓reduceIte, reduceLT, reduceLeDiff, reduceSub, reducePow, reduceMul, reduceToNat, reduceLE, reduceEq, Int.reduceLT, Int.reduceBEq, Int.reduceBNe]
  simp only [AW, reduceAdd, reduceCtorEq, reduceEqDiff, ↓reduceIte, reduceLT, reduceLeDiff, reduceSub, reducePow, reduceMul, reduceToNat, reduceLE, reduceEq, Int.reduceLT, Int.reduceBEq, Int.reduceBNe]
  cases h3 : decide (amount < 0)
  rotate_left
  · simp only [sharesP, sharesC_4 h0 h1 h2 (.inl (by simpa using h3)), lnP, intP, List.map_nil, AW, reduceAdd, reduceCtorEq, reduceEqDiff, ↓reduceIte, reduceLT, reduceLeDiff, reduceSub, reducePow, reduceMul, reduceToNat, reduceLE, reduceEq, Int.reduceLT, Int.reduceBEq, Int.reduceBNe]
  simp only [AW, reduceAdd, reduceCtorEq, reduceEqDiff, ↓reduceIte, reduceLT, reduceLeDiff, reduceSub, reducePow, reduceMul, reduceToNat, reduceLE, reduceEq, Int.reduceLT, Int.reduceBEq, Int.reduceBNe]
  cases h4 : decide ((1000000000000 : Int) < amount)
  rotate_left
  · simp only [sharesP, sharesC_4 h0 h1 h2 (.inr (by simpa using h4)), lnP, intP, List.map_nil, AW, reduceAdd, reduceCtorEq, reduceEqDiff, ↓reduceIte, reduceLT, reduceLeDiff, reduceSub, reducePow, reduceMul, reduceToNat, reduceLE, reduceEq, Int.reduceLT, Int.reduceBEq, Int.reduceBNe]
  have h34 : ¬(amount < 0 ∨ 1000000000000 < amount) := by simp only [decide_eq_false_iff_not] at h3 h4; omega
  have hwl := weights_len r
  simp only [AW, reduceAdd, reduceCtorEq, reduceEqDiff, ↓reduceIte, reduceLT, reduceLeDiff, reduceSub, reducePow, reduceMul, reduceToNat, reduceLE, reduceEq, Int.reduceLT, Int.reduceBEq, Int.reduceBNe]
  refine ops_call (weights_g r hl2 hok) (by simp only [RideS.pv, h2, AW, reduceAdd, reduceCtorEq, reduceEqDiff, ↓reduceIte, reduceLT, reduceLeDiff, reduceSub, reducePow, reduceMul, reduceToNat, reduceLE, reduceEq, Int.reduceLT, Int.reduceBEq, Int.reduceBNe]) ?_; simp only [RideS.pv, h2, AW, reduceAdd, reduceCtorEq, reduceEqDiff, ↓reduceIte, reduceLT, reduceLeDiff, reduceSub, reducePow, reduceMul, reduceToNat, reduceLE, reduceEq, Int.reduceLT, Int.reduceBEq, Int.reduceBNe]
  refine ops_call (share_g amount (weightsL r) (by omega)) (by simp only [intP, intsP, AW, reduceAdd, reduceCtorEq, reduceEqDiff, ↓reduceIte, reduceLT, reduceLeDiff, reduceSub, reducePow, reduceMul, reduceToNat, reduceLE, reduceEq, Int.reduceLT, Int.reduceBEq, Int.reduceBNe]) ?_; simp only [intP, intsP, AW, reduceAdd, reduceCtorEq, reduceEqDiff, ↓reduceIte, reduceLT, reduceLeDiff, reduceSub, reducePow, reduceMul, reduceToNat, reduceLE, reduceEq, Int.reduceLT, Int.reduceBEq, Int.reduceBNe]
  simp only [shareP, intsP, intP, AW, reduceAdd, reduceCtorEq, reduceEqDiff, ↓reduceIte, reduceLT, reduceLeDiff, reduceSub, reducePow, reduceMul, reduceToNat, reduceLE, reduceEq, Int.reduceLT, Int.reduceBEq, Int.reduceBNe]
  cases h5' : (((shareL amount (weightsL r)).2 : Int) != 0)
  rotate_left
  · simp only [sharesP, sharesC_5 h0 h1 h2 h34 (by simpa using h5'), lnP, intP, List.map_nil, AW, reduceAdd, reduceCtorEq, reduceEqDiff, ↓reduceIte, reduceLT, reduceLeDiff, reduceSub, reducePow, reduceMul, reduceToNat, reduceLE, reduceEq, Int.reduceLT, Int.reduceBEq, Int.reduceBNe]
  have h5 : (shareL amount (weightsL r)).2 = 0 := by simpa using h5'
  have hsh := sharesC_6 h0 h1 h2 h34 h5
  obtain ⟨f1, f2, f3⟩ := share_fact h5
  obtain ⟨ps, hps⟩ : ∃ ps, ps = (shareL amount (weightsL r)).1 := ⟨_, rfl⟩
  rw [← hps] at f1 f2 f3 hsh ⊢
  have fl : ps.length = r.legs.length := by rw [f1, hwl]
  have hacc := fun k hk => accK_ok (legs := r.legs) hco fl f3 (show ps.sum ≤ 1000000000000 by omega) k hk
  have psm : ps.length ≤ maxLen := by rw [fl]; exact hlegm
  have pse : ∀ k, k < ps.length → 0 ≤ el ps k ∧ el ps k ≤ 1000000000000 := fun k hk => ⟨f3 _ (el_mem hk), by have := mem_le_sum f3 (el_mem hk); omega⟩
  simp only [List.length_map, AW, reduceAdd, reduceCtorEq, reduceEqDiff, ↓reduceIte, reduceLT, reduceLeDiff, reduceSub, reducePow, reduceMul, reduceToNat, reduceLE, reduceEq, Int.reduceLT, Int.reduceBEq, Int.reduceBNe]
  refine run_loop (ι := Nat) (fun k => ⟨[(0, .sl (l.map ContrS.pv)), (4, .ptr 0 0), (12, .ptr 32 0), (49, .sl (ps.map intP)), (50, .sc (.int .i64 (ps.length : Int))), (51, .sc (.int .i64 (k : Int)))], [(0, .var [.sc (.int .i64 r.id), .sc (.int .i64 r.rider), .sc (.int .i64 r.start.lo), .sc (.int .i64 r.start.hi), .sc (.int .i64 r.end_.lo), .sc (.int .i64 r.end_.hi), .sc (.bool r.open_), .sl (r.legs.map LegS.pv), .sl (r.pauses.map PauseS.pv), .sc (.int .i64 r.fromWhere), .sc (.int .i64 r.fromPlace), .sc (.int .i64 r.where_), .sc (.int .i64 r.place)]), (32, .var ((accK l r.legs ps k).map intP))], 36, 134⟩) (fun k => k ≤ ps.length) (fun k => ps.length - k) 36 (fun _ => rfl) 0 (by simp only [LW, Nat.reduceMod, Nat.reduceDiv, Int.natCast_zero, h2, accK, acc0, List.map_cons, List.map_nil, intP, AW, reduceAdd, reduceCtorEq, reduceEqDiff, ↓reduceIte, reduceLT, reduceLeDiff, reduceSub, reducePow, reduceMul, reduceToNat, reduceLE, reduceEq, Int.reduceLT, Int.reduceBEq, Int.reduceBNe]) (Nat.zero_le _) (fun k hk => ?_)
  have gk := hk
  by_cases hltk : k < ps.length
  rotate_left
  · have dk : decide ((k : Int) < ((ps.length : Nat) : Int)) = false := by rw [decide_eq_false_iff_not]; exact fun h => hltk (Int.ofNat_lt.1 h)
    have ek : k = ps.length := Nat.le_antisymm gk (Nat.le_of_not_lt hltk)
    rw [ek, fl] at dk ⊢
    have a0 : (accK l r.legs ps r.legs.length).length = 9 := (hacc _ (Nat.le_refl _)).len
    obtain ⟨acc, hac⟩ : ∃ acc, acc = accK l r.legs ps r.legs.length := ⟨_, rfl⟩
    rw [← hac] at a0 hsh ⊢
    have n9 : (9 : Nat) ≤ maxLen := by unfold maxLen; omega
    simp only [dk, List.length_map, a0, take9 a0, AW, reduceAdd, reduceCtorEq, reduceEqDiff, ↓reduceIte, reduceLT, reduceLeDiff, reduceSub, reducePow, reduceMul, reduceToNat, reduceLE, reduceEq, Int.reduceLT, Int.reduceBEq, Int.reduceBNe]
    refine run_loop (ι := Nat) (fun m => ⟨[(18, .own 40 0), (119, .agg (acc.map intP)), (120, .sc (.int .i64 (m : Int)))], [(0, .var [.sc (.int .i64 r.id), .sc (.int .i64 r.rider), .sc (.int .i64 r.start.lo), .sc (.int .i64 r.start.hi), .sc (.int .i64 r.end_.lo), .sc (.int .i64 r.end_.hi), .sc (.bool r.open_), .sl (r.legs.map LegS.pv), .sl (r.pauses.map PauseS.pv), .sc (.int .i64 r.fromWhere), .sc (.int .i64 r.fromPlace), .sc (.int .i64 r.where_), .sc (.int .i64 r.place)]), (32, .var (acc.map intP)), (40, .row 50 2 0 ((linesK acc m).map LineS.pv))], 41, 134⟩) (fun m => m ≤ 9) (fun m => 9 - m) 41 (fun _ => rfl) 0 (by simp only [LW, Nat.reduceMod, Nat.reduceDiv, cl1, linesK, List.range_zero, List.filter_nil, List.map_nil, Int.natCast_zero, AW, reduceAdd, reduceCtorEq, reduceEqDiff, ↓reduceIte, reduceLT, reduceLeDiff, reduceSub, reducePow, reduceMul, reduceToNat, reduceLE, reduceEq, Int.reduceLT, Int.reduceBEq, Int.reduceBNe]) (Nat.zero_le _) (fun m gm => ?_)
    by_cases hm : m < 9
    rotate_left
    · have e9 : m = 9 := by omega
      subst e9
      have dm : decide (((9 : Nat) : Int) < 9) = false := rfl
      simp only [dm, sharesP, hsh, lnP, intP, AW, reduceAdd, reduceCtorEq, reduceEqDiff, ↓reduceIte, reduceLT, reduceLeDiff, reduceSub, reducePow, reduceMul, reduceToNat, reduceLE, reduceEq, Int.reduceLT, Int.reduceBEq, Int.reduceBNe]
    have dm : decide ((m : Int) < 9) = true := by rw [decide_eq_true_eq]; omega
    have m1 : m + 1 ≤ 9 := hm
    have ma : m < acc.length := by omega
    have hll := linesK_len acc m
    have l1 : (linesK acc m).length + 1 ≤ maxLen := by unfold maxLen; omega
    have l2 : ((linesK acc m).length + 1) * 16 ≤ 140737488355328 := by omega
    have hs := linesK_succ acc m
    simp only [dm, List.length_map, hm, m1, Nat.mul_one, a0, map_el ma, AW, reduceAdd, reduceCtorEq, reduceEqDiff, ↓reduceIte, reduceLT, reduceLeDiff, reduceSub, reducePow, reduceMul, reduceToNat, reduceLE, reduceEq, Int.reduceLT, Int.reduceBEq, Int.reduceBNe]
    cases h0 : (el acc m != 0)
    · rw [if_pos (by simpa using h0), List.append_nil] at hs
      simp only [wrap_succ hm n9, AW, reduceAdd, reduceCtorEq, reduceEqDiff, ↓reduceIte, reduceLT, reduceLeDiff, reduceSub, reducePow, reduceMul, reduceToNat, reduceLE, reduceEq, Int.reduceLT, Int.reduceBEq, Int.reduceBNe]
      refine ⟨m + 1, hm, ?_, by omega⟩
      simp only [LW, Nat.reduceMod, Nat.reduceDiv, hs, cl1, AW, reduceAdd, reduceCtorEq, reduceEqDiff, ↓reduceIte, reduceLT, reduceLeDiff, reduceSub, reducePow, reduceMul, reduceToNat, reduceLE, reduceEq, Int.reduceLT, Int.reduceBEq, Int.reduceBNe]
    · rw [if_neg (by simpa using h0)] at hs
      simp only [List.length_map, hm, m1, Nat.mul_one, a0, map_el ma, l1, l2, AW, reduceAdd, reduceCtorEq, reduceEqDiff, ↓reduceIte, reduceLT, reduceLeDiff, reduceSub, reducePow, reduceMul, reduceToNat, reduceLE, reduceEq, Int.reduceLT, Int.reduceBEq, Int.reduceBNe]
      (try refine drawnK rfl ?_); (try simp only [AW, reduceAdd, reduceCtorEq, reduceEqDiff, ↓reduceIte, reduceLT, reduceLeDiff, reduceSub, reducePow, reduceMul, reduceToNat, reduceLE, reduceEq, Int.reduceLT, Int.reduceBEq, Int.reduceBNe])
      (try simp only [wrap_succ hm n9, AW, reduceAdd, reduceCtorEq, reduceEqDiff, ↓reduceIte, reduceLT, reduceLeDiff, reduceSub, reducePow, reduceMul, reduceToNat, reduceLE, reduceEq, Int.reduceLT, Int.reduceBEq, Int.reduceBNe])
      refine ⟨m + 1, hm, ?_, by omega⟩
      simp only [LW, Nat.reduceMod, Nat.reduceDiv, hs, cl1, List.map_append, LineS.pv, LineS.vals, List.map_cons, List.map_nil, AW, reduceAdd, reduceCtorEq, reduceEqDiff, ↓reduceIte, reduceLT, reduceLeDiff, reduceSub, reducePow, reduceMul, reduceToNat, reduceLE, reduceEq, Int.reduceLT, Int.reduceBEq, Int.reduceBNe]
  have dk : decide ((k : Int) < ((ps.length : Nat) : Int)) = true := by rw [decide_eq_true_eq]; exact Int.ofNat_lt.2 hltk
  have hkl : k < r.legs.length := by rw [← fl]; exact hltk
  have hA := hacc k (by omega)
  have al := hA.len
  have asum : (ps.take k).sum ≤ 1000000000000 := by
    have h1 := (hacc (k + 1) (by omega)).sum
    have h2 := (hacc (k + 1) (by omega)).pos
    have hs : ps.sum = (ps.take k).sum + (ps.drop k).sum := by rw [← List.sum_append, List.take_append_drop]
    have hd : 0 ≤ (ps.drop k).sum := by
      have : ∀ x ∈ ps.drop k, 0 ≤ x := fun x hx => f3 x (List.mem_of_mem_drop hx)
      generalize ps.drop k = d at this
      induction d with
      | nil => simp
      | cons y d ih => have := ih (fun x hx => this x (List.mem_cons_of_mem _ hx)); have := this; simp only [List.sum_cons]; rename_i h _; have := h y List.mem_cons_self; omega
    omega
  have hp := pse k hltk
  have b0 := hA.el_b (i := 0) (by omega)
  have hsucc := accK_succ (l := l) (ps := ps) hkl
  have p0 : 0 < (accK l r.legs ps k).length := by omega
  have w0 : IntKind.i64.wrap (el (accK l r.legs ps k) 0 + el ps k) = el (accK l r.legs ps k) 0 + el ps k := wrap_id (by unfold I64; omega)
  simp only [dk, List.length_map, hltk, hkl, map_el hltk, map_getD hkl, LegS.pv, LegS.vals, ContrS.pv, ContrS.vals, List.map_cons, List.map_nil, AW, reduceAdd, reduceCtorEq, reduceEqDiff, ↓reduceIte, reduceLT, reduceLeDiff, reduceSub, reducePow, reduceMul, reduceToNat, reduceLE, reduceEq, Int.reduceLT, Int.reduceBEq, Int.reduceBNe]
  (try refine drawnK rfl ?_); (try simp only [List.length_map, hltk, hkl, map_el hltk, map_getD hkl, LegS.pv, LegS.vals, ContrS.pv, ContrS.vals, List.map_cons, List.map_nil, AW, reduceAdd, reduceCtorEq, reduceEqDiff, ↓reduceIte, reduceLT, reduceLeDiff, reduceSub, reducePow, reduceMul, reduceToNat, reduceLE, reduceEq, Int.reduceLT, Int.reduceBEq, Int.reduceBNe])
  refine ops_call (find_g l r.legs[k].bike r.legs[k].from_.lo) (by simp only [intP, AW, reduceAdd, reduceCtorEq, reduceEqDiff, ↓reduceIte, reduceLT, reduceLeDiff, reduceSub, reducePow, reduceMul, reduceToNat, reduceLE, reduceEq, Int.reduceLT, Int.reduceBEq, Int.reduceBNe]) ?_; simp only [intP, AW, reduceAdd, reduceCtorEq, reduceEqDiff, ↓reduceIte, reduceLT, reduceLeDiff, reduceSub, reducePow, reduceMul, reduceToNat, reduceLE, reduceEq, Int.reduceLT, Int.reduceBEq, Int.reduceBNe]
  (try refine drawnK rfl ?_); (try simp only [AW, reduceAdd, reduceCtorEq, reduceEqDiff, ↓reduceIte, reduceLT, reduceLeDiff, reduceSub, reducePow, reduceMul, reduceToNat, reduceLE, reduceEq, Int.reduceLT, Int.reduceBEq, Int.reduceBNe])
  cases hf : l.findIdx? (holdB r.legs[k].bike r.legs[k].from_.lo) with
  | none =>
    have e : findC l r.legs[k].bike r.legs[k].from_.lo = -1 := by unfold findC; rw [hf]
    have d : decide ((-1 : Int) < 0) = true := rfl
    rw [stepA_none hf] at hsucc
    simp only [e, d, List.length_map, Nat.zero_mul, Nat.mul_one, p0, map_el p0, al, hltk, map_el hltk, w0, set_i, AW, reduceAdd, reduceCtorEq, reduceEqDiff, ↓reduceIte, reduceLT, reduceLeDiff, reduceSub, reducePow, reduceMul, reduceToNat, reduceLE, reduceEq, Int.reduceLT, Int.reduceBEq, Int.reduceBNe]
    (try refine drawnK rfl ?_); (try simp only [List.length_map, Nat.zero_mul, Nat.mul_one, p0, map_el p0, al, hltk, map_el hltk, w0, set_i, AW, reduceAdd, reduceCtorEq, reduceEqDiff, ↓reduceIte, reduceLT, reduceLeDiff, reduceSub, reducePow, reduceMul, reduceToNat, reduceLE, reduceEq, Int.reduceLT, Int.reduceBEq, Int.reduceBNe])
    (try simp only [wrap_succ hltk psm, AW, reduceAdd, reduceCtorEq, reduceEqDiff, ↓reduceIte, reduceLT, reduceLeDiff, reduceSub, reducePow, reduceMul, reduceToNat, reduceLE, reduceEq, Int.reduceLT, Int.reduceBEq, Int.reduceBNe])
    refine ⟨k + 1, hltk, ?_, meas_lt hltk⟩
    simp only [LW, Nat.reduceMod, Nat.reduceDiv, hsucc, cl1, AW, reduceAdd, reduceCtorEq, reduceEqDiff, ↓reduceIte, reduceLT, reduceLeDiff, reduceSub, reducePow, reduceMul, reduceToNat, reduceLE, reduceEq, Int.reduceLT, Int.reduceBEq, Int.reduceBNe]
  | some i =>
    obtain ⟨hi, hh, e⟩ := find_some hf
    have d : decide ((i : Int) < 0) = false := by rw [decide_eq_false_iff_not]; omega
    obtain ⟨c1, c2, c3, c4⟩ := contr_op (hco _ (List.getElem_mem hi))
    obtain ⟨t1, t2, t3, t4⟩ := two_fact hp.1 hp.2 c3 c4
    have te := two_ok hp.1 hp.2 c3 c4
    have hg := share_g (el ps k) [l[i].share, 1000 - l[i].share] (by simp)
    rw [shareP, te] at hg
    rw [stepA_some hi hf] at hsucc
    obtain ⟨two, htw⟩ : ∃ two, two = (shareL (el ps k) [l[i].share, 1000 - l[i].share]).1 := ⟨_, rfl⟩
    rw [← htw] at t1 t2 t3 t4 hg hsucc
    have ws : IntKind.i64.wrap (1000 - l[i].share) = 1000 - l[i].share := wrap_id (by unfold I64; omega)
    have wo : IntKind.i64.wrap (1 + l[i].op) = 1 + l[i].op := wrap_id (by unfold I64; omega)
    have o1 : (0 : Int) ≤ 1 + l[i].op := by omega
    have o2 : (1 + l[i].op).toNat < 9 := by omega
    have o3 : (1 + l[i].op).toNat + 1 ≤ 9 := by omega
    have o4 : (1 + l[i].op).toNat < (accK l r.legs ps k).length := by omega
    have q0 : 0 < two.length := by omega
    have q1 : 1 < two.length := by omega
    have bo := hA.el_b o2
    have w1 : IntKind.i64.wrap (el (accK l r.legs ps k) (1 + l[i].op).toNat + el two 0) = el (accK l r.legs ps k) (1 + l[i].op).toNat + el two 0 := wrap_id (by unfold I64; omega)
    have hB := hA.set o2 t2
    have hl2' : ((accK l r.legs ps k).set (1 + l[i].op).toNat (el (accK l r.legs ps k) (1 + l[i].op).toNat + el two 0)).length = 9 := hB.len
    have p1 : 0 < ((accK l r.legs ps k).set (1 + l[i].op).toNat (el (accK l r.legs ps k) (1 + l[i].op).toNat + el two 0)).length := by omega
    have b1 := hB.el_b (i := 0) (by omega)
    have w2 : IntKind.i64.wrap (el ((accK l r.legs ps k).set (1 + l[i].op).toNat (el (accK l r.legs ps k) (1 + l[i].op).toNat + el two 0)) 0 + el two 1) = el ((accK l r.legs ps k).set (1 + l[i].op).toNat (el (accK l r.legs ps k) (1 + l[i].op).toNat + el two 0)) 0 + el two 1 := wrap_id (by unfold I64; omega)
    have z0 : ((0 : Nat) : Int) = 0 := rfl
    have i0 : ((0 : Int) != 0) = false := rfl
    simp only [e, d, List.length_map, hltk, map_el hltk, hi, map_getD hi, ContrS.pv, ContrS.vals, List.map_cons, List.map_nil, ws, AW, reduceAdd, reduceCtorEq, reduceEqDiff, ↓reduceIte, reduceLT, reduceLeDiff, reduceSub, reducePow, reduceMul, reduceToNat, reduceLE, reduceEq, Int.reduceLT, Int.reduceBEq, Int.reduceBNe]
    refine ops_call (hg) (by simp only [intP, intsP, ContrS.pv, ContrS.vals, List.map_cons, List.map_nil, AW, reduceAdd, reduceCtorEq, reduceEqDiff, ↓reduceIte, reduceLT, reduceLeDiff, reduceSub, reducePow, reduceMul, reduceToNat, reduceLE, reduceEq, Int.reduceLT, Int.reduceBEq, Int.reduceBNe]) ?_; simp only [intP, intsP, ContrS.pv, ContrS.vals, List.map_cons, List.map_nil, AW, reduceAdd, reduceCtorEq, reduceEqDiff, ↓reduceIte, reduceLT, reduceLeDiff, reduceSub, reducePow, reduceMul, reduceToNat, reduceLE, reduceEq, Int.reduceLT, Int.reduceBEq, Int.reduceBNe]
    (try refine drawnK rfl ?_); (try simp only [z0, i0, AW, reduceAdd, reduceCtorEq, reduceEqDiff, ↓reduceIte, reduceLT, reduceLeDiff, reduceSub, reducePow, reduceMul, reduceToNat, reduceLE, reduceEq, Int.reduceLT, Int.reduceBEq, Int.reduceBNe])
    have RS : True := trivial
    simp only [z0, i0, List.length_map, hi, map_getD hi, ContrS.pv, ContrS.vals, List.map_cons, List.map_nil, wo, o1, o2, o3, Nat.zero_mul, Nat.mul_one, al, map_el o4, q0, map_el q0, w1, set_i, AW, reduceAdd, reduceCtorEq, reduceEqDiff, ↓reduceIte, reduceLT, reduceLeDiff, reduceSub, reducePow, reduceMul, reduceToNat, reduceLE, reduceEq, Int.reduceLT, Int.reduceBEq, Int.reduceBNe]
    (try refine drawnK rfl ?_); (try simp only [List.length_map, hl2', Nat.zero_mul, Nat.mul_one, map_el p1, q1, map_el q1, w2, set_i, AW, reduceAdd, reduceCtorEq, reduceEqDiff, ↓reduceIte, reduceLT, reduceLeDiff, reduceSub, reducePow, reduceMul, reduceToNat, reduceLE, reduceEq, Int.reduceLT, Int.reduceBEq, Int.reduceBNe])
    (try refine drawnK rfl ?_); (try simp only [List.length_map, hl2', Nat.zero_mul, Nat.mul_one, map_el p1, q1, map_el q1, w2, set_i, AW, reduceAdd, reduceCtorEq, reduceEqDiff, ↓reduceIte, reduceLT, reduceLeDiff, reduceSub, reducePow, reduceMul, reduceToNat, reduceLE, reduceEq, Int.reduceLT, Int.reduceBEq, Int.reduceBNe])
    (try simp only [wrap_succ hltk psm, AW, reduceAdd, reduceCtorEq, reduceEqDiff, ↓reduceIte, reduceLT, reduceLeDiff, reduceSub, reducePow, reduceMul, reduceToNat, reduceLE, reduceEq, Int.reduceLT, Int.reduceBEq, Int.reduceBNe])
    refine ⟨k + 1, hltk, ?_, meas_lt hltk⟩
    simp only [LW, Nat.reduceMod, Nat.reduceDiv, hsucc, cl1, AW, reduceAdd, reduceCtorEq, reduceEqDiff, ↓reduceIte, reduceLT, reduceLeDiff, reduceSub, reducePow, reduceMul, reduceToNat, reduceLE, reduceEq, Int.reduceLT, Int.reduceBEq, Int.reduceBNe]


end Go.Proofs.Ythekbdjklmellaa
