/-
  The history of a city: totals and hours, walked.
-/
import Derived.Test.YtjobpjhmdbmdgaaHe
namespace Go.Proofs.Ytjobpjhmdbmdgaa
open Go.RowKit
set_option linter.unusedVariables false
set_option linter.unusedSimpArgs false
set_option linter.unnecessarySimpa false

theorem map_sum_take (g : RideS → Int) (rs : List RideS) (k : Nat) (h : k < rs.length) : ((rs.take (k + 1)).map g).sum = ((rs.take k).map g).sum + g rs[k] := by
  rw [List.take_succ_eq_append_getElem h, List.map_append, List.sum_append]; simp
theorem isOne_b (n : Int) : 0 ≤ isOne n ∧ isOne n ≤ 1 := by unfold isOne; split <;> omega
theorem map_sum_b (g : RideS → Int) (hg : ∀ r, 0 ≤ g r ∧ g r ≤ 1) : ∀ rs : List RideS, 0 ≤ (rs.map g).sum ∧ (rs.map g).sum ≤ rs.length
  | [] => by simp
  | r :: rs => by have := map_sum_b g hg rs; have := hg r; simp only [List.map_cons, List.sum_cons, List.length_cons]; omega
set_option maxHeartbeats 4000000 in
theorem historyTotals_good (st : Int) (rs : List RideS) : Good Try.prog 8 [.sc (.int .i64 st), .sl (rs.map RideS.pv)] (.sc (.bool true)) := by
  refine good8 (by simp) ?_
  simp only [ac8, AW, Nat.reduceAdd, reduceCtorEq, Nat.reduceEqDiff, ↓reduceIte, Nat.reduceLT, Nat.reduceLeDiff, Nat.reduceSub, Nat.reducePow, Nat.reduceMul, Int.reduceToNat, Int.reduceLE, Int.reduceEq, Int.reduceLT, Int.reduceBEq, Int.reduceBNe]
  refine ops_call (few39_g rs) (by simp only [AW, Nat.reduceAdd, reduceCtorEq, Nat.reduceEqDiff, ↓reduceIte, Nat.reduceLT, Nat.reduceLeDiff, Nat.reduceSub, Nat.reducePow, Nat.reduceMul, Int.reduceToNat, Int.reduceLE, Int.reduceEq, Int.reduceLT, Int.reduceBEq, Int.reduceBNe]) ?_; simp only [AW, Nat.reduceAdd, reduceCtorEq, Nat.reduceEqDiff, ↓reduceIte, Nat.reduceLT, Nat.reduceLeDiff, Nat.reduceSub, Nat.reducePow, Nat.reduceMul, Int.reduceToNat, Int.reduceLE, Int.reduceEq, Int.reduceLT, Int.reduceBEq, Int.reduceBNe]
  cases hf : few39L rs
  · simp only [AW, Nat.reduceAdd, reduceCtorEq, Nat.reduceEqDiff, ↓reduceIte, Nat.reduceLT, Nat.reduceLeDiff, Nat.reduceSub, Nat.reducePow, Nat.reduceMul, Int.reduceToNat, Int.reduceLE, Int.reduceEq, Int.reduceLT, Int.reduceBEq, Int.reduceBNe]; refine ops_call (awake) (by simp only [AW, Nat.reduceAdd, reduceCtorEq, Nat.reduceEqDiff, ↓reduceIte, Nat.reduceLT, Nat.reduceLeDiff, Nat.reduceSub, Nat.reducePow, Nat.reduceMul, Int.reduceToNat, Int.reduceLE, Int.reduceEq, Int.reduceLT, Int.reduceBEq, Int.reduceBNe]) ?_; simp only [AW, Nat.reduceAdd, reduceCtorEq, Nat.reduceEqDiff, ↓reduceIte, Nat.reduceLT, Nat.reduceLeDiff, Nat.reduceSub, Nat.reducePow, Nat.reduceMul, Int.reduceToNat, Int.reduceLE, Int.reduceEq, Int.reduceLT, Int.reduceBEq, Int.reduceBNe]
  have hl : rs.length ≤ 300 := by simp only [few39L, Bool.and_eq_true, decide_eq_true_eq] at hf; exact hf.1
  have hlen : rs.length ≤ maxLen := by unfold maxLen; omega
  simp only [AW, Nat.reduceAdd, reduceCtorEq, Nat.reduceEqDiff, ↓reduceIte, Nat.reduceLT, Nat.reduceLeDiff, Nat.reduceSub, Nat.reducePow, Nat.reduceMul, Int.reduceToNat, Int.reduceLE, Int.reduceEq, Int.reduceLT, Int.reduceBEq, Int.reduceBNe]
  by_cases h256 : 256 < rs.length
  · have e : ∃ x, countC st rs = (zeroC, x) ∧ x ≠ 0 := by
      by_cases hst : stB st = true
      · exact ⟨8, countC_2 hst h256, by decide⟩
      · exact ⟨1, countC_1 (by simpa using hst), by decide⟩
    obtain ⟨x, e, hx⟩ := e
    have g := count_g st rs
    rw [e] at g
    have hx2 : (x != 0) = true := by simpa using hx
    have z0 : (((0 : Nat) : Int) == 0) = true := rfl
    refine ops_call (g) (by simp only [intP, addP, CountsS.pv, zeroC, hx2, z0, AW, Nat.reduceAdd, reduceCtorEq, Nat.reduceEqDiff, ↓reduceIte, Nat.reduceLT, Nat.reduceLeDiff, Nat.reduceSub, Nat.reducePow, Nat.reduceMul, Int.reduceToNat, Int.reduceLE, Int.reduceEq, Int.reduceLT, Int.reduceBEq, Int.reduceBNe]) ?_; simp only [intP, addP, CountsS.pv, zeroC, hx2, z0, AW, Nat.reduceAdd, reduceCtorEq, Nat.reduceEqDiff, ↓reduceIte, Nat.reduceLT, Nat.reduceLeDiff, Nat.reduceSub, Nat.reducePow, Nat.reduceMul, Int.reduceToNat, Int.reduceLE, Int.reduceEq, Int.reduceLT, Int.reduceBEq, Int.reduceBNe]
    refine ops_call (awake) (by simp only [AW, Nat.reduceAdd, reduceCtorEq, Nat.reduceEqDiff, ↓reduceIte, Nat.reduceLT, Nat.reduceLeDiff, Nat.reduceSub, Nat.reducePow, Nat.reduceMul, Int.reduceToNat, Int.reduceLE, Int.reduceEq, Int.reduceLT, Int.reduceBEq, Int.reduceBNe]) ?_; simp only [AW, Nat.reduceAdd, reduceCtorEq, Nat.reduceEqDiff, ↓reduceIte, Nat.reduceLT, Nat.reduceLeDiff, Nat.reduceSub, Nat.reducePow, Nat.reduceMul, Int.reduceToNat, Int.reduceLE, Int.reduceEq, Int.reduceLT, Int.reduceBEq, Int.reduceBNe]
  obtain ⟨i1, i2, i3⟩ := countC_iff (st := st) (rs := rs) (by omega)
  by_cases hz : (countC st rs).2 = 0
  rotate_left
  · have g := count_g st rs
    have e : countC st rs = (zeroC, (countC st rs).2) := by rw [← i3 hz]
    rw [e] at g
    have hx2 : ((countC st rs).2 != 0) = true := by simpa using hz
    have z0 : (((0 : Nat) : Int) == 0) = true := rfl
    refine ops_call (g) (by simp only [intP, addP, CountsS.pv, zeroC, hx2, z0, AW, Nat.reduceAdd, reduceCtorEq, Nat.reduceEqDiff, ↓reduceIte, Nat.reduceLT, Nat.reduceLeDiff, Nat.reduceSub, Nat.reducePow, Nat.reduceMul, Int.reduceToNat, Int.reduceLE, Int.reduceEq, Int.reduceLT, Int.reduceBEq, Int.reduceBNe]) ?_; simp only [intP, addP, CountsS.pv, zeroC, hx2, z0, AW, Nat.reduceAdd, reduceCtorEq, Nat.reduceEqDiff, ↓reduceIte, Nat.reduceLT, Nat.reduceLeDiff, Nat.reduceSub, Nat.reducePow, Nat.reduceMul, Int.reduceToNat, Int.reduceLE, Int.reduceEq, Int.reduceLT, Int.reduceBEq, Int.reduceBNe]
    refine ops_call (awake) (by simp only [AW, Nat.reduceAdd, reduceCtorEq, Nat.reduceEqDiff, ↓reduceIte, Nat.reduceLT, Nat.reduceLeDiff, Nat.reduceSub, Nat.reducePow, Nat.reduceMul, Int.reduceToNat, Int.reduceLE, Int.reduceEq, Int.reduceLT, Int.reduceBEq, Int.reduceBNe]) ?_; simp only [AW, Nat.reduceAdd, reduceCtorEq, Nat.reduceEqDiff, ↓reduceIte, Nat.reduceLT, Nat.reduceLeDiff, Nat.reduceSub, Nat.reducePow, Nat.reduceMul, Int.reduceToNat, Int.reduceLE, Int.reduceEq, Int.reduceLT, Int.reduceBEq, Int.reduceBNe]
  obtain ⟨hst, hall⟩ := i1.1 hz
  have hb : 1 ≤ st ∧ st ≤ 32 := by simpa [stB] using hst
  have hN : st * 168 = ((st.toNat * 168 : Nat) : Int) := by omega
  have g := count_g st rs
  rw [i2 hz] at g
  have s1 := outL_sum hN (fun r hr => (hall r hr).2)
  have s2 := inL_sum hN (fun r hr => (hall r hr).2)
  have gc := rcheckC_g ⟨st, outL (st.toNat * 168) rs, inL (st.toNat * 168) rs⟩
  rw [count_check hst (by omega)] at gc
  obtain ⟨a1, a2⟩ := outL_ok (st.toNat * 168) rs
  obtain ⟨b1, b2⟩ := inL_ok (st.toNat * 168) rs
  have n1 := numbers_of (l := outL (st.toNat * 168) rs) (fun x hx => by have := a2 x hx; omega)
  have n2 := numbers_of (l := inL (st.toNat * 168) rs) (fun x hx => by have := b2 x hx; omega)
  have t1 := total_g (outL (st.toNat * 168) rs) (by omega)
  have t2 := total_g (inL (st.toNat * 168) rs) (by omega)
  simp only [totalP, n1, n2, if_true, sumL_eq, s1, s2] at t1 t2
  generalize outL (st.toNat * 168) rs = O at *
  generalize inL (st.toNat * 168) rs = I at *
  refine ops_call (g) (by simp only [intP, addP, CountsS.pv, AW, Nat.reduceAdd, reduceCtorEq, Nat.reduceEqDiff, ↓reduceIte, Nat.reduceLT, Nat.reduceLeDiff, Nat.reduceSub, Nat.reducePow, Nat.reduceMul, Int.reduceToNat, Int.reduceLE, Int.reduceEq, Int.reduceLT, Int.reduceBEq, Int.reduceBNe]) ?_; simp only [intP, addP, CountsS.pv, AW, Nat.reduceAdd, reduceCtorEq, Nat.reduceEqDiff, ↓reduceIte, Nat.reduceLT, Nat.reduceLeDiff, Nat.reduceSub, Nat.reducePow, Nat.reduceMul, Int.reduceToNat, Int.reduceLE, Int.reduceEq, Int.reduceLT, Int.reduceBEq, Int.reduceBNe]
  refine run_loop (ι := Nat) (fun k => ⟨[(0, .sc (.int .i64 st)), (1, .sl (rs.map RideS.pv)), (5, .ptr 10 0), (7, .sc (.int .i64 (((rs.take k).map fun r => isOne r.fromWhere).sum))), (8, .sc (.int .i64 (((rs.take k).map fun r => isOne r.where_).sum))), (9, .sc (.int .i64 (k : Int)))], [(10, .var [.sc (.int .i64 st), .sl (O.map intP), .sl (I.map intP)])], 18, 112⟩) (fun k => k ≤ rs.length) (fun k => rs.length - k) 18 (fun _ => rfl) 0 (by simp only [LW, Nat.reduceMod, Nat.reduceDiv, Int.natCast_zero, List.take_zero, List.map_nil, List.sum_nil, AW, Nat.reduceAdd, reduceCtorEq, Nat.reduceEqDiff, ↓reduceIte, Nat.reduceLT, Nat.reduceLeDiff, Nat.reduceSub, Nat.reducePow, Nat.reduceMul, Int.reduceToNat, Int.reduceLE, Int.reduceEq, Int.reduceLT, Int.reduceBEq, Int.reduceBNe]) (Nat.zero_le _) (fun k hk => ?_)
  have gk := hk
  by_cases hltk : k < rs.length
  rotate_left
  · have dk : decide ((k : Int) < ((rs.length : Nat) : Int)) = false := by rw [decide_eq_false_iff_not]; exact fun h => hltk (Int.ofNat_lt.1 h)
    have ek : k = rs.length := Nat.le_antisymm gk (Nat.le_of_not_lt hltk)
    subst ek
    simp only [dk, List.take_length, AW, Nat.reduceAdd, reduceCtorEq, Nat.reduceEqDiff, ↓reduceIte, Nat.reduceLT, Nat.reduceLeDiff, Nat.reduceSub, Nat.reducePow, Nat.reduceMul, Int.reduceToNat, Int.reduceLE, Int.reduceEq, Int.reduceLT, Int.reduceBEq, Int.reduceBNe]
    refine ops_call (t1) (by simp only [intsP, intP, AW, Nat.reduceAdd, reduceCtorEq, Nat.reduceEqDiff, ↓reduceIte, Nat.reduceLT, Nat.reduceLeDiff, Nat.reduceSub, Nat.reducePow, Nat.reduceMul, Int.reduceToNat, Int.reduceLE, Int.reduceEq, Int.reduceLT, Int.reduceBEq, Int.reduceBNe]) ?_; simp only [intsP, intP, AW, Nat.reduceAdd, reduceCtorEq, Nat.reduceEqDiff, ↓reduceIte, Nat.reduceLT, Nat.reduceLeDiff, Nat.reduceSub, Nat.reducePow, Nat.reduceMul, Int.reduceToNat, Int.reduceLE, Int.reduceEq, Int.reduceLT, Int.reduceBEq, Int.reduceBNe]
    refine ops_call (t2) (by simp only [intsP, intP, AW, Nat.reduceAdd, reduceCtorEq, Nat.reduceEqDiff, ↓reduceIte, Nat.reduceLT, Nat.reduceLeDiff, Nat.reduceSub, Nat.reducePow, Nat.reduceMul, Int.reduceToNat, Int.reduceLE, Int.reduceEq, Int.reduceLT, Int.reduceBEq, Int.reduceBNe]) ?_; simp only [intsP, intP, AW, Nat.reduceAdd, reduceCtorEq, Nat.reduceEqDiff, ↓reduceIte, Nat.reduceLT, Nat.reduceLeDiff, Nat.reduceSub, Nat.reducePow, Nat.reduceMul, Int.reduceToNat, Int.reduceLE, Int.reduceEq, Int.reduceLT, Int.reduceBEq, Int.reduceBNe]
    refine ops_call (gc) (by simp only [CountsS.pv, intP, AW, Nat.reduceAdd, reduceCtorEq, Nat.reduceEqDiff, ↓reduceIte, Nat.reduceLT, Nat.reduceLeDiff, Nat.reduceSub, Nat.reducePow, Nat.reduceMul, Int.reduceToNat, Int.reduceLE, Int.reduceEq, Int.reduceLT, Int.reduceBEq, Int.reduceBNe]) ?_; simp only [CountsS.pv, intP, AW, Nat.reduceAdd, reduceCtorEq, Nat.reduceEqDiff, ↓reduceIte, Nat.reduceLT, Nat.reduceLeDiff, Nat.reduceSub, Nat.reducePow, Nat.reduceMul, Int.reduceToNat, Int.reduceLE, Int.reduceEq, Int.reduceLT, Int.reduceBEq, Int.reduceBNe]
    refine ops_call (awake) (by simp only [AW, Nat.reduceAdd, reduceCtorEq, Nat.reduceEqDiff, ↓reduceIte, Nat.reduceLT, Nat.reduceLeDiff, Nat.reduceSub, Nat.reducePow, Nat.reduceMul, Int.reduceToNat, Int.reduceLE, Int.reduceEq, Int.reduceLT, Int.reduceBEq, Int.reduceBNe]) ?_; simp only [AW, Nat.reduceAdd, reduceCtorEq, Nat.reduceEqDiff, ↓reduceIte, Nat.reduceLT, Nat.reduceLeDiff, Nat.reduceSub, Nat.reducePow, Nat.reduceMul, Int.reduceToNat, Int.reduceLE, Int.reduceEq, Int.reduceLT, Int.reduceBEq, Int.reduceBNe]
  have dk : decide ((k : Int) < ((rs.length : Nat) : Int)) = true := by rw [decide_eq_true_eq]; exact Int.ofNat_lt.2 hltk
  have hck := (hall _ (List.getElem_mem hltk)).1
  have gk2 := qcheck_g rs[k]
  rw [hck] at gk2
  have b1' := map_sum_b (fun r => isOne r.fromWhere) (fun r => isOne_b _) (rs.take k)
  have b2' := map_sum_b (fun r => isOne r.where_) (fun r => isOne_b _) (rs.take k)
  rw [List.length_take, Nat.min_eq_left gk] at b1' b2'
  have u1 := map_sum_take (fun r => isOne r.fromWhere) rs k hltk
  have u2 := map_sum_take (fun r => isOne r.where_) rs k hltk
  have x1 : IntKind.wrap .i64 (((rs.take k).map fun r => isOne r.fromWhere).sum + 1) = ((rs.take k).map fun r => isOne r.fromWhere).sum + 1 := wrap_id (by unfold I64; omega)
  have x2 : IntKind.wrap .i64 (((rs.take k).map fun r => isOne r.where_).sum + 1) = ((rs.take k).map fun r => isOne r.where_).sum + 1 := wrap_id (by unfold I64; omega)
  simp only [dk, map_getD hltk, hltk, RideS.pv, AW, Nat.reduceAdd, reduceCtorEq, Nat.reduceEqDiff, ↓reduceIte, Nat.reduceLT, Nat.reduceLeDiff, Nat.reduceSub, Nat.reducePow, Nat.reduceMul, Int.reduceToNat, Int.reduceLE, Int.reduceEq, Int.reduceLT, Int.reduceBEq, Int.reduceBNe]
  refine ops_call (gk2) (by simp only [RideS.pv, AW, Nat.reduceAdd, reduceCtorEq, Nat.reduceEqDiff, ↓reduceIte, Nat.reduceLT, Nat.reduceLeDiff, Nat.reduceSub, Nat.reducePow, Nat.reduceMul, Int.reduceToNat, Int.reduceLE, Int.reduceEq, Int.reduceLT, Int.reduceBEq, Int.reduceBNe]) ?_; simp only [RideS.pv, AW, Nat.reduceAdd, reduceCtorEq, Nat.reduceEqDiff, ↓reduceIte, Nat.reduceLT, Nat.reduceLeDiff, Nat.reduceSub, Nat.reducePow, Nat.reduceMul, Int.reduceToNat, Int.reduceLE, Int.reduceEq, Int.reduceLT, Int.reduceBEq, Int.reduceBNe]
  simp only [map_getD hltk, hltk, RideS.pv, AW, Nat.reduceAdd, reduceCtorEq, Nat.reduceEqDiff, ↓reduceIte, Nat.reduceLT, Nat.reduceLeDiff, Nat.reduceSub, Nat.reducePow, Nat.reduceMul, Int.reduceToNat, Int.reduceLE, Int.reduceEq, Int.reduceLT, Int.reduceBEq, Int.reduceBNe]
  cases w1 : (rs[k].fromWhere == 1)
  · have v1 : isOne rs[k].fromWhere = 0 := by unfold isOne; rw [if_neg (by simpa using w1)]
    simp only [map_getD hltk, hltk, RideS.pv, AW, Nat.reduceAdd, reduceCtorEq, Nat.reduceEqDiff, ↓reduceIte, Nat.reduceLT, Nat.reduceLeDiff, Nat.reduceSub, Nat.reducePow, Nat.reduceMul, Int.reduceToNat, Int.reduceLE, Int.reduceEq, Int.reduceLT, Int.reduceBEq, Int.reduceBNe]
    cases w2 : (rs[k].where_ == 1)
    · have v2 : isOne rs[k].where_ = 0 := by unfold isOne; rw [if_neg (by simpa using w2)]
      simp only [wrap_succ hltk hlen, AW, Nat.reduceAdd, reduceCtorEq, Nat.reduceEqDiff, ↓reduceIte, Nat.reduceLT, Nat.reduceLeDiff, Nat.reduceSub, Nat.reducePow, Nat.reduceMul, Int.reduceToNat, Int.reduceLE, Int.reduceEq, Int.reduceLT, Int.reduceBEq, Int.reduceBNe]
      refine ⟨k + 1, hltk, ?_, by omega⟩
      simp only [LW, Nat.reduceMod, Nat.reduceDiv, u1, u2, v1, v2, Int.add_zero, AW, Nat.reduceAdd, reduceCtorEq, Nat.reduceEqDiff, ↓reduceIte, Nat.reduceLT, Nat.reduceLeDiff, Nat.reduceSub, Nat.reducePow, Nat.reduceMul, Int.reduceToNat, Int.reduceLE, Int.reduceEq, Int.reduceLT, Int.reduceBEq, Int.reduceBNe]
    · have v2 : isOne rs[k].where_ = 1 := by unfold isOne; rw [if_pos (by simpa using w2)]
      simp only [x2, wrap_succ hltk hlen, AW, Nat.reduceAdd, reduceCtorEq, Nat.reduceEqDiff, ↓reduceIte, Nat.reduceLT, Nat.reduceLeDiff, Nat.reduceSub, Nat.reducePow, Nat.reduceMul, Int.reduceToNat, Int.reduceLE, Int.reduceEq, Int.reduceLT, Int.reduceBEq, Int.reduceBNe]
      refine ⟨k + 1, hltk, ?_, by omega⟩
      simp only [LW, Nat.reduceMod, Nat.reduceDiv, u1, u2, v1, v2, Int.add_zero, AW, Nat.reduceAdd, reduceCtorEq, Nat.reduceEqDiff, ↓reduceIte, Nat.reduceLT, Nat.reduceLeDiff, Nat.reduceSub, Nat.reducePow, Nat.reduceMul, Int.reduceToNat, Int.reduceLE, Int.reduceEq, Int.reduceLT, Int.reduceBEq, Int.reduceBNe]
  · have v1 : isOne rs[k].fromWhere = 1 := by unfold isOne; rw [if_pos (by simpa using w1)]
    simp only [x1, map_getD hltk, hltk, RideS.pv, AW, Nat.reduceAdd, reduceCtorEq, Nat.reduceEqDiff, ↓reduceIte, Nat.reduceLT, Nat.reduceLeDiff, Nat.reduceSub, Nat.reducePow, Nat.reduceMul, Int.reduceToNat, Int.reduceLE, Int.reduceEq, Int.reduceLT, Int.reduceBEq, Int.reduceBNe]
    cases w2 : (rs[k].where_ == 1)
    · have v2 : isOne rs[k].where_ = 0 := by unfold isOne; rw [if_neg (by simpa using w2)]
      simp only [wrap_succ hltk hlen, AW, Nat.reduceAdd, reduceCtorEq, Nat.reduceEqDiff, ↓reduceIte, Nat.reduceLT, Nat.reduceLeDiff, Nat.reduceSub, Nat.reducePow, Nat.reduceMul, Int.reduceToNat, Int.reduceLE, Int.reduceEq, Int.reduceLT, Int.reduceBEq, Int.reduceBNe]
      refine ⟨k + 1, hltk, ?_, by omega⟩
      simp only [LW, Nat.reduceMod, Nat.reduceDiv, u1, u2, v1, v2, Int.add_zero, AW, Nat.reduceAdd, reduceCtorEq, Nat.reduceEqDiff, ↓reduceIte, Nat.reduceLT, Nat.reduceLeDiff, Nat.reduceSub, Nat.reducePow, Nat.reduceMul, Int.reduceToNat, Int.reduceLE, Int.reduceEq, Int.reduceLT, Int.reduceBEq, Int.reduceBNe]
    · have v2 : isOne rs[k].where_ = 1 := by unfold isOne; rw [if_pos (by simpa using w2)]
      simp only [x2, wrap_succ hltk hlen, AW, Nat.reduceAdd, reduceCtorEq, Nat.reduceEqDiff, ↓reduceIte, Nat.reduceLT, Nat.reduceLeDiff, Nat.reduceSub, Nat.reducePow, Nat.reduceMul, Int.reduceToNat, Int.reduceLE, Int.reduceEq, Int.reduceLT, Int.reduceBEq, Int.reduceBNe]
      refine ⟨k + 1, hltk, ?_, by omega⟩
      simp only [LW, Nat.reduceMod, Nat.reduceDiv, u1, u2, v1, v2, Int.add_zero, AW, Nat.reduceAdd, reduceCtorEq, Nat.reduceEqDiff, ↓reduceIte, Nat.reduceLT, Nat.reduceLeDiff, Nat.reduceSub, Nat.reducePow, Nat.reduceMul, Int.reduceToNat, Int.reduceLE, Int.reduceEq, Int.reduceLT, Int.reduceBEq, Int.reduceBNe]


end Go.Proofs.Ytjobpjhmdbmdgaa
