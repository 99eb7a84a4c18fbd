/-
  The history of a city: parts of the rides, walked.
-/
import Derived.Test.YtjobpjhmdbmdgaaHg
namespace Go.Proofs.Ytjobpjhmdbmdgaa
open Go.RowKit
set_option linter.unusedVariables false
set_option linter.unusedSimpArgs false
set_option linter.unnecessarySimpa false

theorem cap200 {k : Nat} (h : k ≤ 200) : k + 1 ≤ maxLen ∧ (k + 1) * 136 ≤ 140737488355328 := by unfold maxLen; omega
theorem back_sub' {n k : Nat} (h : k < n) (h2 : n ≤ 200) : IntKind.wrap .i64 (((n - 1 : Nat) : Int) - (k : Int)) = ((n - 1 - k : Nat) : Int) := by
  have e : ((n - 1 : Nat) : Int) - (k : Int) = ((n - 1 - k : Nat) : Int) := by omega
  rw [e]; exact wrap_id (by unfold I64; omega)
/-- What the counts of the parts are. -/
theorem parts_ok {st : Int} {rs : List RideS} (ps : List Bool) (hl : rs.length ≤ 200) (hz : (countC st rs).2 = 0) :
    countC st rs.reverse = countC st rs ∧ (countC st (pick ps true 0 rs)).2 = 0 ∧ (countC st (pick ps false 0 rs)).2 = 0 ∧ addC (countC st (pick ps true 0 rs)).1 (countC st (pick ps false 0 rs)).1 = countC st rs := by
  obtain ⟨i1, i2, _⟩ := countC_iff (st := st) (rs := rs) (by omega)
  obtain ⟨hst, hall⟩ := i1.1 hz
  have l1 := pick_len ps true 0 rs
  have l2 := pick_len ps false 0 rs
  obtain ⟨r1, r2, _⟩ := countC_iff (st := st) (rs := rs.reverse) (by simp; omega)
  obtain ⟨a1, a2, _⟩ := countC_iff (st := st) (rs := pick ps true 0 rs) (by omega)
  obtain ⟨b1, b2, _⟩ := countC_iff (st := st) (rs := pick ps false 0 rs) (by omega)
  have hr := r1.2 ⟨hst, fun r h => hall r (by simpa using h)⟩
  have ha := a1.2 ⟨hst, fun r h => hall r ((pick_mem ps 0 rs r).2 (.inl h))⟩
  have hb := b1.2 ⟨hst, fun r h => hall r ((pick_mem ps 0 rs r).2 (.inr h))⟩
  refine ⟨?_, ha, hb, ?_⟩
  · rw [r2 hr, i2 hz, outL_rev, inL_rev]
  · rw [a2 ha, b2 hb, i2 hz]
    have k1 := count_check hst (rs := pick ps true 0 rs) (by omega)
    have k2 := count_check hst (rs := pick ps false 0 rs) (by omega)
    obtain ⟨o1, o2⟩ := outL_ok (st.toNat * 168) rs
    obtain ⟨p1, p2⟩ := inL_ok (st.toNat * 168) rs
    have n1 := numbers_of (l := outL (st.toNat * 168) rs) (fun x hx => by have := o2 x hx; omega)
    have n2 := numbers_of (l := inL (st.toNat * 168) rs) (fun x hx => by have := p2 x hx; omega)
    rw [addC_5 k1 k2 rfl (by simp only [outL_pick, inL_pick, n1, n2, Bool.and_self])]
    simp only [outL_pick, inL_pick]
theorem parts_bad {st : Int} {rs : List RideS} (ps : List Bool) (hl : rs.length ≤ 200) (hz : (countC st rs).2 ≠ 0) :
    (countC st rs.reverse).2 ≠ 0 ∧ ((countC st (pick ps true 0 rs)).2 ≠ 0 ∨ (countC st (pick ps false 0 rs)).2 ≠ 0) ∧ (countC st rs).1 = zeroC := by
  obtain ⟨i1, _, i3⟩ := countC_iff (st := st) (rs := rs) (by omega)
  have l1 := pick_len ps true 0 rs
  have l2 := pick_len ps false 0 rs
  obtain ⟨r1, _, _⟩ := countC_iff (st := st) (rs := rs.reverse) (by simp; omega)
  obtain ⟨a1, _, _⟩ := countC_iff (st := st) (rs := pick ps true 0 rs) (by omega)
  obtain ⟨b1, _, _⟩ := countC_iff (st := st) (rs := pick ps false 0 rs) (by omega)
  refine ⟨fun h => ?_, ?_, i3 hz⟩
  · obtain ⟨h1, h2⟩ := r1.1 h
    exact hz (i1.2 ⟨h1, fun r hr => h2 r (by simpa using hr)⟩)
  · by_cases h : (countC st (pick ps true 0 rs)).2 = 0
    · right; intro h'
      obtain ⟨h1, h2⟩ := a1.1 h
      obtain ⟨h3, h4⟩ := b1.1 h'
      refine hz (i1.2 ⟨h1, fun r hr => ?_⟩)
      rcases (pick_mem ps 0 rs r).1 hr with h5 | h5
      · exact h2 r h5
      · exact h4 r h5
    · exact .inl h
set_option maxHeartbeats 8000000 in
theorem historyAdds_good (st : Int) (rs : List RideS) (ps : List Bool) : Good Try.prog 7 [.sc (.int .i64 st), .sl (rs.map RideS.pv), .sl (ps.map boolP)] (.sc (.bool true)) := by
  refine .len (es := ps.map boolP) (by simp) (fun hps => ?_)
  rw [List.length_map] at hps
  refine good7 (by simp) ?_
  simp only [ac7, AW, Nat.reduceAdd, reduceCtorEq, Nat.reduceEqDiff, ↓reduceIte, Nat.reduceLT, Nat.reduceLeDiff, Nat.reduceSub, Nat.reducePow, Nat.reduceMul, Int.reduceToNat, Int.reduceLE, Int.reduceEq, Int.reduceLT, Int.reduceBEq, Int.reduceBNe]
  refine ops_call (few39_g rs) (by simp only [AW, Nat.reduceAdd, reduceCtorEq, Nat.reduceEqDiff, ↓reduceIte, Nat.reduceLT, Nat.reduceLeDiff, Nat.reduceSub, Nat.reducePow, Nat.reduceMul, Int.reduceToNat, Int.reduceLE, Int.reduceEq, Int.reduceLT, Int.reduceBEq, Int.reduceBNe]) ?_; simp only [AW, Nat.reduceAdd, reduceCtorEq, Nat.reduceEqDiff, ↓reduceIte, Nat.reduceLT, Nat.reduceLeDiff, Nat.reduceSub, Nat.reducePow, Nat.reduceMul, Int.reduceToNat, Int.reduceLE, Int.reduceEq, Int.reduceLT, Int.reduceBEq, Int.reduceBNe]
  cases hf : few39L rs
  · simp only [AW, Nat.reduceAdd, reduceCtorEq, Nat.reduceEqDiff, ↓reduceIte, Nat.reduceLT, Nat.reduceLeDiff, Nat.reduceSub, Nat.reducePow, Nat.reduceMul, Int.reduceToNat, Int.reduceLE, Int.reduceEq, Int.reduceLT, Int.reduceBEq, Int.reduceBNe]; refine ops_call (awake) (by simp only [AW, Nat.reduceAdd, reduceCtorEq, Nat.reduceEqDiff, ↓reduceIte, Nat.reduceLT, Nat.reduceLeDiff, Nat.reduceSub, Nat.reducePow, Nat.reduceMul, Int.reduceToNat, Int.reduceLE, Int.reduceEq, Int.reduceLT, Int.reduceBEq, Int.reduceBNe]) ?_; simp only [AW, Nat.reduceAdd, reduceCtorEq, Nat.reduceEqDiff, ↓reduceIte, Nat.reduceLT, Nat.reduceLeDiff, Nat.reduceSub, Nat.reducePow, Nat.reduceMul, Int.reduceToNat, Int.reduceLE, Int.reduceEq, Int.reduceLT, Int.reduceBEq, Int.reduceBNe]
  simp only [AW, Nat.reduceAdd, reduceCtorEq, Nat.reduceEqDiff, ↓reduceIte, Nat.reduceLT, Nat.reduceLeDiff, Nat.reduceSub, Nat.reducePow, Nat.reduceMul, Int.reduceToNat, Int.reduceLE, Int.reduceEq, Int.reduceLT, Int.reduceBEq, Int.reduceBNe]
  cases c0 : decide ((200 : Int) < rs.length)
  rotate_left
  · simp only [AW, Nat.reduceAdd, reduceCtorEq, Nat.reduceEqDiff, ↓reduceIte, Nat.reduceLT, Nat.reduceLeDiff, Nat.reduceSub, Nat.reducePow, Nat.reduceMul, Int.reduceToNat, Int.reduceLE, Int.reduceEq, Int.reduceLT, Int.reduceBEq, Int.reduceBNe]; refine ops_call (awake) (by simp only [AW, Nat.reduceAdd, reduceCtorEq, Nat.reduceEqDiff, ↓reduceIte, Nat.reduceLT, Nat.reduceLeDiff, Nat.reduceSub, Nat.reducePow, Nat.reduceMul, Int.reduceToNat, Int.reduceLE, Int.reduceEq, Int.reduceLT, Int.reduceBEq, Int.reduceBNe]) ?_; simp only [AW, Nat.reduceAdd, reduceCtorEq, Nat.reduceEqDiff, ↓reduceIte, Nat.reduceLT, Nat.reduceLeDiff, Nat.reduceSub, Nat.reducePow, Nat.reduceMul, Int.reduceToNat, Int.reduceLE, Int.reduceEq, Int.reduceLT, Int.reduceBEq, Int.reduceBNe]
  rw [decide_eq_false_iff_not] at c0
  have hl : rs.length ≤ 200 := by omega
  have hlen : rs.length ≤ maxLen := by unfold maxLen; omega
  clear c0
  simp only [AW, Nat.reduceAdd, reduceCtorEq, Nat.reduceEqDiff, ↓reduceIte, Nat.reduceLT, Nat.reduceLeDiff, Nat.reduceSub, Nat.reducePow, Nat.reduceMul, Int.reduceToNat, Int.reduceLE, Int.reduceEq, Int.reduceLT, Int.reduceBEq, Int.reduceBNe]
  refine run_loop (ι := Nat) (fun k => ⟨[(0, .sc (.int .i64 st)), (1, .sl (rs.map RideS.pv)), (2, .sl (ps.map boolP)), (7, .own 13 0), (8, .own 14 0), (9, .own 15 0), (10, .sc (.int .i64 (k : Int)))], [(13, .row 52 13 0 ((pick ps true 0 (rs.take k)).map RideS.pv)), (14, .row 52 13 0 ((pick ps false 0 (rs.take k)).map RideS.pv)), (15, .row 52 13 0 ((rs.reverse.take k).map RideS.pv))], 16, 149⟩) (fun k => k ≤ rs.length) (fun k => rs.length - k) 16 (fun _ => rfl) 0 (by simp only [LW, Nat.reduceMod, Nat.reduceDiv, Int.natCast_zero, List.take_zero, pick, AW, Nat.reduceAdd, reduceCtorEq, Nat.reduceEqDiff, ↓reduceIte, Nat.reduceLT, Nat.reduceLeDiff, Nat.reduceSub, Nat.reducePow, Nat.reduceMul, Int.reduceToNat, Int.reduceLE, Int.reduceEq, Int.reduceLT, Int.reduceBEq, Int.reduceBNe]) (Nat.zero_le _) (fun k hk => ?_)
  have gk := hk
  by_cases hltk : k < rs.length
  rotate_left
  · have dk : decide ((k : Int) < ((rs.length : Nat) : Int)) = false := by rw [decide_eq_false_iff_not]; exact fun h => hltk (Int.ofNat_lt.1 h)
    have ek : k = rs.length := Nat.le_antisymm gk (Nat.le_of_not_lt hltk)
    subst ek
    have tl : rs.reverse.take rs.length = rs.reverse := by rw [List.take_of_length_le (by simp)]
    have g1 := count_g st rs
    have g2 := count_g st rs.reverse
    have g3 := count_g st (pick ps true 0 rs)
    have g4 := count_g st (pick ps false 0 rs)
    by_cases hz : (countC st rs).2 = 0
    · obtain ⟨p1, p2, p3, p4⟩ := parts_ok ps hl hz
      have g5 := add_g (countC st (pick ps true 0 rs)).1 (countC st (pick ps false 0 rs)).1
      rw [p4] at g5
      rw [p1] at g2
      have g6 := sameC_g (countC st rs).1 (countC st rs).1
      simp only [addP, hz, p2, p3] at g1 g2 g3 g4 g5
      generalize (countC st rs).1 = C at *
      generalize (countC st (pick ps true 0 rs)).1 = D at *
      generalize (countC st (pick ps false 0 rs)).1 = E at *
      simp only [dk, List.take_length, tl, AW, Nat.reduceAdd, reduceCtorEq, Nat.reduceEqDiff, ↓reduceIte, Nat.reduceLT, Nat.reduceLeDiff, Nat.reduceSub, Nat.reducePow, Nat.reduceMul, Int.reduceToNat, Int.reduceLE, Int.reduceEq, Int.reduceLT, Int.reduceBEq, Int.reduceBNe]
      refine ops_call (g1) (by simp only [intP, CountsS.pv, AW, Nat.reduceAdd, reduceCtorEq, Nat.reduceEqDiff, ↓reduceIte, Nat.reduceLT, Nat.reduceLeDiff, Nat.reduceSub, Nat.reducePow, Nat.reduceMul, Int.reduceToNat, Int.reduceLE, Int.reduceEq, Int.reduceLT, Int.reduceBEq, Int.reduceBNe]) ?_; simp only [intP, CountsS.pv, AW, Nat.reduceAdd, reduceCtorEq, Nat.reduceEqDiff, ↓reduceIte, Nat.reduceLT, Nat.reduceLeDiff, Nat.reduceSub, Nat.reducePow, Nat.reduceMul, Int.reduceToNat, Int.reduceLE, Int.reduceEq, Int.reduceLT, Int.reduceBEq, Int.reduceBNe]
      refine ops_call (g2) (by simp only [intP, CountsS.pv, AW, Nat.reduceAdd, reduceCtorEq, Nat.reduceEqDiff, ↓reduceIte, Nat.reduceLT, Nat.reduceLeDiff, Nat.reduceSub, Nat.reducePow, Nat.reduceMul, Int.reduceToNat, Int.reduceLE, Int.reduceEq, Int.reduceLT, Int.reduceBEq, Int.reduceBNe]) ?_; simp only [intP, CountsS.pv, AW, Nat.reduceAdd, reduceCtorEq, Nat.reduceEqDiff, ↓reduceIte, Nat.reduceLT, Nat.reduceLeDiff, Nat.reduceSub, Nat.reducePow, Nat.reduceMul, Int.reduceToNat, Int.reduceLE, Int.reduceEq, Int.reduceLT, Int.reduceBEq, Int.reduceBNe]
      refine ops_call (g3) (by simp only [intP, CountsS.pv, AW, Nat.reduceAdd, reduceCtorEq, Nat.reduceEqDiff, ↓reduceIte, Nat.reduceLT, Nat.reduceLeDiff, Nat.reduceSub, Nat.reducePow, Nat.reduceMul, Int.reduceToNat, Int.reduceLE, Int.reduceEq, Int.reduceLT, Int.reduceBEq, Int.reduceBNe]) ?_; simp only [intP, CountsS.pv, AW, Nat.reduceAdd, reduceCtorEq, Nat.reduceEqDiff, ↓reduceIte, Nat.reduceLT, Nat.reduceLeDiff, Nat.reduceSub, Nat.reducePow, Nat.reduceMul, Int.reduceToNat, Int.reduceLE, Int.reduceEq, Int.reduceLT, Int.reduceBEq, Int.reduceBNe]
      refine ops_call (g4) (by simp only [intP, CountsS.pv, AW, Nat.reduceAdd, reduceCtorEq, Nat.reduceEqDiff, ↓reduceIte, Nat.reduceLT, Nat.reduceLeDiff, Nat.reduceSub, Nat.reducePow, Nat.reduceMul, Int.reduceToNat, Int.reduceLE, Int.reduceEq, Int.reduceLT, Int.reduceBEq, Int.reduceBNe]) ?_; simp only [intP, CountsS.pv, AW, Nat.reduceAdd, reduceCtorEq, Nat.reduceEqDiff, ↓reduceIte, Nat.reduceLT, Nat.reduceLeDiff, Nat.reduceSub, Nat.reducePow, Nat.reduceMul, Int.reduceToNat, Int.reduceLE, Int.reduceEq, Int.reduceLT, Int.reduceBEq, Int.reduceBNe]
      refine ops_call (g5) (by simp only [intP, CountsS.pv, AW, Nat.reduceAdd, reduceCtorEq, Nat.reduceEqDiff, ↓reduceIte, Nat.reduceLT, Nat.reduceLeDiff, Nat.reduceSub, Nat.reducePow, Nat.reduceMul, Int.reduceToNat, Int.reduceLE, Int.reduceEq, Int.reduceLT, Int.reduceBEq, Int.reduceBNe]) ?_; simp only [intP, CountsS.pv, AW, Nat.reduceAdd, reduceCtorEq, Nat.reduceEqDiff, ↓reduceIte, Nat.reduceLT, Nat.reduceLeDiff, Nat.reduceSub, Nat.reducePow, Nat.reduceMul, Int.reduceToNat, Int.reduceLE, Int.reduceEq, Int.reduceLT, Int.reduceBEq, Int.reduceBNe]
      refine ops_call (g6) (by simp only [CountsS.pv, decide_true, AW, Nat.reduceAdd, reduceCtorEq, Nat.reduceEqDiff, ↓reduceIte, Nat.reduceLT, Nat.reduceLeDiff, Nat.reduceSub, Nat.reducePow, Nat.reduceMul, Int.reduceToNat, Int.reduceLE, Int.reduceEq, Int.reduceLT, Int.reduceBEq, Int.reduceBNe]) ?_; simp only [CountsS.pv, decide_true, AW, Nat.reduceAdd, reduceCtorEq, Nat.reduceEqDiff, ↓reduceIte, Nat.reduceLT, Nat.reduceLeDiff, Nat.reduceSub, Nat.reducePow, Nat.reduceMul, Int.reduceToNat, Int.reduceLE, Int.reduceEq, Int.reduceLT, Int.reduceBEq, Int.reduceBNe]
      refine ops_call (g6) (by simp only [CountsS.pv, decide_true, AW, Nat.reduceAdd, reduceCtorEq, Nat.reduceEqDiff, ↓reduceIte, Nat.reduceLT, Nat.reduceLeDiff, Nat.reduceSub, Nat.reducePow, Nat.reduceMul, Int.reduceToNat, Int.reduceLE, Int.reduceEq, Int.reduceLT, Int.reduceBEq, Int.reduceBNe]) ?_; simp only [CountsS.pv, decide_true, AW, Nat.reduceAdd, reduceCtorEq, Nat.reduceEqDiff, ↓reduceIte, Nat.reduceLT, Nat.reduceLeDiff, Nat.reduceSub, Nat.reducePow, Nat.reduceMul, Int.reduceToNat, Int.reduceLE, Int.reduceEq, Int.reduceLT, Int.reduceBEq, Int.reduceBNe]
      refine ops_call (awake) (by simp only [AW, Nat.reduceAdd, reduceCtorEq, Nat.reduceEqDiff, ↓reduceIte, Nat.reduceLT, Nat.reduceLeDiff, Nat.reduceSub, Nat.reducePow, Nat.reduceMul, Int.reduceToNat, Int.reduceLE, Int.reduceEq, Int.reduceLT, Int.reduceBEq, Int.reduceBNe]) ?_; simp only [AW, Nat.reduceAdd, reduceCtorEq, Nat.reduceEqDiff, ↓reduceIte, Nat.reduceLT, Nat.reduceLeDiff, Nat.reduceSub, Nat.reducePow, Nat.reduceMul, Int.reduceToNat, Int.reduceLE, Int.reduceEq, Int.reduceLT, Int.reduceBEq, Int.reduceBNe]
    · obtain ⟨p1, p2, p3⟩ := parts_bad ps hl hz
      have z0 : (((0 : Nat) : Int) == 0) = true := rfl
      have z1 : ((countC st rs).2 != 0) = true := by simpa using hz
      have z2 : ((countC st rs.reverse).2 != 0) = true := by simpa using p1
      simp only [addP, p3] at g1 g2 g3 g4
      simp only [dk, List.take_length, tl, AW, Nat.reduceAdd, reduceCtorEq, Nat.reduceEqDiff, ↓reduceIte, Nat.reduceLT, Nat.reduceLeDiff, Nat.reduceSub, Nat.reducePow, Nat.reduceMul, Int.reduceToNat, Int.reduceLE, Int.reduceEq, Int.reduceLT, Int.reduceBEq, Int.reduceBNe]
      refine ops_call (g1) (by simp only [intP, CountsS.pv, zeroC, AW, Nat.reduceAdd, reduceCtorEq, Nat.reduceEqDiff, ↓reduceIte, Nat.reduceLT, Nat.reduceLeDiff, Nat.reduceSub, Nat.reducePow, Nat.reduceMul, Int.reduceToNat, Int.reduceLE, Int.reduceEq, Int.reduceLT, Int.reduceBEq, Int.reduceBNe]) ?_; simp only [intP, CountsS.pv, zeroC, AW, Nat.reduceAdd, reduceCtorEq, Nat.reduceEqDiff, ↓reduceIte, Nat.reduceLT, Nat.reduceLeDiff, Nat.reduceSub, Nat.reducePow, Nat.reduceMul, Int.reduceToNat, Int.reduceLE, Int.reduceEq, Int.reduceLT, Int.reduceBEq, Int.reduceBNe]
      refine ops_call (g2) (by simp only [intP, CountsS.pv, zeroC, AW, Nat.reduceAdd, reduceCtorEq, Nat.reduceEqDiff, ↓reduceIte, Nat.reduceLT, Nat.reduceLeDiff, Nat.reduceSub, Nat.reducePow, Nat.reduceMul, Int.reduceToNat, Int.reduceLE, Int.reduceEq, Int.reduceLT, Int.reduceBEq, Int.reduceBNe]) ?_; simp only [intP, CountsS.pv, zeroC, AW, Nat.reduceAdd, reduceCtorEq, Nat.reduceEqDiff, ↓reduceIte, Nat.reduceLT, Nat.reduceLeDiff, Nat.reduceSub, Nat.reducePow, Nat.reduceMul, Int.reduceToNat, Int.reduceLE, Int.reduceEq, Int.reduceLT, Int.reduceBEq, Int.reduceBNe]
      refine ops_call (g3) (by simp only [intP, CountsS.pv, zeroC, AW, Nat.reduceAdd, reduceCtorEq, Nat.reduceEqDiff, ↓reduceIte, Nat.reduceLT, Nat.reduceLeDiff, Nat.reduceSub, Nat.reducePow, Nat.reduceMul, Int.reduceToNat, Int.reduceLE, Int.reduceEq, Int.reduceLT, Int.reduceBEq, Int.reduceBNe]) ?_; simp only [intP, CountsS.pv, zeroC, AW, Nat.reduceAdd, reduceCtorEq, Nat.reduceEqDiff, ↓reduceIte, Nat.reduceLT, Nat.reduceLeDiff, Nat.reduceSub, Nat.reducePow, Nat.reduceMul, Int.reduceToNat, Int.reduceLE, Int.reduceEq, Int.reduceLT, Int.reduceBEq, Int.reduceBNe]
      refine ops_call (g4) (by simp only [intP, CountsS.pv, zeroC, AW, Nat.reduceAdd, reduceCtorEq, Nat.reduceEqDiff, ↓reduceIte, Nat.reduceLT, Nat.reduceLeDiff, Nat.reduceSub, Nat.reducePow, Nat.reduceMul, Int.reduceToNat, Int.reduceLE, Int.reduceEq, Int.reduceLT, Int.reduceBEq, Int.reduceBNe]) ?_; simp only [intP, CountsS.pv, zeroC, AW, Nat.reduceAdd, reduceCtorEq, Nat.reduceEqDiff, ↓reduceIte, Nat.reduceLT, Nat.reduceLeDiff, Nat.reduceSub, Nat.reducePow, Nat.reduceMul, Int.reduceToNat, Int.reduceLE, Int.reduceEq, Int.reduceLT, Int.reduceBEq, Int.reduceBNe]
      simp only [z1, z0, z2, AW, Nat.reduceAdd, reduceCtorEq, Nat.reduceEqDiff, ↓reduceIte, Nat.reduceLT, Nat.reduceLeDiff, Nat.reduceSub, Nat.reducePow, Nat.reduceMul, Int.reduceToNat, Int.reduceLE, Int.reduceEq, Int.reduceLT, Int.reduceBEq, Int.reduceBNe]
      cases z3 : ((countC st (pick ps true 0 rs)).2 != 0)
      · have z4 : ((countC st (pick ps false 0 rs)).2 != 0) = true := by
          rcases p2 with h | h
          · simp at z3; exact absurd z3 h
          · simpa using h
        simp only [z4, AW, Nat.reduceAdd, reduceCtorEq, Nat.reduceEqDiff, ↓reduceIte, Nat.reduceLT, Nat.reduceLeDiff, Nat.reduceSub, Nat.reducePow, Nat.reduceMul, Int.reduceToNat, Int.reduceLE, Int.reduceEq, Int.reduceLT, Int.reduceBEq, Int.reduceBNe]
        refine ops_call (awake) (by simp only [AW, Nat.reduceAdd, reduceCtorEq, Nat.reduceEqDiff, ↓reduceIte, Nat.reduceLT, Nat.reduceLeDiff, Nat.reduceSub, Nat.reducePow, Nat.reduceMul, Int.reduceToNat, Int.reduceLE, Int.reduceEq, Int.reduceLT, Int.reduceBEq, Int.reduceBNe]) ?_; simp only [AW, Nat.reduceAdd, reduceCtorEq, Nat.reduceEqDiff, ↓reduceIte, Nat.reduceLT, Nat.reduceLeDiff, Nat.reduceSub, Nat.reducePow, Nat.reduceMul, Int.reduceToNat, Int.reduceLE, Int.reduceEq, Int.reduceLT, Int.reduceBEq, Int.reduceBNe]
      · simp only [AW, Nat.reduceAdd, reduceCtorEq, Nat.reduceEqDiff, ↓reduceIte, Nat.reduceLT, Nat.reduceLeDiff, Nat.reduceSub, Nat.reducePow, Nat.reduceMul, Int.reduceToNat, Int.reduceLE, Int.reduceEq, Int.reduceLT, Int.reduceBEq, Int.reduceBNe]
        refine ops_call (awake) (by simp only [AW, Nat.reduceAdd, reduceCtorEq, Nat.reduceEqDiff, ↓reduceIte, Nat.reduceLT, Nat.reduceLeDiff, Nat.reduceSub, Nat.reducePow, Nat.reduceMul, Int.reduceToNat, Int.reduceLE, Int.reduceEq, Int.reduceLT, Int.reduceBEq, Int.reduceBNe]) ?_; simp only [AW, Nat.reduceAdd, reduceCtorEq, Nat.reduceEqDiff, ↓reduceIte, Nat.reduceLT, Nat.reduceLeDiff, Nat.reduceSub, Nat.reducePow, Nat.reduceMul, Int.reduceToNat, Int.reduceLE, Int.reduceEq, Int.reduceLT, Int.reduceBEq, Int.reduceBNe]
  have dk : decide ((k : Int) < ((rs.length : Nat) : Int)) = true := by rw [decide_eq_true_eq]; exact Int.ofNat_lt.2 hltk
  have hp : 0 < rs.length := Nat.lt_of_le_of_lt (Nat.zero_le _) hltk
  have hrev : rs.length - 1 - k < rs.length := by omega
  have hsub := back_sub' hltk hl
  have m1 : (rs.reverse.take k).length = k := by rw [List.length_take, List.length_reverse]; exact Nat.min_eq_left gk
  have L1 : (pick ps true 0 (rs.take k)).length ≤ 200 := by have := pick_len ps true 0 (rs.take k); rw [List.length_take] at this; omega
  have L2 : (pick ps false 0 (rs.take k)).length ≤ 200 := by have := pick_len ps false 0 (rs.take k); rw [List.length_take] at this; omega
  obtain ⟨f1, f2⟩ := cap200 L1
  obtain ⟨f3, f4⟩ := cap200 L2
  obtain ⟨g1, g2⟩ := cap200 (Nat.le_trans (Nat.le_of_lt hltk) hl)
  have g3 := g1; have g4 := g2
  have s1 := pick_succ ps true rs k hltk
  have s2 := pick_succ ps false rs k hltk
  have s3 : rs.reverse.take (k + 1) = rs.reverse.take k ++ [rs[rs.length - 1 - k]] := by
    rw [List.take_succ_eq_append_getElem (by simpa using hltk)]; simp [List.getElem_reverse]
  by_cases hkp : k < ps.length
  · have d2 : decide ((k : Int) < (ps.length : Int)) = true := by rw [decide_eq_true_eq]; exact Int.ofNat_lt.2 hkp
    have e : ps.getD k false = ps[k] := by rw [List.getD_eq_getElem?_getD, List.getElem?_eq_getElem hkp]; rfl
    rw [e] at s1 s2
    simp only [dk, d2, map_getD hkp, hkp, boolP, AW, Nat.reduceAdd, reduceCtorEq, Nat.reduceEqDiff, ↓reduceIte, Nat.reduceLT, Nat.reduceLeDiff, Nat.reduceSub, Nat.reducePow, Nat.reduceMul, Int.reduceToNat, Int.reduceLE, Int.reduceEq, Int.reduceLT, Int.reduceBEq, Int.reduceBNe]
    cases hb : ps[k]
    · rw [hb] at s1 s2
      simp only [map_getD hltk, hltk, RideS.pv, map_getD hrev, hrev, wrap_pred hp hlen, hsub, f1, f2, f3, f4, m1, g1, g2, g3, g4, AW, Nat.reduceAdd, reduceCtorEq, Nat.reduceEqDiff, ↓reduceIte, Nat.reduceLT, Nat.reduceLeDiff, Nat.reduceSub, Nat.reducePow, Nat.reduceMul, Int.reduceToNat, Int.reduceLE, Int.reduceEq, Int.reduceLT, Int.reduceBEq, Int.reduceBNe]
      (try refine drawnK rfl ?_); (try simp only [map_getD hltk, hltk, RideS.pv, map_getD hrev, hrev, wrap_pred hp hlen, hsub, f1, f2, f3, f4, m1, g1, g2, g3, g4, AW, Nat.reduceAdd, reduceCtorEq, Nat.reduceEqDiff, ↓reduceIte, Nat.reduceLT, Nat.reduceLeDiff, Nat.reduceSub, Nat.reducePow, Nat.reduceMul, Int.reduceToNat, Int.reduceLE, Int.reduceEq, Int.reduceLT, Int.reduceBEq, Int.reduceBNe])
      (try simp only [wrap_succ hltk hlen, AW, Nat.reduceAdd, reduceCtorEq, Nat.reduceEqDiff, ↓reduceIte, Nat.reduceLT, Nat.reduceLeDiff, Nat.reduceSub, Nat.reducePow, Nat.reduceMul, Int.reduceToNat, Int.reduceLE, Int.reduceEq, Int.reduceLT, Int.reduceBEq, Int.reduceBNe])
      refine ⟨k + 1, hltk, ?_, meas_lt hltk⟩
      simp only [LW, Nat.reduceMod, Nat.reduceDiv, s1, s2, s3, if_true, if_false, Bool.false_eq_true, Bool.true_eq_false, List.map_append, RideS.pv, AW, Nat.reduceAdd, reduceCtorEq, Nat.reduceEqDiff, ↓reduceIte, Nat.reduceLT, Nat.reduceLeDiff, Nat.reduceSub, Nat.reducePow, Nat.reduceMul, Int.reduceToNat, Int.reduceLE, Int.reduceEq, Int.reduceLT, Int.reduceBEq, Int.reduceBNe]
    · rw [hb] at s1 s2
      simp only [map_getD hltk, hltk, RideS.pv, map_getD hrev, hrev, wrap_pred hp hlen, hsub, f1, f2, f3, f4, m1, g1, g2, g3, g4, AW, Nat.reduceAdd, reduceCtorEq, Nat.reduceEqDiff, ↓reduceIte, Nat.reduceLT, Nat.reduceLeDiff, Nat.reduceSub, Nat.reducePow, Nat.reduceMul, Int.reduceToNat, Int.reduceLE, Int.reduceEq, Int.reduceLT, Int.reduceBEq, Int.reduceBNe]
      (try refine drawnK rfl ?_); (try simp only [map_getD hltk, hltk, RideS.pv, map_getD hrev, hrev, wrap_pred hp hlen, hsub, f1, f2, f3, f4, m1, g1, g2, g3, g4, AW, Nat.reduceAdd, reduceCtorEq, Nat.reduceEqDiff, ↓reduceIte, Nat.reduceLT, Nat.reduceLeDiff, Nat.reduceSub, Nat.reducePow, Nat.reduceMul, Int.reduceToNat, Int.reduceLE, Int.reduceEq, Int.reduceLT, Int.reduceBEq, Int.reduceBNe])
      (try simp only [wrap_succ hltk hlen, AW, Nat.reduceAdd, reduceCtorEq, Nat.reduceEqDiff, ↓reduceIte, Nat.reduceLT, Nat.reduceLeDiff, Nat.reduceSub, Nat.reducePow, Nat.reduceMul, Int.reduceToNat, Int.reduceLE, Int.reduceEq, Int.reduceLT, Int.reduceBEq, Int.reduceBNe])
      refine ⟨k + 1, hltk, ?_, meas_lt hltk⟩
      simp only [LW, Nat.reduceMod, Nat.reduceDiv, s1, s2, s3, if_true, if_false, Bool.false_eq_true, Bool.true_eq_false, List.map_append, RideS.pv, AW, Nat.reduceAdd, reduceCtorEq, Nat.reduceEqDiff, ↓reduceIte, Nat.reduceLT, Nat.reduceLeDiff, Nat.reduceSub, Nat.reducePow, Nat.reduceMul, Int.reduceToNat, Int.reduceLE, Int.reduceEq, Int.reduceLT, Int.reduceBEq, Int.reduceBNe]
  · have d2 : decide ((k : Int) < (ps.length : Int)) = false := by rw [decide_eq_false_iff_not]; exact fun h => hkp (Int.ofNat_lt.1 h)
    have e : ps.getD k false = false := by rw [List.getD_eq_getElem?_getD, List.getElem?_eq_none (by omega)]; rfl
    rw [e] at s1 s2
    simp only [dk, d2, AW, Nat.reduceAdd, reduceCtorEq, Nat.reduceEqDiff, ↓reduceIte, Nat.reduceLT, Nat.reduceLeDiff, Nat.reduceSub, Nat.reducePow, Nat.reduceMul, Int.reduceToNat, Int.reduceLE, Int.reduceEq, Int.reduceLT, Int.reduceBEq, Int.reduceBNe]
    simp only [map_getD hltk, hltk, RideS.pv, map_getD hrev, hrev, wrap_pred hp hlen, hsub, f1, f2, f3, f4, m1, g1, g2, g3, g4, AW, Nat.reduceAdd, reduceCtorEq, Nat.reduceEqDiff, ↓reduceIte, Nat.reduceLT, Nat.reduceLeDiff, Nat.reduceSub, Nat.reducePow, Nat.reduceMul, Int.reduceToNat, Int.reduceLE, Int.reduceEq, Int.reduceLT, Int.reduceBEq, Int.reduceBNe]
    (try refine drawnK rfl ?_); (try simp only [map_getD hltk, hltk, RideS.pv, map_getD hrev, hrev, wrap_pred hp hlen, hsub, f1, f2, f3, f4, m1, g1, g2, g3, g4, AW, Nat.reduceAdd, reduceCtorEq, Nat.reduceEqDiff, ↓reduceIte, Nat.reduceLT, Nat.reduceLeDiff, Nat.reduceSub, Nat.reducePow, Nat.reduceMul, Int.reduceToNat, Int.reduceLE, Int.reduceEq, Int.reduceLT, Int.reduceBEq, Int.reduceBNe])
    (try simp only [wrap_succ hltk hlen, AW, Nat.reduceAdd, reduceCtorEq, Nat.reduceEqDiff, ↓reduceIte, Nat.reduceLT, Nat.reduceLeDiff, Nat.reduceSub, Nat.reducePow, Nat.reduceMul, Int.reduceToNat, Int.reduceLE, Int.reduceEq, Int.reduceLT, Int.reduceBEq, Int.reduceBNe])
    refine ⟨k + 1, hltk, ?_, meas_lt hltk⟩
    simp only [LW, Nat.reduceMod, Nat.reduceDiv, s1, s2, s3, if_true, if_false, Bool.false_eq_true, Bool.true_eq_false, List.map_append, RideS.pv, AW, Nat.reduceAdd, reduceCtorEq, Nat.reduceEqDiff, ↓reduceIte, Nat.reduceLT, Nat.reduceLeDiff, Nat.reduceSub, Nat.reducePow, Nat.reduceMul, Int.reduceToNat, Int.reduceLE, Int.reduceEq, Int.reduceLT, Int.reduceBEq, Int.reduceBNe]


end Go.Proofs.Ytjobpjhmdbmdgaa
