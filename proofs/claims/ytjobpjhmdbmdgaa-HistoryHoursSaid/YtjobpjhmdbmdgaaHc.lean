/-
  The history of a city: the reference's Count and Of, walked.
-/
import Derived.Test.YtjobpjhmdbmdgaaHb
namespace Go.Proofs.Ytjobpjhmdbmdgaa
open Go.RowKit
set_option linter.unusedVariables false
set_option linter.unusedSimpArgs false
set_option linter.unnecessarySimpa false

theorem dock_facts {st place t : Int} (hp : I64 place) (hb : st ≤ 32) (hd : dockB st place = true) (ht : momentB t = true) : IntKind.wrap .i64 (place.tdiv 32) = place / 32 ∧ IntKind.wrap .i64 (place / 32 * 168) = place / 32 * 168 ∧ IntKind.wrap .i64 (place / 32 * 168 + t / 3600 % 168) = ((addK place t : Nat) : Int) := by
  obtain ⟨k1, k2⟩ := addK_lt (t := t) hd
  simp only [dockB, Bool.and_eq_true, decide_eq_true_eq] at hd
  simp only [momentB, Bool.and_eq_true, decide_eq_true_eq] at ht
  refine ⟨?_, wrap_id (by unfold I64; omega), ?_⟩
  · rw [Int.tdiv_eq_ediv_of_nonneg hd.1]; exact wrap_id (by unfold I64; omega)
  · rw [k2]; exact wrap_id (by unfold I64; omega)
theorem badR_l {st : Int} {r : RideS} (h : r.fromWhere = 1) (h2 : dockB st r.fromPlace = false) : badR st r = true := by simp [badR, h, h2]
theorem badR_r {st : Int} {r : RideS} (h : r.where_ = 1) (h2 : dockB st r.place = false) : badR st r = true := by simp [badR, h, h2]
theorem badR_no {st : Int} {r : RideS} (h : r.fromWhere ≠ 1 ∨ dockB st r.fromPlace = true) (h2 : r.where_ ≠ 1 ∨ dockB st r.place = true) : badR st r = false := by
  unfold badR
  rcases h with h | h <;> rcases h2 with h2 | h2 <;> simp [h, h2]
theorem bump_no {w p t : Int} {l : List Int} (h : w ≠ 1) : bump w p t l = l := by unfold bump; rw [if_neg h]
theorem bump_yes {w p t : Int} {l : List Int} (h : w = 1) (hk : addK p t < l.length) : bump w p t l = l.set (addK p t) (l[addK p t] + 1) := by
  unfold bump; rw [if_pos h, List.getD_eq_getElem?_getD, List.getElem?_eq_getElem hk]; rfl
theorem meas_lt {n k : Nat} (h : k < n) : n - (k + 1) < n - k := by omega
set_option maxHeartbeats 8000000 in
theorem qcount_g (st : Int) (rs : List RideS) : Good Try.prog 16 [intP st, .sl (rs.map RideS.pv)] (addP (countC st rs)) := by
  refine rides_rng (ps := [intP st]) (qs := []) (fun hlen hpl => ?_)
  refine good16 (by simp) ?_
  simp only [ac16, List.nil_append, List.cons_append, intP, AW, Nat.reduceAdd, reduceCtorEq, Nat.reduceEqDiff, ↓reduceIte, Nat.reduceLT, Nat.reduceLeDiff, Nat.reduceSub, Nat.reducePow, Nat.reduceMul, Int.reduceToNat, Int.reduceLE, Int.reduceEq, Int.reduceLT, Int.reduceBEq, Int.reduceBNe]
  cases a1 : decide (st < 1)
  rotate_left
  · have hst : stB st = false := by rw [decide_eq_true_eq] at a1; simp [stB]; omega
    rw [countC_1 hst]
    simp only [addP, zeroC, CountsS.pv, intP, AW, Nat.reduceAdd, reduceCtorEq, Nat.reduceEqDiff, ↓reduceIte, Nat.reduceLT, Nat.reduceLeDiff, Nat.reduceSub, Nat.reducePow, Nat.reduceMul, Int.reduceToNat, Int.reduceLE, Int.reduceEq, Int.reduceLT, Int.reduceBEq, Int.reduceBNe]
  simp only [AW, Nat.reduceAdd, reduceCtorEq, Nat.reduceEqDiff, ↓reduceIte, Nat.reduceLT, Nat.reduceLeDiff, Nat.reduceSub, Nat.reducePow, Nat.reduceMul, Int.reduceToNat, Int.reduceLE, Int.reduceEq, Int.reduceLT, Int.reduceBEq, Int.reduceBNe]
  cases a2 : decide ((32 : Int) < st)
  rotate_left
  · have hst : stB st = false := by rw [decide_eq_true_eq] at a2; simp [stB]; omega
    rw [countC_1 hst]
    simp only [addP, zeroC, CountsS.pv, intP, AW, Nat.reduceAdd, reduceCtorEq, Nat.reduceEqDiff, ↓reduceIte, Nat.reduceLT, Nat.reduceLeDiff, Nat.reduceSub, Nat.reducePow, Nat.reduceMul, Int.reduceToNat, Int.reduceLE, Int.reduceEq, Int.reduceLT, Int.reduceBEq, Int.reduceBNe]
  rw [decide_eq_false_iff_not] at a1 a2
  have hb : 1 ≤ st ∧ st ≤ 32 := by omega
  have hst : stB st = true := by simp [stB]; omega
  simp only [AW, Nat.reduceAdd, reduceCtorEq, Nat.reduceEqDiff, ↓reduceIte, Nat.reduceLT, Nat.reduceLeDiff, Nat.reduceSub, Nat.reducePow, Nat.reduceMul, Int.reduceToNat, Int.reduceLE, Int.reduceEq, Int.reduceLT, Int.reduceBEq, Int.reduceBNe]
  cases h2 : decide ((256 : Int) < rs.length)
  rotate_left
  · rw [countC_2 hst (by rw [decide_eq_true_eq] at h2; omega)]
    simp only [addP, zeroC, CountsS.pv, intP, AW, Nat.reduceAdd, reduceCtorEq, Nat.reduceEqDiff, ↓reduceIte, Nat.reduceLT, Nat.reduceLeDiff, Nat.reduceSub, Nat.reducePow, Nat.reduceMul, Int.reduceToNat, Int.reduceLE, Int.reduceEq, Int.reduceLT, Int.reduceBEq, Int.reduceBNe]
  rw [decide_eq_false_iff_not] at h2
  simp only [AW, Nat.reduceAdd, reduceCtorEq, Nat.reduceEqDiff, ↓reduceIte, Nat.reduceLT, Nat.reduceLeDiff, Nat.reduceSub, Nat.reducePow, Nat.reduceMul, Int.reduceToNat, Int.reduceLE, Int.reduceEq, Int.reduceLT, Int.reduceBEq, Int.reduceBNe]
  refine run_loop (ι := Nat) (fun k => ⟨[(0, .sc (.int .i64 st)), (1, .sl (rs.map RideS.pv)), (4, .ptr 0 0), (6, .sc (.int .i64 (k : Int)))], [(0, .var [.sc (.int .i64 0), .sc (.slice none 0 0), .sc (.slice none 0 0)])], 12, 137⟩) (fun k => k ≤ rs.length ∧ (∀ j (hj : j < rs.length), j < k → checkL rs[j] = 0)) (fun k => rs.length - k) 12 (fun _ => rfl) 0 (by simp only [LW, Nat.reduceMod, Nat.reduceDiv, Int.natCast_zero, AW, Nat.reduceAdd, reduceCtorEq, Nat.reduceEqDiff, ↓reduceIte, Nat.reduceLT, Nat.reduceLeDiff, Nat.reduceSub, Nat.reducePow, Nat.reduceMul, Int.reduceToNat, Int.reduceLE, Int.reduceEq, Int.reduceLT, Int.reduceBEq, Int.reduceBNe]) ⟨Nat.zero_le _, nofun⟩ (fun k hk => ?_)
  obtain ⟨gk, ik⟩ := hk
  by_cases hltk : k < rs.length
  rotate_left
  · have dk : decide ((k : Int) < ((rs.length : Nat) : Int)) = false := by rw [decide_eq_false_iff_not]; exact fun h => hltk (Int.ofNat_lt.1 h)
    have ek : k = rs.length := Nat.le_antisymm gk (Nat.le_of_not_lt hltk)
    subst ek
    have hchk : ∀ j (hj : j < rs.length), checkL rs[j] = 0 := fun j hj => ik j hj hj
    clear ik gk hltk
    obtain ⟨N, hN⟩ : ∃ N : Nat, st * 168 = (N : Int) := ⟨(st * 168).toNat, by omega⟩
    have hw := (wrap168 (show 0 ≤ st by omega) (show st ≤ 1000000 by omega)).trans hN
    have hN2 : st.toNat * 168 = N := by omega
    have f1 : (0 : Int) ≤ (N : Int) := by omega
    have f2 : ((8 : Nat) : Int) * (N : Int) ≤ 281474976710656 := by omega
    have f3 : (N : Int) ≤ 9223372036854775807 := by omega
    simp only [dk, hw, f1, f2, f3, AW, Nat.reduceAdd, reduceCtorEq, Nat.reduceEqDiff, ↓reduceIte, Nat.reduceLT, Nat.reduceLeDiff, Nat.reduceSub, Nat.reducePow, Nat.reduceMul, Int.reduceToNat, Int.reduceLE, Int.reduceEq, Int.reduceLT, Int.reduceBEq, Int.reduceBNe]
    (try refine drawnK rfl ?_); (try simp only [AW, Nat.reduceAdd, reduceCtorEq, Nat.reduceEqDiff, ↓reduceIte, Nat.reduceLT, Nat.reduceLeDiff, Nat.reduceSub, Nat.reducePow, Nat.reduceMul, Int.reduceToNat, Int.reduceLE, Int.reduceEq, Int.reduceLT, Int.reduceBEq, Int.reduceBNe])
    refine run_loop (ι := Nat) (fun k => ⟨[(0, .sc (.int .i64 st)), (1, .sl (rs.map RideS.pv)), (4, .ptr 0 0), (8, .ptr 24 0), (9, .sc (.int .i64 (k : Int)))], [(0, .var [.sc (.int .i64 0), .sc (.slice none 0 0), .sc (.slice none 0 0)]), (19, .row 3 1 0 ((outL N (rs.take k)).map intP)), (22, .row 3 1 0 ((inL N (rs.take k)).map intP)), (24, .var [.sc (.int .i64 st), .own 19 0, .own 22 0])], 27, 137⟩) (fun k => k ≤ rs.length ∧ (∀ j (hj : j < rs.length), j < k → badR st rs[j] = false)) (fun k => rs.length - k) 27 (fun _ => rfl) 0 (by simp only [LW, Nat.reduceMod, Nat.reduceDiv, Int.natCast_zero, List.take_zero, outL, inL, List.foldl_nil, List.map_replicate, intP, AW, Nat.reduceAdd, reduceCtorEq, Nat.reduceEqDiff, ↓reduceIte, Nat.reduceLT, Nat.reduceLeDiff, Nat.reduceSub, Nat.reducePow, Nat.reduceMul, Int.reduceToNat, Int.reduceLE, Int.reduceEq, Int.reduceLT, Int.reduceBEq, Int.reduceBNe]) ⟨Nat.zero_le _, nofun⟩ (fun k hk => ?_)
    obtain ⟨gk, ik⟩ := hk
    by_cases hltk : k < rs.length
    rotate_left
    · have dk : decide ((k : Int) < ((rs.length : Nat) : Int)) = false := by rw [decide_eq_false_iff_not]; exact fun h => hltk (Int.ofNat_lt.1 h)
      have ek : k = rs.length := Nat.le_antisymm gk (Nat.le_of_not_lt hltk)
      subst ek
      rw [countC_5 hst (by omega) hchk (fun j hj => ik j hj hj), hN2]
      simp only [dk, addP, CountsS.pv, intP, List.take_length, AW, Nat.reduceAdd, reduceCtorEq, Nat.reduceEqDiff, ↓reduceIte, Nat.reduceLT, Nat.reduceLeDiff, Nat.reduceSub, Nat.reducePow, Nat.reduceMul, Int.reduceToNat, Int.reduceLE, Int.reduceEq, Int.reduceLT, Int.reduceBEq, Int.reduceBNe]
    have dk : decide ((k : Int) < ((rs.length : Nat) : Int)) = true := by rw [decide_eq_true_eq]; exact Int.ofNat_lt.2 hltk
    have hp1 := (hpl rs[k] (List.getElem_mem hltk)).1
    have hp2 := (hpl rs[k] (List.getElem_mem hltk)).2
    obtain ⟨hm1, hm2⟩ := check_moments (hchk k hltk)
    obtain ⟨ol, ob⟩ := outL_ok N (rs.take k)
    obtain ⟨il, ib⟩ := inL_ok N (rs.take k)
    rw [List.length_take, Nat.min_eq_left gk] at ob ib
    have h2n : ¬ 256 < rs.length := by omega
    have next : badR st rs[k] = false → ∀ j (hj : j < rs.length), j < k + 1 → badR st rs[j] = false := fun h j hj hjk => by
      by_cases e : j = k
      · subst e; exact h
      · exact ik j hj (by omega)
    simp only [dk, map_getD hltk, hltk, RideS.pv, AW, Nat.reduceAdd, reduceCtorEq, Nat.reduceEqDiff, ↓reduceIte, Nat.reduceLT, Nat.reduceLeDiff, Nat.reduceSub, Nat.reducePow, Nat.reduceMul, Int.reduceToNat, Int.reduceLE, Int.reduceEq, Int.reduceLT, Int.reduceBEq, Int.reduceBNe]
    cases w1 : (rs[k].fromWhere == 1)
    · have n1 : rs[k].fromWhere ≠ 1 := by simpa using w1
      have ho : outL N (rs.take (k + 1)) = outL N (rs.take k) := by rw [outL_succ N rs k hltk, bump_no n1]
      simp only [AW, Nat.reduceAdd, reduceCtorEq, Nat.reduceEqDiff, ↓reduceIte, Nat.reduceLT, Nat.reduceLeDiff, Nat.reduceSub, Nat.reducePow, Nat.reduceMul, Int.reduceToNat, Int.reduceLE, Int.reduceEq, Int.reduceLT, Int.reduceBEq, Int.reduceBNe]
      cases w2 : (rs[k].where_ == 1)
      · have n2 : rs[k].where_ ≠ 1 := by simpa using w2
        have hi : inL N (rs.take (k + 1)) = inL N (rs.take k) := by rw [inL_succ N rs k hltk, bump_no n2]
        (try simp only [w1, w2, AW, Nat.reduceAdd, reduceCtorEq, Nat.reduceEqDiff, ↓reduceIte, Nat.reduceLT, Nat.reduceLeDiff, Nat.reduceSub, Nat.reducePow, Nat.reduceMul, Int.reduceToNat, Int.reduceLE, Int.reduceEq, Int.reduceLT, Int.reduceBEq, Int.reduceBNe])
        (try simp only [w1, w2, AW, Nat.reduceAdd, reduceCtorEq, Nat.reduceEqDiff, ↓reduceIte, Nat.reduceLT, Nat.reduceLeDiff, Nat.reduceSub, Nat.reducePow, Nat.reduceMul, Int.reduceToNat, Int.reduceLE, Int.reduceEq, Int.reduceLT, Int.reduceBEq, Int.reduceBNe])
        (try simp only [wrap_succ hltk hlen, w1, w2, AW, Nat.reduceAdd, reduceCtorEq, Nat.reduceEqDiff, ↓reduceIte, Nat.reduceLT, Nat.reduceLeDiff, Nat.reduceSub, Nat.reducePow, Nat.reduceMul, Int.reduceToNat, Int.reduceLE, Int.reduceEq, Int.reduceLT, Int.reduceBEq, Int.reduceBNe])
        refine ⟨k + 1, ⟨hltk, next (badR_no (.inl n1) (.inl n2))⟩, ?_, meas_lt hltk⟩
        simp only [LW, Nat.reduceMod, Nat.reduceDiv, ho, hi, wrap_succ hltk hlen, List.map_set, intP, w1, w2, AW, Nat.reduceAdd, reduceCtorEq, Nat.reduceEqDiff, ↓reduceIte, Nat.reduceLT, Nat.reduceLeDiff, Nat.reduceSub, Nat.reducePow, Nat.reduceMul, Int.reduceToNat, Int.reduceLE, Int.reduceEq, Int.reduceLT, Int.reduceBEq, Int.reduceBNe]
      have y2 : rs[k].where_ = 1 := by simpa using w2
      simp only [AW, Nat.reduceAdd, reduceCtorEq, Nat.reduceEqDiff, ↓reduceIte, Nat.reduceLT, Nat.reduceLeDiff, Nat.reduceSub, Nat.reducePow, Nat.reduceMul, Int.reduceToNat, Int.reduceLE, Int.reduceEq, Int.reduceLT, Int.reduceBEq, Int.reduceBNe]
      refine ops_call (docked_g st rs[k].place hp2) (by simp only [intP, AW, Nat.reduceAdd, reduceCtorEq, Nat.reduceEqDiff, ↓reduceIte, Nat.reduceLT, Nat.reduceLeDiff, Nat.reduceSub, Nat.reducePow, Nat.reduceMul, Int.reduceToNat, Int.reduceLE, Int.reduceEq, Int.reduceLT, Int.reduceBEq, Int.reduceBNe]) ?_; simp only [intP, AW, Nat.reduceAdd, reduceCtorEq, Nat.reduceEqDiff, ↓reduceIte, Nat.reduceLT, Nat.reduceLeDiff, Nat.reduceSub, Nat.reducePow, Nat.reduceMul, Int.reduceToNat, Int.reduceLE, Int.reduceEq, Int.reduceLT, Int.reduceBEq, Int.reduceBNe]
      cases d2 : dockB st rs[k].place
      · have d2' : (decide (0 ≤ rs[k].place) && decide (rs[k].place / 32 < st)) = false := d2
        simp only [d2', AW, Nat.reduceAdd, reduceCtorEq, Nat.reduceEqDiff, ↓reduceIte, Nat.reduceLT, Nat.reduceLeDiff, Nat.reduceSub, Nat.reducePow, Nat.reduceMul, Int.reduceToNat, Int.reduceLE, Int.reduceEq, Int.reduceLT, Int.reduceBEq, Int.reduceBNe]
        rw [countC_4 hst h2n hchk hltk (badR_r y2 d2)]
        simp only [addP, zeroC, CountsS.pv, intP, AW, Nat.reduceAdd, reduceCtorEq, Nat.reduceEqDiff, ↓reduceIte, Nat.reduceLT, Nat.reduceLeDiff, Nat.reduceSub, Nat.reducePow, Nat.reduceMul, Int.reduceToNat, Int.reduceLE, Int.reduceEq, Int.reduceLT, Int.reduceBEq, Int.reduceBNe]
      have d2' : (decide (0 ≤ rs[k].place) && decide (rs[k].place / 32 < st)) = true := d2
      obtain ⟨p1, p2, p3⟩ := dock_facts hp2 hb.2 d2 hm2
      obtain ⟨kl2, _⟩ := addK_lt (t := rs[k].end_.lo) d2
      have hKi : addK rs[k].place rs[k].end_.lo < (inL N (rs.take k)).length := by rw [il]; omega
      have hi : inL N (rs.take (k + 1)) = (inL N (rs.take k)).set (addK rs[k].place rs[k].end_.lo) ((inL N (rs.take k))[addK rs[k].place rs[k].end_.lo] + 1) := by rw [inL_succ N rs k hltk, bump_yes y2 hKi]
      have hb2 := ib _ (List.getElem_mem hKi)
      simp only [d2', w1, w2, AW, Nat.reduceAdd, reduceCtorEq, Nat.reduceEqDiff, ↓reduceIte, Nat.reduceLT, Nat.reduceLeDiff, Nat.reduceSub, Nat.reducePow, Nat.reduceMul, Int.reduceToNat, Int.reduceLE, Int.reduceEq, Int.reduceLT, Int.reduceBEq, Int.reduceBNe]
      refine ops_call (qslot_g rs[k].end_.lo) (by simp only [slotP, hm2, intP, w1, w2, AW, Nat.reduceAdd, reduceCtorEq, Nat.reduceEqDiff, ↓reduceIte, Nat.reduceLT, Nat.reduceLeDiff, Nat.reduceSub, Nat.reducePow, Nat.reduceMul, Int.reduceToNat, Int.reduceLE, Int.reduceEq, Int.reduceLT, Int.reduceBEq, Int.reduceBNe]) ?_; simp only [slotP, hm2, intP, w1, w2, AW, Nat.reduceAdd, reduceCtorEq, Nat.reduceEqDiff, ↓reduceIte, Nat.reduceLT, Nat.reduceLeDiff, Nat.reduceSub, Nat.reducePow, Nat.reduceMul, Int.reduceToNat, Int.reduceLE, Int.reduceEq, Int.reduceLT, Int.reduceBEq, Int.reduceBNe]
      have wz : IntKind.wrap .i64 ((inL N (rs.take k))[addK rs[k].place rs[k].end_.lo] + 1) = (inL N (rs.take k))[addK rs[k].place rs[k].end_.lo] + 1 := wrap_id (by unfold I64; omega)
      simp only [p1, p2, p3, map_getD hKi, hKi, intP, wz, w1, w2, AW, Nat.reduceAdd, reduceCtorEq, Nat.reduceEqDiff, ↓reduceIte, Nat.reduceLT, Nat.reduceLeDiff, Nat.reduceSub, Nat.reducePow, Nat.reduceMul, Int.reduceToNat, Int.reduceLE, Int.reduceEq, Int.reduceLT, Int.reduceBEq, Int.reduceBNe]
      (try refine drawnK rfl ?_); (try simp only [w1, w2, AW, Nat.reduceAdd, reduceCtorEq, Nat.reduceEqDiff, ↓reduceIte, Nat.reduceLT, Nat.reduceLeDiff, Nat.reduceSub, Nat.reducePow, Nat.reduceMul, Int.reduceToNat, Int.reduceLE, Int.reduceEq, Int.reduceLT, Int.reduceBEq, Int.reduceBNe])
      (try simp only [wrap_succ hltk hlen, w1, w2, AW, Nat.reduceAdd, reduceCtorEq, Nat.reduceEqDiff, ↓reduceIte, Nat.reduceLT, Nat.reduceLeDiff, Nat.reduceSub, Nat.reducePow, Nat.reduceMul, Int.reduceToNat, Int.reduceLE, Int.reduceEq, Int.reduceLT, Int.reduceBEq, Int.reduceBNe])
      refine ⟨k + 1, ⟨hltk, next (badR_no (.inl n1) (.inr d2))⟩, ?_, meas_lt hltk⟩
      simp only [LW, Nat.reduceMod, Nat.reduceDiv, ho, hi, wrap_succ hltk hlen, List.map_set, intP, w1, w2, AW, Nat.reduceAdd, reduceCtorEq, Nat.reduceEqDiff, ↓reduceIte, Nat.reduceLT, Nat.reduceLeDiff, Nat.reduceSub, Nat.reducePow, Nat.reduceMul, Int.reduceToNat, Int.reduceLE, Int.reduceEq, Int.reduceLT, Int.reduceBEq, Int.reduceBNe]
    have y1 : rs[k].fromWhere = 1 := by simpa using w1
    simp only [AW, Nat.reduceAdd, reduceCtorEq, Nat.reduceEqDiff, ↓reduceIte, Nat.reduceLT, Nat.reduceLeDiff, Nat.reduceSub, Nat.reducePow, Nat.reduceMul, Int.reduceToNat, Int.reduceLE, Int.reduceEq, Int.reduceLT, Int.reduceBEq, Int.reduceBNe]
    refine ops_call (docked_g st rs[k].fromPlace hp1) (by simp only [intP, AW, Nat.reduceAdd, reduceCtorEq, Nat.reduceEqDiff, ↓reduceIte, Nat.reduceLT, Nat.reduceLeDiff, Nat.reduceSub, Nat.reducePow, Nat.reduceMul, Int.reduceToNat, Int.reduceLE, Int.reduceEq, Int.reduceLT, Int.reduceBEq, Int.reduceBNe]) ?_; simp only [intP, AW, Nat.reduceAdd, reduceCtorEq, Nat.reduceEqDiff, ↓reduceIte, Nat.reduceLT, Nat.reduceLeDiff, Nat.reduceSub, Nat.reducePow, Nat.reduceMul, Int.reduceToNat, Int.reduceLE, Int.reduceEq, Int.reduceLT, Int.reduceBEq, Int.reduceBNe]
    cases d1 : dockB st rs[k].fromPlace
    · have d1' : (decide (0 ≤ rs[k].fromPlace) && decide (rs[k].fromPlace / 32 < st)) = false := d1
      simp only [d1', AW, Nat.reduceAdd, reduceCtorEq, Nat.reduceEqDiff, ↓reduceIte, Nat.reduceLT, Nat.reduceLeDiff, Nat.reduceSub, Nat.reducePow, Nat.reduceMul, Int.reduceToNat, Int.reduceLE, Int.reduceEq, Int.reduceLT, Int.reduceBEq, Int.reduceBNe]
      rw [countC_4 hst h2n hchk hltk (badR_l y1 d1)]
      simp only [addP, zeroC, CountsS.pv, intP, AW, Nat.reduceAdd, reduceCtorEq, Nat.reduceEqDiff, ↓reduceIte, Nat.reduceLT, Nat.reduceLeDiff, Nat.reduceSub, Nat.reducePow, Nat.reduceMul, Int.reduceToNat, Int.reduceLE, Int.reduceEq, Int.reduceLT, Int.reduceBEq, Int.reduceBNe]
    have d1' : (decide (0 ≤ rs[k].fromPlace) && decide (rs[k].fromPlace / 32 < st)) = true := d1
    obtain ⟨q1, q2, q3⟩ := dock_facts hp1 hb.2 d1 hm1
    obtain ⟨kl1, _⟩ := addK_lt (t := rs[k].start.lo) d1
    have hKo : addK rs[k].fromPlace rs[k].start.lo < (outL N (rs.take k)).length := by rw [ol]; omega
    have ho : outL N (rs.take (k + 1)) = (outL N (rs.take k)).set (addK rs[k].fromPlace rs[k].start.lo) ((outL N (rs.take k))[addK rs[k].fromPlace rs[k].start.lo] + 1) := by rw [outL_succ N rs k hltk, bump_yes y1 hKo]
    have hb1 := ob _ (List.getElem_mem hKo)
    simp only [d1', AW, Nat.reduceAdd, reduceCtorEq, Nat.reduceEqDiff, ↓reduceIte, Nat.reduceLT, Nat.reduceLeDiff, Nat.reduceSub, Nat.reducePow, Nat.reduceMul, Int.reduceToNat, Int.reduceLE, Int.reduceEq, Int.reduceLT, Int.reduceBEq, Int.reduceBNe]
    cases w2 : (rs[k].where_ == 1)
    · have n2 : rs[k].where_ ≠ 1 := by simpa using w2
      have hi : inL N (rs.take (k + 1)) = inL N (rs.take k) := by rw [inL_succ N rs k hltk, bump_no n2]
      (try simp only [w1, w2, AW, Nat.reduceAdd, reduceCtorEq, Nat.reduceEqDiff, ↓reduceIte, Nat.reduceLT, Nat.reduceLeDiff, Nat.reduceSub, Nat.reducePow, Nat.reduceMul, Int.reduceToNat, Int.reduceLE, Int.reduceEq, Int.reduceLT, Int.reduceBEq, Int.reduceBNe])
      refine ops_call (qslot_g rs[k].start.lo) (by simp only [slotP, hm1, intP, w1, w2, AW, Nat.reduceAdd, reduceCtorEq, Nat.reduceEqDiff, ↓reduceIte, Nat.reduceLT, Nat.reduceLeDiff, Nat.reduceSub, Nat.reducePow, Nat.reduceMul, Int.reduceToNat, Int.reduceLE, Int.reduceEq, Int.reduceLT, Int.reduceBEq, Int.reduceBNe]) ?_; simp only [slotP, hm1, intP, w1, w2, AW, Nat.reduceAdd, reduceCtorEq, Nat.reduceEqDiff, ↓reduceIte, Nat.reduceLT, Nat.reduceLeDiff, Nat.reduceSub, Nat.reducePow, Nat.reduceMul, Int.reduceToNat, Int.reduceLE, Int.reduceEq, Int.reduceLT, Int.reduceBEq, Int.reduceBNe]
      have wz : IntKind.wrap .i64 ((outL N (rs.take k))[addK rs[k].fromPlace rs[k].start.lo] + 1) = (outL N (rs.take k))[addK rs[k].fromPlace rs[k].start.lo] + 1 := wrap_id (by unfold I64; omega)
      simp only [q1, q2, q3, map_getD hKo, hKo, intP, wz, w1, w2, AW, Nat.reduceAdd, reduceCtorEq, Nat.reduceEqDiff, ↓reduceIte, Nat.reduceLT, Nat.reduceLeDiff, Nat.reduceSub, Nat.reducePow, Nat.reduceMul, Int.reduceToNat, Int.reduceLE, Int.reduceEq, Int.reduceLT, Int.reduceBEq, Int.reduceBNe]
      (try refine drawnK rfl ?_); (try simp only [w1, w2, AW, Nat.reduceAdd, reduceCtorEq, Nat.reduceEqDiff, ↓reduceIte, Nat.reduceLT, Nat.reduceLeDiff, Nat.reduceSub, Nat.reducePow, Nat.reduceMul, Int.reduceToNat, Int.reduceLE, Int.reduceEq, Int.reduceLT, Int.reduceBEq, Int.reduceBNe])
      (try simp only [wrap_succ hltk hlen, w1, w2, AW, Nat.reduceAdd, reduceCtorEq, Nat.reduceEqDiff, ↓reduceIte, Nat.reduceLT, Nat.reduceLeDiff, Nat.reduceSub, Nat.reducePow, Nat.reduceMul, Int.reduceToNat, Int.reduceLE, Int.reduceEq, Int.reduceLT, Int.reduceBEq, Int.reduceBNe])
      refine ⟨k + 1, ⟨hltk, next (badR_no (.inr d1) (.inl n2))⟩, ?_, meas_lt hltk⟩
      simp only [LW, Nat.reduceMod, Nat.reduceDiv, ho, hi, wrap_succ hltk hlen, List.map_set, intP, w1, w2, AW, Nat.reduceAdd, reduceCtorEq, Nat.reduceEqDiff, ↓reduceIte, Nat.reduceLT, Nat.reduceLeDiff, Nat.reduceSub, Nat.reducePow, Nat.reduceMul, Int.reduceToNat, Int.reduceLE, Int.reduceEq, Int.reduceLT, Int.reduceBEq, Int.reduceBNe]
    have y2 : rs[k].where_ = 1 := by simpa using w2
    simp only [AW, Nat.reduceAdd, reduceCtorEq, Nat.reduceEqDiff, ↓reduceIte, Nat.reduceLT, Nat.reduceLeDiff, Nat.reduceSub, Nat.reducePow, Nat.reduceMul, Int.reduceToNat, Int.reduceLE, Int.reduceEq, Int.reduceLT, Int.reduceBEq, Int.reduceBNe]
    refine ops_call (docked_g st rs[k].place hp2) (by simp only [intP, AW, Nat.reduceAdd, reduceCtorEq, Nat.reduceEqDiff, ↓reduceIte, Nat.reduceLT, Nat.reduceLeDiff, Nat.reduceSub, Nat.reducePow, Nat.reduceMul, Int.reduceToNat, Int.reduceLE, Int.reduceEq, Int.reduceLT, Int.reduceBEq, Int.reduceBNe]) ?_; simp only [intP, AW, Nat.reduceAdd, reduceCtorEq, Nat.reduceEqDiff, ↓reduceIte, Nat.reduceLT, Nat.reduceLeDiff, Nat.reduceSub, Nat.reducePow, Nat.reduceMul, Int.reduceToNat, Int.reduceLE, Int.reduceEq, Int.reduceLT, Int.reduceBEq, Int.reduceBNe]
    cases d2 : dockB st rs[k].place
    · have d2' : (decide (0 ≤ rs[k].place) && decide (rs[k].place / 32 < st)) = false := d2
      simp only [d2', AW, Nat.reduceAdd, reduceCtorEq, Nat.reduceEqDiff, ↓reduceIte, Nat.reduceLT, Nat.reduceLeDiff, Nat.reduceSub, Nat.reducePow, Nat.reduceMul, Int.reduceToNat, Int.reduceLE, Int.reduceEq, Int.reduceLT, Int.reduceBEq, Int.reduceBNe]
      rw [countC_4 hst h2n hchk hltk (badR_r y2 d2)]
      simp only [addP, zeroC, CountsS.pv, intP, AW, Nat.reduceAdd, reduceCtorEq, Nat.reduceEqDiff, ↓reduceIte, Nat.reduceLT, Nat.reduceLeDiff, Nat.reduceSub, Nat.reducePow, Nat.reduceMul, Int.reduceToNat, Int.reduceLE, Int.reduceEq, Int.reduceLT, Int.reduceBEq, Int.reduceBNe]
    have d2' : (decide (0 ≤ rs[k].place) && decide (rs[k].place / 32 < st)) = true := d2
    obtain ⟨p1, p2, p3⟩ := dock_facts hp2 hb.2 d2 hm2
    obtain ⟨kl2, _⟩ := addK_lt (t := rs[k].end_.lo) d2
    have hKi : addK rs[k].place rs[k].end_.lo < (inL N (rs.take k)).length := by rw [il]; omega
    have hi : inL N (rs.take (k + 1)) = (inL N (rs.take k)).set (addK rs[k].place rs[k].end_.lo) ((inL N (rs.take k))[addK rs[k].place rs[k].end_.lo] + 1) := by rw [inL_succ N rs k hltk, bump_yes y2 hKi]
    have hb2 := ib _ (List.getElem_mem hKi)
    simp only [d2', w1, w2, AW, Nat.reduceAdd, reduceCtorEq, Nat.reduceEqDiff, ↓reduceIte, Nat.reduceLT, Nat.reduceLeDiff, Nat.reduceSub, Nat.reducePow, Nat.reduceMul, Int.reduceToNat, Int.reduceLE, Int.reduceEq, Int.reduceLT, Int.reduceBEq, Int.reduceBNe]
    refine ops_call (qslot_g rs[k].start.lo) (by simp only [slotP, hm1, intP, w1, w2, AW, Nat.reduceAdd, reduceCtorEq, Nat.reduceEqDiff, ↓reduceIte, Nat.reduceLT, Nat.reduceLeDiff, Nat.reduceSub, Nat.reducePow, Nat.reduceMul, Int.reduceToNat, Int.reduceLE, Int.reduceEq, Int.reduceLT, Int.reduceBEq, Int.reduceBNe]) ?_; simp only [slotP, hm1, intP, w1, w2, AW, Nat.reduceAdd, reduceCtorEq, Nat.reduceEqDiff, ↓reduceIte, Nat.reduceLT, Nat.reduceLeDiff, Nat.reduceSub, Nat.reducePow, Nat.reduceMul, Int.reduceToNat, Int.reduceLE, Int.reduceEq, Int.reduceLT, Int.reduceBEq, Int.reduceBNe]
    have wz : IntKind.wrap .i64 ((outL N (rs.take k))[addK rs[k].fromPlace rs[k].start.lo] + 1) = (outL N (rs.take k))[addK rs[k].fromPlace rs[k].start.lo] + 1 := wrap_id (by unfold I64; omega)
    simp only [q1, q2, q3, map_getD hKo, hKo, intP, wz, w1, w2, AW, Nat.reduceAdd, reduceCtorEq, Nat.reduceEqDiff, ↓reduceIte, Nat.reduceLT, Nat.reduceLeDiff, Nat.reduceSub, Nat.reducePow, Nat.reduceMul, Int.reduceToNat, Int.reduceLE, Int.reduceEq, Int.reduceLT, Int.reduceBEq, Int.reduceBNe]
    (try refine drawnK rfl ?_); (try simp only [w1, w2, AW, Nat.reduceAdd, reduceCtorEq, Nat.reduceEqDiff, ↓reduceIte, Nat.reduceLT, Nat.reduceLeDiff, Nat.reduceSub, Nat.reducePow, Nat.reduceMul, Int.reduceToNat, Int.reduceLE, Int.reduceEq, Int.reduceLT, Int.reduceBEq, Int.reduceBNe])
    refine ops_call (qslot_g rs[k].end_.lo) (by simp only [slotP, hm2, intP, w1, w2, AW, Nat.reduceAdd, reduceCtorEq, Nat.reduceEqDiff, ↓reduceIte, Nat.reduceLT, Nat.reduceLeDiff, Nat.reduceSub, Nat.reducePow, Nat.reduceMul, Int.reduceToNat, Int.reduceLE, Int.reduceEq, Int.reduceLT, Int.reduceBEq, Int.reduceBNe]) ?_; simp only [slotP, hm2, intP, w1, w2, AW, Nat.reduceAdd, reduceCtorEq, Nat.reduceEqDiff, ↓reduceIte, Nat.reduceLT, Nat.reduceLeDiff, Nat.reduceSub, Nat.reducePow, Nat.reduceMul, Int.reduceToNat, Int.reduceLE, Int.reduceEq, Int.reduceLT, Int.reduceBEq, Int.reduceBNe]
    have wz : IntKind.wrap .i64 ((inL N (rs.take k))[addK rs[k].place rs[k].end_.lo] + 1) = (inL N (rs.take k))[addK rs[k].place rs[k].end_.lo] + 1 := wrap_id (by unfold I64; omega)
    simp only [p1, p2, p3, map_getD hKi, hKi, intP, wz, w1, w2, AW, Nat.reduceAdd, reduceCtorEq, Nat.reduceEqDiff, ↓reduceIte, Nat.reduceLT, Nat.reduceLeDiff, Nat.reduceSub, Nat.reducePow, Nat.reduceMul, Int.reduceToNat, Int.reduceLE, Int.reduceEq, Int.reduceLT, Int.reduceBEq, Int.reduceBNe]
    (try refine drawnK rfl ?_); (try simp only [w1, w2, AW, Nat.reduceAdd, reduceCtorEq, Nat.reduceEqDiff, ↓reduceIte, Nat.reduceLT, Nat.reduceLeDiff, Nat.reduceSub, Nat.reducePow, Nat.reduceMul, Int.reduceToNat, Int.reduceLE, Int.reduceEq, Int.reduceLT, Int.reduceBEq, Int.reduceBNe])
    (try simp only [wrap_succ hltk hlen, w1, w2, AW, Nat.reduceAdd, reduceCtorEq, Nat.reduceEqDiff, ↓reduceIte, Nat.reduceLT, Nat.reduceLeDiff, Nat.reduceSub, Nat.reducePow, Nat.reduceMul, Int.reduceToNat, Int.reduceLE, Int.reduceEq, Int.reduceLT, Int.reduceBEq, Int.reduceBNe])
    refine ⟨k + 1, ⟨hltk, next (badR_no (.inr d1) (.inr d2))⟩, ?_, meas_lt hltk⟩
    simp only [LW, Nat.reduceMod, Nat.reduceDiv, ho, hi, wrap_succ hltk hlen, List.map_set, intP, w1, w2, AW, Nat.reduceAdd, reduceCtorEq, Nat.reduceEqDiff, ↓reduceIte, Nat.reduceLT, Nat.reduceLeDiff, Nat.reduceSub, Nat.reducePow, Nat.reduceMul, Int.reduceToNat, Int.reduceLE, Int.reduceEq, Int.reduceLT, Int.reduceBEq, Int.reduceBNe]
  have dk : decide ((k : Int) < ((rs.length : Nat) : Int)) = true := by rw [decide_eq_true_eq]; exact Int.ofNat_lt.2 hltk
  simp only [dk, map_getD hltk, hltk, RideS.pv, AW, Nat.reduceAdd, reduceCtorEq, Nat.reduceEqDiff, ↓reduceIte, Nat.reduceLT, Nat.reduceLeDiff, Nat.reduceSub, Nat.reducePow, Nat.reduceMul, Int.reduceToNat, Int.reduceLE, Int.reduceEq, Int.reduceLT, Int.reduceBEq, Int.reduceBNe]
  refine ops_call (qcheck_g rs[k]) (by simp only [RideS.pv, AW, Nat.reduceAdd, reduceCtorEq, Nat.reduceEqDiff, ↓reduceIte, Nat.reduceLT, Nat.reduceLeDiff, Nat.reduceSub, Nat.reducePow, Nat.reduceMul, Int.reduceToNat, Int.reduceLE, Int.reduceEq, Int.reduceLT, Int.reduceBEq, Int.reduceBNe]) ?_; simp only [RideS.pv, AW, Nat.reduceAdd, reduceCtorEq, Nat.reduceEqDiff, ↓reduceIte, Nat.reduceLT, Nat.reduceLeDiff, Nat.reduceSub, Nat.reducePow, Nat.reduceMul, Int.reduceToNat, Int.reduceLE, Int.reduceEq, Int.reduceLT, Int.reduceBEq, Int.reduceBNe]
  cases hc : (checkL rs[k] != 0)
  · simp only [wrap_succ hltk hlen, AW, Nat.reduceAdd, reduceCtorEq, Nat.reduceEqDiff, ↓reduceIte, Nat.reduceLT, Nat.reduceLeDiff, Nat.reduceSub, Nat.reducePow, Nat.reduceMul, Int.reduceToNat, Int.reduceLE, Int.reduceEq, Int.reduceLT, Int.reduceBEq, Int.reduceBNe]
    refine ⟨k + 1, ⟨hltk, fun j hj hjk => ?_⟩, ?_, by omega⟩
    · by_cases e : j = k
      · subst e; simpa using hc
      · exact ik j hj (by omega)
    · simp only [LW, Nat.reduceMod, Nat.reduceDiv, AW, Nat.reduceAdd, reduceCtorEq, Nat.reduceEqDiff, ↓reduceIte, Nat.reduceLT, Nat.reduceLeDiff, Nat.reduceSub, Nat.reducePow, Nat.reduceMul, Int.reduceToNat, Int.reduceLE, Int.reduceEq, Int.reduceLT, Int.reduceBEq, Int.reduceBNe]
  · rw [countC_3 hst (by omega) hltk ik (by simpa using hc)]
    simp only [addP, zeroC, CountsS.pv, intP, AW, Nat.reduceAdd, reduceCtorEq, Nat.reduceEqDiff, ↓reduceIte, Nat.reduceLT, Nat.reduceLeDiff, Nat.reduceSub, Nat.reducePow, Nat.reduceMul, Int.reduceToNat, Int.reduceLE, Int.reduceEq, Int.reduceLT, Int.reduceBEq, Int.reduceBNe]
set_option maxHeartbeats 4000000 in
theorem qof_g (c : CountsS) (st slot hours : Int) : Good Try.prog 21 [c.pv, intP st, intP slot, intP hours] (ofP (ofL c st slot hours)) := by
  refine good21 (by simp) ?_
  simp only [ac21, CountsS.pv, intP, AW, Nat.reduceAdd, reduceCtorEq, Nat.reduceEqDiff, ↓reduceIte, Nat.reduceLT, Nat.reduceLeDiff, Nat.reduceSub, Nat.reducePow, Nat.reduceMul, Int.reduceToNat, Int.reduceLE, Int.reduceEq, Int.reduceLT, Int.reduceBEq, Int.reduceBNe]
  refine ops_call (qcheckC_g c) (by simp only [CountsS.pv, intP, AW, Nat.reduceAdd, reduceCtorEq, Nat.reduceEqDiff, ↓reduceIte, Nat.reduceLT, Nat.reduceLeDiff, Nat.reduceSub, Nat.reducePow, Nat.reduceMul, Int.reduceToNat, Int.reduceLE, Int.reduceEq, Int.reduceLT, Int.reduceBEq, Int.reduceBNe]) ?_; simp only [CountsS.pv, intP, AW, Nat.reduceAdd, reduceCtorEq, Nat.reduceEqDiff, ↓reduceIte, Nat.reduceLT, Nat.reduceLeDiff, Nat.reduceSub, Nat.reducePow, Nat.reduceMul, Int.reduceToNat, Int.reduceLE, Int.reduceEq, Int.reduceLT, Int.reduceBEq, Int.reduceBNe]
  cases hz : (checkC c != 0)
  rotate_left
  · rw [ofL_1 (by simpa using hz)]
    simp only [ofP, intP, AW, Nat.reduceAdd, reduceCtorEq, Nat.reduceEqDiff, ↓reduceIte, Nat.reduceLT, Nat.reduceLeDiff, Nat.reduceSub, Nat.reducePow, Nat.reduceMul, Int.reduceToNat, Int.reduceLE, Int.reduceEq, Int.reduceLT, Int.reduceBEq, Int.reduceBNe]
  have hc : checkC c = 0 := by simpa using hz
  obtain ⟨c1, c2, c3, c4, c5⟩ := checkC_ok hc
  simp only [AW, Nat.reduceAdd, reduceCtorEq, Nat.reduceEqDiff, ↓reduceIte, Nat.reduceLT, Nat.reduceLeDiff, Nat.reduceSub, Nat.reducePow, Nat.reduceMul, Int.reduceToNat, Int.reduceLE, Int.reduceEq, Int.reduceLT, Int.reduceBEq, Int.reduceBNe]
  cases b1 : decide (st < 0)
  rotate_left
  · rw [decide_eq_true_eq] at b1
    rw [ofL_2 hc (by omega)]
    simp only [ofP, intP, AW, Nat.reduceAdd, reduceCtorEq, Nat.reduceEqDiff, ↓reduceIte, Nat.reduceLT, Nat.reduceLeDiff, Nat.reduceSub, Nat.reducePow, Nat.reduceMul, Int.reduceToNat, Int.reduceLE, Int.reduceEq, Int.reduceLT, Int.reduceBEq, Int.reduceBNe]
  simp only [AW, Nat.reduceAdd, reduceCtorEq, Nat.reduceEqDiff, ↓reduceIte, Nat.reduceLT, Nat.reduceLeDiff, Nat.reduceSub, Nat.reducePow, Nat.reduceMul, Int.reduceToNat, Int.reduceLE, Int.reduceEq, Int.reduceLT, Int.reduceBEq, Int.reduceBNe]
  cases b2 : decide (c.stations ≤ st)
  rotate_left
  · rw [decide_eq_true_eq] at b2
    rw [ofL_2 hc (by omega)]
    simp only [ofP, intP, AW, Nat.reduceAdd, reduceCtorEq, Nat.reduceEqDiff, ↓reduceIte, Nat.reduceLT, Nat.reduceLeDiff, Nat.reduceSub, Nat.reducePow, Nat.reduceMul, Int.reduceToNat, Int.reduceLE, Int.reduceEq, Int.reduceLT, Int.reduceBEq, Int.reduceBNe]
  rw [decide_eq_false_iff_not] at b1 b2
  have h2 : 0 ≤ st ∧ st < c.stations := by omega
  simp only [AW, Nat.reduceAdd, reduceCtorEq, Nat.reduceEqDiff, ↓reduceIte, Nat.reduceLT, Nat.reduceLeDiff, Nat.reduceSub, Nat.reducePow, Nat.reduceMul, Int.reduceToNat, Int.reduceLE, Int.reduceEq, Int.reduceLT, Int.reduceBEq, Int.reduceBNe]
  cases b3 : decide (slot < 0)
  rotate_left
  · rw [decide_eq_true_eq] at b3
    rw [ofL_3 hc h2 (by omega)]
    simp only [ofP, intP, AW, Nat.reduceAdd, reduceCtorEq, Nat.reduceEqDiff, ↓reduceIte, Nat.reduceLT, Nat.reduceLeDiff, Nat.reduceSub, Nat.reducePow, Nat.reduceMul, Int.reduceToNat, Int.reduceLE, Int.reduceEq, Int.reduceLT, Int.reduceBEq, Int.reduceBNe]
  simp only [AW, Nat.reduceAdd, reduceCtorEq, Nat.reduceEqDiff, ↓reduceIte, Nat.reduceLT, Nat.reduceLeDiff, Nat.reduceSub, Nat.reducePow, Nat.reduceMul, Int.reduceToNat, Int.reduceLE, Int.reduceEq, Int.reduceLT, Int.reduceBEq, Int.reduceBNe]
  cases b4 : decide ((168 : Int) ≤ slot)
  rotate_left
  · rw [decide_eq_true_eq] at b4
    rw [ofL_3 hc h2 (by omega)]
    simp only [ofP, intP, AW, Nat.reduceAdd, reduceCtorEq, Nat.reduceEqDiff, ↓reduceIte, Nat.reduceLT, Nat.reduceLeDiff, Nat.reduceSub, Nat.reducePow, Nat.reduceMul, Int.reduceToNat, Int.reduceLE, Int.reduceEq, Int.reduceLT, Int.reduceBEq, Int.reduceBNe]
  simp only [AW, Nat.reduceAdd, reduceCtorEq, Nat.reduceEqDiff, ↓reduceIte, Nat.reduceLT, Nat.reduceLeDiff, Nat.reduceSub, Nat.reducePow, Nat.reduceMul, Int.reduceToNat, Int.reduceLE, Int.reduceEq, Int.reduceLT, Int.reduceBEq, Int.reduceBNe]
  cases b5 : decide (hours < 0)
  rotate_left
  · rw [decide_eq_true_eq] at b5
    rw [ofL_3 hc h2 (by omega)]
    simp only [ofP, intP, AW, Nat.reduceAdd, reduceCtorEq, Nat.reduceEqDiff, ↓reduceIte, Nat.reduceLT, Nat.reduceLeDiff, Nat.reduceSub, Nat.reducePow, Nat.reduceMul, Int.reduceToNat, Int.reduceLE, Int.reduceEq, Int.reduceLT, Int.reduceBEq, Int.reduceBNe]
  simp only [AW, Nat.reduceAdd, reduceCtorEq, Nat.reduceEqDiff, ↓reduceIte, Nat.reduceLT, Nat.reduceLeDiff, Nat.reduceSub, Nat.reducePow, Nat.reduceMul, Int.reduceToNat, Int.reduceLE, Int.reduceEq, Int.reduceLT, Int.reduceBEq, Int.reduceBNe]
  cases b6 : decide ((168 : Int) < hours)
  rotate_left
  · rw [decide_eq_true_eq] at b6
    rw [ofL_3 hc h2 (by omega)]
    simp only [ofP, intP, AW, Nat.reduceAdd, reduceCtorEq, Nat.reduceEqDiff, ↓reduceIte, Nat.reduceLT, Nat.reduceLeDiff, Nat.reduceSub, Nat.reducePow, Nat.reduceMul, Int.reduceToNat, Int.reduceLE, Int.reduceEq, Int.reduceLT, Int.reduceBEq, Int.reduceBNe]
  rw [decide_eq_false_iff_not] at b3 b4 b5 b6
  simp only [AW, Nat.reduceAdd, reduceCtorEq, Nat.reduceEqDiff, ↓reduceIte, Nat.reduceLT, Nat.reduceLeDiff, Nat.reduceSub, Nat.reducePow, Nat.reduceMul, Int.reduceToNat, Int.reduceLE, Int.reduceEq, Int.reduceLT, Int.reduceBEq, Int.reduceBNe]
  obtain ⟨a, rfl⟩ : ∃ a : Nat, st = a := ⟨st.toNat, by omega⟩
  obtain ⟨s, rfl⟩ : ∃ a : Nat, slot = a := ⟨slot.toNat, by omega⟩
  obtain ⟨n, rfl⟩ : ∃ a : Nat, hours = a := ⟨hours.toNat, by omega⟩
  have l1 : (a + 1) * 168 ≤ c.out.length := by omega
  have l2 : (a + 1) * 168 ≤ c.into.length := by omega
  have n1 := wk_num c4 a
  have n2 := wk_num c5 a
  rw [ofL_4 hc h2.2 (by omega) (by omega)]
  refine run_loop (ι := Nat) (fun k => ⟨[(1, .sc (.int .i64 (a : Int))), (2, .sc (.int .i64 (s : Int))), (3, .sc (.int .i64 (n : Int))), (4, .ptr 0 0), (12, .sc (.int .i64 (sumW (wk c.out a) s k))), (13, .sc (.int .i64 (sumW (wk c.into a) s k))), (14, .sc (.int .i64 (k : Int)))], [(0, .var [.sc (.int .i64 c.stations), .sl (c.out.map intP), .sl (c.into.map intP)])], 34, 71⟩) (fun k => k ≤ n) (fun k => n - k) 34 (fun _ => rfl) 0 (by simp only [LW, Nat.reduceMod, Nat.reduceDiv, Int.natCast_zero, sumW, AW, Nat.reduceAdd, reduceCtorEq, Nat.reduceEqDiff, ↓reduceIte, Nat.reduceLT, Nat.reduceLeDiff, Nat.reduceSub, Nat.reducePow, Nat.reduceMul, Int.reduceToNat, Int.reduceLE, Int.reduceEq, Int.reduceLT, Int.reduceBEq, Int.reduceBNe]) (Nat.zero_le _) (fun k hk => ?_)
  have gk := hk
  by_cases hltk : k < n
  rotate_left
  · have dk : decide ((k : Int) < ((n : Nat) : Int)) = false := by rw [decide_eq_false_iff_not]; exact fun h => hltk (Int.ofNat_lt.1 h)
    have ek : k = n := Nat.le_antisymm gk (Nat.le_of_not_lt hltk)
    subst ek
    simp only [dk, ofP, intP, AW, Nat.reduceAdd, reduceCtorEq, Nat.reduceEqDiff, ↓reduceIte, Nat.reduceLT, Nat.reduceLeDiff, Nat.reduceSub, Nat.reducePow, Nat.reduceMul, Int.reduceToNat, Int.reduceLE, Int.reduceEq, Int.reduceLT, Int.reduceBEq, Int.reduceBNe]
  have dk : decide ((k : Int) < ((n : Nat) : Int)) = true := by rw [decide_eq_true_eq]; exact Int.ofNat_lt.2 hltk
  have i0 : (s + k) % 168 < 168 := Nat.mod_lt _ (by omega)
  have i1 : a * 168 + (s + k) % 168 < c.out.length := by omega
  have i2 : a * 168 + (s + k) % 168 < c.into.length := by omega
  have q0 : IntKind.wrap .i64 ((a : Int) * 168) = ((a * 168 : Nat) : Int) := mul_nat (a := a) (b := 168) (by omega)
  have q1 : IntKind.wrap .i64 ((s : Int) + (k : Int)) = ((s + k : Nat) : Int) := add_nat (by omega)
  have q2 : (((s + k : Nat) : Int)).tmod 168 = (((s + k) % 168 : Nat) : Int) := mod_nat _ 168
  have q3 : IntKind.wrap .i64 (((a * 168 : Nat) : Int) + (((s + k) % 168 : Nat) : Int)) = ((a * 168 + (s + k) % 168 : Nat) : Int) := add_nat (by omega)
  have b1 := sumW_b n1 s k
  have b2 := sumW_b n2 s k
  have b3 := getD_num n1 ((s + k) % 168)
  have b4 := getD_num n2 ((s + k) % 168)
  have g1 : (wk c.out a).getD ((s + k) % 168) 0 = c.out[a * 168 + (s + k) % 168] := by rw [wk_get l1 i0, List.getD_eq_getElem?_getD, List.getElem?_eq_getElem i1]; rfl
  have g2 : (wk c.into a).getD ((s + k) % 168) 0 = c.into[a * 168 + (s + k) % 168] := by rw [wk_get l2 i0, List.getD_eq_getElem?_getD, List.getElem?_eq_getElem i2]; rfl
  have q4 : IntKind.wrap .i64 (sumW (wk c.out a) s k + c.out[a * 168 + (s + k) % 168]) = sumW (wk c.out a) s (k + 1) := by
    simp only [sumW, g1]; rw [g1] at b3; exact wrap_id (by unfold I64; omega)
  have q5 : IntKind.wrap .i64 (sumW (wk c.into a) s k + c.into[a * 168 + (s + k) % 168]) = sumW (wk c.into a) s (k + 1) := by
    simp only [sumW, g2]; rw [g2] at b4; exact wrap_id (by unfold I64; omega)
  simp only [dk, q0, q1, q2, q3, map_getD i1, i1, intP, q4, map_getD i2, i2, q5, AW, Nat.reduceAdd, reduceCtorEq, Nat.reduceEqDiff, ↓reduceIte, Nat.reduceLT, Nat.reduceLeDiff, Nat.reduceSub, Nat.reducePow, Nat.reduceMul, Int.reduceToNat, Int.reduceLE, Int.reduceEq, Int.reduceLT, Int.reduceBEq, Int.reduceBNe]
  (try refine drawnK rfl ?_); (try simp only [wrap_succ hltk (show n ≤ maxLen by unfold maxLen; omega), AW, Nat.reduceAdd, reduceCtorEq, Nat.reduceEqDiff, ↓reduceIte, Nat.reduceLT, Nat.reduceLeDiff, Nat.reduceSub, Nat.reducePow, Nat.reduceMul, Int.reduceToNat, Int.reduceLE, Int.reduceEq, Int.reduceLT, Int.reduceBEq, Int.reduceBNe])
  refine ⟨k + 1, hltk, ?_, by omega⟩
  simp only [LW, Nat.reduceMod, Nat.reduceDiv, AW, Nat.reduceAdd, reduceCtorEq, Nat.reduceEqDiff, ↓reduceIte, Nat.reduceLT, Nat.reduceLeDiff, Nat.reduceSub, Nat.reducePow, Nat.reduceMul, Int.reduceToNat, Int.reduceLE, Int.reduceEq, Int.reduceLT, Int.reduceBEq, Int.reduceBNe]


end Go.Proofs.Ytjobpjhmdbmdgaa
