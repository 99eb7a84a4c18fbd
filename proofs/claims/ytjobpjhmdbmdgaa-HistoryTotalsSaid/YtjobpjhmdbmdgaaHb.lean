/-
  The history of a city: Count, walked.
-/
import Derived.Test.YtjobpjhmdbmdgaaH9
namespace Go.Proofs.Ytjobpjhmdbmdgaa
open Go.RowKit
set_option linter.unusedVariables false
set_option linter.unusedSimpArgs false
set_option linter.unnecessarySimpa false

theorem rides_rng {f : FuncId} {rs : List RideS} {ps qs : List PV} {u : PV} (h : rs.length ≤ maxLen → (∀ r ∈ rs, I64 r.fromPlace ∧ I64 r.place) → Good Try.prog f (ps ++ .sl (rs.map RideS.pv) :: qs) u) : Good Try.prog f (ps ++ .sl (rs.map RideS.pv) :: qs) u := by
  refine .len (es := rs.map RideS.pv) (by simp) (fun h1 => ?_)
  refine .rngEl (es := rs.map RideS.pv) (by simp) (fun h2 => ?_)
  refine h (by simpa using h1) (fun r hr => ?_)
  have := fun n => h2 _ (List.mem_map.2 ⟨r, hr, rfl⟩) n
  exact ⟨this _ (by simp), this _ (by simp)⟩
set_option maxHeartbeats 8000000 in
theorem count_g (st : Int) (rs : List RideS) : Good Try.prog 15 [intP st, .sl (rs.map RideS.pv)] (addP (countC st rs)) := by
  refine rides_rng (ps := [intP st]) (qs := []) (fun hlen hpl => ?_)
  refine good15 (by simp) ?_
  simp only [ac15, List.nil_append, List.cons_append, intP, AW, Nat.reduceAdd, reduceCtorEq, Nat.reduceEqDiff, ↓reduceIte, Nat.reduceLT, Nat.reduceLeDiff, Nat.reduceSub, Nat.reducePow, Nat.reduceMul, Int.reduceToNat, Int.reduceLE, Int.reduceEq, Int.reduceLT, Int.reduceBEq, Int.reduceBNe]
  refine ops_call (in_g st 1 32) (by simp only [intP, AW, Nat.reduceAdd, reduceCtorEq, Nat.reduceEqDiff, ↓reduceIte, Nat.reduceLT, Nat.reduceLeDiff, Nat.reduceSub, Nat.reducePow, Nat.reduceMul, Int.reduceToNat, Int.reduceLE, Int.reduceEq, Int.reduceLT, Int.reduceBEq, Int.reduceBNe]) ?_; simp only [intP, AW, Nat.reduceAdd, reduceCtorEq, Nat.reduceEqDiff, ↓reduceIte, Nat.reduceLT, Nat.reduceLeDiff, Nat.reduceSub, Nat.reducePow, Nat.reduceMul, Int.reduceToNat, Int.reduceLE, Int.reduceEq, Int.reduceLT, Int.reduceBEq, Int.reduceBNe]
  cases hst : stB st
  · have h1' : (decide (1 ≤ st) && decide (st ≤ 32)) = false := hst
    rw [countC_1 hst]
    simp only [h1', addP, zeroC, CountsS.pv, intP, AW, Nat.reduceAdd, reduceCtorEq, Nat.reduceEqDiff, ↓reduceIte, Nat.reduceLT, Nat.reduceLeDiff, Nat.reduceSub, Nat.reducePow, Nat.reduceMul, Int.reduceToNat, Int.reduceLE, Int.reduceEq, Int.reduceLT, Int.reduceBEq, Int.reduceBNe]
  have h1' : (decide (1 ≤ st) && decide (st ≤ 32)) = true := hst
  have hb : 1 ≤ st ∧ st ≤ 32 := by simpa [stB] using hst
  simp only [h1', AW, Nat.reduceAdd, reduceCtorEq, Nat.reduceEqDiff, ↓reduceIte, Nat.reduceLT, Nat.reduceLeDiff, Nat.reduceSub, Nat.reducePow, Nat.reduceMul, Int.reduceToNat, Int.reduceLE, Int.reduceEq, Int.reduceLT, Int.reduceBEq, Int.reduceBNe]
  cases h2 : decide ((256 : Int) < rs.length)
  rotate_left
  · rw [countC_2 hst (by rw [decide_eq_true_eq] at h2; omega)]
    simp only [addP, zeroC, CountsS.pv, intP, AW, Nat.reduceAdd, reduceCtorEq, Nat.reduceEqDiff, ↓reduceIte, Nat.reduceLT, Nat.reduceLeDiff, Nat.reduceSub, Nat.reducePow, Nat.reduceMul, Int.reduceToNat, Int.reduceLE, Int.reduceEq, Int.reduceLT, Int.reduceBEq, Int.reduceBNe]
  rw [decide_eq_false_iff_not] at h2
  simp only [AW, Nat.reduceAdd, reduceCtorEq, Nat.reduceEqDiff, ↓reduceIte, Nat.reduceLT, Nat.reduceLeDiff, Nat.reduceSub, Nat.reducePow, Nat.reduceMul, Int.reduceToNat, Int.reduceLE, Int.reduceEq, Int.reduceLT, Int.reduceBEq, Int.reduceBNe]
  refine run_loop (ι := Nat) (fun k => ⟨[(0, .sc (.int .i64 st)), (1, .sl (rs.map RideS.pv)), (4, .ptr 0 0), (24, .sl (rs.map RideS.pv)), (25, .sc (.int .i64 (rs.length : Int))), (26, .sc (.int .i64 (k : Int)))], [(0, .var [.sc (.int .i64 0), .sc (.slice none 0 0), .sc (.slice none 0 0)])], 13, 85⟩) (fun k => k ≤ rs.length ∧ (∀ j (hj : j < rs.length), j < k → checkL rs[j] = 0)) (fun k => rs.length - k) 13 (fun _ => rfl) 0 (by simp only [LW, Nat.reduceMod, Nat.reduceDiv, Int.natCast_zero, AW, Nat.reduceAdd, reduceCtorEq, Nat.reduceEqDiff, ↓reduceIte, Nat.reduceLT, Nat.reduceLeDiff, Nat.reduceSub, Nat.reducePow, Nat.reduceMul, Int.reduceToNat, Int.reduceLE, Int.reduceEq, Int.reduceLT, Int.reduceBEq, Int.reduceBNe]) ⟨Nat.zero_le _, nofun⟩ (fun k hk => ?_)
  obtain ⟨gk, ik⟩ := hk
  by_cases hltk : k < rs.length
  rotate_left
  · have dk : decide ((k : Int) < ((rs.length : Nat) : Int)) = false := by rw [decide_eq_false_iff_not]; exact fun h => hltk (Int.ofNat_lt.1 h)
    have ek : k = rs.length := Nat.le_antisymm gk (Nat.le_of_not_lt hltk)
    subst ek
    have hchk : ∀ j (hj : j < rs.length), checkL rs[j] = 0 := fun j hj => ik j hj hj
    clear ik gk hltk
    have hw := wrap168 (show 0 ≤ st by omega) (show st ≤ 1000000 by omega)
    obtain ⟨N, hN⟩ : ∃ N : Nat, st * 168 = (N : Int) := ⟨(st * 168).toNat, by omega⟩
    have hN2 : st.toNat * 168 = N := by omega
    have hw := hw.trans hN
    have f1 : (0 : Int) ≤ (N : Int) := by omega
    have f2 : ((8 : Nat) : Int) * (N : Int) ≤ 281474976710656 := by omega
    have f3 : (N : Int) ≤ 9223372036854775807 := by omega
    simp only [dk, hw, f1, f2, f3, AW, Nat.reduceAdd, reduceCtorEq, Nat.reduceEqDiff, ↓reduceIte, Nat.reduceLT, Nat.reduceLeDiff, Nat.reduceSub, Nat.reducePow, Nat.reduceMul, Int.reduceToNat, Int.reduceLE, Int.reduceEq, Int.reduceLT, Int.reduceBEq, Int.reduceBNe]
    (try refine drawnK rfl ?_); (try simp only [AW, Nat.reduceAdd, reduceCtorEq, Nat.reduceEqDiff, ↓reduceIte, Nat.reduceLT, Nat.reduceLeDiff, Nat.reduceSub, Nat.reducePow, Nat.reduceMul, Int.reduceToNat, Int.reduceLE, Int.reduceEq, Int.reduceLT, Int.reduceBEq, Int.reduceBNe])
    refine run_loop (ι := Nat) (fun k => ⟨[(0, .sc (.int .i64 st)), (4, .ptr 0 0), (9, .ptr 22 0), (45, .sl (rs.map RideS.pv)), (46, .sc (.int .i64 (rs.length : Int))), (47, .sc (.int .i64 (k : Int)))], [(0, .var [.sc (.int .i64 0), .sc (.slice none 0 0), .sc (.slice none 0 0)]), (17, .row 3 1 0 ((outL N (rs.take k)).map intP)), (20, .row 3 1 0 ((inL N (rs.take k)).map intP)), (22, .var [.sc (.int .i64 st), .own 17 0, .own 20 0])], 27, 85⟩) (fun k => k ≤ rs.length ∧ (∀ j (hj : j < rs.length), j < k → badR st rs[j] = false)) (fun k => rs.length - k) 27 (fun _ => rfl) 0 (by simp only [LW, Nat.reduceMod, Nat.reduceDiv, Int.natCast_zero, List.take_zero, outL, inL, List.foldl_nil, List.map_replicate, intP, AW, Nat.reduceAdd, reduceCtorEq, Nat.reduceEqDiff, ↓reduceIte, Nat.reduceLT, Nat.reduceLeDiff, Nat.reduceSub, Nat.reducePow, Nat.reduceMul, Int.reduceToNat, Int.reduceLE, Int.reduceEq, Int.reduceLT, Int.reduceBEq, Int.reduceBNe]) ⟨Nat.zero_le _, nofun⟩ (fun k hk => ?_)
    obtain ⟨gk, ik⟩ := hk
    by_cases hltk : k < rs.length
    rotate_left
    · have dk : decide ((k : Int) < ((rs.length : Nat) : Int)) = false := by rw [decide_eq_false_iff_not]; exact fun h => hltk (Int.ofNat_lt.1 h)
      have ek : k = rs.length := Nat.le_antisymm gk (Nat.le_of_not_lt hltk)
      subst ek
      rw [countC_5 hst (by omega) hchk (fun j hj => ik j hj hj), hN2]
      simp only [dk, addP, CountsS.pv, intP, List.take_length, AW, Nat.reduceAdd, reduceCtorEq, Nat.reduceEqDiff, ↓reduceIte, Nat.reduceLT, Nat.reduceLeDiff, Nat.reduceSub, Nat.reducePow, Nat.reduceMul, Int.reduceToNat, Int.reduceLE, Int.reduceEq, Int.reduceLT, Int.reduceBEq, Int.reduceBNe]
    have dk : decide ((k : Int) < ((rs.length : Nat) : Int)) = true := by rw [decide_eq_true_eq]; exact Int.ofNat_lt.2 hltk
    have hm := rs.length
    have hck : ∀ j (hj : j < rs.length), checkL rs[j] = 0 := hchk
    have hp1 := (hpl rs[k] (List.getElem_mem hltk)).1
    have hp2 := (hpl rs[k] (List.getElem_mem hltk)).2
    obtain ⟨hm1, hm2⟩ := check_moments (hck k hltk)
    obtain ⟨ol, ob⟩ := outL_ok N (rs.take k)
    obtain ⟨il, ib⟩ := inL_ok N (rs.take k)
    rw [List.length_take, Nat.min_eq_left gk] at ob ib
    have next : badR st rs[k] = false → ∀ j (hj : j < rs.length), j < k + 1 → badR st rs[j] = false := fun h j hj hjk => by
      by_cases e : j = k
      · subst e; exact h
      · exact ik j hj (by omega)
    simp only [dk, map_getD hltk, hltk, RideS.pv, AW, Nat.reduceAdd, reduceCtorEq, Nat.reduceEqDiff, ↓reduceIte, Nat.reduceLT, Nat.reduceLeDiff, Nat.reduceSub, Nat.reducePow, Nat.reduceMul, Int.reduceToNat, Int.reduceLE, Int.reduceEq, Int.reduceLT, Int.reduceBEq, Int.reduceBNe]
    cases w1 : (rs[k].fromWhere == 1)
    · have bo : (rs[k].fromWhere == 1 && !dockB st rs[k].fromPlace) = false := by rw [w1]; rfl
      have ho : outL N (rs.take (k + 1)) = outL N (rs.take k) := by
        rw [outL_succ N rs k hltk]; unfold bump; rw [if_neg (by simpa using w1)]
      simp only [AW, Nat.reduceAdd, reduceCtorEq, Nat.reduceEqDiff, ↓reduceIte, Nat.reduceLT, Nat.reduceLeDiff, Nat.reduceSub, Nat.reducePow, Nat.reduceMul, Int.reduceToNat, Int.reduceLE, Int.reduceEq, Int.reduceLT, Int.reduceBEq, Int.reduceBNe]
      cases w2 : (rs[k].where_ == 1)
      · have hin : inL N (rs.take (k + 1)) = inL N (rs.take k) := by
          rw [inL_succ N rs k hltk]; unfold bump; rw [if_neg (by simpa using w2)]
        simp only [wrap_succ hltk hlen, AW, Nat.reduceAdd, reduceCtorEq, Nat.reduceEqDiff, ↓reduceIte, Nat.reduceLT, Nat.reduceLeDiff, Nat.reduceSub, Nat.reducePow, Nat.reduceMul, Int.reduceToNat, Int.reduceLE, Int.reduceEq, Int.reduceLT, Int.reduceBEq, Int.reduceBNe]
        refine ⟨k + 1, ⟨hltk, next (by rw [badR, bo, w2]; rfl)⟩, ?_, by omega⟩
        simp only [LW, Nat.reduceMod, Nat.reduceDiv, ho, hin, AW, Nat.reduceAdd, reduceCtorEq, Nat.reduceEqDiff, ↓reduceIte, Nat.reduceLT, Nat.reduceLeDiff, Nat.reduceSub, Nat.reducePow, Nat.reduceMul, Int.reduceToNat, Int.reduceLE, Int.reduceEq, Int.reduceLT, Int.reduceBEq, Int.reduceBNe]
      simp only [AW, Nat.reduceAdd, reduceCtorEq, Nat.reduceEqDiff, ↓reduceIte, Nat.reduceLT, Nat.reduceLeDiff, Nat.reduceSub, Nat.reducePow, Nat.reduceMul, Int.reduceToNat, Int.reduceLE, Int.reduceEq, Int.reduceLT, Int.reduceBEq, Int.reduceBNe]
      cases d2 : dockB st rs[k].place
      · have e7 : addE st rs[k].place rs[k].end_.lo = 7 := by
          unfold addE; rw [if_pos]; simp only [dockB, Bool.and_eq_false_iff, decide_eq_false_iff_not] at d2; omega
        have g := add_no (inL N (rs.take k)) st rs[k].place rs[k].end_.lo hp2 (by rw [e7]; omega)
        rw [e7] at g
        refine ops_call (g) (by simp only [intsP, intP, AW, Nat.reduceAdd, reduceCtorEq, Nat.reduceEqDiff, ↓reduceIte, Nat.reduceLT, Nat.reduceLeDiff, Nat.reduceSub, Nat.reducePow, Nat.reduceMul, Int.reduceToNat, Int.reduceLE, Int.reduceEq, Int.reduceLT, Int.reduceBEq, Int.reduceBNe]) ?_; simp only [intsP, intP, AW, Nat.reduceAdd, reduceCtorEq, Nat.reduceEqDiff, ↓reduceIte, Nat.reduceLT, Nat.reduceLeDiff, Nat.reduceSub, Nat.reducePow, Nat.reduceMul, Int.reduceToNat, Int.reduceLE, Int.reduceEq, Int.reduceLT, Int.reduceBEq, Int.reduceBNe]
        rw [countC_4 hst (by omega) hck hltk (by rw [badR, w2, d2]; simp)]
        simp only [addP, zeroC, CountsS.pv, intP, AW, Nat.reduceAdd, reduceCtorEq, Nat.reduceEqDiff, ↓reduceIte, Nat.reduceLT, Nat.reduceLeDiff, Nat.reduceSub, Nat.reducePow, Nat.reduceMul, Int.reduceToNat, Int.reduceLE, Int.reduceEq, Int.reduceLT, Int.reduceBEq, Int.reduceBNe]
      obtain ⟨kl, ke⟩ := addK_lt (t := rs[k].end_.lo) d2
      have hK2 : addK rs[k].place rs[k].end_.lo < (inL N (rs.take k)).length := by rw [il]; omega
      have hin : inL N (rs.take (k + 1)) = (inL N (rs.take k)).set (addK rs[k].place rs[k].end_.lo) ((inL N (rs.take k))[addK rs[k].place rs[k].end_.lo] + 1) := by
        rw [inL_succ N rs k hltk]; unfold bump; rw [if_pos (by simpa using w2), List.getD_eq_getElem?_getD, List.getElem?_eq_getElem hK2]; rfl
      have hb2 := ib _ (List.getElem_mem hK2)
      have hd2 := d2
      simp only [dockB, Bool.and_eq_true, decide_eq_true_eq] at hd2
      refine ops_callM (s := 20) (ver := 0) [] [intP st, intP rs[k].place, intP rs[k].end_.lo] (add_m (inL N (rs.take k)) st rs[k].place rs[k].end_.lo _ (by rw [il]; omega) hd2.1 hd2.2 hm2 hp2 rfl hK2 (by unfold I64; omega)) (by simp only [intP, AW, Nat.reduceAdd, reduceCtorEq, Nat.reduceEqDiff, ↓reduceIte, Nat.reduceLT, Nat.reduceLeDiff, Nat.reduceSub, Nat.reducePow, Nat.reduceMul, Int.reduceToNat, Int.reduceLE, Int.reduceEq, Int.reduceLT, Int.reduceBEq, Int.reduceBNe]) (by simp only [intP, AW, Nat.reduceAdd, reduceCtorEq, Nat.reduceEqDiff, ↓reduceIte, Nat.reduceLT, Nat.reduceLeDiff, Nat.reduceSub, Nat.reducePow, Nat.reduceMul, Int.reduceToNat, Int.reduceLE, Int.reduceEq, Int.reduceLT, Int.reduceBEq, Int.reduceBNe]) (by simp only [intP, List.not_mem_nil, AW, Nat.reduceAdd, reduceCtorEq, Nat.reduceEqDiff, ↓reduceIte, Nat.reduceLT, Nat.reduceLeDiff, Nat.reduceSub, Nat.reducePow, Nat.reduceMul, Int.reduceToNat, Int.reduceLE, Int.reduceEq, Int.reduceLT, Int.reduceBEq, Int.reduceBNe]) (by simp only [intP, AW, Nat.reduceAdd, reduceCtorEq, Nat.reduceEqDiff, ↓reduceIte, Nat.reduceLT, Nat.reduceLeDiff, Nat.reduceSub, Nat.reducePow, Nat.reduceMul, Int.reduceToNat, Int.reduceLE, Int.reduceEq, Int.reduceLT, Int.reduceBEq, Int.reduceBNe]) (by simp only [intP, AW, Nat.reduceAdd, reduceCtorEq, Nat.reduceEqDiff, ↓reduceIte, Nat.reduceLT, Nat.reduceLeDiff, Nat.reduceSub, Nat.reducePow, Nat.reduceMul, Int.reduceToNat, Int.reduceLE, Int.reduceEq, Int.reduceLT, Int.reduceBEq, Int.reduceBNe]) ?_
      simp only [wrap_succ hltk hlen, intP, AW, Nat.reduceAdd, reduceCtorEq, Nat.reduceEqDiff, ↓reduceIte, Nat.reduceLT, Nat.reduceLeDiff, Nat.reduceSub, Nat.reducePow, Nat.reduceMul, Int.reduceToNat, Int.reduceLE, Int.reduceEq, Int.reduceLT, Int.reduceBEq, Int.reduceBNe]
      refine ⟨k + 1, ⟨hltk, next (by rw [badR, bo, w2, d2]; rfl)⟩, ?_, by omega⟩
      simp only [LW, Nat.reduceMod, Nat.reduceDiv, ho, hin, intP, AW, Nat.reduceAdd, reduceCtorEq, Nat.reduceEqDiff, ↓reduceIte, Nat.reduceLT, Nat.reduceLeDiff, Nat.reduceSub, Nat.reducePow, Nat.reduceMul, Int.reduceToNat, Int.reduceLE, Int.reduceEq, Int.reduceLT, Int.reduceBEq, Int.reduceBNe]
    simp only [AW, Nat.reduceAdd, reduceCtorEq, Nat.reduceEqDiff, ↓reduceIte, Nat.reduceLT, Nat.reduceLeDiff, Nat.reduceSub, Nat.reducePow, Nat.reduceMul, Int.reduceToNat, Int.reduceLE, Int.reduceEq, Int.reduceLT, Int.reduceBEq, Int.reduceBNe]
    cases d1 : dockB st rs[k].fromPlace
    · have e7 : addE st rs[k].fromPlace rs[k].start.lo = 7 := by
        unfold addE; rw [if_pos]; simp only [dockB, Bool.and_eq_false_iff, decide_eq_false_iff_not] at d1; omega
      have g := add_no (outL N (rs.take k)) st rs[k].fromPlace rs[k].start.lo hp1 (by rw [e7]; omega)
      rw [e7] at g
      refine ops_call (g) (by simp only [intsP, intP, AW, Nat.reduceAdd, reduceCtorEq, Nat.reduceEqDiff, ↓reduceIte, Nat.reduceLT, Nat.reduceLeDiff, Nat.reduceSub, Nat.reducePow, Nat.reduceMul, Int.reduceToNat, Int.reduceLE, Int.reduceEq, Int.reduceLT, Int.reduceBEq, Int.reduceBNe]) ?_; simp only [intsP, intP, AW, Nat.reduceAdd, reduceCtorEq, Nat.reduceEqDiff, ↓reduceIte, Nat.reduceLT, Nat.reduceLeDiff, Nat.reduceSub, Nat.reducePow, Nat.reduceMul, Int.reduceToNat, Int.reduceLE, Int.reduceEq, Int.reduceLT, Int.reduceBEq, Int.reduceBNe]
      rw [countC_4 hst (by omega) hck hltk (by rw [badR, w1, d1]; rfl)]
      simp only [addP, zeroC, CountsS.pv, intP, AW, Nat.reduceAdd, reduceCtorEq, Nat.reduceEqDiff, ↓reduceIte, Nat.reduceLT, Nat.reduceLeDiff, Nat.reduceSub, Nat.reducePow, Nat.reduceMul, Int.reduceToNat, Int.reduceLE, Int.reduceEq, Int.reduceLT, Int.reduceBEq, Int.reduceBNe]
    have bo : (rs[k].fromWhere == 1 && !dockB st rs[k].fromPlace) = false := by rw [w1, d1]; rfl
    obtain ⟨kl0, ke0⟩ := addK_lt (t := rs[k].start.lo) d1
    have hK1 : addK rs[k].fromPlace rs[k].start.lo < (outL N (rs.take k)).length := by rw [ol]; omega
    have ho : outL N (rs.take (k + 1)) = (outL N (rs.take k)).set (addK rs[k].fromPlace rs[k].start.lo) ((outL N (rs.take k))[addK rs[k].fromPlace rs[k].start.lo] + 1) := by
      rw [outL_succ N rs k hltk]; unfold bump; rw [if_pos (by simpa using w1), List.getD_eq_getElem?_getD, List.getElem?_eq_getElem hK1]; rfl
    have hb1 := ob _ (List.getElem_mem hK1)
    have hd1 := d1
    simp only [dockB, Bool.and_eq_true, decide_eq_true_eq] at hd1
    refine ops_callM (s := 17) (ver := 0) [] [intP st, intP rs[k].fromPlace, intP rs[k].start.lo] (add_m (outL N (rs.take k)) st rs[k].fromPlace rs[k].start.lo _ (by rw [ol]; omega) hd1.1 hd1.2 hm1 hp1 rfl hK1 (by unfold I64; omega)) (by simp only [intP, AW, Nat.reduceAdd, reduceCtorEq, Nat.reduceEqDiff, ↓reduceIte, Nat.reduceLT, Nat.reduceLeDiff, Nat.reduceSub, Nat.reducePow, Nat.reduceMul, Int.reduceToNat, Int.reduceLE, Int.reduceEq, Int.reduceLT, Int.reduceBEq, Int.reduceBNe]) (by simp only [intP, AW, Nat.reduceAdd, reduceCtorEq, Nat.reduceEqDiff, ↓reduceIte, Nat.reduceLT, Nat.reduceLeDiff, Nat.reduceSub, Nat.reducePow, Nat.reduceMul, Int.reduceToNat, Int.reduceLE, Int.reduceEq, Int.reduceLT, Int.reduceBEq, Int.reduceBNe]) (by simp only [intP, List.not_mem_nil, AW, Nat.reduceAdd, reduceCtorEq, Nat.reduceEqDiff, ↓reduceIte, Nat.reduceLT, Nat.reduceLeDiff, Nat.reduceSub, Nat.reducePow, Nat.reduceMul, Int.reduceToNat, Int.reduceLE, Int.reduceEq, Int.reduceLT, Int.reduceBEq, Int.reduceBNe]) (by simp only [intP, AW, Nat.reduceAdd, reduceCtorEq, Nat.reduceEqDiff, ↓reduceIte, Nat.reduceLT, Nat.reduceLeDiff, Nat.reduceSub, Nat.reducePow, Nat.reduceMul, Int.reduceToNat, Int.reduceLE, Int.reduceEq, Int.reduceLT, Int.reduceBEq, Int.reduceBNe]) (by simp only [intP, AW, Nat.reduceAdd, reduceCtorEq, Nat.reduceEqDiff, ↓reduceIte, Nat.reduceLT, Nat.reduceLeDiff, Nat.reduceSub, Nat.reducePow, Nat.reduceMul, Int.reduceToNat, Int.reduceLE, Int.reduceEq, Int.reduceLT, Int.reduceBEq, Int.reduceBNe]) ?_
    simp only [intP, AW, Nat.reduceAdd, reduceCtorEq, Nat.reduceEqDiff, ↓reduceIte, Nat.reduceLT, Nat.reduceLeDiff, Nat.reduceSub, Nat.reducePow, Nat.reduceMul, Int.reduceToNat, Int.reduceLE, Int.reduceEq, Int.reduceLT, Int.reduceBEq, Int.reduceBNe]
    cases w2 : (rs[k].where_ == 1)
    · have hin : inL N (rs.take (k + 1)) = inL N (rs.take k) := by
        rw [inL_succ N rs k hltk]; unfold bump; rw [if_neg (by simpa using w2)]
      simp only [wrap_succ hltk hlen, AW, Nat.reduceAdd, reduceCtorEq, Nat.reduceEqDiff, ↓reduceIte, Nat.reduceLT, Nat.reduceLeDiff, Nat.reduceSub, Nat.reducePow, Nat.reduceMul, Int.reduceToNat, Int.reduceLE, Int.reduceEq, Int.reduceLT, Int.reduceBEq, Int.reduceBNe]
      refine ⟨k + 1, ⟨hltk, next (by rw [badR, bo, w2]; rfl)⟩, ?_, by omega⟩
      simp only [LW, Nat.reduceMod, Nat.reduceDiv, ho, hin, AW, Nat.reduceAdd, reduceCtorEq, Nat.reduceEqDiff, ↓reduceIte, Nat.reduceLT, Nat.reduceLeDiff, Nat.reduceSub, Nat.reducePow, Nat.reduceMul, Int.reduceToNat, Int.reduceLE, Int.reduceEq, Int.reduceLT, Int.reduceBEq, Int.reduceBNe]
    simp only [AW, Nat.reduceAdd, reduceCtorEq, Nat.reduceEqDiff, ↓reduceIte, Nat.reduceLT, Nat.reduceLeDiff, Nat.reduceSub, Nat.reducePow, Nat.reduceMul, Int.reduceToNat, Int.reduceLE, Int.reduceEq, Int.reduceLT, Int.reduceBEq, Int.reduceBNe]
    cases d2 : dockB st rs[k].place
    · have e7 : addE st rs[k].place rs[k].end_.lo = 7 := by
        unfold addE; rw [if_pos]; simp only [dockB, Bool.and_eq_false_iff, decide_eq_false_iff_not] at d2; omega
      have g := add_no (inL N (rs.take k)) st rs[k].place rs[k].end_.lo hp2 (by rw [e7]; omega)
      rw [e7] at g
      refine ops_call (g) (by simp only [intsP, intP, AW, Nat.reduceAdd, reduceCtorEq, Nat.reduceEqDiff, ↓reduceIte, Nat.reduceLT, Nat.reduceLeDiff, Nat.reduceSub, Nat.reducePow, Nat.reduceMul, Int.reduceToNat, Int.reduceLE, Int.reduceEq, Int.reduceLT, Int.reduceBEq, Int.reduceBNe]) ?_; simp only [intsP, intP, AW, Nat.reduceAdd, reduceCtorEq, Nat.reduceEqDiff, ↓reduceIte, Nat.reduceLT, Nat.reduceLeDiff, Nat.reduceSub, Nat.reducePow, Nat.reduceMul, Int.reduceToNat, Int.reduceLE, Int.reduceEq, Int.reduceLT, Int.reduceBEq, Int.reduceBNe]
      rw [countC_4 hst (by omega) hck hltk (by rw [badR, w2, d2]; simp)]
      simp only [addP, zeroC, CountsS.pv, intP, AW, Nat.reduceAdd, reduceCtorEq, Nat.reduceEqDiff, ↓reduceIte, Nat.reduceLT, Nat.reduceLeDiff, Nat.reduceSub, Nat.reducePow, Nat.reduceMul, Int.reduceToNat, Int.reduceLE, Int.reduceEq, Int.reduceLT, Int.reduceBEq, Int.reduceBNe]
    obtain ⟨kl, ke⟩ := addK_lt (t := rs[k].end_.lo) d2
    have hK2 : addK rs[k].place rs[k].end_.lo < (inL N (rs.take k)).length := by rw [il]; omega
    have hin : inL N (rs.take (k + 1)) = (inL N (rs.take k)).set (addK rs[k].place rs[k].end_.lo) ((inL N (rs.take k))[addK rs[k].place rs[k].end_.lo] + 1) := by
      rw [inL_succ N rs k hltk]; unfold bump; rw [if_pos (by simpa using w2), List.getD_eq_getElem?_getD, List.getElem?_eq_getElem hK2]; rfl
    have hb2 := ib _ (List.getElem_mem hK2)
    have hd2 := d2
    simp only [dockB, Bool.and_eq_true, decide_eq_true_eq] at hd2
    refine ops_callM (s := 20) (ver := 0) [] [intP st, intP rs[k].place, intP rs[k].end_.lo] (add_m (inL N (rs.take k)) st rs[k].place rs[k].end_.lo _ (by rw [il]; omega) hd2.1 hd2.2 hm2 hp2 rfl hK2 (by unfold I64; omega)) (by simp only [intP, AW, Nat.reduceAdd, reduceCtorEq, Nat.reduceEqDiff, ↓reduceIte, Nat.reduceLT, Nat.reduceLeDiff, Nat.reduceSub, Nat.reducePow, Nat.reduceMul, Int.reduceToNat, Int.reduceLE, Int.reduceEq, Int.reduceLT, Int.reduceBEq, Int.reduceBNe]) (by simp only [intP, AW, Nat.reduceAdd, reduceCtorEq, Nat.reduceEqDiff, ↓reduceIte, Nat.reduceLT, Nat.reduceLeDiff, Nat.reduceSub, Nat.reducePow, Nat.reduceMul, Int.reduceToNat, Int.reduceLE, Int.reduceEq, Int.reduceLT, Int.reduceBEq, Int.reduceBNe]) (by simp only [intP, List.not_mem_nil, AW, Nat.reduceAdd, reduceCtorEq, Nat.reduceEqDiff, ↓reduceIte, Nat.reduceLT, Nat.reduceLeDiff, Nat.reduceSub, Nat.reducePow, Nat.reduceMul, Int.reduceToNat, Int.reduceLE, Int.reduceEq, Int.reduceLT, Int.reduceBEq, Int.reduceBNe]) (by simp only [intP, AW, Nat.reduceAdd, reduceCtorEq, Nat.reduceEqDiff, ↓reduceIte, Nat.reduceLT, Nat.reduceLeDiff, Nat.reduceSub, Nat.reducePow, Nat.reduceMul, Int.reduceToNat, Int.reduceLE, Int.reduceEq, Int.reduceLT, Int.reduceBEq, Int.reduceBNe]) (by simp only [intP, AW, Nat.reduceAdd, reduceCtorEq, Nat.reduceEqDiff, ↓reduceIte, Nat.reduceLT, Nat.reduceLeDiff, Nat.reduceSub, Nat.reducePow, Nat.reduceMul, Int.reduceToNat, Int.reduceLE, Int.reduceEq, Int.reduceLT, Int.reduceBEq, Int.reduceBNe]) ?_
    simp only [wrap_succ hltk hlen, intP, AW, Nat.reduceAdd, reduceCtorEq, Nat.reduceEqDiff, ↓reduceIte, Nat.reduceLT, Nat.reduceLeDiff, Nat.reduceSub, Nat.reducePow, Nat.reduceMul, Int.reduceToNat, Int.reduceLE, Int.reduceEq, Int.reduceLT, Int.reduceBEq, Int.reduceBNe]
    refine ⟨k + 1, ⟨hltk, next (by rw [badR, bo, w2, d2]; rfl)⟩, ?_, by omega⟩
    simp only [LW, Nat.reduceMod, Nat.reduceDiv, ho, hin, intP, AW, Nat.reduceAdd, reduceCtorEq, Nat.reduceEqDiff, ↓reduceIte, Nat.reduceLT, Nat.reduceLeDiff, Nat.reduceSub, Nat.reducePow, Nat.reduceMul, Int.reduceToNat, Int.reduceLE, Int.reduceEq, Int.reduceLT, Int.reduceBEq, Int.reduceBNe]
  have dk : decide ((k : Int) < ((rs.length : Nat) : Int)) = true := by rw [decide_eq_true_eq]; exact Int.ofNat_lt.2 hltk
  simp only [dk, map_getD hltk, hltk, RideS.pv, AW, Nat.reduceAdd, reduceCtorEq, Nat.reduceEqDiff, ↓reduceIte, Nat.reduceLT, Nat.reduceLeDiff, Nat.reduceSub, Nat.reducePow, Nat.reduceMul, Int.reduceToNat, Int.reduceLE, Int.reduceEq, Int.reduceLT, Int.reduceBEq, Int.reduceBNe]
  refine ops_call (rcheck_g rs[k]) (by simp only [RideS.pv, AW, Nat.reduceAdd, reduceCtorEq, Nat.reduceEqDiff, ↓reduceIte, Nat.reduceLT, Nat.reduceLeDiff, Nat.reduceSub, Nat.reducePow, Nat.reduceMul, Int.reduceToNat, Int.reduceLE, Int.reduceEq, Int.reduceLT, Int.reduceBEq, Int.reduceBNe]) ?_; simp only [RideS.pv, AW, Nat.reduceAdd, reduceCtorEq, Nat.reduceEqDiff, ↓reduceIte, Nat.reduceLT, Nat.reduceLeDiff, Nat.reduceSub, Nat.reducePow, Nat.reduceMul, Int.reduceToNat, Int.reduceLE, Int.reduceEq, Int.reduceLT, Int.reduceBEq, Int.reduceBNe]
  cases hc : (checkL rs[k] != 0)
  · simp only [wrap_succ hltk hlen, AW, Nat.reduceAdd, reduceCtorEq, Nat.reduceEqDiff, ↓reduceIte, Nat.reduceLT, Nat.reduceLeDiff, Nat.reduceSub, Nat.reducePow, Nat.reduceMul, Int.reduceToNat, Int.reduceLE, Int.reduceEq, Int.reduceLT, Int.reduceBEq, Int.reduceBNe]
    refine ⟨k + 1, ⟨hltk, fun j hj hjk => ?_⟩, ?_, by omega⟩
    · by_cases e : j = k
      · subst e; simpa using hc
      · exact ik j hj (by omega)
    · simp only [LW, Nat.reduceMod, Nat.reduceDiv, AW, Nat.reduceAdd, reduceCtorEq, Nat.reduceEqDiff, ↓reduceIte, Nat.reduceLT, Nat.reduceLeDiff, Nat.reduceSub, Nat.reducePow, Nat.reduceMul, Int.reduceToNat, Int.reduceLE, Int.reduceEq, Int.reduceLT, Int.reduceBEq, Int.reduceBNe]
  · rw [countC_3 hst (by omega) hltk ik (by simpa using hc)]
    simp only [addP, zeroC, CountsS.pv, intP, AW, Nat.reduceAdd, reduceCtorEq, Nat.reduceEqDiff, ↓reduceIte, Nat.reduceLT, Nat.reduceLeDiff, Nat.reduceSub, Nat.reducePow, Nat.reduceMul, Int.reduceToNat, Int.reduceLE, Int.reduceEq, Int.reduceLT, Int.reduceBEq, Int.reduceBNe]


end Go.Proofs.Ytjobpjhmdbmdgaa
