/-
  All, walked.
-/
import Derived.Test.YthgnbkcopapbmaaGb
namespace Go.Proofs.Ythgnbkcopapbmaa
open Go.RowKit
open Nat (reduceAdd reduceEqDiff reduceLT reduceLeDiff reduceSub reducePow reduceMul)
open Int (reduceToNat reduceLE reduceEq)
set_option linter.unusedVariables false
set_option linter.unusedSimpArgs false
set_option linter.unnecessarySimpa false

noncomputable def stepA (s : RideS × List Int) (i : Nat) (e : EvS) : RideS × List Int := if (narrowL s.1 e).2 = 0 then ((narrowL s.1 e).1, s.2) else (s.1, s.2 ++ [(i : Int)])
noncomputable def stA (r : RideS) (l : List EvS) : Nat → RideS × List Int
  | 0 => (r, [])
  | k + 1 => match l[k]? with
    | some e => stepA (stA r l k) k e
    | none => stA r l k
theorem stA_succ {r : RideS} {l : List EvS} {k : Nat} (h : k < l.length) : stA r l (k + 1) = stepA (stA r l k) k l[k] := by
  rw [stA, List.getElem?_eq_getElem h]
theorem stA_len (r : RideS) (l : List EvS) : ∀ k, (stA r l k).2.length ≤ k
  | 0 => Nat.le_refl _
  | k + 1 => by
    have ih := stA_len r l k
    rw [stA]
    split
    · unfold stepA
      split
      · simp only; omega
      · simp only [List.length_append, List.length_cons, List.length_nil]; omega
    · omega
theorem stA_all (r : RideS) (l : List EvS) : ∀ k, k ≤ l.length → allF r 0 l [] = allF (stA r l k).1 k (l.drop k) (stA r l k).2
  | 0, _ => rfl
  | k + 1, h => by
    rw [stA_all r l k (by omega), List.drop_eq_getElem_cons (show k < l.length by omega), stA_succ (show k < l.length by omega), allF]
    unfold stepA
    split <;> rfl
theorem stA_end {r : RideS} {l : List EvS} (hc : checkL r = 0) (hl : l.length ≤ 512) : allL r l = ((stA r l l.length).1, (stA r l l.length).2, 0) := by
  have h := stA_all r l l.length (Nat.le_refl _)
  rw [List.drop_of_length_le (Nat.le_refl _), allF] at h
  unfold allL
  rw [if_neg (fun hh => hh hc), if_neg (by omega)]
  have e : allF r.norm 0 l [] = _ := h
  rw [e]
noncomputable def allP (r : RideS) (l : List EvS) : PV := .tup [(allL r l).1.pv, .sl ((allL r l).2.1.map intP), intP (allL r l).2.2]
theorem all_err {r : RideS} {l : List EvS} {k : Int} (h : allL r l = (zeroR, [], k)) : allP r l = .tup [zeroR.pv, .sl [], intP k] := by unfold allP; rw [h]; rfl
set_option maxHeartbeats 8000000 in
theorem all_g (r : RideS) (l : List EvS) : Good Try.prog 9 [r.pv, .sl (l.map EvS.pv)] (allP r l) := by
  refine .len (es := l.map EvS.pv) (by simp) (fun hlen => ?_)
  rw [List.length_map] at hlen
  have gc := rcheck_g r
  refine good9 (by simp) ?_
  simp only [ac9, RideS.pv, AW, reduceAdd, reduceCtorEq, reduceEqDiff, ↓reduceIte, reduceLT, reduceLeDiff, reduceSub, reducePow, reduceMul, reduceToNat, reduceLE, reduceEq, Int.reduceLT, Int.reduceBEq, Int.reduceBNe]
  refine ops_call (gc) (by simp only [RideS.pv, intP, AW, reduceAdd, reduceCtorEq, reduceEqDiff, ↓reduceIte, reduceLT, reduceLeDiff, reduceSub, reducePow, reduceMul, reduceToNat, reduceLE, reduceEq, Int.reduceLT, Int.reduceBEq, Int.reduceBNe]) ?_; simp only [RideS.pv, intP, AW, reduceAdd, reduceCtorEq, reduceEqDiff, ↓reduceIte, reduceLT, reduceLeDiff, reduceSub, reducePow, reduceMul, reduceToNat, reduceLE, reduceEq, Int.reduceLT, Int.reduceBEq, Int.reduceBNe]
  by_cases hck : checkL r = 0
  rotate_left
  · have d : (checkL r != 0) = true := by rw [bne_iff_ne]; exact hck
    rw [all_err (show allL r l = (zeroR, [], checkL r) by unfold allL; rw [if_pos hck])]
    simp only [d, RideS.pv, zeroR, List.map_nil, intP, AW, reduceAdd, reduceCtorEq, reduceEqDiff, ↓reduceIte, reduceLT, reduceLeDiff, reduceSub, reducePow, reduceMul, reduceToNat, reduceLE, reduceEq, Int.reduceLT, Int.reduceBEq, Int.reduceBNe]
  have d : (checkL r != 0) = false := by rw [hck]; rfl
  obtain ⟨hp, hl1, hl2⟩ := lens_of hck
  simp only [d, List.length_map, AW, reduceAdd, reduceCtorEq, reduceEqDiff, ↓reduceIte, reduceLT, reduceLeDiff, reduceSub, reducePow, reduceMul, reduceToNat, reduceLE, reduceEq, Int.reduceLT, Int.reduceBEq, Int.reduceBNe]
  by_cases hll : l.length ≤ 512
  rotate_left
  · have d2 : decide ((512 : Int) < (l.length : Int)) = true := by rw [decide_eq_true_eq]; omega
    rw [all_err (show allL r l = (zeroR, [], 8) by unfold allL; rw [if_neg (fun hh => hh hck), if_pos (by omega)])]
    simp only [d2, RideS.pv, zeroR, List.map_nil, intP, AW, reduceAdd, reduceCtorEq, reduceEqDiff, ↓reduceIte, reduceLT, reduceLeDiff, reduceSub, reducePow, reduceMul, reduceToNat, reduceLE, reduceEq, Int.reduceLT, Int.reduceBEq, Int.reduceBNe]
  have d2 : decide ((512 : Int) < (l.length : Int)) = false := by rw [decide_eq_false_iff_not]; omega
  have go := own_g r hl1 hl2
  simp only [d2, AW, reduceAdd, reduceCtorEq, reduceEqDiff, ↓reduceIte, reduceLT, reduceLeDiff, reduceSub, reducePow, reduceMul, reduceToNat, reduceLE, reduceEq, Int.reduceLT, Int.reduceBEq, Int.reduceBNe]
  refine ops_call (go) (by simp only [RideS.pv, AW, reduceAdd, reduceCtorEq, reduceEqDiff, ↓reduceIte, reduceLT, reduceLeDiff, reduceSub, reducePow, reduceMul, reduceToNat, reduceLE, reduceEq, Int.reduceLT, Int.reduceBEq, Int.reduceBNe]) ?_; simp only [RideS.pv, AW, reduceAdd, reduceCtorEq, reduceEqDiff, ↓reduceIte, reduceLT, reduceLeDiff, reduceSub, reducePow, reduceMul, reduceToNat, reduceLE, reduceEq, Int.reduceLT, Int.reduceBEq, Int.reduceBNe]
  simp only [cloD, AW, reduceAdd, reduceCtorEq, reduceEqDiff, ↓reduceIte, reduceLT, reduceLeDiff, reduceSub, reducePow, reduceMul, reduceToNat, reduceLE, reduceEq, Int.reduceLT, Int.reduceBEq, Int.reduceBNe]
  refine run_loop (ι := Nat) (fun k => ⟨[(4, .ptr 1 0), (8, .ptr 14 0), (9, .clp 25 14), (10, .own 22 0), (26, .sl (l.map EvS.pv)), (27, .sc (.int .i64 (l.length : Int))), (28, .sc (.int .i64 (k : Int)))], [(0, .var [.sc (.int .i64 r.id), .sc (.int .i64 r.rider), .sc (.int .i64 r.start.lo), .sc (.int .i64 r.start.hi), .sc (.int .i64 r.end_.lo), .sc (.int .i64 r.end_.hi), .sc (.bool r.open_), .sl (r.legs.map LegS.pv), .sl (r.pauses.map PauseS.pv), .sc (.int .i64 r.fromWhere), .sc (.int .i64 r.fromPlace), .sc (.int .i64 r.where_), .sc (.int .i64 r.place)]), (1, .var [.sc (.int .i64 0), .sc (.int .i64 0), .sc (.int .i64 0), .sc (.int .i64 0), .sc (.int .i64 0), .sc (.int .i64 0), .sc (.bool false), .sc (.slice none 0 0), .sc (.slice none 0 0), .sc (.int .i64 0), .sc (.int .i64 0), .sc (.int .i64 0), .sc (.int .i64 0)]), (14, .var [.sc (.int .i64 (stA r l k).1.id), .sc (.int .i64 (stA r l k).1.rider), .sc (.int .i64 (stA r l k).1.start.lo), .sc (.int .i64 (stA r l k).1.start.hi), .sc (.int .i64 (stA r l k).1.end_.lo), .sc (.int .i64 (stA r l k).1.end_.hi), .sc (.bool (stA r l k).1.open_), .sl ((stA r l k).1.legs.map LegS.pv), .sl ((stA r l k).1.pauses.map PauseS.pv), .sc (.int .i64 (stA r l k).1.fromWhere), .sc (.int .i64 (stA r l k).1.fromPlace), .sc (.int .i64 (stA r l k).1.where_), .sc (.int .i64 (stA r l k).1.place)]), (22, .row 3 1 0 ((stA r l k).2.map intP))], 23, 44⟩) (fun k => k ≤ l.length) (fun k => l.length - k) 23 (fun _ => rfl) 0 (by simp only [LW, Nat.reduceMod, Nat.reduceDiv, Int.natCast_zero, List.length_map, Nat.zero_lt_one, stA, List.map_nil, AW, reduceAdd, reduceCtorEq, reduceEqDiff, ↓reduceIte, reduceLT, reduceLeDiff, reduceSub, reducePow, reduceMul, reduceToNat, reduceLE, reduceEq, Int.reduceLT, Int.reduceBEq, Int.reduceBNe]) (Nat.zero_le _) (fun k hk => ?_)
  have gk := hk
  by_cases hltk : k < l.length
  rotate_left
  · have dk : decide ((k : Int) < ((l.length : Nat) : Int)) = false := by rw [decide_eq_false_iff_not]; exact fun h => hltk (Int.ofNat_lt.1 h)
    have ek : k = l.length := Nat.le_antisymm gk (Nat.le_of_not_lt hltk)
    subst ek
    have he := stA_end hck hll
    have hp : allP r l = .tup [(stA r l l.length).1.pv, .sl ((stA r l l.length).2.map intP), intP 0] := by unfold allP; rw [he]
    rw [hp]
    generalize stA r l l.length = s at *
    simp only [dk, RideS.pv, intP, AW, reduceAdd, reduceCtorEq, reduceEqDiff, ↓reduceIte, reduceLT, reduceLeDiff, reduceSub, reducePow, reduceMul, reduceToNat, reduceLE, reduceEq, Int.reduceLT, Int.reduceBEq, Int.reduceBNe]
  have dk : decide ((k : Int) < ((l.length : Nat) : Int)) = true := by rw [decide_eq_true_eq]; exact Int.ofNat_lt.2 hltk
  have hS := stA_succ (r := r) hltk
  have hln := stA_len r l k
  generalize hsk : stA r l k = s at *
  obtain ⟨x, acc⟩ := s
  simp only at hln
  have gb := take_b x l[k] _ rfl
  unfold stepA at hS
  simp only at hS
  simp only [dk, map_getD hltk, hltk, EvS.pv, EvS.vals, SpanS.pv, SpanS.vals, List.map_cons, List.map_nil, List.length_map, AW, reduceAdd, reduceCtorEq, reduceEqDiff, ↓reduceIte, reduceLT, reduceLeDiff, reduceSub, reducePow, reduceMul, reduceToNat, reduceLE, reduceEq, Int.reduceLT, Int.reduceBEq, Int.reduceBNe]
  by_cases h0 : (narrowL x l[k]).2 = 0
  · rw [if_pos h0] at hS
    rw [decide_eq_true h0, if_pos h0] at gb
    generalize (narrowL x l[k]).1 = y at *
    simp only [rc, EvS.pv, EvS.vals, SpanS.pv, SpanS.vals, List.map_cons, List.map_nil] at gb
    refine ops_callB (s := 14) (fn := Try.f25) (cs := [.sc (.int .i64 x.id), .sc (.int .i64 x.rider), .sc (.int .i64 x.start.lo), .sc (.int .i64 x.start.hi), .sc (.int .i64 x.end_.lo), .sc (.int .i64 x.end_.hi), .sc (.bool x.open_), .sl (x.legs.map LegS.pv), .sl (x.pauses.map PauseS.pv), .sc (.int .i64 x.fromWhere), .sc (.int .i64 x.fromPlace), .sc (.int .i64 x.where_), .sc (.int .i64 x.place)]) Try.func25 (by kernel_rfl) (by kernel_rfl) (by simp only [AW, reduceAdd, reduceCtorEq, reduceEqDiff, ↓reduceIte, reduceLT, reduceLeDiff, reduceSub, reducePow, reduceMul, reduceToNat, reduceLE, reduceEq, Int.reduceLT, Int.reduceBEq, Int.reduceBNe]) gb (by simp only [AW, reduceAdd, reduceCtorEq, reduceEqDiff, ↓reduceIte, reduceLT, reduceLeDiff, reduceSub, reducePow, reduceMul, reduceToNat, reduceLE, reduceEq, Int.reduceLT, Int.reduceBEq, Int.reduceBNe]) (by simp only [AW, reduceAdd, reduceCtorEq, reduceEqDiff, ↓reduceIte, reduceLT, reduceLeDiff, reduceSub, reducePow, reduceMul, reduceToNat, reduceLE, reduceEq, Int.reduceLT, Int.reduceBEq, Int.reduceBNe]) (by rfl) (by simp only [AW, reduceAdd, reduceCtorEq, reduceEqDiff, ↓reduceIte, reduceLT, reduceLeDiff, reduceSub, reducePow, reduceMul, reduceToNat, reduceLE, reduceEq, Int.reduceLT, Int.reduceBEq, Int.reduceBNe]) ?_; simp only [AW, reduceAdd, reduceCtorEq, reduceEqDiff, ↓reduceIte, reduceLT, reduceLeDiff, reduceSub, reducePow, reduceMul, reduceToNat, reduceLE, reduceEq, Int.reduceLT, Int.reduceBEq, Int.reduceBNe]
    simp only [wrap_succ hltk hlen, AW, reduceAdd, reduceCtorEq, reduceEqDiff, ↓reduceIte, reduceLT, reduceLeDiff, reduceSub, reducePow, reduceMul, reduceToNat, reduceLE, reduceEq, Int.reduceLT, Int.reduceBEq, Int.reduceBNe]
    refine ⟨k + 1, hltk, ?_, meas_lt0 hltk⟩
    simp only [LW, Nat.reduceMod, Nat.reduceDiv, hS, AW, reduceAdd, reduceCtorEq, reduceEqDiff, ↓reduceIte, reduceLT, reduceLeDiff, reduceSub, reducePow, reduceMul, reduceToNat, reduceLE, reduceEq, Int.reduceLT, Int.reduceBEq, Int.reduceBNe]
  · rw [if_neg h0] at hS
    rw [decide_eq_false h0, if_neg h0] at gb
    simp only [rc, EvS.pv, EvS.vals, SpanS.pv, SpanS.vals, List.map_cons, List.map_nil] at gb
    refine ops_callB (s := 14) (fn := Try.f25) (cs := [.sc (.int .i64 x.id), .sc (.int .i64 x.rider), .sc (.int .i64 x.start.lo), .sc (.int .i64 x.start.hi), .sc (.int .i64 x.end_.lo), .sc (.int .i64 x.end_.hi), .sc (.bool x.open_), .sl (x.legs.map LegS.pv), .sl (x.pauses.map PauseS.pv), .sc (.int .i64 x.fromWhere), .sc (.int .i64 x.fromPlace), .sc (.int .i64 x.where_), .sc (.int .i64 x.place)]) Try.func25 (by kernel_rfl) (by kernel_rfl) (by simp only [AW, reduceAdd, reduceCtorEq, reduceEqDiff, ↓reduceIte, reduceLT, reduceLeDiff, reduceSub, reducePow, reduceMul, reduceToNat, reduceLE, reduceEq, Int.reduceLT, Int.reduceBEq, Int.reduceBNe]) gb (by simp only [AW, reduceAdd, reduceCtorEq, reduceEqDiff, ↓reduceIte, reduceLT, reduceLeDiff, reduceSub, reducePow, reduceMul, reduceToNat, reduceLE, reduceEq, Int.reduceLT, Int.reduceBEq, Int.reduceBNe]) (by simp only [AW, reduceAdd, reduceCtorEq, reduceEqDiff, ↓reduceIte, reduceLT, reduceLeDiff, reduceSub, reducePow, reduceMul, reduceToNat, reduceLE, reduceEq, Int.reduceLT, Int.reduceBEq, Int.reduceBNe]) (by rfl) (by simp only [AW, reduceAdd, reduceCtorEq, reduceEqDiff, ↓reduceIte, reduceLT, reduceLeDiff, reduceSub, reducePow, reduceMul, reduceToNat, reduceLE, reduceEq, Int.reduceLT, Int.reduceBEq, Int.reduceBNe]) ?_; simp only [AW, reduceAdd, reduceCtorEq, reduceEqDiff, ↓reduceIte, reduceLT, reduceLeDiff, reduceSub, reducePow, reduceMul, reduceToNat, reduceLE, reduceEq, Int.reduceLT, Int.reduceBEq, Int.reduceBNe]
    have q1 : acc.length + 1 ≤ maxLen := by unfold maxLen; omega
    have q2 : (acc.length + 1) * 8 ≤ 140737488355328 := by omega
    have es : (acc ++ [(k : Int)]).map intP = acc.map intP ++ [.sc (.int .i64 (k : Int))] := by rw [List.map_append]; rfl
    simp only [q1, q2, List.length_map, AW, reduceAdd, reduceCtorEq, reduceEqDiff, ↓reduceIte, reduceLT, reduceLeDiff, reduceSub, reducePow, reduceMul, reduceToNat, reduceLE, reduceEq, Int.reduceLT, Int.reduceBEq, Int.reduceBNe]
    (first | (refine drawnK rfl ?_; (try simp only [AW, reduceAdd, reduceCtorEq, reduceEqDiff, ↓reduceIte, reduceLT, reduceLeDiff, reduceSub, reducePow, reduceMul, reduceToNat, reduceLE, reduceEq, Int.reduceLT, Int.reduceBEq, Int.reduceBNe])) | rfl | skip)
    (try simp only [q1, q2, List.length_map, wrap_succ hltk hlen, AW, reduceAdd, reduceCtorEq, reduceEqDiff, ↓reduceIte, reduceLT, reduceLeDiff, reduceSub, reducePow, reduceMul, reduceToNat, reduceLE, reduceEq, Int.reduceLT, Int.reduceBEq, Int.reduceBNe])
    refine ⟨k + 1, hltk, ?_, meas_lt0 hltk⟩
    simp only [LW, Nat.reduceMod, Nat.reduceDiv, hS, es, AW, reduceAdd, reduceCtorEq, reduceEqDiff, ↓reduceIte, reduceLT, reduceLeDiff, reduceSub, reducePow, reduceMul, reduceToNat, reduceLE, reduceEq, Int.reduceLT, Int.reduceBEq, Int.reduceBNe]


end Go.Proofs.Ythgnbkcopapbmaa
