/-
  Windows: valid ones, those of pauses.
-/
import Derived.Test.YthgnbkcopapbmaaEj
namespace Go.Proofs.Ythgnbkcopapbmaa
open Go.RowKit
open Nat (reduceAdd reduceEqDiff reduceLT reduceLeDiff reduceSub reducePow reduceMul)
open Int (reduceToNat reduceLE reduceEq)
set_option linter.unusedVariables false
set_option linter.unusedSimpArgs false
set_option linter.unnecessarySimpa false

theorem meas_lt0 {n k : Nat} (h : k < n) : n - (k + 1) < n - k := by omega
def wokB (w : WinS) : Bool := decide (0 ≤ w.from_) && (decide (w.from_ ≤ w.to_) && decide (w.to_ ≤ 4294944000))
theorem wok_iff {w : WinS} : wokB w = true ↔ 0 ≤ w.from_ ∧ w.from_ ≤ w.to_ ∧ w.to_ ≤ 4294944000 := by simp [wokB]
def possV (p : PauseS) : WinS := ⟨p.from_.lo, max p.from_.lo p.to_.hi⟩
def sureV (p : PauseS) : WinS := ⟨p.from_.hi, max p.from_.hi p.to_.lo⟩
theorem wvalid_g (w : WinS) : Good Try.prog 68 [w.pv] (.sc (.bool (wokB w))) := by
  refine good68 (by simp) ?_
  simp only [ac68, WinS.pv, WinS.vals, List.map_cons, List.map_nil, wokB, AW, reduceAdd, reduceCtorEq, reduceEqDiff, ↓reduceIte, reduceLT, reduceLeDiff, reduceSub, reducePow, reduceMul, reduceToNat, reduceLE, reduceEq, Int.reduceLT, Int.reduceBEq, Int.reduceBNe]
  cases h1 : decide (0 ≤ w.from_)
  · simp only [AW, reduceAdd, reduceCtorEq, reduceEqDiff, ↓reduceIte, reduceLT, reduceLeDiff, reduceSub, reducePow, reduceMul, reduceToNat, reduceLE, reduceEq, Int.reduceLT, Int.reduceBEq, Int.reduceBNe]
  simp only [AW, reduceAdd, reduceCtorEq, reduceEqDiff, ↓reduceIte, reduceLT, reduceLeDiff, reduceSub, reducePow, reduceMul, reduceToNat, reduceLE, reduceEq, Int.reduceLT, Int.reduceBEq, Int.reduceBNe]
  cases h2 : decide (w.from_ ≤ w.to_)
  · simp only [AW, reduceAdd, reduceCtorEq, reduceEqDiff, ↓reduceIte, reduceLT, reduceLeDiff, reduceSub, reducePow, reduceMul, reduceToNat, reduceLE, reduceEq, Int.reduceLT, Int.reduceBEq, Int.reduceBNe]
  simp only [AW, reduceAdd, reduceCtorEq, reduceEqDiff, ↓reduceIte, reduceLT, reduceLeDiff, reduceSub, reducePow, reduceMul, reduceToNat, reduceLE, reduceEq, Int.reduceLT, Int.reduceBEq, Int.reduceBNe]
theorem winval_g (w : WinS) : Good Try.prog 67 [w.pv] (.sc (.bool (!wokB w))) := by
  refine good67 (by simp) ?_
  simp only [ac67, WinS.pv, WinS.vals, List.map_cons, List.map_nil, AW, reduceAdd, reduceCtorEq, reduceEqDiff, ↓reduceIte, reduceLT, reduceLeDiff, reduceSub, reducePow, reduceMul, reduceToNat, reduceLE, reduceEq, Int.reduceLT, Int.reduceBEq, Int.reduceBNe]
  refine ops_call (wvalid_g w) (by simp only [WinS.pv, WinS.vals, List.map_cons, List.map_nil, AW, reduceAdd, reduceCtorEq, reduceEqDiff, ↓reduceIte, reduceLT, reduceLeDiff, reduceSub, reducePow, reduceMul, reduceToNat, reduceLE, reduceEq, Int.reduceLT, Int.reduceBEq, Int.reduceBNe]) ?_; simp only [WinS.pv, WinS.vals, List.map_cons, List.map_nil, AW, reduceAdd, reduceCtorEq, reduceEqDiff, ↓reduceIte, reduceLT, reduceLeDiff, reduceSub, reducePow, reduceMul, reduceToNat, reduceLE, reduceEq, Int.reduceLT, Int.reduceBEq, Int.reduceBNe]
set_option maxHeartbeats 1000000 in
theorem widxf_g (f : FuncId) (fn : Func) (q : WinS → Bool) (hf : Try.prog.funcs[f]? = some fn) (h1 : (fn.name == "runtime.NumGoroutine") = false) (h2 : fn.body.isNone = false) (hq : ∀ n, Good Try.prog f [WinS.pv n] (.sc (.bool (q n)))) (l : List WinS) : Good Try.prog 80 [.sl (l.map WinS.pv), .sc (.func (.func f) #[] #[])] (intP (match l.findIdx? q with | some i => (i : Int) | none => -1)) := by
  refine .len (es := l.map WinS.pv) (by simp) (fun hlen => ?_)
  rw [List.length_map] at hlen
  refine good80 (by simp) ?_
  simp only [ac80, AW, reduceAdd, reduceCtorEq, reduceEqDiff, ↓reduceIte, reduceLT, reduceLeDiff, reduceSub, reducePow, reduceMul, reduceToNat, reduceLE, reduceEq, Int.reduceLT, Int.reduceBEq, Int.reduceBNe]
  refine run_loop (ι := Nat) (fun k => ⟨[(0, .sl (l.map WinS.pv)), (1, .sc (.func (.func f) #[] #[])), (7, .sc (.int .i64 (l.length : Int))), (8, .sc (.int .i64 (k : Int)))], [], 4, 19⟩) (fun k => k ≤ l.length ∧ (∀ j (hj : j < l.length), j < k → q l[j] = false)) (fun k => l.length - k) 4 (fun _ => rfl) 0 (by simp only [LW, Nat.reduceMod, Nat.reduceDiv, Int.natCast_zero, List.length_map, AW, reduceAdd, reduceCtorEq, reduceEqDiff, ↓reduceIte, reduceLT, reduceLeDiff, reduceSub, reducePow, reduceMul, reduceToNat, reduceLE, reduceEq, Int.reduceLT, Int.reduceBEq, Int.reduceBNe]) ⟨Nat.zero_le _, nofun⟩ (fun k hk => ?_)
  obtain ⟨gk, ik⟩ := hk
  by_cases hltk : k < l.length
  rotate_left
  · have dk : decide ((k : Int) < ((l.length : Nat) : Int)) = false := by rw [decide_eq_false_iff_not]; exact fun h => hltk (Int.ofNat_lt.1 h)
    have ek : k = l.length := Nat.le_antisymm gk (Nat.le_of_not_lt hltk)
    subst ek
    have e : l.findIdx? q = none := by
      rw [List.findIdx?_eq_none_iff]; intro x hx
      obtain ⟨j, hj, rfl⟩ := List.getElem_of_mem hx
      exact ik j hj (by omega)
    simp only [dk, e, intP, AW, reduceAdd, reduceCtorEq, reduceEqDiff, ↓reduceIte, reduceLT, reduceLeDiff, reduceSub, reducePow, reduceMul, reduceToNat, reduceLE, reduceEq, Int.reduceLT, Int.reduceBEq, Int.reduceBNe]
  have dk : decide ((k : Int) < ((l.length : Nat) : Int)) = true := by rw [decide_eq_true_eq]; exact Int.ofNat_lt.2 hltk
  simp only [dk, map_getD hltk, hltk, WinS.pv, WinS.vals, List.map_cons, List.map_nil, List.length_map, AW, reduceAdd, reduceCtorEq, reduceEqDiff, ↓reduceIte, reduceLT, reduceLeDiff, reduceSub, reducePow, reduceMul, reduceToNat, reduceLE, reduceEq, Int.reduceLT, Int.reduceBEq, Int.reduceBNe]
  refine ops_callV hf h1 h2 (by simp only [AW, reduceAdd, reduceCtorEq, reduceEqDiff, ↓reduceIte, reduceLT, reduceLeDiff, reduceSub, reducePow, reduceMul, reduceToNat, reduceLE, reduceEq, Int.reduceLT, Int.reduceBEq, Int.reduceBNe]) (hq l[k]) (by simp only [WinS.pv, WinS.vals, List.map_cons, List.map_nil, AW, reduceAdd, reduceCtorEq, reduceEqDiff, ↓reduceIte, reduceLT, reduceLeDiff, reduceSub, reducePow, reduceMul, reduceToNat, reduceLE, reduceEq, Int.reduceLT, Int.reduceBEq, Int.reduceBNe]) ?_; simp only [AW, reduceAdd, reduceCtorEq, reduceEqDiff, ↓reduceIte, reduceLT, reduceLeDiff, reduceSub, reducePow, reduceMul, reduceToNat, reduceLE, reduceEq, Int.reduceLT, Int.reduceBEq, Int.reduceBNe]
  cases hqk : q l[k]
  · simp only [wrap_succ hltk hlen, AW, reduceAdd, reduceCtorEq, reduceEqDiff, ↓reduceIte, reduceLT, reduceLeDiff, reduceSub, reducePow, reduceMul, reduceToNat, reduceLE, reduceEq, Int.reduceLT, Int.reduceBEq, Int.reduceBNe]
    refine ⟨k + 1, ⟨hltk, fun j hj hjk => ?_⟩, ?_, by omega⟩
    · by_cases e : j = k
      · subst e; exact hqk
      · exact ik j hj (by omega)
    · simp only [LW, Nat.reduceMod, Nat.reduceDiv, AW, reduceAdd, reduceCtorEq, reduceEqDiff, ↓reduceIte, reduceLT, reduceLeDiff, reduceSub, reducePow, reduceMul, reduceToNat, reduceLE, reduceEq, Int.reduceLT, Int.reduceBEq, Int.reduceBNe]
  simp only [AW, reduceAdd, reduceCtorEq, reduceEqDiff, ↓reduceIte, reduceLT, reduceLeDiff, reduceSub, reducePow, reduceMul, reduceToNat, reduceLE, reduceEq, Int.reduceLT, Int.reduceBEq, Int.reduceBNe]
  have e : l.findIdx? q = some k := by
    rw [List.findIdx?_eq_some_iff_getElem]
    exact ⟨hltk, hqk, fun j hj => by simp [ik j (by omega) hj]⟩
  rw [e]; rfl
theorem wconf_g (f : FuncId) (fn : Func) (q : WinS → Bool) (hf : Try.prog.funcs[f]? = some fn) (h1 : (fn.name == "runtime.NumGoroutine") = false) (h2 : fn.body.isNone = false) (hq : ∀ n, Good Try.prog f [WinS.pv n] (.sc (.bool (q n)))) (l : List WinS) : Good Try.prog 66 [.sl (l.map WinS.pv), .sc (.func (.func f) #[] #[])] (.sc (.bool (l.any q))) := by
  refine good66 (by simp) ?_
  simp only [ac66, AW, reduceAdd, reduceCtorEq, reduceEqDiff, ↓reduceIte, reduceLT, reduceLeDiff, reduceSub, reducePow, reduceMul, reduceToNat, reduceLE, reduceEq, Int.reduceLT, Int.reduceBEq, Int.reduceBNe]
  refine ops_call (widxf_g f fn q hf h1 h2 hq l) (by simp only [intP, AW, reduceAdd, reduceCtorEq, reduceEqDiff, ↓reduceIte, reduceLT, reduceLeDiff, reduceSub, reducePow, reduceMul, reduceToNat, reduceLE, reduceEq, Int.reduceLT, Int.reduceBEq, Int.reduceBNe]) ?_; simp only [intP, AW, reduceAdd, reduceCtorEq, reduceEqDiff, ↓reduceIte, reduceLT, reduceLeDiff, reduceSub, reducePow, reduceMul, reduceToNat, reduceLE, reduceEq, Int.reduceLT, Int.reduceBEq, Int.reduceBNe]
  cases e : l.findIdx? q with
  | none =>
    have : l.any q = false := by
      rw [List.any_eq_false]; intro x hx; simpa using List.findIdx?_eq_none_iff.1 e x hx
    rw [this]; rfl
  | some i =>
    obtain ⟨hi, hq, _⟩ := List.findIdx?_eq_some_iff_getElem.1 e
    have : l.any q = true := List.any_eq_true.2 ⟨l[i], List.getElem_mem hi, hq⟩
    rw [this]; rfl
theorem whas_bad (l : List WinS) : Good Try.prog 66 [.sl (l.map WinS.pv), .sc (.func (.func 67) #[] #[])] (.sc (.bool (l.any fun w => !wokB w))) :=
  wconf_g 67 Try.f67 _ Try.func67 (by kernel_rfl) (by kernel_rfl) winval_g l
set_option maxHeartbeats 1000000 in
theorem possV_g (l : List PauseS) (hl : l.length ≤ 1000000) : Good Try.prog 45 [.sl (l.map PauseS.pv)] (.sl ((l.map possV).map WinS.pv)) := by
  have hmx : l.length ≤ maxLen := by unfold maxLen; omega
  refine good45 (by simp) ?_
  simp only [ac45, List.length_map, AW, reduceAdd, reduceCtorEq, reduceEqDiff, ↓reduceIte, reduceLT, reduceLeDiff, reduceSub, reducePow, reduceMul, reduceToNat, reduceLE, reduceEq, Int.reduceLT, Int.reduceBEq, Int.reduceBNe]
  refine run_loop (ι := Nat) (fun k => ⟨[(3, .own 5 0), (6, .sl (l.map PauseS.pv)), (7, .sc (.int .i64 (l.length : Int))), (8, .sc (.int .i64 (k : Int)))], [(5, .row 48 2 0 (((l.take k).map possV).map WinS.pv))], 6, 28⟩) (fun k => k ≤ l.length) (fun k => l.length - k) 6 (fun _ => rfl) 0 (by simp only [LW, Nat.reduceMod, Nat.reduceDiv, Int.natCast_zero, List.take_zero, List.map_nil, List.length_map, Nat.zero_lt_one, AW, reduceAdd, reduceCtorEq, reduceEqDiff, ↓reduceIte, reduceLT, reduceLeDiff, reduceSub, reducePow, reduceMul, reduceToNat, reduceLE, reduceEq, Int.reduceLT, Int.reduceBEq, Int.reduceBNe]) (Nat.zero_le _) (fun k hk => ?_)
  have gk := hk
  by_cases hltk : k < l.length
  rotate_left
  · have dk : decide ((k : Int) < ((l.length : Nat) : Int)) = false := by rw [decide_eq_false_iff_not]; exact fun h => hltk (Int.ofNat_lt.1 h)
    have ek : k = l.length := Nat.le_antisymm gk (Nat.le_of_not_lt hltk)
    subst ek
    simp only [dk, List.length_map, List.take_length, AW, reduceAdd, reduceCtorEq, reduceEqDiff, ↓reduceIte, reduceLT, reduceLeDiff, reduceSub, reducePow, reduceMul, reduceToNat, reduceLE, reduceEq, Int.reduceLT, Int.reduceBEq, Int.reduceBNe]
  have dk : decide ((k : Int) < ((l.length : Nat) : Int)) = true := by rw [decide_eq_true_eq]; exact Int.ofNat_lt.2 hltk
  have es : ((l.take (k + 1)).map possV).map WinS.pv = ((l.take k).map possV).map WinS.pv ++ [(possV l[k]).pv] := by
    rw [List.take_succ_eq_append_getElem hltk, List.map_append, List.map_append]; rfl
  have hrl : (((l.take k).map possV).map WinS.pv).length ≤ 1000000 := by rw [List.length_map, List.length_map, List.length_take]; omega
  generalize ((l.take k).map possV).map WinS.pv = rw_ at *
  have q1 : rw_.length + 1 ≤ maxLen := by unfold maxLen; omega
  have q2 : (rw_.length + 1) * 16 ≤ 140737488355328 := by omega
  simp only [dk, map_getD hltk, hltk, PauseS.pv, PauseS.vals, List.map_cons, List.map_nil, List.length_map, mx_eq, AW, reduceAdd, reduceCtorEq, reduceEqDiff, ↓reduceIte, reduceLT, reduceLeDiff, reduceSub, reducePow, reduceMul, reduceToNat, reduceLE, reduceEq, Int.reduceLT, Int.reduceBEq, Int.reduceBNe]
  (first | (refine drawnK rfl ?_; (try simp only [AW, reduceAdd, reduceCtorEq, reduceEqDiff, ↓reduceIte, reduceLT, reduceLeDiff, reduceSub, reducePow, reduceMul, reduceToNat, reduceLE, reduceEq, Int.reduceLT, Int.reduceBEq, Int.reduceBNe])) | rfl | skip)
  (try simp only [q1, q2, wrap_succ hltk hmx, AW, reduceAdd, reduceCtorEq, reduceEqDiff, ↓reduceIte, reduceLT, reduceLeDiff, reduceSub, reducePow, reduceMul, reduceToNat, reduceLE, reduceEq, Int.reduceLT, Int.reduceBEq, Int.reduceBNe])
  refine ⟨k + 1, hltk, ?_, meas_lt0 hltk⟩
  simp only [LW, Nat.reduceMod, Nat.reduceDiv, es, WinS.pv, WinS.vals, List.map_cons, List.map_nil, possV, AW, reduceAdd, reduceCtorEq, reduceEqDiff, ↓reduceIte, reduceLT, reduceLeDiff, reduceSub, reducePow, reduceMul, reduceToNat, reduceLE, reduceEq, Int.reduceLT, Int.reduceBEq, Int.reduceBNe]
set_option maxHeartbeats 1000000 in
theorem sureV_g (l : List PauseS) (hl : l.length ≤ 1000000) : Good Try.prog 47 [.sl (l.map PauseS.pv)] (.sl ((l.map sureV).map WinS.pv)) := by
  have hmx : l.length ≤ maxLen := by unfold maxLen; omega
  refine good47 (by simp) ?_
  simp only [ac47, List.length_map, AW, reduceAdd, reduceCtorEq, reduceEqDiff, ↓reduceIte, reduceLT, reduceLeDiff, reduceSub, reducePow, reduceMul, reduceToNat, reduceLE, reduceEq, Int.reduceLT, Int.reduceBEq, Int.reduceBNe]
  refine run_loop (ι := Nat) (fun k => ⟨[(3, .own 5 0), (6, .sl (l.map PauseS.pv)), (7, .sc (.int .i64 (l.length : Int))), (8, .sc (.int .i64 (k : Int)))], [(5, .row 48 2 0 (((l.take k).map sureV).map WinS.pv))], 6, 28⟩) (fun k => k ≤ l.length) (fun k => l.length - k) 6 (fun _ => rfl) 0 (by simp only [LW, Nat.reduceMod, Nat.reduceDiv, Int.natCast_zero, List.take_zero, List.map_nil, List.length_map, Nat.zero_lt_one, AW, reduceAdd, reduceCtorEq, reduceEqDiff, ↓reduceIte, reduceLT, reduceLeDiff, reduceSub, reducePow, reduceMul, reduceToNat, reduceLE, reduceEq, Int.reduceLT, Int.reduceBEq, Int.reduceBNe]) (Nat.zero_le _) (fun k hk => ?_)
  have gk := hk
  by_cases hltk : k < l.length
  rotate_left
  · have dk : decide ((k : Int) < ((l.length : Nat) : Int)) = false := by rw [decide_eq_false_iff_not]; exact fun h => hltk (Int.ofNat_lt.1 h)
    have ek : k = l.length := Nat.le_antisymm gk (Nat.le_of_not_lt hltk)
    subst ek
    simp only [dk, List.length_map, List.take_length, AW, reduceAdd, reduceCtorEq, reduceEqDiff, ↓reduceIte, reduceLT, reduceLeDiff, reduceSub, reducePow, reduceMul, reduceToNat, reduceLE, reduceEq, Int.reduceLT, Int.reduceBEq, Int.reduceBNe]
  have dk : decide ((k : Int) < ((l.length : Nat) : Int)) = true := by rw [decide_eq_true_eq]; exact Int.ofNat_lt.2 hltk
  have es : ((l.take (k + 1)).map sureV).map WinS.pv = ((l.take k).map sureV).map WinS.pv ++ [(sureV l[k]).pv] := by
    rw [List.take_succ_eq_append_getElem hltk, List.map_append, List.map_append]; rfl
  have hrl : (((l.take k).map sureV).map WinS.pv).length ≤ 1000000 := by rw [List.length_map, List.length_map, List.length_take]; omega
  generalize ((l.take k).map sureV).map WinS.pv = rw_ at *
  have q1 : rw_.length + 1 ≤ maxLen := by unfold maxLen; omega
  have q2 : (rw_.length + 1) * 16 ≤ 140737488355328 := by omega
  simp only [dk, map_getD hltk, hltk, PauseS.pv, PauseS.vals, List.map_cons, List.map_nil, List.length_map, mx_eq, AW, reduceAdd, reduceCtorEq, reduceEqDiff, ↓reduceIte, reduceLT, reduceLeDiff, reduceSub, reducePow, reduceMul, reduceToNat, reduceLE, reduceEq, Int.reduceLT, Int.reduceBEq, Int.reduceBNe]
  (first | (refine drawnK rfl ?_; (try simp only [AW, reduceAdd, reduceCtorEq, reduceEqDiff, ↓reduceIte, reduceLT, reduceLeDiff, reduceSub, reducePow, reduceMul, reduceToNat, reduceLE, reduceEq, Int.reduceLT, Int.reduceBEq, Int.reduceBNe])) | rfl | skip)
  (try simp only [q1, q2, wrap_succ hltk hmx, AW, reduceAdd, reduceCtorEq, reduceEqDiff, ↓reduceIte, reduceLT, reduceLeDiff, reduceSub, reducePow, reduceMul, reduceToNat, reduceLE, reduceEq, Int.reduceLT, Int.reduceBEq, Int.reduceBNe])
  refine ⟨k + 1, hltk, ?_, meas_lt0 hltk⟩
  simp only [LW, Nat.reduceMod, Nat.reduceDiv, es, WinS.pv, WinS.vals, List.map_cons, List.map_nil, sureV, AW, reduceAdd, reduceCtorEq, reduceEqDiff, ↓reduceIte, reduceLT, reduceLeDiff, reduceSub, reducePow, reduceMul, reduceToNat, reduceLE, reduceEq, Int.reduceLT, Int.reduceBEq, Int.reduceBNe]


end Go.Proofs.Ythgnbkcopapbmaa
