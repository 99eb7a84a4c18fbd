/-
  The history of a city: counts from numbers; sums of hours.
-/
import Derived.Test.YtjobpjhmdbmdgaaH5
namespace Go.Proofs.Ytjobpjhmdbmdgaa
open Go.RowKit
set_option linter.unusedVariables false
set_option linter.unusedSimpArgs false
set_option linter.unnecessarySimpa false

def mC (st : Int) : Int := if 0 < (if 32 < st then 32 else st) then (if 32 < st then 32 else st) else 0
def xC (ex : Int) : Int := if -1 < (if 1 < ex then 1 else ex) then (if 1 < ex then 1 else ex) else -1
def nC (st ex : Int) : Int := mC st * 168 + xC ex
def zC (n : Int) : Int := if 0 < n then n else 0
theorem mC_b (st : Int) : 0 ≤ mC st ∧ mC st ≤ 32 := by unfold mC; (repeat' split) <;> omega
theorem xC_b (ex : Int) : -1 ≤ xC ex ∧ xC ex ≤ 1 := by unfold xC; (repeat' split) <;> omega
def putF (n : Int) (b : Bool) (acc : List Int) (x : NumS) : List Int := if x.at_ < 0 ∨ n ≤ x.at_ ∨ x.in_ ≠ b then acc else acc.set x.at_.toNat x.n
def putL (n : Int) (b : Bool) (l : List NumS) : List Int := l.foldl (putF n b) (List.replicate (zC n).toNat 0)
theorem putL_len (n : Int) (b : Bool) (l : List NumS) : (putL n b l).length = (zC n).toNat := by
  unfold putL
  have : ∀ (l : List NumS) (acc : List Int), (l.foldl (putF n b) acc).length = acc.length := by
    intro l
    induction l with
    | nil => intro acc; rfl
    | cons x l ih => intro acc; rw [List.foldl_cons, ih]; unfold putF; split <;> simp
  rw [this, List.length_replicate]
theorem putL_succ (n : Int) (b : Bool) (l : List NumS) (k : Nat) (h : k < l.length) : putL n b (l.take (k + 1)) = putF n b (putL n b (l.take k)) l[k] := by
  unfold putL; rw [List.take_succ_eq_append_getElem h, List.foldl_append]; rfl
def countsL (st ex : Int) (l : List NumS) : CountsS := ⟨st, putL (nC st ex) false l, putL (nC st ex) true l⟩
set_option maxHeartbeats 4000000 in
theorem counts_g (st ex : Int) (l : List NumS) (hl : l.length ≤ 1000) : Good Try.prog 11 [intP st, intP ex, .sl (l.map NumS.pv)] (countsL st ex l).pv := by
  have hlen : l.length ≤ maxLen := by unfold maxLen; omega
  have m1 := mC_b st
  have x1 := xC_b ex
  have em : (if 0 < (if 32 < st then 32 else st) then (if 32 < st then 32 else st) else 0) = mC st := rfl
  have ex' : (if -1 < (if 1 < ex then 1 else ex) then (if 1 < ex then 1 else ex) else -1) = xC ex := rfl
  have ez : (if 0 < nC st ex then nC st ex else 0) = zC (nC st ex) := rfl
  have e1 : IntKind.wrap .i64 (mC st * 168) = mC st * 168 := wrap168 m1.1 (by omega)
  have e2 : IntKind.wrap .i64 (mC st * 168 + xC ex) = nC st ex := wrap_id (by unfold I64; omega)
  have nb : -1 ≤ nC st ex ∧ nC st ex ≤ 5377 := by unfold nC; omega
  have z1 : 0 ≤ zC (nC st ex) ∧ zC (nC st ex) ≤ 5377 := by unfold zC; split <;> omega
  have f1 : 0 ≤ zC (nC st ex) := z1.1
  have f2 : ((8 : Nat) : Int) * zC (nC st ex) ≤ 281474976710656 := by omega
  have f3 : zC (nC st ex) ≤ 9223372036854775807 := by omega
  refine good11 (by simp) ?_
  simp only [ac11, intP, em, ex', e1, e2, ez, f1, f2, f3, AW, Nat.reduceAdd, reduceCtorEq, Nat.reduceEqDiff, ↓reduceIte, Nat.reduceLT, Nat.reduceLeDiff, Nat.reduceSub, Nat.reducePow, Nat.reduceMul, Int.reduceToNat, Int.reduceLE, Int.reduceEq, Int.reduceLT, Int.reduceBEq, Int.reduceBNe]
  refine ⟨rfl, ?_⟩; (try simp only [AW, Nat.reduceAdd, reduceCtorEq, Nat.reduceEqDiff, ↓reduceIte, Nat.reduceLT, Nat.reduceLeDiff, Nat.reduceSub, Nat.reducePow, Nat.reduceMul, Int.reduceToNat, Int.reduceLE, Int.reduceEq, Int.reduceLT, Int.reduceBEq, Int.reduceBNe])
  refine run_loop (ι := Nat) (fun k => ⟨[(2, .sl (l.map NumS.pv)), (6, .ptr 0 0), (7, .sc (.int .i64 (nC st ex))), (8, .ptr 18 0), (9, .sc (.int .i64 (k : Int)))], [(0, .var [.sc (.int .i64 0), .sc (.slice none 0 0), .sc (.slice none 0 0)]), (13, .row 3 1 0 ((putL (nC st ex) false (l.take k)).map intP)), (16, .row 3 1 0 ((putL (nC st ex) true (l.take k)).map intP)), (18, .var [.sc (.int .i64 st), .own 13 0, .own 16 0])], 21, 79⟩) (fun k => k ≤ l.length) (fun k => l.length - k) 21 (fun _ => rfl) 0 (by simp only [LW, Nat.reduceMod, Nat.reduceDiv, Int.natCast_zero, List.take_zero, putL, List.foldl_nil, List.map_replicate, intP, AW, Nat.reduceAdd, reduceCtorEq, Nat.reduceEqDiff, ↓reduceIte, Nat.reduceLT, Nat.reduceLeDiff, Nat.reduceSub, Nat.reducePow, Nat.reduceMul, Int.reduceToNat, Int.reduceLE, Int.reduceEq, Int.reduceLT, Int.reduceBEq, Int.reduceBNe]) (Nat.zero_le _) (fun k hk => ?_)
  have gk := hk
  by_cases hltk : k < l.length
  rotate_left
  · have dk : decide ((k : Int) < ((l.length : Nat) : Int)) = false := by rw [decide_eq_false_iff_not]; exact fun h => hltk (Int.ofNat_lt.1 h)
    have ek : k = l.length := Nat.le_antisymm gk (Nat.le_of_not_lt hltk)
    subst ek
    simp only [dk, List.take_length, AW, Nat.reduceAdd, reduceCtorEq, Nat.reduceEqDiff, ↓reduceIte, Nat.reduceLT, Nat.reduceLeDiff, Nat.reduceSub, Nat.reducePow, Nat.reduceMul, Int.reduceToNat, Int.reduceLE, Int.reduceEq, Int.reduceLT, Int.reduceBEq, Int.reduceBNe]
    simp only [countsL, CountsS.pv]
  have dk : decide ((k : Int) < ((l.length : Nat) : Int)) = true := by rw [decide_eq_true_eq]; exact Int.ofNat_lt.2 hltk
  have ln1 := putL_len (nC st ex) false (l.take k)
  have ln2 := putL_len (nC st ex) true (l.take k)
  have skip : (l[k].at_ < 0 ∨ nC st ex ≤ l[k].at_) → putL (nC st ex) false (l.take (k + 1)) = putL (nC st ex) false (l.take k) ∧ putL (nC st ex) true (l.take (k + 1)) = putL (nC st ex) true (l.take k) := by
    intro h
    rw [putL_succ _ _ l k hltk, putL_succ _ _ l k hltk]
    unfold putF
    constructor <;> (rw [if_pos]; rcases h with h | h <;> simp [h])
  simp only [dk, map_getD hltk, hltk, NumS.pv, NumS.vals, AW, Nat.reduceAdd, reduceCtorEq, Nat.reduceEqDiff, ↓reduceIte, Nat.reduceLT, Nat.reduceLeDiff, Nat.reduceSub, Nat.reducePow, Nat.reduceMul, Int.reduceToNat, Int.reduceLE, Int.reduceEq, Int.reduceLT, Int.reduceBEq, Int.reduceBNe]
  cases c1 : decide (l[k].at_ < 0)
  rotate_left
  · obtain ⟨s1, s2⟩ := skip (.inl (by simpa using c1))
    simp only [wrap_succ hltk hlen, AW, Nat.reduceAdd, reduceCtorEq, Nat.reduceEqDiff, ↓reduceIte, Nat.reduceLT, Nat.reduceLeDiff, Nat.reduceSub, Nat.reducePow, Nat.reduceMul, Int.reduceToNat, Int.reduceLE, Int.reduceEq, Int.reduceLT, Int.reduceBEq, Int.reduceBNe]
    refine ⟨k + 1, hltk, ?_, by omega⟩
    simp only [LW, Nat.reduceMod, Nat.reduceDiv, s1, s2, AW, Nat.reduceAdd, reduceCtorEq, Nat.reduceEqDiff, ↓reduceIte, Nat.reduceLT, Nat.reduceLeDiff, Nat.reduceSub, Nat.reducePow, Nat.reduceMul, Int.reduceToNat, Int.reduceLE, Int.reduceEq, Int.reduceLT, Int.reduceBEq, Int.reduceBNe]
  simp only [map_getD hltk, hltk, NumS.pv, NumS.vals, AW, Nat.reduceAdd, reduceCtorEq, Nat.reduceEqDiff, ↓reduceIte, Nat.reduceLT, Nat.reduceLeDiff, Nat.reduceSub, Nat.reducePow, Nat.reduceMul, Int.reduceToNat, Int.reduceLE, Int.reduceEq, Int.reduceLT, Int.reduceBEq, Int.reduceBNe]
  cases c2 : decide (nC st ex ≤ l[k].at_)
  rotate_left
  · obtain ⟨s1, s2⟩ := skip (.inr (by simpa using c2))
    simp only [wrap_succ hltk hlen, AW, Nat.reduceAdd, reduceCtorEq, Nat.reduceEqDiff, ↓reduceIte, Nat.reduceLT, Nat.reduceLeDiff, Nat.reduceSub, Nat.reducePow, Nat.reduceMul, Int.reduceToNat, Int.reduceLE, Int.reduceEq, Int.reduceLT, Int.reduceBEq, Int.reduceBNe]
    refine ⟨k + 1, hltk, ?_, by omega⟩
    simp only [LW, Nat.reduceMod, Nat.reduceDiv, s1, s2, AW, Nat.reduceAdd, reduceCtorEq, Nat.reduceEqDiff, ↓reduceIte, Nat.reduceLT, Nat.reduceLeDiff, Nat.reduceSub, Nat.reducePow, Nat.reduceMul, Int.reduceToNat, Int.reduceLE, Int.reduceEq, Int.reduceLT, Int.reduceBEq, Int.reduceBNe]
  rw [decide_eq_false_iff_not] at c1 c2
  have zn : zC (nC st ex) = nC st ex := by unfold zC; rw [if_pos (by omega)]
  have g1 : 0 ≤ l[k].at_ := by omega
  have g2 : l[k].at_.toNat < (zC (nC st ex)).toNat := by rw [zn]; omega
  simp only [map_getD hltk, hltk, NumS.pv, NumS.vals, AW, Nat.reduceAdd, reduceCtorEq, Nat.reduceEqDiff, ↓reduceIte, Nat.reduceLT, Nat.reduceLeDiff, Nat.reduceSub, Nat.reducePow, Nat.reduceMul, Int.reduceToNat, Int.reduceLE, Int.reduceEq, Int.reduceLT, Int.reduceBEq, Int.reduceBNe]
  cases c3 : l[k].in_
  · have s1 : putL (nC st ex) false (l.take (k + 1)) = (putL (nC st ex) false (l.take k)).set l[k].at_.toNat l[k].n := by
      rw [putL_succ _ _ l k hltk]; unfold putF; rw [if_neg (by rw [c3]; simp; omega)]
    have s2 : putL (nC st ex) true (l.take (k + 1)) = putL (nC st ex) true (l.take k) := by
      rw [putL_succ _ _ l k hltk]; unfold putF; rw [if_pos (by rw [c3]; simp)]
    simp only [map_getD hltk, hltk, NumS.pv, NumS.vals, g1, ln1, g2, AW, Nat.reduceAdd, reduceCtorEq, Nat.reduceEqDiff, ↓reduceIte, Nat.reduceLT, Nat.reduceLeDiff, Nat.reduceSub, Nat.reducePow, Nat.reduceMul, Int.reduceToNat, Int.reduceLE, Int.reduceEq, Int.reduceLT, Int.reduceBEq, Int.reduceBNe]
    refine ⟨rfl, ?_⟩; simp only [wrap_succ hltk hlen, AW, Nat.reduceAdd, reduceCtorEq, Nat.reduceEqDiff, ↓reduceIte, Nat.reduceLT, Nat.reduceLeDiff, Nat.reduceSub, Nat.reducePow, Nat.reduceMul, Int.reduceToNat, Int.reduceLE, Int.reduceEq, Int.reduceLT, Int.reduceBEq, Int.reduceBNe]
    refine ⟨k + 1, hltk, ?_, by omega⟩
    simp only [LW, Nat.reduceMod, Nat.reduceDiv, s1, s2, List.map_set, intP, AW, Nat.reduceAdd, reduceCtorEq, Nat.reduceEqDiff, ↓reduceIte, Nat.reduceLT, Nat.reduceLeDiff, Nat.reduceSub, Nat.reducePow, Nat.reduceMul, Int.reduceToNat, Int.reduceLE, Int.reduceEq, Int.reduceLT, Int.reduceBEq, Int.reduceBNe]
  · have s1 : putL (nC st ex) true (l.take (k + 1)) = (putL (nC st ex) true (l.take k)).set l[k].at_.toNat l[k].n := by
      rw [putL_succ _ _ l k hltk]; unfold putF; rw [if_neg (by rw [c3]; simp; omega)]
    have s2 : putL (nC st ex) false (l.take (k + 1)) = putL (nC st ex) false (l.take k) := by
      rw [putL_succ _ _ l k hltk]; unfold putF; rw [if_pos (by rw [c3]; simp)]
    simp only [map_getD hltk, hltk, NumS.pv, NumS.vals, g1, ln2, g2, AW, Nat.reduceAdd, reduceCtorEq, Nat.reduceEqDiff, ↓reduceIte, Nat.reduceLT, Nat.reduceLeDiff, Nat.reduceSub, Nat.reducePow, Nat.reduceMul, Int.reduceToNat, Int.reduceLE, Int.reduceEq, Int.reduceLT, Int.reduceBEq, Int.reduceBNe]
    refine ⟨rfl, ?_⟩; simp only [wrap_succ hltk hlen, AW, Nat.reduceAdd, reduceCtorEq, Nat.reduceEqDiff, ↓reduceIte, Nat.reduceLT, Nat.reduceLeDiff, Nat.reduceSub, Nat.reducePow, Nat.reduceMul, Int.reduceToNat, Int.reduceLE, Int.reduceEq, Int.reduceLT, Int.reduceBEq, Int.reduceBNe]
    refine ⟨k + 1, hltk, ?_, by omega⟩
    simp only [LW, Nat.reduceMod, Nat.reduceDiv, s1, s2, List.map_set, intP, AW, Nat.reduceAdd, reduceCtorEq, Nat.reduceEqDiff, ↓reduceIte, Nat.reduceLT, Nat.reduceLeDiff, Nat.reduceSub, Nat.reducePow, Nat.reduceMul, Int.reduceToNat, Int.reduceLE, Int.reduceEq, Int.reduceLT, Int.reduceBEq, Int.reduceBNe]


end Go.Proofs.Ytjobpjhmdbmdgaa
