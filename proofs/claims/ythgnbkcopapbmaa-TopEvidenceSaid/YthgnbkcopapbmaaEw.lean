/-
  Common, walked.
-/
import Derived.Test.YthgnbkcopapbmaaEv
namespace Go.Proofs.Ythgnbkcopapbmaa
open Go.RowKit
open Nat (reduceAdd reduceEqDiff reduceLT reduceLeDiff reduceSub reducePow reduceMul)
open Int (reduceToNat reduceLE reduceEq)
set_option linter.unusedVariables false
set_option linter.unusedSimpArgs false
set_option linter.unnecessarySimpa false

def midW (a b : WinS) : WinS := ⟨max a.from_ b.from_, min a.to_ b.to_⟩
def putW (ou : List WinS) (w : WinS) : List WinS := if w.from_ < w.to_ then ou ++ [w] else ou
def commonM (x y ou : List WinS) : List WinS := match x, y with
  | a :: x, b :: y => if a.to_ < b.to_ then commonM x (b :: y) (putW ou (midW a b)) else commonM (a :: x) y (putW ou (midW a b))
  | [], _ => ou
  | _ :: _, [] => ou
termination_by x.length + y.length
theorem putW_len (ou : List WinS) (w : WinS) : (putW ou w).length ≤ ou.length + 1 := by
  unfold putW; split
  · simp
  · omega
/-- What two lists have in common lies within the first. -/
theorem commonM_in {A B : Int} (x y ou : List WinS) (hx : ∀ w ∈ x, A ≤ w.from_ ∧ w.to_ ≤ B) (ho : ∀ w ∈ ou, A ≤ w.from_ ∧ w.from_ ≤ w.to_ ∧ w.to_ ≤ B) : ∀ w ∈ commonM x y ou, A ≤ w.from_ ∧ w.from_ ≤ w.to_ ∧ w.to_ ≤ B := by
  fun_induction commonM x y ou with
  | case1 ou a x b y h ih =>
    refine ih (fun w hw => hx w (List.mem_cons_of_mem _ hw)) (fun w hw => ?_)
    have ha := hx a List.mem_cons_self
    unfold putW at hw
    split at hw
    · rename_i hl
      rcases List.mem_append.1 hw with hw | hw
      · exact ho w hw
      · rw [List.mem_singleton] at hw; subst hw
        unfold midW at hl ⊢
        simp only at hl ⊢
        omega
    · exact ho w hw
  | case2 ou a x b y h ih =>
    refine ih hx (fun w hw => ?_)
    have ha := hx a List.mem_cons_self
    unfold putW at hw
    split at hw
    · rename_i hl
      rcases List.mem_append.1 hw with hw | hw
      · exact ho w hw
      · rw [List.mem_singleton] at hw; subst hw
        unfold midW at hl ⊢
        simp only at hl ⊢
        omega
    · exact ho w hw
  | case3 => exact ho
  | case4 => exact ho
noncomputable def commonP (a b : List WinS) : PV := if badW a = true ∨ badW b = true then .tup [.sl [], intP 1] else .tup [.sl ((commonM (unionL a) (unionL b) []).map WinS.pv), intP 0]
set_option maxHeartbeats 8000000 in
theorem common2_g (a b : List WinS) (ha : a.length ≤ 1000) (hb : b.length ≤ 1000) : Good Try.prog 46 [.sl (a.map WinS.pv), .sl (b.map WinS.pv)] (commonP a b) := by
  have gb := both_g a b (by omega) (by omega)
  have la := unionL_len a
  have lb := unionL_len b
  unfold bothP at gb
  unfold commonP
  refine good46 (by simp) ?_
  simp only [ac46, AW, reduceAdd, reduceCtorEq, reduceEqDiff, ↓reduceIte, reduceLT, reduceLeDiff, reduceSub, reducePow, reduceMul, reduceToNat, reduceLE, reduceEq, Int.reduceLT, Int.reduceBEq, Int.reduceBNe]
  by_cases hbad : badW a = true ∨ badW b = true
  · rw [if_pos hbad] at gb
    rw [if_pos hbad]
    refine ops_call (gb) (by simp only [intP, List.map_nil, AW, reduceAdd, reduceCtorEq, reduceEqDiff, ↓reduceIte, reduceLT, reduceLeDiff, reduceSub, reducePow, reduceMul, reduceToNat, reduceLE, reduceEq, Int.reduceLT, Int.reduceBEq, Int.reduceBNe]) ?_; simp only [intP, List.map_nil, AW, reduceAdd, reduceCtorEq, reduceEqDiff, ↓reduceIte, reduceLT, reduceLeDiff, reduceSub, reducePow, reduceMul, reduceToNat, reduceLE, reduceEq, Int.reduceLT, Int.reduceBEq, Int.reduceBNe]
    (try simp only [intP, List.map_nil, AW, reduceAdd, reduceCtorEq, reduceEqDiff, ↓reduceIte, reduceLT, reduceLeDiff, reduceSub, reducePow, reduceMul, reduceToNat, reduceLE, reduceEq, Int.reduceLT, Int.reduceBEq, Int.reduceBNe])
  rw [if_neg hbad] at gb
  rw [if_neg hbad]
  refine ops_call (gb) (by simp only [intP, AW, reduceAdd, reduceCtorEq, reduceEqDiff, ↓reduceIte, reduceLT, reduceLeDiff, reduceSub, reducePow, reduceMul, reduceToNat, reduceLE, reduceEq, Int.reduceLT, Int.reduceBEq, Int.reduceBNe]) ?_; simp only [intP, AW, reduceAdd, reduceCtorEq, reduceEqDiff, ↓reduceIte, reduceLT, reduceLeDiff, reduceSub, reducePow, reduceMul, reduceToNat, reduceLE, reduceEq, Int.reduceLT, Int.reduceBEq, Int.reduceBNe]
  generalize unionL a = X at *
  generalize unionL b = Y at *
  refine run_loop (ι := List WinS × List WinS × List WinS) (fun q => ⟨[(6, .sl (q.1.map WinS.pv)), (7, .sl (q.2.1.map WinS.pv)), (9, .own 15 0)], [(15, .row 48 2 0 (q.2.2.map WinS.pv))], 16, 71⟩) (fun q => commonM q.1 q.2.1 q.2.2 = commonM X Y [] ∧ q.2.2.length + q.1.length + q.2.1.length ≤ 2000) (fun q => q.1.length + q.2.1.length) 16 (fun _ => rfl) (X, Y, []) (by simp only [LW, Nat.reduceMod, Nat.reduceDiv, List.map_nil, Nat.zero_lt_one, AW, reduceAdd, reduceCtorEq, reduceEqDiff, ↓reduceIte, reduceLT, reduceLeDiff, reduceSub, reducePow, reduceMul, reduceToNat, reduceLE, reduceEq, Int.reduceLT, Int.reduceBEq, Int.reduceBNe]) ⟨rfl, by simp only [List.length_nil]; omega⟩ (fun q hq => ?_)
  obtain ⟨x, y, ou⟩ := q
  obtain ⟨he, hl⟩ := hq
  simp only at he hl
  cases x with
  | nil =>
    have e : commonM [] y ou = ou := by unfold commonM; rfl
    rw [e] at he
    have d0 : decide ((0 : Int) < ((0 : Nat) : Int)) = false := by decide
    rw [← he]
    simp only [d0, List.map_nil, List.length_nil, intP, AW, reduceAdd, reduceCtorEq, reduceEqDiff, ↓reduceIte, reduceLT, reduceLeDiff, reduceSub, reducePow, reduceMul, reduceToNat, reduceLE, reduceEq, Int.reduceLT, Int.reduceBEq, Int.reduceBNe]
  | cons a x =>
    cases y with
    | nil =>
      have e : commonM (a :: x) [] ou = ou := by unfold commonM; rfl
      rw [e] at he
      have d0 : decide ((0 : Int) < ((0 : Nat) : Int)) = false := by decide
      have d1 : decide ((0 : Int) < ((x.length + 1 : Nat) : Int)) = true := by rw [decide_eq_true_eq]; omega
      rw [← he]
      simp only [d0, d1, List.map_nil, List.map_cons, List.length_cons, List.length_map, List.length_nil, intP, AW, reduceAdd, reduceCtorEq, reduceEqDiff, ↓reduceIte, reduceLT, reduceLeDiff, reduceSub, reducePow, reduceMul, reduceToNat, reduceLE, reduceEq, Int.reduceLT, Int.reduceBEq, Int.reduceBNe]
    | cons b y =>
      have tk : ∀ (p : PV) (x : List WinS), (p :: x.map WinS.pv).take (x.length + 1) = p :: x.map WinS.pv := fun p x => List.take_of_length_le (by simp)
      have dr : ∀ (p : PV) (x : List PV), (p :: x).drop 1 = x := fun p x => rfl
      have wf : ∀ (u v : Int) (x : List WinS), ((PV.agg [.sc (.int .i64 u), .sc (.int .i64 v)] :: x.map WinS.pv).all fun p => p.flat.length == 2) = true := fun u v x => wins_flat (⟨u, v⟩ :: x)
      have g0 : ∀ (a : WinS) (x : List WinS), ((a :: x).map WinS.pv).getD 0 .dead = .agg [.sc (.int .i64 a.from_), .sc (.int .i64 a.to_)] := fun a x => rfl
      have p1 : ∀ n : Nat, 1 ≤ n + 1 := fun n => by omega
      have p0 : ∀ n : Nat, 0 < n + 1 := fun n => by omega
      have d1 : ∀ n : Nat, decide ((0 : Int) < ((n + 1 : Nat) : Int)) = true := fun n => by rw [decide_eq_true_eq]; omega
      have q1 : ou.length + 1 ≤ maxLen := by simp only [List.length_cons] at hl; unfold maxLen; omega
      have q2 : (ou.length + 1) * 16 ≤ 140737488355328 := by simp only [List.length_cons] at hl; omega
      have hpl := putW_len ou (midW a b)
      rw [commonM] at he
      simp only [WinS.pv, WinS.vals, List.map_cons, List.map_nil, d1, p0, List.length_cons, List.length_map, Int.toNat_zero, Int.le_refl, mx_eq, mn_eq, AW, reduceAdd, reduceCtorEq, reduceEqDiff, ↓reduceIte, reduceLT, reduceLeDiff, reduceSub, reducePow, reduceMul, reduceToNat, reduceLE, reduceEq, Int.reduceLT, Int.reduceBEq, Int.reduceBNe]
      (first | (refine drawnK rfl ?_; (try simp only [AW, reduceAdd, reduceCtorEq, reduceEqDiff, ↓reduceIte, reduceLT, reduceLeDiff, reduceSub, reducePow, reduceMul, reduceToNat, reduceLE, reduceEq, Int.reduceLT, Int.reduceBEq, Int.reduceBNe])) | rfl | skip)
      cases h1 : decide (max a.from_ b.from_ < min a.to_ b.to_)
      · have hpt : putW ou ⟨max a.from_ b.from_, min a.to_ b.to_⟩ = ou := if_neg (of_decide_eq_false h1)
        (try simp only [p0, List.length_cons, List.length_map, Int.toNat_zero, Int.le_refl, AW, reduceAdd, reduceCtorEq, reduceEqDiff, ↓reduceIte, reduceLT, reduceLeDiff, reduceSub, reducePow, reduceMul, reduceToNat, reduceLE, reduceEq, Int.reduceLT, Int.reduceBEq, Int.reduceBNe])
        (first | (refine drawnK rfl ?_; (try simp only [AW, reduceAdd, reduceCtorEq, reduceEqDiff, ↓reduceIte, reduceLT, reduceLeDiff, reduceSub, reducePow, reduceMul, reduceToNat, reduceLE, reduceEq, Int.reduceLT, Int.reduceBEq, Int.reduceBNe])) | rfl | skip)
        cases h2 : decide (a.to_ < b.to_)
        · rw [if_neg (of_decide_eq_false h2)] at he
          (try simp only [true_or, or_true, tk, dr, p1, wf, List.length_cons, List.length_map, Int.toNat_one, AW, reduceAdd, reduceCtorEq, reduceEqDiff, ↓reduceIte, reduceLT, reduceLeDiff, reduceSub, reducePow, reduceMul, reduceToNat, reduceLE, reduceEq, Int.reduceLT, Int.reduceBEq, Int.reduceBNe])
          refine ⟨(a :: x, y, putW ou (midW a b)), ⟨he, by simp only [List.length_cons] at hl ⊢; omega⟩, ?_, by simp only [List.length_cons]; omega⟩
          simp only [LW, Nat.reduceMod, Nat.reduceDiv, hpt, List.map_append, WinS.pv, WinS.vals, midW, AW, reduceAdd, reduceCtorEq, reduceEqDiff, ↓reduceIte, reduceLT, reduceLeDiff, reduceSub, reducePow, reduceMul, reduceToNat, reduceLE, reduceEq, Int.reduceLT, Int.reduceBEq, Int.reduceBNe]
        · rw [if_pos (of_decide_eq_true h2)] at he
          (try simp only [true_or, or_true, tk, dr, p1, wf, List.length_cons, List.length_map, Int.toNat_one, AW, reduceAdd, reduceCtorEq, reduceEqDiff, ↓reduceIte, reduceLT, reduceLeDiff, reduceSub, reducePow, reduceMul, reduceToNat, reduceLE, reduceEq, Int.reduceLT, Int.reduceBEq, Int.reduceBNe])
          refine ⟨(x, b :: y, putW ou (midW a b)), ⟨he, by simp only [List.length_cons] at hl ⊢; omega⟩, ?_, by simp only [List.length_cons]; omega⟩
          simp only [LW, Nat.reduceMod, Nat.reduceDiv, hpt, List.map_append, WinS.pv, WinS.vals, midW, AW, reduceAdd, reduceCtorEq, reduceEqDiff, ↓reduceIte, reduceLT, reduceLeDiff, reduceSub, reducePow, reduceMul, reduceToNat, reduceLE, reduceEq, Int.reduceLT, Int.reduceBEq, Int.reduceBNe]
      · have hpt : putW ou ⟨max a.from_ b.from_, min a.to_ b.to_⟩ = ou ++ [⟨max a.from_ b.from_, min a.to_ b.to_⟩] := if_pos (of_decide_eq_true h1)
        (try simp only [q1, q2, p0, List.length_cons, List.length_map, Int.toNat_zero, Int.le_refl, AW, reduceAdd, reduceCtorEq, reduceEqDiff, ↓reduceIte, reduceLT, reduceLeDiff, reduceSub, reducePow, reduceMul, reduceToNat, reduceLE, reduceEq, Int.reduceLT, Int.reduceBEq, Int.reduceBNe])
        (first | (refine drawnK rfl ?_; (try simp only [AW, reduceAdd, reduceCtorEq, reduceEqDiff, ↓reduceIte, reduceLT, reduceLeDiff, reduceSub, reducePow, reduceMul, reduceToNat, reduceLE, reduceEq, Int.reduceLT, Int.reduceBEq, Int.reduceBNe])) | rfl | skip)
        cases h2 : decide (a.to_ < b.to_)
        · rw [if_neg (of_decide_eq_false h2)] at he
          (try simp only [true_or, or_true, tk, dr, p1, wf, List.length_cons, List.length_map, Int.toNat_one, AW, reduceAdd, reduceCtorEq, reduceEqDiff, ↓reduceIte, reduceLT, reduceLeDiff, reduceSub, reducePow, reduceMul, reduceToNat, reduceLE, reduceEq, Int.reduceLT, Int.reduceBEq, Int.reduceBNe])
          refine ⟨(a :: x, y, putW ou (midW a b)), ⟨he, by simp only [List.length_cons] at hl ⊢; omega⟩, ?_, by simp only [List.length_cons]; omega⟩
          simp only [LW, Nat.reduceMod, Nat.reduceDiv, hpt, List.map_append, WinS.pv, WinS.vals, midW, AW, reduceAdd, reduceCtorEq, reduceEqDiff, ↓reduceIte, reduceLT, reduceLeDiff, reduceSub, reducePow, reduceMul, reduceToNat, reduceLE, reduceEq, Int.reduceLT, Int.reduceBEq, Int.reduceBNe]
        · rw [if_pos (of_decide_eq_true h2)] at he
          (try simp only [true_or, or_true, tk, dr, p1, wf, List.length_cons, List.length_map, Int.toNat_one, AW, reduceAdd, reduceCtorEq, reduceEqDiff, ↓reduceIte, reduceLT, reduceLeDiff, reduceSub, reducePow, reduceMul, reduceToNat, reduceLE, reduceEq, Int.reduceLT, Int.reduceBEq, Int.reduceBNe])
          refine ⟨(x, b :: y, putW ou (midW a b)), ⟨he, by simp only [List.length_cons] at hl ⊢; omega⟩, ?_, by simp only [List.length_cons]; omega⟩
          simp only [LW, Nat.reduceMod, Nat.reduceDiv, hpt, List.map_append, WinS.pv, WinS.vals, midW, AW, reduceAdd, reduceCtorEq, reduceEqDiff, ↓reduceIte, reduceLT, reduceLeDiff, reduceSub, reducePow, reduceMul, reduceToNat, reduceLE, reduceEq, Int.reduceLT, Int.reduceBEq, Int.reduceBNe]


end Go.Proofs.Ythgnbkcopapbmaa
