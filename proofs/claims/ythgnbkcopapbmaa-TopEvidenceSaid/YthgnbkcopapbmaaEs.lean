/-
  Union, both, Length.
-/
import Derived.Test.YthgnbkcopapbmaaEm
import Derived.Test.YthgnbkcopapbmaaEr
namespace Go.Proofs.Ythgnbkcopapbmaa
open Go.RowKit
open Nat (reduceAdd reduceEqDiff reduceLT reduceLeDiff reduceSub reducePow reduceMul)
open Int (reduceToNat reduceLE reduceEq)
set_option linter.unusedVariables false
set_option linter.unusedSimpArgs false
set_option linter.unnecessarySimpa false

def badW (l : List WinS) : Bool := l.any fun w => !wokB w
noncomputable def unionL (l : List WinS) : List WinS := mergeU (sortW l)
theorem union_g (l : List WinS) (hl : l.length ≤ 100000) : Good Try.prog 48 [.sl (l.map WinS.pv)] (if badW l = true then .tup [.sl [], intP 1] else .tup [.sl ((unionL l).map WinS.pv), intP 0]) := union_of sortW sortW_len sortw_m l hl
/-- A property of windows that merging keeps. -/
theorem stepU_all {A B : Int} {ou : List WinS} {w : WinS} (h : ∀ x ∈ ou, A ≤ x.from_ ∧ x.from_ ≤ x.to_ ∧ x.to_ ≤ B) (hw : A ≤ w.from_ ∧ w.from_ ≤ w.to_ ∧ w.to_ ≤ B) : ∀ x ∈ stepU ou w, A ≤ x.from_ ∧ x.from_ ≤ x.to_ ∧ x.to_ ≤ B := by
  intro x hx
  unfold stepU at hx
  split at hx
  · exact h x hx
  · split at hx
    · rcases List.mem_append.1 hx with hx | hx
      · exact h x hx
      · rw [List.mem_singleton] at hx; subst hx; exact hw
    · split at hx
      · obtain ⟨i, hi, rfl⟩ := List.getElem_of_mem hx
        rw [List.length_modify] at hi
        rw [List.getElem_modify]
        have := h _ (List.getElem_mem hi)
        split
        · exact ⟨this.1, by show ou[i].from_ ≤ max ou[i].to_ w.to_; omega, by show max ou[i].to_ w.to_ ≤ B; omega⟩
        · exact this
      · rcases List.mem_append.1 hx with hx | hx
        · exact h x hx
        · rw [List.mem_singleton] at hx; subst hx; exact hw
theorem mergeU_all {A B : Int} (l : List WinS) (h : ∀ x ∈ l, A ≤ x.from_ ∧ x.from_ ≤ x.to_ ∧ x.to_ ≤ B) : ∀ x ∈ mergeU l, A ≤ x.from_ ∧ x.from_ ≤ x.to_ ∧ x.to_ ≤ B := by
  have g : ∀ (l a : List WinS), (∀ x ∈ a, A ≤ x.from_ ∧ x.from_ ≤ x.to_ ∧ x.to_ ≤ B) → (∀ x ∈ l, A ≤ x.from_ ∧ x.from_ ≤ x.to_ ∧ x.to_ ≤ B) → ∀ x ∈ l.foldl stepU a, A ≤ x.from_ ∧ x.from_ ≤ x.to_ ∧ x.to_ ≤ B := by
    intro l
    induction l with
    | nil => intro a ha _; exact ha
    | cons w l ih => intro a ha hl; rw [List.foldl_cons]; exact ih _ (stepU_all ha (hl w List.mem_cons_self)) (fun x hx => hl x (List.mem_cons_of_mem _ hx))
  exact g l [] (fun x hx => by cases hx) h
theorem unionL_all {A B : Int} (l : List WinS) (h : ∀ x ∈ l, A ≤ x.from_ ∧ x.from_ ≤ x.to_ ∧ x.to_ ≤ B) : ∀ x ∈ unionL l, A ≤ x.from_ ∧ x.from_ ≤ x.to_ ∧ x.to_ ≤ B :=
  mergeU_all _ (fun x hx => h x ((sortW_perm l).mem_iff.1 hx))
theorem unionL_len (l : List WinS) : (unionL l).length ≤ l.length := by
  have := mergeU_len (sortW l)
  rw [sortW_len] at this
  exact this
theorem bad_all {l : List WinS} (h : badW l = false) : ∀ x ∈ l, 0 ≤ x.from_ ∧ x.from_ ≤ x.to_ ∧ x.to_ ≤ 4294944000 := fun x hx => by
  unfold badW at h
  have := List.any_eq_false.1 h x hx
  exact wok_iff.1 (by simpa using this)
def sumW (l : List WinS) : Int := l.foldl (fun a w => a + (w.to_ - w.from_)) 0
theorem sumW_succ {l : List WinS} {k : Nat} (h : k < l.length) : sumW (l.take (k + 1)) = sumW (l.take k) + (l[k].to_ - l[k].from_) := by
  unfold sumW; rw [List.take_succ_eq_append_getElem h, List.foldl_append]; rfl
theorem sumW_bnd (l : List WinS) (h : ∀ x ∈ l, 0 ≤ x.from_ ∧ x.from_ ≤ x.to_ ∧ x.to_ ≤ 4294944000) : ∀ k, k ≤ l.length → 0 ≤ sumW (l.take k) ∧ sumW (l.take k) ≤ 4294944000 * k
  | 0, _ => by simp [sumW]
  | k + 1, hk => by
    have ih := sumW_bnd l h k (by omega)
    have := h _ (List.getElem_mem (show k < l.length by omega))
    rw [sumW_succ (by omega)]
    omega
set_option maxHeartbeats 2000000 in
theorem length_g (l : List WinS) (hl : l.length ≤ 100000) : Good Try.prog 28 [.sl (l.map WinS.pv)] (if badW l = true then .tup [intP 0, intP 1] else .tup [intP (sumW (unionL l)), intP 0]) := by
  have gu := union_g l hl
  have hul := unionL_len l
  refine good28 (by simp) ?_
  simp only [ac28, AW, reduceAdd, reduceCtorEq, reduceEqDiff, ↓reduceIte, reduceLT, reduceLeDiff, reduceSub, reducePow, reduceMul, reduceToNat, reduceLE, reduceEq, Int.reduceLT, Int.reduceBEq, Int.reduceBNe]
  cases hb : badW l
  rotate_left
  · rw [hb, if_pos rfl] at gu
    refine ops_call (gu) (by simp only [intP, List.map_nil, AW, reduceAdd, reduceCtorEq, reduceEqDiff, ↓reduceIte, reduceLT, reduceLeDiff, reduceSub, reducePow, reduceMul, reduceToNat, reduceLE, reduceEq, Int.reduceLT, Int.reduceBEq, Int.reduceBNe]) ?_; simp only [intP, List.map_nil, AW, reduceAdd, reduceCtorEq, reduceEqDiff, ↓reduceIte, reduceLT, reduceLeDiff, reduceSub, reducePow, reduceMul, reduceToNat, reduceLE, reduceEq, Int.reduceLT, Int.reduceBEq, Int.reduceBNe]
    (try simp only [intP, AW, reduceAdd, reduceCtorEq, reduceEqDiff, ↓reduceIte, reduceLT, reduceLeDiff, reduceSub, reducePow, reduceMul, reduceToNat, reduceLE, reduceEq, Int.reduceLT, Int.reduceBEq, Int.reduceBNe])
  rw [hb, if_neg (by decide)] at gu
  have hm := unionL_all l (bad_all hb)
  refine ops_call (gu) (by simp only [intP, AW, reduceAdd, reduceCtorEq, reduceEqDiff, ↓reduceIte, reduceLT, reduceLeDiff, reduceSub, reducePow, reduceMul, reduceToNat, reduceLE, reduceEq, Int.reduceLT, Int.reduceBEq, Int.reduceBNe]) ?_; simp only [intP, AW, reduceAdd, reduceCtorEq, reduceEqDiff, ↓reduceIte, reduceLT, reduceLeDiff, reduceSub, reducePow, reduceMul, reduceToNat, reduceLE, reduceEq, Int.reduceLT, Int.reduceBEq, Int.reduceBNe]
  generalize unionL l = m at *
  (try simp only [List.length_map, AW, reduceAdd, reduceCtorEq, reduceEqDiff, ↓reduceIte, reduceLT, reduceLeDiff, reduceSub, reducePow, reduceMul, reduceToNat, reduceLE, reduceEq, Int.reduceLT, Int.reduceBEq, Int.reduceBNe])
  refine run_loop (ι := Nat) (fun k => ⟨[(6, .sc (.int .i64 (sumW (m.take k)))), (17, .sl (m.map WinS.pv)), (18, .sc (.int .i64 (m.length : Int))), (19, .sc (.int .i64 (k : Int)))], [], 15, 32⟩) (fun k => k ≤ m.length) (fun k => m.length - k) 15 (fun _ => rfl) 0 (by simp only [LW, Nat.reduceMod, Nat.reduceDiv, Int.natCast_zero, List.take_zero, sumW, List.foldl_nil, List.length_map, AW, reduceAdd, reduceCtorEq, reduceEqDiff, ↓reduceIte, reduceLT, reduceLeDiff, reduceSub, reducePow, reduceMul, reduceToNat, reduceLE, reduceEq, Int.reduceLT, Int.reduceBEq, Int.reduceBNe]) (Nat.zero_le _) (fun k hk => ?_)
  have gk := hk
  by_cases hltk : k < m.length
  rotate_left
  · have dk : decide ((k : Int) < ((m.length : Nat) : Int)) = false := by rw [decide_eq_false_iff_not]; exact fun h => hltk (Int.ofNat_lt.1 h)
    have ek : k = m.length := Nat.le_antisymm gk (Nat.le_of_not_lt hltk)
    rw [ek]
    rw [List.take_length]
    simp only [dlt_irr3, List.length_map, intP, AW, reduceAdd, reduceCtorEq, reduceEqDiff, ↓reduceIte, reduceLT, reduceLeDiff, reduceSub, reducePow, reduceMul, reduceToNat, reduceLE, reduceEq, Int.reduceLT, Int.reduceBEq, Int.reduceBNe]
  have dk : decide ((k : Int) < ((m.length : Nat) : Int)) = true := by rw [decide_eq_true_eq]; exact Int.ofNat_lt.2 hltk
  have hs := sumW_succ hltk
  have hb := sumW_bnd m hm k (by omega)
  have hb2 := sumW_bnd m hm (k + 1) (by omega)
  have hw := hm _ (List.getElem_mem hltk)
  have wk := wrap_succ hltk (show m.length ≤ maxLen by unfold maxLen; omega)
  have w1 : IntKind.i64.wrap (m[k].to_ - m[k].from_) = m[k].to_ - m[k].from_ := wrap_id ⟨by omega, by omega⟩
  have w2 : IntKind.i64.wrap (sumW (m.take k) + (m[k].to_ - m[k].from_)) = sumW (m.take k) + (m[k].to_ - m[k].from_) := wrap_id ⟨by omega, by omega⟩
  simp only [dk, map_getD hltk, hltk, WinS.pv, WinS.vals, List.map_cons, List.map_nil, w1, w2, wk, List.length_map, AW, reduceAdd, reduceCtorEq, reduceEqDiff, ↓reduceIte, reduceLT, reduceLeDiff, reduceSub, reducePow, reduceMul, reduceToNat, reduceLE, reduceEq, Int.reduceLT, Int.reduceBEq, Int.reduceBNe]
  (first | (refine drawnK rfl ?_; (try simp only [AW, reduceAdd, reduceCtorEq, reduceEqDiff, ↓reduceIte, reduceLT, reduceLeDiff, reduceSub, reducePow, reduceMul, reduceToNat, reduceLE, reduceEq, Int.reduceLT, Int.reduceBEq, Int.reduceBNe])) | rfl | skip)
  (try simp only [w1, w2, wk, AW, reduceAdd, reduceCtorEq, reduceEqDiff, ↓reduceIte, reduceLT, reduceLeDiff, reduceSub, reducePow, reduceMul, reduceToNat, reduceLE, reduceEq, Int.reduceLT, Int.reduceBEq, Int.reduceBNe])
  refine ⟨k + 1, hltk, ?_, meas_lt0 hltk⟩
  simp only [LW, Nat.reduceMod, Nat.reduceDiv, hs, AW, reduceAdd, reduceCtorEq, reduceEqDiff, ↓reduceIte, reduceLT, reduceLeDiff, reduceSub, reducePow, reduceMul, reduceToNat, reduceLE, reduceEq, Int.reduceLT, Int.reduceBEq, Int.reduceBNe]
noncomputable def bothP (a b : List WinS) : PV := if badW a = true ∨ badW b = true then .tup [.sl [], .sl [], intP 1] else .tup [.sl ((unionL a).map WinS.pv), .sl ((unionL b).map WinS.pv), intP 0]
set_option maxHeartbeats 2000000 in
theorem both_g (a b : List WinS) (ha : a.length ≤ 100000) (hb : b.length ≤ 100000) : Good Try.prog 65 [.sl (a.map WinS.pv), .sl (b.map WinS.pv)] (bothP a b) := by
  have g1 := union_g a ha
  have g2 := union_g b hb
  unfold bothP
  refine good65 (by simp) ?_
  simp only [ac65, AW, reduceAdd, reduceCtorEq, reduceEqDiff, ↓reduceIte, reduceLT, reduceLeDiff, reduceSub, reducePow, reduceMul, reduceToNat, reduceLE, reduceEq, Int.reduceLT, Int.reduceBEq, Int.reduceBNe]
  cases h1 : badW a
  rotate_left
  · rw [h1, if_pos rfl] at g1
    rw [if_pos (Or.inl rfl)]
    refine ops_call (g1) (by simp only [intP, List.map_nil, AW, reduceAdd, reduceCtorEq, reduceEqDiff, ↓reduceIte, reduceLT, reduceLeDiff, reduceSub, reducePow, reduceMul, reduceToNat, reduceLE, reduceEq, Int.reduceLT, Int.reduceBEq, Int.reduceBNe]) ?_; simp only [intP, List.map_nil, AW, reduceAdd, reduceCtorEq, reduceEqDiff, ↓reduceIte, reduceLT, reduceLeDiff, reduceSub, reducePow, reduceMul, reduceToNat, reduceLE, reduceEq, Int.reduceLT, Int.reduceBEq, Int.reduceBNe]
    (try simp only [intP, List.map_nil, AW, reduceAdd, reduceCtorEq, reduceEqDiff, ↓reduceIte, reduceLT, reduceLeDiff, reduceSub, reducePow, reduceMul, reduceToNat, reduceLE, reduceEq, Int.reduceLT, Int.reduceBEq, Int.reduceBNe])
  rw [h1, if_neg (by decide)] at g1
  refine ops_call (g1) (by simp only [intP, AW, reduceAdd, reduceCtorEq, reduceEqDiff, ↓reduceIte, reduceLT, reduceLeDiff, reduceSub, reducePow, reduceMul, reduceToNat, reduceLE, reduceEq, Int.reduceLT, Int.reduceBEq, Int.reduceBNe]) ?_; simp only [intP, AW, reduceAdd, reduceCtorEq, reduceEqDiff, ↓reduceIte, reduceLT, reduceLeDiff, reduceSub, reducePow, reduceMul, reduceToNat, reduceLE, reduceEq, Int.reduceLT, Int.reduceBEq, Int.reduceBNe]
  cases h2 : badW b
  rotate_left
  · rw [h2, if_pos rfl] at g2
    rw [if_pos (Or.inr rfl)]
    refine ops_call (g2) (by simp only [intP, List.map_nil, AW, reduceAdd, reduceCtorEq, reduceEqDiff, ↓reduceIte, reduceLT, reduceLeDiff, reduceSub, reducePow, reduceMul, reduceToNat, reduceLE, reduceEq, Int.reduceLT, Int.reduceBEq, Int.reduceBNe]) ?_; simp only [intP, List.map_nil, AW, reduceAdd, reduceCtorEq, reduceEqDiff, ↓reduceIte, reduceLT, reduceLeDiff, reduceSub, reducePow, reduceMul, reduceToNat, reduceLE, reduceEq, Int.reduceLT, Int.reduceBEq, Int.reduceBNe]
    (try simp only [intP, List.map_nil, AW, reduceAdd, reduceCtorEq, reduceEqDiff, ↓reduceIte, reduceLT, reduceLeDiff, reduceSub, reducePow, reduceMul, reduceToNat, reduceLE, reduceEq, Int.reduceLT, Int.reduceBEq, Int.reduceBNe])
  rw [h2, if_neg (by decide)] at g2
  rw [if_neg (by simp)]
  refine ops_call (g2) (by simp only [intP, AW, reduceAdd, reduceCtorEq, reduceEqDiff, ↓reduceIte, reduceLT, reduceLeDiff, reduceSub, reducePow, reduceMul, reduceToNat, reduceLE, reduceEq, Int.reduceLT, Int.reduceBEq, Int.reduceBNe]) ?_; simp only [intP, AW, reduceAdd, reduceCtorEq, reduceEqDiff, ↓reduceIte, reduceLT, reduceLeDiff, reduceSub, reducePow, reduceMul, reduceToNat, reduceLE, reduceEq, Int.reduceLT, Int.reduceBEq, Int.reduceBNe]
  (try simp only [intP, AW, reduceAdd, reduceCtorEq, reduceEqDiff, ↓reduceIte, reduceLT, reduceLeDiff, reduceSub, reducePow, reduceMul, reduceToNat, reduceLE, reduceEq, Int.reduceLT, Int.reduceBEq, Int.reduceBNe])


end Go.Proofs.Ythgnbkcopapbmaa
