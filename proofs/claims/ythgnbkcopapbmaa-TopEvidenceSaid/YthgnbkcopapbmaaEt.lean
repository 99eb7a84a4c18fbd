/-
  Merged windows: their seconds are at most those of what holds them.
-/
import Derived.Test.YthgnbkcopapbmaaEs
namespace Go.Proofs.Ythgnbkcopapbmaa
open Go.RowKit
open Nat (reduceAdd reduceEqDiff reduceLT reduceLeDiff reduceSub reducePow reduceMul)
open Int (reduceToNat reduceLE reduceEq)
set_option linter.unusedVariables false
set_option linter.unusedSimpArgs false
set_option linter.unnecessarySimpa false

theorem sumW_concat (L : List WinS) (x : WinS) : sumW (L ++ [x]) = sumW L + (x.to_ - x.from_) := by
  unfold sumW; rw [List.foldl_append]; rfl
theorem stepU_nil (w : WinS) : stepU [] w = if w.from_ = w.to_ then [] else [w] := by
  unfold stepU; split <;> rfl
theorem stepU_concat (L : List WinS) (x w : WinS) : stepU (L ++ [x]) w = if w.from_ = w.to_ then L ++ [x] else if w.from_ ≤ x.to_ then L ++ [⟨x.from_, max x.to_ w.to_⟩] else (L ++ [x]) ++ [w] := by
  unfold stepU
  split
  · rfl
  · have h0 : ¬ (L ++ [x]).length = 0 := by simp
    have e1 : (L ++ [x]).length - 1 = L.length := by simp
    have e2 : (L ++ [x]).getD L.length ⟨0, 0⟩ = x := by rw [List.getD_eq_getElem?_getD, List.getElem?_append_right (Nat.le_refl _), Nat.sub_self]; rfl
    rw [if_neg h0, e1, e2]
    split
    · refine List.ext_getElem (by simp) (fun i h1 h2 => ?_)
      rw [List.getElem_modify]
      by_cases e : L.length = i
      · subst e; simp
      · rw [if_neg e]
        have hi : i < L.length := by simp at h2; omega
        rw [List.getElem_append_left hi, List.getElem_append_left hi]
    · rfl
/-- The sum is at most from A to the end of the last window. -/
def topB (A : Int) (ou : List WinS) : Prop := (ou = []) ∨ ∃ L x, ou = L ++ [x] ∧ sumW (L ++ [x]) ≤ x.to_ - A
theorem topB_step {A : Int} {ou : List WinS} {w : WinS} (h : topB A ou) (h1 : A ≤ w.from_) : topB A (stepU ou w) := by
  rcases h with rfl | ⟨L, x, rfl, hs⟩
  · rw [stepU_nil]
    split
    · exact .inl rfl
    · exact .inr ⟨[], w, rfl, by show sumW [w] ≤ _; unfold sumW; simp; omega⟩
  · rw [stepU_concat]
    rw [sumW_concat] at hs
    split
    · exact .inr ⟨L, x, rfl, by rw [sumW_concat]; exact hs⟩
    · split
      · exact .inr ⟨L, _, rfl, by rw [sumW_concat]; show sumW L + (max x.to_ w.to_ - x.from_) ≤ max x.to_ w.to_ - A; omega⟩
      · exact .inr ⟨L ++ [x], w, rfl, by rw [sumW_concat, sumW_concat]; omega⟩
theorem mergeU_sum {A B : Int} (hAB : A ≤ B) (l : List WinS) (h : ∀ x ∈ l, A ≤ x.from_ ∧ x.from_ ≤ x.to_ ∧ x.to_ ≤ B) : sumW (mergeU l) ≤ B - A := by
  have g : ∀ (l a : List WinS), topB A a → (∀ x ∈ l, A ≤ x.from_) → topB A (l.foldl stepU a) := by
    intro l
    induction l with
    | nil => intro a ha _; exact ha
    | cons w l ih => intro a ha hl; rw [List.foldl_cons]; exact ih _ (topB_step ha (hl w List.mem_cons_self)) (fun x hx => hl x (List.mem_cons_of_mem _ hx))
  have ht := g l [] (.inl rfl) (fun x hx => (h x hx).1)
  have hall := mergeU_all l h
  unfold mergeU at hall ⊢
  rcases ht with e | ⟨L, x, e, hs⟩
  · rw [e]; show (0 : Int) ≤ _; omega
  · rw [e] at hall ⊢
    have := hall x (by simp)
    omega
theorem unionL_sum {A B : Int} (hAB : A ≤ B) (l : List WinS) (h : ∀ x ∈ l, A ≤ x.from_ ∧ x.from_ ≤ x.to_ ∧ x.to_ ≤ B) : sumW (unionL l) ≤ B - A :=
  mergeU_sum hAB _ (fun x hx => h x ((sortW_perm l).mem_iff.1 hx))
theorem bad_of {l : List WinS} (h : ∀ x ∈ l, 0 ≤ x.from_ ∧ x.from_ ≤ x.to_ ∧ x.to_ ≤ 4294944000) : badW l = false := by
  unfold badW
  rw [List.any_eq_false]
  intro x hx
  have := wok_iff.2 (h x hx)
  simp [this]


end Go.Proofs.Ythgnbkcopapbmaa
