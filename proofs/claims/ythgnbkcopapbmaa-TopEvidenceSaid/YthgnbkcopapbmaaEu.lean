/-
  Minus, walked.
-/
import Derived.Test.YthgnbkcopapbmaaEt
namespace Go.Proofs.Ythgnbkcopapbmaa
open Go.RowKit
open Nat (reduceAdd reduceEqDiff reduceLT reduceLeDiff reduceSub reducePow reduceMul)
open Int (reduceToNat reduceLE reduceEq)
set_option linter.unusedVariables false
set_option linter.unusedSimpArgs false
set_option linter.unnecessarySimpa false

def holeU (t : Int) : List WinS → List WinS × Int → List WinS × Int
  | [], s => s
  | h :: y, s => if t ≤ h.from_ then s else holeU t y (if s.2 < h.from_ then s.1 ++ [⟨s.2, h.from_⟩] else s.1, max s.2 h.to_)
def dropU (f : Int) : List WinS → List WinS
  | [] => []
  | h :: y => if h.to_ ≤ f then dropU f y else h :: y
def endU (t : Int) (s : List WinS × Int) : List WinS := if s.2 < t then s.1 ++ [⟨s.2, t⟩] else s.1
def roundU (s : List WinS × List WinS) (w : WinS) : List WinS × List WinS := (dropU w.from_ s.1, endU w.to_ (holeU w.to_ (dropU w.from_ s.1) (s.2, w.from_)))
def minusM (x y : List WinS) : List WinS × List WinS := x.foldl roundU (y, [])
theorem minusM_succ {x y : List WinS} {k : Nat} (h : k < x.length) : minusM (x.take (k + 1)) y = roundU (minusM (x.take k) y) x[k] := by
  unfold minusM; rw [List.take_succ_eq_append_getElem h, List.foldl_append]; rfl
theorem dropU_len (f : Int) : ∀ y : List WinS, (dropU f y).length ≤ y.length
  | [] => by simp [dropU]
  | h :: y => by
    unfold dropU
    split
    · have := dropU_len f y; rw [List.length_cons]; omega
    · exact Nat.le_refl _
theorem dropU_suffix (f : Int) : ∀ y : List WinS, ∀ x ∈ dropU f y, x ∈ y
  | [], x, hx => by simp [dropU] at hx
  | h :: y, x, hx => by
    unfold dropU at hx
    split at hx
    · exact List.mem_cons_of_mem _ (dropU_suffix f y x hx)
    · exact hx
theorem holeU_len (t : Int) : ∀ (y : List WinS) (s : List WinS × Int), (holeU t y s).1.length ≤ s.1.length + y.length
  | [], s => by simp [holeU]
  | h :: y, s => by
    unfold holeU
    split
    · omega
    · have := holeU_len t y (if s.2 < h.from_ then s.1 ++ [⟨s.2, h.from_⟩] else s.1, max s.2 h.to_)
      simp only at this
      rw [List.length_cons]
      split at this
      · rw [List.length_append] at this; simp at this; rename_i h1; rw [if_pos h1]; omega
      · rename_i h1; rw [if_neg h1]; omega
/-- What is left lies within the window. -/
theorem holeU_in {A B t : Int} : ∀ (y : List WinS) (s : List WinS × Int), (∀ h ∈ y, h.from_ ≤ h.to_) → t ≤ B → A ≤ s.2 → (∀ x ∈ s.1, A ≤ x.from_ ∧ x.from_ ≤ x.to_ ∧ x.to_ ≤ B) → A ≤ (holeU t y s).2 ∧ ∀ x ∈ (holeU t y s).1, A ≤ x.from_ ∧ x.from_ ≤ x.to_ ∧ x.to_ ≤ B
  | [], s, _, _, h3, h4 => ⟨h3, h4⟩
  | h :: y, s, h1, h2, h3, h4 => by
    unfold holeU
    split
    · exact ⟨h3, h4⟩
    · rename_i hn
      refine holeU_in y _ (fun x hx => h1 x (List.mem_cons_of_mem _ hx)) h2 (by show A ≤ max s.2 h.to_; omega) (fun x hx => ?_)
      simp only at hx
      split at hx
      · rename_i hl
        rcases List.mem_append.1 hx with hx | hx
        · exact h4 x hx
        · rw [List.mem_singleton] at hx; subst hx
          exact ⟨h3, by show s.2 ≤ h.from_; omega, by show h.from_ ≤ B; omega⟩
      · exact h4 x hx
theorem round_in {A B : Int} {s : List WinS × List WinS} {w : WinS} (hy : ∀ h ∈ s.1, h.from_ ≤ h.to_) (hw : A ≤ w.from_ ∧ w.to_ ≤ B) (hs : ∀ x ∈ s.2, A ≤ x.from_ ∧ x.from_ ≤ x.to_ ∧ x.to_ ≤ B) : (∀ h ∈ (roundU s w).1, h.from_ ≤ h.to_) ∧ ∀ x ∈ (roundU s w).2, A ≤ x.from_ ∧ x.from_ ≤ x.to_ ∧ x.to_ ≤ B := by
  have hd : ∀ h ∈ dropU w.from_ s.1, h.from_ ≤ h.to_ := fun h hh => hy h (dropU_suffix _ _ _ hh)
  refine ⟨hd, fun x hx => ?_⟩
  obtain ⟨a1, a2⟩ := holeU_in (A := A) (B := B) (t := w.to_) (dropU w.from_ s.1) (s.2, w.from_) hd hw.2 hw.1 hs
  unfold roundU endU at hx
  simp only at hx
  split at hx
  · rename_i hl
    rcases List.mem_append.1 hx with hx | hx
    · exact a2 x hx
    · rw [List.mem_singleton] at hx; subst hx
      exact ⟨a1, Int.le_of_lt hl, hw.2⟩
  · exact a2 x hx
theorem minus_in {A B : Int} (x y : List WinS) (hy : ∀ h ∈ y, h.from_ ≤ h.to_) (hx : ∀ w ∈ x, A ≤ w.from_ ∧ w.to_ ≤ B) : ∀ w ∈ (minusM x y).2, A ≤ w.from_ ∧ w.from_ ≤ w.to_ ∧ w.to_ ≤ B := by
  have g : ∀ (x : List WinS) (s : List WinS × List WinS), (∀ h ∈ s.1, h.from_ ≤ h.to_) → (∀ w ∈ x, A ≤ w.from_ ∧ w.to_ ≤ B) → (∀ w ∈ s.2, A ≤ w.from_ ∧ w.from_ ≤ w.to_ ∧ w.to_ ≤ B) → ∀ w ∈ (x.foldl roundU s).2, A ≤ w.from_ ∧ w.from_ ≤ w.to_ ∧ w.to_ ≤ B := by
    intro x
    induction x with
    | nil => intro s _ _ h; exact h
    | cons w x ih =>
      intro s h1 h2 h3
      rw [List.foldl_cons]
      obtain ⟨a1, a2⟩ := round_in (A := A) (B := B) h1 (h2 w List.mem_cons_self) h3
      exact ih _ a1 (fun v hv => h2 v (List.mem_cons_of_mem _ hv)) a2
  exact g x (y, []) hy hx (fun w hw => by cases hw)


end Go.Proofs.Ythgnbkcopapbmaa
