/-
  Operators: the lines of what a fare gives, in plain Lean.
-/
import Derived.Test.YthekbdjklmellaaO9
namespace Go.Proofs.Ythekbdjklmellaa
open Go.RowKit
open Nat (reduceAdd reduceEqDiff reduceLT reduceLeDiff reduceSub reducePow reduceMul)
open Int (reduceToNat reduceLE reduceEq)
set_option linter.unusedVariables false
set_option linter.unusedSimpArgs false
set_option linter.unnecessarySimpa false

/-- An account that gets something is the city's or that of an operator with a contract. -/
def acMet (l : List ContrS) (acc : List Int) : Prop := ∀ i, i < 9 → el acc i ≠ 0 → i = 0 ∨ ∃ c ∈ l, c.op = (i : Int) - 1
theorem el_set {l : List Int} {i j : Nat} {v : Int} (h : el (l.set i v) j ≠ 0) : j = i ∨ el l j ≠ 0 := by
  by_cases e : j = i
  · exact .inl e
  · refine .inr ?_
    unfold el at h ⊢
    rwa [List.getD_eq_getElem?_getD, List.getElem?_set_ne (fun h => e h.symm), ← List.getD_eq_getElem?_getD] at h
theorem acMet.step {l : List ContrS} {acc : List Int} (h : acMet l acc) (hl : contrsOk l) (g : LegS) (p : Int) : acMet l (stepA l g p acc) := by
  intro i hi hne
  unfold stepA at hne
  split at hne
  · rcases el_set hne with e | e
    · exact .inl e
    · exact h i hi e
  · rename_i c hf
    have hm := List.mem_of_find?_eq_some hf
    obtain ⟨b1, b2, _⟩ := contr_op (hl c hm)
    rcases el_set hne with e | e
    · exact .inl e
    · rcases el_set e with e | e
      · refine .inr ⟨c, hm, ?_⟩; omega
      · exact h i hi e
theorem accK_met {l : List ContrS} (hl : contrsOk l) (legs : List LegS) (ps : List Int) : ∀ k, k ≤ legs.length → acMet l (accK l legs ps k)
  | 0, _ => fun i hi hne => by
    exfalso; apply hne; show el acc0 i = 0
    match i, hi with
    | 0, _ | 1, _ | 2, _ | 3, _ | 4, _ | 5, _ | 6, _ | 7, _ | 8, _ => rfl
  | k + 1, h => by rw [accK_succ h]; exact (accK_met hl legs ps k (by omega)).step hl _ _
theorem lines_mem {acc : List Int} {k : Nat} {x : LineS} (h : x ∈ linesK acc k) : ∃ i, i < k ∧ el acc i ≠ 0 ∧ x = ⟨(i : Int), el acc i⟩ := by
  unfold linesK at h
  obtain ⟨i, hi, rfl⟩ := List.mem_map.1 h
  obtain ⟨h1, h2⟩ := List.mem_filter.1 hi
  exact ⟨i, List.mem_range.1 h1, by simpa using h2, rfl⟩
theorem lines_asc (acc : List Int) (k : Nat) : (linesK acc k).Pairwise (fun x y => x.account < y.account) := by
  unfold linesK
  rw [List.pairwise_map]
  exact (List.pairwise_lt_range.filter _).imp (fun h => Int.ofNat_lt.2 h)
def sumL (l : List LineS) : Int := (l.map LineS.amount).sum
theorem lines_sum {acc : List Int} : ∀ k, k ≤ acc.length → sumL (linesK acc k) = (acc.take k).sum
  | 0, _ => by simp [linesK, sumL]
  | k + 1, h => by
    have ih := lines_sum (acc := acc) k (by omega)
    rw [sum_take_el (by omega), ← ih, linesK_succ]
    split
    · rename_i h0; rw [h0, List.append_nil, Int.add_zero]
    · unfold sumL; rw [List.map_append, List.sum_append]; simp
theorem sumL_take {x : List LineS} {k : Nat} (hk : k < x.length) : sumL (x.take (k + 1)) = sumL (x.take k) + x[k].amount := by
  unfold sumL
  rw [List.take_succ_eq_append_getElem hk, List.map_append, List.sum_append]; simp
theorem sumL_b {x : List LineS} (h : ∀ y ∈ x, 1 ≤ y.amount) : ∀ k, k ≤ x.length → 0 ≤ sumL (x.take k) ∧ sumL (x.take k) ≤ sumL x := by
  intro k hk
  have hn : ∀ z : List LineS, (∀ y ∈ z, 1 ≤ y.amount) → 0 ≤ sumL z := by
    intro z
    induction z with
    | nil => intro _; simp [sumL]
    | cons y z ih =>
      intro hz
      have h1 := ih (fun y hy => hz y (List.mem_cons_of_mem _ hy))
      have h2 := hz y List.mem_cons_self
      unfold sumL at h1 ⊢
      simp only [List.map_cons, List.sum_cons]; omega
  have hs : sumL x = sumL (x.take k) + sumL (x.drop k) := by
    unfold sumL
    rw [← List.sum_append, ← List.map_append, List.take_append_drop]
  have h1 := hn (x.take k) (fun y hy => h y (List.mem_of_mem_take hy))
  have h2 := hn (x.drop k) (fun y hy => h y (List.mem_of_mem_drop hy))
  omega
/-- What the lines of a fare are. -/
structure LinesOk (l : List ContrS) (x : List LineS) (amount : Int) : Prop where
  len : x.length ≤ 9
  pos : ∀ y ∈ x, 1 ≤ y.amount
  acc : ∀ y ∈ x, 0 ≤ y.account ∧ y.account ≤ 8
  asc : x.Pairwise (fun a b => a.account < b.account)
  sum : sumL x = amount
  met : ∀ y ∈ x, y.account = 0 ∨ ∃ c ∈ l, c.op = y.account - 1
theorem shares_cases (l : List ContrS) (r : RideS) (amount : Int) : ((sharesC l r amount).2 ≠ 0 ∧ (sharesC l r amount).1 = []) ∨ ((sharesC l r amount).2 = 0 ∧ checkC l = 0 ∧ 0 ≤ amount ∧ amount ≤ 1000000000000 ∧ LinesOk l (sharesC l r amount).1 amount) := by
  by_cases h0 : checkC l = 0
  case neg => rw [sharesC_1 h0]; exact .inl ⟨h0, rfl⟩
  by_cases h1 : checkL r = 0
  case neg => rw [sharesC_2 h0 h1]; exact .inl ⟨h1, rfl⟩
  cases h2 : r.open_
  case true => rw [sharesC_3 h0 h1 h2]; exact .inl ⟨by simp, rfl⟩
  by_cases h34 : amount < 0 ∨ 1000000000000 < amount
  case pos => rw [sharesC_4 h0 h1 h2 h34]; exact .inl ⟨by simp, rfl⟩
  by_cases h5 : (shareL amount (weightsL r)).2 = 0
  case neg => rw [sharesC_5 h0 h1 h2 h34 h5]; exact .inl ⟨by simpa using h5, rfl⟩
  rw [sharesC_6 h0 h1 h2 h34 h5]
  refine .inr ⟨rfl, h0, by omega, by omega, ?_⟩
  obtain ⟨f1, f2, f3⟩ := share_fact h5
  have fl : (shareL amount (weightsL r)).1.length = r.legs.length := by rw [f1, weights_len]
  have hco := contrs_ok h0
  have A := accK_ok (legs := r.legs) hco fl f3 (by omega) r.legs.length (Nat.le_refl _)
  have M := accK_met hco r.legs (shareL amount (weightsL r)).1 r.legs.length (Nat.le_refl _)
  obtain ⟨acc, hac⟩ : ∃ acc, acc = accK l r.legs (shareL amount (weightsL r)).1 r.legs.length := ⟨_, rfl⟩
  rw [← hac] at A M ⊢
  show LinesOk l (linesK acc 9) amount
  refine ⟨linesK_len acc 9, fun y hy => ?_, fun y hy => ?_, lines_asc acc 9, ?_, fun y hy => ?_⟩
  · obtain ⟨i, hi, hne, rfl⟩ := lines_mem hy
    have := A.el_b hi
    show 1 ≤ el acc i
    omega
  · obtain ⟨i, hi, hne, rfl⟩ := lines_mem hy
    show 0 ≤ (i : Int) ∧ (i : Int) ≤ 8
    omega
  · rw [lines_sum 9 (by rw [A.len]; exact Nat.le_refl _), List.take_of_length_le (by rw [A.len]; exact Nat.le_refl _), A.sum, List.take_of_length_le (by omega), f2]
  · obtain ⟨i, hi, hne, rfl⟩ := lines_mem hy
    rcases M i hi hne with e | e
    · exact .inl (by subst e; rfl)
    · exact .inr e
theorem LinesOk.lt {l : List ContrS} {x : List LineS} {a : Int} (h : LinesOk l x a) {k : Nat} (hk : k < x.length) (h0 : 0 < k) : x[k - 1].account < x[k].account :=
  List.pairwise_iff_getElem.1 h.asc (k - 1) k (by omega) hk (by omega)
def metB (l : List ContrS) (a : Int) (k : Nat) : Bool := (a == 0) || (l.take k).any (fun c => c.op == a - 1)
theorem metB_zero (l : List ContrS) (a : Int) : metB l a 0 = (a == 0) := by simp [metB]
theorem metB_succ {l : List ContrS} {a : Int} {k : Nat} (hk : k < l.length) : metB l a (k + 1) = (metB l a k || (l[k].op == a - 1)) := by
  unfold metB
  rw [List.take_succ_eq_append_getElem hk, List.any_append, Bool.or_assoc]; simp
theorem metB_all {l : List ContrS} {a : Int} (h : a = 0 ∨ ∃ c ∈ l, c.op = a - 1) : metB l a l.length = true := by
  unfold metB
  rw [List.take_length]
  rcases h with h | ⟨c, hc, e⟩
  · simp [h]
  · simp only [Bool.or_eq_true, List.any_eq_true]; exact .inr ⟨c, hc, by simp [e]⟩


end Go.Proofs.Ythekbdjklmellaa
