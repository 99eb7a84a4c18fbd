/-
  What a valid ride's windows are; its seconds.
-/
import Derived.Test.YthgnbkcopapbmaaEx
import Derived.Test.YthgnbkcopapbmaaDb
namespace Go.Proofs.Ythgnbkcopapbmaa
open Go.RowKit
open Nat (reduceAdd reduceEqDiff reduceLT reduceLeDiff reduceSub reducePow reduceMul)
open Int (reduceToNat reduceLE reduceEq)
set_option linter.unusedVariables false
set_option linter.unusedSimpArgs false
set_option linter.unnecessarySimpa false

theorem valid_parts {s : SpanS} (h : validL s = true) : 0 ≤ s.lo ∧ s.lo ≤ s.hi ∧ s.hi ≤ 4294943999 := by
  simp only [validL, Bool.and_eq_true, decide_eq_true_eq] at h
  exact ⟨h.1.1, h.1.2, h.2⟩
theorem ride_parts {r : RideS} (h : checkL r = 0) : validL r.start = true ∧ validL r.end_ = true ∧ ∀ p ∈ r.pauses, validL p.from_ = true ∧ validL p.to_ = true := by
  have := (check_parts h).1
  simp only [rangedL, headL, Bool.and_eq_true] at this
  refine ⟨this.1.1.1.2, this.1.1.2, fun p hp => ?_⟩
  have h2 := List.all_eq_true.1 this.2 p hp
  simpa [pauseV] using h2
theorem sureW_ok {r : RideS} (h : checkL r = 0) : 0 ≤ (sureW r).from_ ∧ (sureW r).from_ ≤ (sureW r).to_ ∧ (sureW r).to_ ≤ 4294944000 := by
  obtain ⟨h1, h2, _⟩ := ride_parts h
  have a := valid_parts h1
  have b := valid_parts h2
  unfold sureW
  simp only
  omega
theorem possWs_ok {r : RideS} (h : checkL r = 0) : ∀ w ∈ possWs r, 0 ≤ w.from_ ∧ w.from_ ≤ w.to_ ∧ w.to_ ≤ 4294944000 := fun w hw => by
  obtain ⟨p, hp, rfl⟩ := List.mem_map.1 hw
  obtain ⟨h1, h2⟩ := (ride_parts h).2.2 p hp
  have a := valid_parts h1
  have b := valid_parts h2
  unfold possV
  simp only
  omega
theorem sureWs_ok {r : RideS} (h : checkL r = 0) : ∀ w ∈ sureWs r, 0 ≤ w.from_ ∧ w.from_ ≤ w.to_ ∧ w.to_ ≤ 4294944000 := fun w hw => by
  obtain ⟨p, hp, rfl⟩ := List.mem_map.1 hw
  obtain ⟨h1, h2⟩ := (ride_parts h).2.2 p hp
  have a := valid_parts h1
  have b := valid_parts h2
  unfold sureV
  simp only
  omega
theorem one_in {r : RideS} (h : checkL r = 0) : ∀ w ∈ unionL [sureW r], (sureW r).from_ ≤ w.from_ ∧ w.from_ ≤ w.to_ ∧ w.to_ ≤ (sureW r).to_ :=
  unionL_all _ (fun w hw => by rw [List.mem_singleton] at hw; subst hw; exact ⟨Int.le_refl _, (sureW_ok h).2.1, Int.le_refl _⟩)
theorem ridL_in {r : RideS} (h : checkL r = 0) : ∀ w ∈ ridL r, (sureW r).from_ ≤ w.from_ ∧ w.from_ ≤ w.to_ ∧ w.to_ ≤ (sureW r).to_ :=
  minus_in _ _ (fun w hw => (unionL_all _ (possWs_ok h) w hw).2.1) (fun w hw => ⟨(one_in h w hw).1, (one_in h w hw).2.2⟩)
theorem pauL_in {r : RideS} (h : checkL r = 0) : ∀ w ∈ pauL r, (sureW r).from_ ≤ w.from_ ∧ w.from_ ≤ w.to_ ∧ w.to_ ≤ (sureW r).to_ :=
  commonM_in _ _ _ (fun w hw => ⟨(one_in h w hw).1, (one_in h w hw).2.2⟩) (fun w hw => by cases hw)
theorem ridL_ok {r : RideS} (h : checkL r = 0) : badW (ridL r) = false ∧ badW (pauL r) = false := by
  have hs := sureW_ok h
  exact ⟨bad_of (fun w hw => by have := ridL_in h w hw; omega), bad_of (fun w hw => by have := pauL_in h w hw; omega)⟩
/-- The seconds of riding are at most those of the sure window. -/
theorem ridL_sum {r : RideS} (h : checkL r = 0) : sumW (unionL (ridL r)) ≤ max 0 (r.end_.lo - r.start.hi) := by
  have hs := sureW_ok h
  have := unionL_sum hs.2.1 (ridL r) (ridL_in h)
  unfold sureW at this
  simp only at this
  omega


end Go.Proofs.Ythgnbkcopapbmaa
