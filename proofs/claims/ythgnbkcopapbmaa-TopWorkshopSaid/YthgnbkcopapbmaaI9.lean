/-
  Wear: the seconds of a ride telescope; the wear of a kind.
-/
import Derived.Test.YthgnbkcopapbmaaI8
namespace Go.Proofs.Ythgnbkcopapbmaa
open Go.RowKit
open Nat (reduceAdd reduceEqDiff reduceLT reduceLeDiff reduceSub reducePow reduceMul)
open Int (reduceToNat reduceLE reduceEq)
set_option linter.unusedVariables false
set_option linter.unusedSimpArgs false
set_option linter.unnecessarySimpa false


theorem legs_sec {b f t : Int} {r : RideS} (h : checkL r = 0) : 0 ≤ legS b f t r r.legs.length ∧ legS b f t r r.legs.length ≤ 4294943999 := by
  have ho := legs_ok h
  obtain ⟨h1, h2, h3, _⟩ := check_parts h
  have hst : 0 ≤ r.start.lo := by
    simp only [rangedL, headL, validL, Bool.and_eq_true, decide_eq_true_eq] at h1; omega
  have hj : ∀ k (hk : k < r.legs.length), r.legs[k].from_ = prevS r k := by
    simp only [joinedL, Bool.and_eq_true, decide_eq_true_eq] at h2
    exact fun k hk => h2.1.2 k hk
  have hord : ∀ k, legOrd r k := by
    simp only [orderedL, Bool.and_eq_true, decide_eq_true_eq] at h3
    exact h3.1.1
  have key : ∀ k, k ≤ r.legs.length → 0 ≤ legS b f t r k ∧ (legS b f t r k ≤ (prevS r k).lo - r.start.lo ∨ (legS b f t r k ≤ 4294943999 ∧ k = r.legs.length)) := by
    intro k
    induction k with
    | zero => intro _; simp [legS, prevS]
    | succ k ih =>
      intro hk
      have hk : k < r.legs.length := hk
      obtain ⟨i1, i2⟩ := ih (by omega)
      have i2 : legS b f t r k ≤ (prevS r k).lo - r.start.lo := by rcases i2 with i2 | i2 <;> omega
      rw [legS_succ hk, prevS_succ r k hk]
      have e := hj k hk
      have hr := ho.rng k hk
      have hl := hord k hk
      rw [← e] at i2
      unfold addS
      split
      · rename_i hc
        have : r.legs[k].from_.lo ≤ r.legs[k].to_.lo := by
          rcases hl with hl | ⟨hl, hl2⟩
          · exact hl
          · rcases hc.2 with hc | hc
            · rw [hl] at hc; cases hc
            · omega
        exact ⟨by omega, .inl (by omega)⟩
      · refine ⟨by omega, ?_⟩
        rcases hl with hl | ⟨hl, hl2⟩
        · left; omega
        · right; exact ⟨by omega, hl2⟩
  obtain ⟨k1, k2⟩ := key _ (Nat.le_refl _)
  refine ⟨k1, ?_⟩
  rcases k2 with k2 | k2
  · have : (prevS r r.legs.length).lo ≤ 4294943999 := by
      have hp : 0 < r.legs.length := by
        simp only [joinedL, lensL, Bool.and_eq_true, decide_eq_true_eq] at h2; exact h2.1.1.1.1
      obtain ⟨n, hn⟩ : ∃ n, r.legs.length = n + 1 := ⟨r.legs.length - 1, by omega⟩
      rw [hn, prevS_succ r n (by omega)]
      exact (ho.rng n (by omega)).2.2.2
    omega
  · exact k2.1
theorem use_sec {b f t : Int} {rs : List RideS} (ho : ∀ r ∈ rs, checkL r = 0) : ∀ i, i ≤ rs.length → 0 ≤ useS b f t rs i ∧ useS b f t rs i ≤ i * 4294943999
  | 0, _ => by simp [useS]
  | i + 1, h => by
    have := use_sec (b := b) (f := f) (t := t) ho i (by omega)
    have := legs_sec (b := b) (f := f) (t := t) (ho _ (List.getElem_mem (show i < rs.length by omega)))
    rw [useS_succ (by omega)]; omega
theorem hour_split (h s : Int) (hs : 0 ≤ s) : h * (s / 3600) + h * (s % 3600) / 3600 = h * s / 3600 := by
  have e : h * s = h * (s % 3600) + 3600 * (h * (s / 3600)) := by
    have := Int.emod_add_mul_ediv s 3600
    calc h * s = h * (s % 3600 + 3600 * (s / 3600)) := by rw [this]
      _ = _ := by rw [Int.mul_add, Int.mul_left_comm]
  rw [e, Int.add_mul_ediv_left _ _ (by decide), Int.add_comm]


end Go.Proofs.Ythgnbkcopapbmaa
