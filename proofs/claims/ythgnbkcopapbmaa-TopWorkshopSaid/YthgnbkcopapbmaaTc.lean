/-
  Wear: a component is due exactly from the moment at which its wear reaches the limit (plain law).
-/
import Derived.Test.YthgnbkcopapbmaaTb
namespace Go.Proofs.Ythgnbkcopapbmaa
open Go.RowKit
open Nat (reduceAdd reduceEqDiff reduceLT reduceLeDiff reduceSub reducePow reduceMul)
open Int (reduceToNat reduceLE reduceEq)
set_option linter.unusedVariables false
set_option linter.unusedSimpArgs false
set_option linter.unnecessarySimpa false


theorem leg_nn {r : RideS} (h : checkL r = 0) {k : Nat} (hk : k < r.legs.length) (hc : r.open_ = false ∨ k + 1 < r.legs.length) : r.legs[k].from_.lo ≤ r.legs[k].to_.lo := by
  obtain ⟨_, _, h3, _⟩ := check_parts h
  have hord : ∀ k, legOrd r k := by
    simp only [orderedL, Bool.and_eq_true, decide_eq_true_eq] at h3
    exact h3.1.1
  rcases hord k hk with hl | ⟨hl, hl2⟩
  · exact hl
  · rcases hc with hc | hc
    · rw [hl] at hc; cases hc
    · omega
theorem legM_mono {b f t1 t2 : Int} {x : LegS} (h : t1 ≤ t2) (h2 : legM b f t1 x = true) : legM b f t2 x = true := by
  simp only [legM, Bool.and_eq_true, decide_eq_true_eq] at *
  exact ⟨h2.1, h2.2.1, by omega⟩
theorem addN_mono {b f t1 t2 : Int} {x : LegS} (h : t1 ≤ t2) : addN b f t1 x ≤ addN b f t2 x := by
  unfold addN
  split
  · rename_i h1; rw [if_pos (legM_mono h h1)]; omega
  · split <;> omega
theorem addS_mono {b f t1 t2 : Int} {r : RideS} (hr : checkL r = 0) (h : t1 ≤ t2) {k : Nat} (hk : k < r.legs.length) : addS b f t1 r k r.legs[k] ≤ addS b f t2 r k r.legs[k] := by
  unfold addS
  split
  · rename_i h1; rw [if_pos ⟨legM_mono h h1.1, h1.2⟩]; omega
  · split
    · rename_i h1; have := leg_nn hr hk h1.2; omega
    · omega
theorem legs_mono {b f t1 t2 : Int} {r : RideS} (hr : checkL r = 0) (h : t1 ≤ t2) : ∀ k, k ≤ r.legs.length → legN b f t1 r k ≤ legN b f t2 r k ∧ legS b f t1 r k ≤ legS b f t2 r k
  | 0, _ => ⟨Int.le_refl _, Int.le_refl _⟩
  | k + 1, hk => by
    obtain ⟨i1, i2⟩ := legs_mono (b := b) (f := f) hr h k (by omega)
    have a1 := addN_mono (b := b) (f := f) (x := r.legs[k]) h
    have a2 := addS_mono (b := b) (f := f) hr h (show k < r.legs.length by omega)
    rw [legN_succ (by omega), legN_succ (by omega), legS_succ (by omega), legS_succ (by omega)]; omega
theorem use_mono {b f t1 t2 : Int} {rs : List RideS} (ho : ∀ r ∈ rs, checkL r = 0) (h : t1 ≤ t2) : ∀ i, i ≤ rs.length → useN b f t1 rs i ≤ useN b f t2 rs i ∧ useS b f t1 rs i ≤ useS b f t2 rs i
  | 0, _ => ⟨Int.le_refl _, Int.le_refl _⟩
  | i + 1, hi => by
    obtain ⟨i1, i2⟩ := use_mono (b := b) (f := f) ho h i (by omega)
    obtain ⟨a1, a2⟩ := legs_mono (b := b) (f := f) (ho _ (List.getElem_mem (show i < rs.length by omega))) h _ (Nat.le_refl _)
    rw [useN_succ (by omega), useN_succ (by omega), useS_succ (by omega), useS_succ (by omega)]; omega
theorem legs_same {b f t1 t2 : Int} {r : RideS} (h : ∀ x ∈ r.legs, legM b f t1 x = legM b f t2 x) : ∀ k, k ≤ r.legs.length → legN b f t1 r k = legN b f t2 r k ∧ legS b f t1 r k = legS b f t2 r k
  | 0, _ => ⟨rfl, rfl⟩
  | k + 1, hk => by
    obtain ⟨i1, i2⟩ := legs_same h k (by omega)
    have e := h _ (List.getElem_mem (show k < r.legs.length by omega))
    rw [legN_succ (by omega), legN_succ (by omega), legS_succ (by omega), legS_succ (by omega), i1, i2]
    unfold addN addS
    rw [e]; exact ⟨rfl, rfl⟩
theorem use_same {b f t1 t2 : Int} {rs : List RideS} (h : ∀ r ∈ rs, ∀ x ∈ r.legs, legM b f t1 x = legM b f t2 x) : ∀ i, i ≤ rs.length → useN b f t1 rs i = useN b f t2 rs i ∧ useS b f t1 rs i = useS b f t2 rs i
  | 0, _ => ⟨rfl, rfl⟩
  | i + 1, hi => by
    obtain ⟨i1, i2⟩ := use_same h i (by omega)
    obtain ⟨a1, a2⟩ := legs_same (h _ (List.getElem_mem (show i < rs.length by omega))) _ (Nat.le_refl _)
    rw [useN_succ (by omega), useN_succ (by omega), useS_succ (by omega), useS_succ (by omega), i1, i2, a1, a2]; exact ⟨rfl, rfl⟩
theorem getD_nn {l : List Int} (h : ∀ x ∈ l, 0 ≤ x ∧ x ≤ 1000000) (k : Nat) : 0 ≤ l.getD k 0 := by
  rw [List.getD_eq_getElem?_getD]
  cases e : l[k]? with
  | none => exact Int.le_refl _
  | some x => exact (h x (List.mem_of_getElem? e)).1
theorem wear_mono {w : WearS} {rs : List RideS} {b f t1 t2 : Int} {k : Nat} (hw : wearC w = 0) (ho : ∀ r ∈ rs, checkL r = 0) (h : t1 ≤ t2) : wearAt w rs b f k t1 ≤ wearAt w rs b f k t2 := by
  obtain ⟨_, _, _, q4, q5⟩ := wear_ok hw
  obtain ⟨a1, a2⟩ := use_mono (b := b) (f := f) ho h _ (Nat.le_refl _)
  unfold wearAt wornL
  have m1 := Int.mul_le_mul_of_nonneg_left a1 (getD_nn q5 k)
  have m2 := Int.ediv_le_ediv (c := 3600) (by omega) (Int.mul_le_mul_of_nonneg_left a2 (getD_nn q4 k))
  omega
theorem wear_same {w : WearS} {rs : List RideS} {b f t1 t2 : Int} {k : Nat} (h : ∀ r ∈ rs, ∀ x ∈ r.legs, legM b f t1 x = legM b f t2 x) : wearAt w rs b f k t1 = wearAt w rs b f k t2 := by
  obtain ⟨a1, a2⟩ := use_same h _ (Nat.le_refl rs.length)
  unfold wearAt; rw [a1, a2]
theorem max_le {T : Int} : ∀ {l : List Int}, (∃ x ∈ l, x ≤ T) → ∃ s ∈ l, s ≤ T ∧ ∀ y ∈ l, y ≤ T → y ≤ s
  | [], h => by obtain ⟨x, hx, _⟩ := h; cases hx
  | a :: l, h => by
    by_cases hl : ∃ x ∈ l, x ≤ T
    · obtain ⟨s, hs, h1, h2⟩ := max_le hl
      by_cases ha : a ≤ T ∧ s < a
      · refine ⟨a, List.mem_cons_self, ha.1, fun y hy hyT => ?_⟩
        rcases List.mem_cons.1 hy with rfl | hy
        · omega
        · have := h2 y hy hyT; omega
      · refine ⟨s, List.mem_cons_of_mem _ hs, h1, fun y hy hyT => ?_⟩
        rcases List.mem_cons.1 hy with rfl | hy
        · omega
        · exact h2 y hy hyT
    · obtain ⟨x, hx, hxT⟩ := h
      rcases List.mem_cons.1 hx with rfl | hx
      · refine ⟨x, List.mem_cons_self, hxT, fun y hy hyT => ?_⟩
        rcases List.mem_cons.1 hy with rfl | hy
        · omega
        · exact absurd ⟨y, hy, hyT⟩ hl
      · exact absurd ⟨x, hx, hxT⟩ hl
theorem mem_atL {b f : Int} {rs : List RideS} {r : RideS} {x : LegS} (hr : r ∈ rs) (hx : x ∈ r.legs) (h : legAt b f x = true) : x.from_.lo + 1 ∈ atL b f rs rs.length := by
  unfold atL atR
  rw [List.take_length, List.mem_flatMap]
  refine ⟨r, hr, ?_⟩
  rw [List.take_length]
  exact List.mem_map.2 ⟨x, List.mem_filter.2 ⟨hx, h⟩, rfl⟩
/-- The wear has reached the limit at T exactly if a moment is found, and it is not behind T. -/
theorem reach_iff {w : WearS} {rs : List RideS} {b f limit T : Int} {k : Nat} (hw : wearC w = 0) (ho : ∀ r ∈ rs, checkL r = 0) (hT : f ≤ T) :
    limit ≤ wearAt w rs b f k T ↔ ∃ t, (sortL (f :: atL b f rs rs.length)).find? (fun t => decide (limit ≤ wearAt w rs b f k t)) = some t ∧ t ≤ T := by
  constructor
  · intro h
    obtain ⟨s, hs, h1, h2⟩ := max_le (l := sortL (f :: atL b f rs rs.length)) (T := T) ⟨f, sortL_mem.2 List.mem_cons_self, hT⟩
    have e : wearAt w rs b f k s = wearAt w rs b f k T := wear_same fun r hr x hx => by
      rw [Bool.eq_iff_iff]
      refine ⟨legM_mono h1, fun hm => ?_⟩
      have hat : legAt b f x = true := by
        simp only [legM, legAt, Bool.and_eq_true, decide_eq_true_eq] at hm ⊢; exact ⟨hm.1, hm.2.1⟩
      have hm2 := mem_atL hr hx hat
      have hlt : x.from_.lo < T := by simp only [legM, Bool.and_eq_true, decide_eq_true_eq] at hm; exact hm.2.2
      have hle := h2 _ (sortL_mem.2 (List.mem_cons_of_mem _ hm2)) (by omega)
      simp only [legM, Bool.and_eq_true, decide_eq_true_eq] at hm ⊢
      exact ⟨hm.1, hm.2.1, by omega⟩
    cases hf : (sortL (f :: atL b f rs rs.length)).find? (fun t => decide (limit ≤ wearAt w rs b f k t)) with
    | none =>
      rw [List.find?_eq_none] at hf
      exact absurd (show decide (limit ≤ wearAt w rs b f k s) = true by rw [e]; exact decide_eq_true h) (hf s hs)
    | some t =>
      refine ⟨t, rfl, ?_⟩
      obtain ⟨h3, i, hi, rfl, h5⟩ := List.find?_eq_some_iff_getElem.1 hf
      obtain ⟨m, hm, rfl⟩ := List.mem_iff_getElem.1 hs
      by_cases him : m < i
      · have := h5 m him
        rw [e, decide_eq_true h] at this; cases this
      · by_cases hEq : i = m
        · subst hEq; exact h1
        · exact Int.le_trans (List.pairwise_iff_getElem.1 (sortL_asc _) i m hi hm (by omega)) h1
  · rintro ⟨t, hf, ht⟩
    have h3 := List.find?_some hf
    exact Int.le_trans (of_decide_eq_true h3) (wear_mono hw ho ht)


end Go.Proofs.Ythgnbkcopapbmaa
