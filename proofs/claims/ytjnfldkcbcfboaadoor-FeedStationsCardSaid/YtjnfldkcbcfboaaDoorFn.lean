/-
  The stations' lines: bicycles counted, in plain Lean.
-/
import Derived.Test.YtjnfldkcbcfboaaDoorFm
namespace Go.Proofs.YtjnfldkcbcfboaaDoor
open Go.RowKit
open Nat (reduceAdd reduceEqDiff reduceLT reduceLeDiff reduceSub reducePow reduceMul)
open Int (reduceToNat reduceLE reduceEq)
set_option linter.unusedVariables false
set_option linter.unusedSimpArgs false
set_option linter.unnecessarySimpa false

theorem spotsOk_iff {f : FleetS} {l : List SpotS} : spotsOk f l = true ↔ (∀ x ∈ l, atD x = true → okDock f x.place = true) ∧ l.Pairwise (fun a b => ¬ (atD a = true ∧ atD b = true ∧ a.place = b.place)) := by
  constructor
  · intro h
    have h1 : ∀ k (hk : k < l.length), spotOk f l k l[k] = true := fun k hk => by
      cases e : spotOk f l k l[k]
      · have := spots_no hk e
        rw [h] at this; cases this
      · rfl
    constructor
    · intro x hx hd
      obtain ⟨k, hk, rfl⟩ := List.getElem_of_mem hx
      have := h1 k hk
      unfold spotOk at this
      rw [hd] at this
      simp only [Bool.not_true, Bool.false_or, Bool.and_eq_true] at this
      exact this.1
    · rw [List.pairwise_iff_getElem]
      rintro i j hi hj hij ⟨a, b, c⟩
      have := h1 j hj
      unfold spotOk at this
      rw [b] at this
      simp only [Bool.not_true, Bool.false_or, Bool.and_eq_true, Bool.not_eq_true'] at this
      have h2 := usedP_yes (p := l[j].place) hij hj (by rw [a, c]; simp)
      rw [this.2] at h2; cases h2
  · rintro ⟨h1, h2⟩
    refine spots_yes (fun k hk => ?_)
    unfold spotOk
    cases hd : atD l[k]
    · rfl
    · rw [h1 _ (List.getElem_mem hk) hd]
      rw [List.pairwise_iff_getElem] at h2
      rw [usedP_no (fun j hj => ?_)]
      · rfl
      · have hj2 : j < k := by rw [List.length_take] at hj; omega
        rw [List.getElem_take]
        rw [Bool.eq_false_iff]; intro h3
        rw [Bool.and_eq_true, beq_iff_eq] at h3
        exact h2 j k (by omega) hk hj2 ⟨h3.1, hd, h3.2⟩
theorem spotsOk_rev (f : FleetS) (l : List SpotS) : spotsOk f l.reverse = spotsOk f l := by
  rw [Bool.eq_iff_iff, spotsOk_iff, spotsOk_iff, List.pairwise_reverse]
  constructor
  · rintro ⟨h1, h2⟩
    exact ⟨fun x hx => h1 x (List.mem_reverse.2 hx), h2.imp fun h3 h4 => h3 ⟨h4.2.1, h4.1, h4.2.2.symm⟩⟩
  · rintro ⟨h1, h2⟩
    exact ⟨fun x hx => h1 x (List.mem_reverse.1 hx), h2.imp fun h3 h4 => h3 ⟨h4.2.1, h4.1, h4.2.2.symm⟩⟩
theorem cnt_rev (l : List SpotS) (s : Nat) : cnt l.reverse s = cnt l s := by
  unfold cnt; rw [List.countP_reverse]
theorem statP_rev (f : FleetS) (l : List SpotS) : statP f l.reverse = statP f l := by
  have e1 : statE f l.reverse = statE f l := by unfold statE; rw [List.length_reverse, spotsOk_rev]
  have e2 : statX f l.reverse = statX f l := by
    unfold statX
    exact List.map_congr_left fun s _ => by unfold statLine; rw [cnt_rev]
  unfold statP; rw [e1, e2]
/-- The bicycles in docks of the first k stations. -/
def tot (l : List SpotS) (k : Nat) : Int := (l.countP fun x => atD x && decide ((x.place.tdiv 32).toNat < k) : Int)
theorem tot_zero (l : List SpotS) : tot l 0 = 0 := by
  unfold tot
  rw [List.countP_eq_zero.2 (fun x _ => by simp)]; rfl
theorem tot_succ (l : List SpotS) (k : Nat) : tot l (k + 1) = tot l k + cnt l k := by
  unfold tot cnt
  induction l with
  | nil => rfl
  | cons x l ih =>
    rw [List.countP_cons, List.countP_cons, List.countP_cons]
    unfold atS
    cases hd : atD x
    · simp only [Bool.false_and]; simp only [Bool.false_eq_true, if_false, Nat.add_zero]; exact ih
    · generalize (x.place.tdiv 32).toNat = q
      simp only [Bool.true_and, decide_eq_true_eq]
      have ih' := ih
      unfold atS at ih'
      by_cases h1 : q < k
      · rw [if_pos (by omega), if_pos h1, if_neg (by omega)]; omega
      · by_cases h2 : q = k
        · rw [if_pos (by omega), if_neg h1, if_pos h2]; omega
        · rw [if_neg (by omega), if_neg h1, if_neg h2]; omega
theorem tot_all {f : FleetS} {l : List SpotS} (h : ∀ x ∈ l, atD x = true → okDock f x.place = true) : tot l f.docks.length = (l.countP atD : Int) := by
  unfold tot
  congr 1
  refine List.countP_congr fun x hx => ?_
  cases hd : atD x
  · simp
  · have := h x hx hd
    unfold okDock at this
    simp only [Bool.and_eq_true, decide_eq_true_eq] at this
    have h32 : 0 ≤ x.place.tdiv 32 := Int.tdiv_nonneg this.1.1 (by decide)
    simp only [Bool.true_and, decide_eq_true_eq, true_iff, iff_true]
    omega
theorem count_one {α : Type} {p : α → Bool} : ∀ {l : List α}, l.Pairwise (fun a b => ¬ (p a = true ∧ p b = true)) → l.countP p ≤ 1
  | [], _ => by simp
  | x :: l, h => by
    obtain ⟨h1, h2⟩ := List.pairwise_cons.1 h
    rw [List.countP_cons]
    cases hx : p x
    · simpa using count_one h2
    · rw [List.countP_eq_zero.2 (fun y hy hp => h1 y hy ⟨hx, hp⟩)]; simp
theorem slot_count {f : FleetS} {l : List SpotS} (h : spotsOk f l = true) (s : Nat) : ∀ m : Nat, l.countP (fun x => atS s x && decide ((x.place.tmod 32).toNat < m)) ≤ m
  | 0 => by rw [List.countP_eq_zero.2 (fun x _ => by simp)]; exact Nat.le_refl _
  | m + 1 => by
    have ih := slot_count h s m
    obtain ⟨h1, h2⟩ := spotsOk_iff.1 h
    have h3 : l.countP (fun x => atS s x && decide ((x.place.tmod 32).toNat = m)) ≤ 1 := by
      refine count_one (h2.imp_of_mem fun {a b} ha hb h4 => ?_)
      rintro ⟨ea, eb⟩
      unfold atS at ea eb
      simp only [Bool.and_eq_true, decide_eq_true_eq] at ea eb
      have oa := h1 a ha ea.1.1
      have ob := h1 b hb eb.1.1
      unfold okDock at oa ob
      simp only [Bool.and_eq_true, decide_eq_true_eq] at oa ob
      refine h4 ⟨ea.1.1, eb.1.1, ?_⟩
      have a0 := oa.1.1
      have b0 := ob.1.1
      obtain ⟨⟨_, a1⟩, a2⟩ := ea
      obtain ⟨⟨_, b1⟩, b2⟩ := eb
      rw [Int.tdiv_eq_ediv_of_nonneg a0] at a1
      rw [Int.tdiv_eq_ediv_of_nonneg b0] at b1
      rw [Int.tmod_eq_emod_of_nonneg a0] at a2
      rw [Int.tmod_eq_emod_of_nonneg b0] at b2
      omega
    have h4 : l.countP (fun x => atS s x && decide ((x.place.tmod 32).toNat < m + 1)) = l.countP (fun x => atS s x && decide ((x.place.tmod 32).toNat < m)) + l.countP (fun x => atS s x && decide ((x.place.tmod 32).toNat = m)) := by
      clear ih h h1 h2 h3
      induction l with
      | nil => rfl
      | cons x l ih =>
        rw [List.countP_cons, List.countP_cons, List.countP_cons, ih]
        cases hd : atS s x
        · simp
        · generalize (x.place.tmod 32).toNat = q
          simp only [Bool.true_and, decide_eq_true_eq]
          by_cases e1 : q < m
          · rw [if_pos (by omega), if_pos e1, if_neg (by omega)]; omega
          · by_cases e2 : q = m
            · rw [if_pos (by omega), if_neg e1, if_pos e2]; omega
            · rw [if_neg (by omega), if_neg e1, if_neg e2]; omega
    omega
theorem cnt_dock {f : FleetS} {l : List SpotS} (h : spotsOk f l = true) {s : Nat} (hs : s < f.docks.length) : cnt l s ≤ max 0 f.docks[s] := by
  obtain ⟨h1, h2⟩ := spotsOk_iff.1 h
  have h3 := slot_count h s f.docks[s].toNat
  have h4 : l.countP (atS s) = l.countP (fun x => atS s x && decide ((x.place.tmod 32).toNat < f.docks[s].toNat)) := by
    refine List.countP_congr fun x hx => ?_
    cases hd : atS s x
    · simp
    · unfold atS at hd
      simp only [Bool.and_eq_true, decide_eq_true_eq] at hd
      have oa := h1 x hx hd.1
      unfold okDock at oa
      simp only [Bool.and_eq_true, decide_eq_true_eq] at oa
      rw [hd.2, getD_get hs] at oa
      have hm : 0 ≤ x.place.tmod 32 := by rw [Int.tmod_eq_emod_of_nonneg oa.1.1]; omega
      simp only [Bool.true_and, decide_eq_true_eq, true_iff, iff_true]
      omega
  unfold cnt
  rw [h4]; omega
/-- A dash of a list's length: the text of a line of three numbers. -/
theorem statLine_eq (f : FleetS) (l : List SpotS) (s : Nat) : statLine f l s = dec (s : Int) ++ 32 :: (dec (cnt l s) ++ 32 :: dec (f.docks.getD s 0 - cnt l s)) := by
  unfold statLine wordsL
  simp
theorem parN_dec {n : Int} (h : valB n = true) : parN (dec n) 0 = some n := parN_iff.2 ⟨h, fmt0 n⟩


end Go.Proofs.YtjnfldkcbcfboaaDoor
