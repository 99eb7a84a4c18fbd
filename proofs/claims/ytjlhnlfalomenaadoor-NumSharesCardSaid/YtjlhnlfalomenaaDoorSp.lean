/-
  A stable sort by merging in place: what its steps do to a list (plain laws).
-/
import Derived.Test.YtjlhnlfalomenaaDoorBase
namespace Go.Proofs.YtjlhnlfalomenaaDoor
open Go.RowKit
open Nat (reduceAdd reduceEqDiff reduceLT reduceLeDiff reduceSub reducePow reduceMul)
open Int (reduceToNat reduceLE reduceEq)
set_option linter.unusedVariables false
set_option linter.unusedSimpArgs false
set_option linter.unnecessarySimpa false

def el (l : List Int) (i : Nat) : Int := l.getD i 0
theorem el_eq {l : List Int} {i : Nat} (h : i < l.length) : l[i] = el l i := by
  unfold el; rw [List.getD_eq_getElem?_getD, List.getElem?_eq_getElem h]; rfl
theorem el_ext {l l' : List Int} (h : l.length = l'.length) (h2 : ∀ i, i < l.length → el l i = el l' i) : l = l' := by
  apply List.ext_getElem h
  intro i h1 h3
  rw [el_eq h1, el_eq h3]; exact h2 i h1
theorem el_mem {l : List Int} {i : Nat} (h : i < l.length) : el l i ∈ l := by rw [← el_eq h]; exact List.getElem_mem h
def sw (l : List Int) (i j : Nat) : List Int := (l.set i (el l j)).set j (el l i)
theorem sw_len (l : List Int) (i j : Nat) : (sw l i j).length = l.length := by simp [sw]
theorem sw_el {l : List Int} {i j : Nat} (hi : i < l.length) (hj : j < l.length) (x : Nat) : el (sw l i j) x = if x = j then el l i else if x = i then el l j else el l x := by
  unfold sw el
  simp only [List.getD_eq_getElem?_getD, List.getElem?_set, List.length_set]
  by_cases h1 : x = j
  · subst h1; simp [hj]
  · rw [if_neg (fun h => h1 h.symm), if_neg h1]
    by_cases h2 : x = i
    · subst h2; simp [hi]
    · rw [if_neg (fun h => h2 h.symm), if_neg h2]
theorem sw_perm {l : List Int} {i j : Nat} (hi : i < l.length) (hj : j < l.length) : (sw l i j).Perm l := by
  have := List.set_set_perm hi hj
  unfold sw; rw [← el_eq hi, ← el_eq hj]; exact this
/-- Two stretches change places. -/
def swr (l : List Int) (a b : Nat) : Nat → List Int
  | 0 => l
  | k + 1 => sw (swr l a b k) (a + k) (b + k)
theorem swr_len (l : List Int) (a b k : Nat) : (swr l a b k).length = l.length := by
  induction k with
  | zero => rfl
  | succ k ih => rw [swr, sw_len, ih]
theorem swr_el {l : List Int} {a b k : Nat} (h1 : a + k ≤ b) (h2 : b + k ≤ l.length) (x : Nat) : el (swr l a b k) x = if a ≤ x ∧ x < a + k then el l (x - a + b) else if b ≤ x ∧ x < b + k then el l (x - b + a) else el l x := by
  induction k generalizing x with
  | zero => rw [if_neg (by omega), if_neg (by omega)]; rfl
  | succ k ih =>
    have e := swr_len l a b k
    rw [swr, sw_el (by omega) (by omega), ih (by omega) (by omega), ih (by omega) (by omega), ih (by omega) (by omega)]
    repeat' split
    all_goals first | rfl | (congr 1; omega) | (exfalso; omega)
/-- Two neighbouring stretches change places. -/
def rot (l : List Int) (a m b : Nat) : List Int := l.take a ++ ((l.drop m).take (b - m) ++ ((l.drop a).take (m - a) ++ l.drop b))
theorem rot_len {l : List Int} {a m b : Nat} (h1 : a ≤ m) (h2 : m ≤ b) (h3 : b ≤ l.length) : (rot l a m b).length = l.length := by
  simp only [rot, List.length_append, List.length_take, List.length_drop]; omega
theorem el_append (a b : List Int) (x : Nat) : el (a ++ b) x = if x < a.length then el a x else el b (x - a.length) := by
  unfold el
  simp only [List.getD_eq_getElem?_getD, List.getElem?_append]
  split <;> rfl
theorem el_take (l : List Int) (n x : Nat) : el (l.take n) x = if x < n then el l x else 0 := by
  unfold el
  simp only [List.getD_eq_getElem?_getD, List.getElem?_take]
  split <;> rfl
theorem el_drop (l : List Int) (n x : Nat) : el (l.drop n) x = el l (n + x) := by
  unfold el
  simp only [List.getD_eq_getElem?_getD, List.getElem?_drop]
theorem rot_el {l : List Int} {a m b : Nat} (h1 : a ≤ m) (h2 : m ≤ b) (h3 : b ≤ l.length) (x : Nat) : el (rot l a m b) x = if a ≤ x ∧ x < a + (b - m) then el l (x + (m - a)) else if a + (b - m) ≤ x ∧ x < b then el l (x - (b - m)) else el l x := by
  unfold rot
  simp only [el_append, el_take, el_drop, List.length_take, List.length_drop, Nat.min_eq_left (Nat.le_trans h1 (Nat.le_trans h2 h3)), Nat.min_eq_left (show b - m ≤ l.length - m by omega), Nat.min_eq_left (show m - a ≤ l.length - a by omega)]
  by_cases c1 : x < a
  · rw [if_pos c1, if_pos c1, if_neg (by omega), if_neg (by omega)]
  rw [if_neg c1]
  by_cases c2 : x < a + (b - m)
  · rw [if_pos (by omega), if_pos (by omega), if_pos (by omega)]; congr 1; omega
  rw [if_neg (by omega), if_neg (by omega : ¬(a ≤ x ∧ x < a + (b - m)))]
  by_cases c3 : x < b
  · rw [if_pos (by omega), if_pos (by omega), if_pos (by omega)]; congr 1; omega
  · rw [if_neg (by omega), if_neg (by omega)]; congr 1; omega
theorem rot_perm {l : List Int} {a m b : Nat} (h1 : a ≤ m) (h2 : m ≤ b) : (rot l a m b).Perm l := by
  have e : l = l.take a ++ ((l.drop a).take (m - a) ++ ((l.drop m).take (b - m) ++ l.drop b)) := by
    have e1 : (l.drop m).take (b - m) ++ l.drop b = l.drop m := by
      have := List.take_append_drop (b - m) (l.drop m)
      rw [List.drop_drop, show m + (b - m) = b by omega] at this; exact this
    have e2 : (l.drop a).take (m - a) ++ l.drop m = l.drop a := by
      have := List.take_append_drop (m - a) (l.drop a)
      rw [List.drop_drop, show a + (m - a) = m by omega] at this; exact this
    rw [e1, e2, List.take_append_drop]
  have : (rot l a m b).Perm (l.take a ++ ((l.drop a).take (m - a) ++ ((l.drop m).take (b - m) ++ l.drop b))) := by
    unfold rot
    refine List.Perm.append_left _ ?_
    rw [← List.append_assoc, ← List.append_assoc]
    exact List.Perm.append_right _ List.perm_append_comm
  rw [← e] at this; exact this
theorem rot_same {l : List Int} {a m b : Nat} (h1 : a ≤ m) (h2 : m ≤ b) (h3 : b ≤ l.length) (h : a = m ∨ m = b) : rot l a m b = l := by
  refine el_ext (rot_len h1 h2 h3) (fun x _ => ?_)
  rw [rot_el h1 h2 h3]
  split
  · congr 1; omega
  · split
    · congr 1; omega
    · rfl
theorem rot_gt {l : List Int} {m i j : Nat} (h1 : i ≤ m) (h2 : m + j ≤ l.length) (h : j < i) : rot (swr l (m - i) m j) (m - (i - j)) m (m + j) = rot l (m - i) m (m + j) := by
  have e := swr_len l (m - i) m j
  refine el_ext (by rw [rot_len (by omega) (by omega) (by omega), rot_len (by omega) (by omega) h2, e]) (fun x _ => ?_)
  rw [rot_el (by omega) (by omega) (by omega), rot_el (by omega) (by omega) h2, swr_el (by omega) (by omega), swr_el (by omega) (by omega), swr_el (by omega) (by omega)]
  repeat' split
  all_goals first | rfl | (congr 1; omega) | (exfalso; omega)
theorem rot_lt {l : List Int} {m i j : Nat} (h1 : i ≤ m) (h2 : m + j ≤ l.length) (h : i < j) : rot (swr l (m - i) (m + j - i) i) (m - i) m (m + (j - i)) = rot l (m - i) m (m + j) := by
  have e := swr_len l (m - i) (m + j - i) i
  refine el_ext (by rw [rot_len (by omega) (by omega) (by omega), rot_len (by omega) (by omega) h2, e]) (fun x _ => ?_)
  rw [rot_el (by omega) (by omega) (by omega), rot_el (by omega) (by omega) h2, swr_el (by omega) (by omega), swr_el (by omega) (by omega), swr_el (by omega) (by omega)]
  repeat' split
  all_goals first | rfl | (congr 1; omega) | (exfalso; omega)
theorem rot_eq {l : List Int} {m i : Nat} (h1 : i ≤ m) (h2 : m + i ≤ l.length) : swr l (m - i) m i = rot l (m - i) m (m + i) := by
  have e := swr_len l (m - i) m i
  refine el_ext (by rw [rot_len (by omega) (by omega) h2, e]) (fun x _ => ?_)
  rw [rot_el (by omega) (by omega) h2, swr_el (by omega) (by omega)]
  repeat' split
  all_goals first | rfl | (congr 1; omega) | (exfalso; omega)
/-- An element moves right, step by step. -/
def mvr (l : List Int) (a : Nat) : Nat → List Int
  | 0 => l
  | k + 1 => sw (mvr l a k) (a + k) (a + k + 1)
theorem mvr_len (l : List Int) (a k : Nat) : (mvr l a k).length = l.length := by
  induction k with
  | zero => rfl
  | succ k ih => rw [mvr, sw_len, ih]
theorem mvr_perm {l : List Int} {a k : Nat} (h : a + k < l.length) : (mvr l a k).Perm l := by
  induction k with
  | zero => exact List.Perm.refl _
  | succ k ih =>
    have e := mvr_len l a k
    exact (sw_perm (by omega) (by omega)).trans (ih (by omega))
theorem mvr_el {l : List Int} {a k : Nat} (h : a + k < l.length) (x : Nat) : el (mvr l a k) x = if a ≤ x ∧ x < a + k then el l (x + 1) else if x = a + k then el l a else el l x := by
  induction k generalizing x with
  | zero =>
    rw [if_neg (by omega)]
    split
    · rename_i h; rw [h]; rfl
    · rfl
  | succ k ih =>
    have e := mvr_len l a k
    rw [mvr, sw_el (by omega) (by omega), ih (by omega), ih (by omega), ih (by omega)]
    repeat' split
    all_goals first | rfl | (congr 1; omega) | (exfalso; omega)
/-- An element moves left, step by step. -/
def mvl (l : List Int) (m : Nat) : Nat → List Int
  | 0 => l
  | k + 1 => sw (mvl l m k) (m - k) (m - k - 1)
theorem mvl_len (l : List Int) (m k : Nat) : (mvl l m k).length = l.length := by
  induction k with
  | zero => rfl
  | succ k ih => rw [mvl, sw_len, ih]
theorem mvl_perm {l : List Int} {m k : Nat} (h : k ≤ m) (h2 : m < l.length) : (mvl l m k).Perm l := by
  induction k with
  | zero => exact List.Perm.refl _
  | succ k ih =>
    have e := mvl_len l m k
    exact (sw_perm (by omega) (by omega)).trans (ih (by omega))
theorem mvl_el {l : List Int} {m k : Nat} (h : k ≤ m) (h2 : m < l.length) (x : Nat) : el (mvl l m k) x = if m - k < x ∧ x ≤ m then el l (x - 1) else if x = m - k then el l m else el l x := by
  induction k generalizing x with
  | zero =>
    rw [if_neg (by omega)]
    split
    · rename_i h; rw [h]; rfl
    · rfl
  | succ k ih =>
    have e := mvl_len l m k
    rw [mvl, sw_el (by omega) (by omega), ih (by omega), ih (by omega), ih (by omega)]
    repeat' split
    all_goals first | rfl | (congr 1; omega) | (exfalso; omega)
/-- A strict order that compares any two. -/
structure Sto (lt : Int → Int → Prop) : Prop where
  irr : ∀ x, ¬ lt x x
  trans : ∀ {x y z}, lt x y → lt y z → lt x z
  tri : ∀ {x y}, x ≠ y → lt x y ∨ lt y x
theorem Sto.asymm {lt : Int → Int → Prop} (h : Sto lt) {x y : Int} (h1 : lt x y) : ¬ lt y x := fun h2 => h.irr _ (h.trans h1 h2)
def SortedOn (lt : Int → Int → Prop) (l : List Int) (a b : Nat) : Prop := ∀ i j, a ≤ i → i < j → j < b → lt (el l i) (el l j)
def OrdOn (l : List Int) (a m b : Nat) : Prop := ∀ i j, a ≤ i → i < m → m ≤ j → j < b → el l i < el l j
structure Srt (lt : Int → Int → Prop) (a b : Nat) (l l' : List Int) : Prop where
  perm : l'.Perm l
  out : ∀ i, i < a ∨ b ≤ i → el l' i = el l i
  sorted : SortedOn lt l' a b
theorem Srt.len {lt : Int → Int → Prop} {a b : Nat} {l l' : List Int} (h : Srt lt a b l l') : l'.length = l.length := h.perm.length_eq
def seg (l : List Int) (a b : Nat) : List Int := (l.take b).drop a
theorem seg_parts {l : List Int} {a b : Nat} (h : a ≤ b) : l = l.take a ++ (seg l a b ++ l.drop b) := by
  have e1 : l.take b = (l.take b).take a ++ (l.take b).drop a := (List.take_append_drop a _).symm
  rw [List.take_take, Nat.min_eq_left h] at e1
  rw [← List.append_assoc]
  unfold seg
  rw [← e1, List.take_append_drop]
theorem seg_len {l : List Int} {a b : Nat} (h : a ≤ b) (h2 : b ≤ l.length) : (seg l a b).length = b - a := by simp [seg]; omega
theorem seg_el {l : List Int} {a b : Nat} (x : Nat) (hx : a + x < b) : el (seg l a b) x = el l (a + x) := by
  unfold seg; rw [el_drop, el_take, if_pos hx]
theorem Srt.parts {lt : Int → Int → Prop} {a b : Nat} {l l' : List Int} (h : Srt lt a b l l') (h1 : a ≤ b) (h2 : b ≤ l.length) : l' = l.take a ++ (seg l' a b ++ l.drop b) := by
  have e1 : l'.take a = l.take a := el_ext (by simp [h.len]) (fun i hi => by
    rw [List.length_take] at hi
    rw [el_take, el_take, if_pos (by omega), if_pos (by omega)]; exact h.out i (.inl (by omega)))
  have e2 : l'.drop b = l.drop b := el_ext (by simp [h.len]) (fun i hi => by
    rw [el_drop, el_drop]; exact h.out _ (.inr (by omega)))
  have := seg_parts (l := l') h1
  rw [e1, e2] at this; exact this
theorem Srt.segp {lt : Int → Int → Prop} {a b : Nat} {l l' : List Int} (h : Srt lt a b l l') (h1 : a ≤ b) (h2 : b ≤ l.length) : (seg l' a b).Perm (seg l a b) := by
  have e1 := h.parts h1 h2
  have e2 := seg_parts (l := l) h1
  have p := h.perm
  rw [e1] at p
  have p2 : (List.take a l ++ (seg l' a b ++ List.drop b l)).Perm (List.take a l ++ (seg l a b ++ List.drop b l)) := by rw [← e2]; exact p
  have p3 := (List.perm_append_left_iff _).1 p2
  exact (List.perm_append_right_iff _).1 p3
theorem Srt.mem {lt : Int → Int → Prop} {a b : Nat} {l l' : List Int} (h : Srt lt a b l l') (h2 : b ≤ l.length) {i : Nat} (hi : a ≤ i) (hb : i < b) : ∃ j, a ≤ j ∧ j < b ∧ el l' i = el l j := by
  have e := h.len
  have hm : el l' i ∈ seg l' a b := by
    have := el_mem (l := seg l' a b) (i := i - a) (by rw [seg_len (by omega) (by omega)]; omega)
    rw [seg_el _ (by omega), show a + (i - a) = i by omega] at this; exact this
  have hm2 := (h.segp (by omega) h2).mem_iff.1 hm
  obtain ⟨k, hk, ek⟩ := List.mem_iff_getElem.1 hm2
  rw [seg_len (by omega) h2] at hk
  rw [el_eq, seg_el _ (by omega)] at ek
  exact ⟨a + k, by omega, by omega, ek.symm⟩
theorem sorted_seg {lt : Int → Int → Prop} {a b : Nat} {l : List Int} (h : SortedOn lt l a b) (h1 : a ≤ b) (h2 : b ≤ l.length) : (seg l a b).Pairwise lt := by
  rw [List.pairwise_iff_getElem]
  intro i j hi hj hij
  rw [seg_len h1 h2] at hi hj
  rw [el_eq, el_eq, seg_el _ (by omega), seg_el _ (by omega)]
  exact h _ _ (by omega) (by omega) (by omega)
theorem Srt.unique {lt : Int → Int → Prop} (hs : Sto lt) {a b : Nat} {l l1 l2 : List Int} (h1 : a ≤ b) (h2 : b ≤ l.length) (k1 : Srt lt a b l l1) (k2 : Srt lt a b l l2) : l1 = l2 := by
  have p : (seg l1 a b).Perm (seg l2 a b) := (k1.segp h1 h2).trans (k2.segp h1 h2).symm
  have e : seg l1 a b = seg l2 a b := p.eq_of_pairwise (fun x y _ _ hx hy => absurd hy (hs.asymm hx)) (sorted_seg k1.sorted h1 (by rw [k1.len]; exact h2)) (sorted_seg k2.sorted h1 (by rw [k2.len]; exact h2))
  rw [k1.parts h1 h2, k2.parts h1 h2, e]
open Classical in
theorem Srt.exists {lt : Int → Int → Prop} (hs : Sto lt) {a b : Nat} {l : List Int} (hn : l.Nodup) (h1 : a ≤ b) (h2 : b ≤ l.length) : ∃ l', Srt lt a b l l' := by
  let le : Int → Int → Bool := fun x y => !decide (lt y x)
  have hp : (List.mergeSort (seg l a b) le).Perm (seg l a b) := List.mergeSort_perm _ _
  have hl : (List.mergeSort (seg l a b) le).length = b - a := by rw [hp.length_eq, seg_len h1 h2]
  have hla : (l.take a).length = a := by rw [List.length_take]; omega
  have hso : (List.mergeSort (seg l a b) le).Pairwise (fun x y => le x y = true) := List.pairwise_mergeSort (fun x y z hx hy => by
    simp only [le, Bool.not_eq_true', decide_eq_false_iff_not] at hx hy ⊢
    intro h
    by_cases e : x = y
    · subst e; exact hy h
    · rcases hs.tri e with h4 | h4
      · exact hy (hs.trans h h4)
      · exact hx h4) (fun x y => by
    simp only [le, Bool.or_eq_true, Bool.not_eq_true', decide_eq_false_iff_not]
    by_cases h : lt y x
    · exact .inr (hs.asymm h)
    · exact .inl h) _
  have e2 := seg_parts (l := l) h1
  refine ⟨l.take a ++ (List.mergeSort (seg l a b) le ++ l.drop b), ?_, fun i hi => ?_, fun i j hi hij hj => ?_⟩
  · have : (l.take a ++ (List.mergeSort (seg l a b) le ++ l.drop b)).Perm (l.take a ++ (seg l a b ++ l.drop b)) := List.Perm.append_left _ (List.Perm.append_right _ hp)
    rw [← e2] at this; exact this
  · rw [el_append, el_append, el_take, el_drop, hl, hla]
    rcases hi with hi | hi
    · rw [if_pos hi, if_pos hi]
    · rw [if_neg (by omega), if_neg (by omega)]; congr 1; omega
  · have hnd : (List.mergeSort (seg l a b) le).Nodup := by
      have hsub : (seg l a b).Nodup := by
        unfold seg
        exact (hn.sublist (List.take_sublist _ _)).sublist (List.drop_sublist _ _)
      exact hp.nodup_iff.2 hsub
    rw [List.pairwise_iff_getElem] at hso
    rw [List.nodup_iff_pairwise_ne, List.pairwise_iff_getElem] at hnd
    have k1 := hso (i - a) (j - a) (by omega) (by omega) (by omega)
    have k2 := hnd (i - a) (j - a) (by omega) (by omega) (by omega)
    have key : ∀ x, a ≤ x → x < b → el (l.take a ++ (List.mergeSort (seg l a b) le ++ l.drop b)) x = el (List.mergeSort (seg l a b) le) (x - a) := by
      intro x q1 q2
      rw [el_append, hla, if_neg (by omega), el_append, hl, if_pos (by omega)]
    rw [key i hi (by omega), key j (by omega) hj]
    rw [el_eq, el_eq] at k1 k2
    simp only [le, Bool.not_eq_true', decide_eq_false_iff_not] at k1
    rcases hs.tri k2 with h | h
    · exact h
    · exact absurd h k1
theorem Srt.refl {lt : Int → Int → Prop} {a b : Nat} {l : List Int} (h : SortedOn lt l a b) : Srt lt a b l l := ⟨List.Perm.refl _, fun _ _ => rfl, h⟩
/-- The heart of merging: two sorted neighbours, cut and turned so that all in front is less than all behind. -/
theorem merge_step {lt : Int → Int → Prop} (hs : Sto lt) {a m b s e : Nat} {l l2 l3 : List Int} (h1 : a ≤ s) (h2 : s ≤ m) (h3 : m ≤ e) (h4 : e ≤ b) (h5 : b ≤ l.length) (k1 : SortedOn lt l a m) (k2 : SortedOn lt l m b)
    (c1 : a < s → e < b → lt (el l (s - 1)) (el l e)) (c2 : s < m → m < e → lt (el l (e - 1)) (el l s)) (p1 : Srt lt a (s + (e - m)) (rot l s m e) l2) (p2 : Srt lt (s + (e - m)) b l2 l3) : Srt lt a b l l3 := by
  have hr := rot_len h2 h3 (Nat.le_trans h4 h5)
  have r := rot_el h2 h3 (Nat.le_trans h4 h5)
  refine ⟨p2.perm.trans (p1.perm.trans (rot_perm h2 h3)), fun i hi => ?_, fun i j hi hij hj => ?_⟩
  · rw [p2.out i (by omega), p1.out i (by omega), r, if_neg (by omega), if_neg (by omega)]
  · have main : ∀ i' j', a ≤ i' → i' < s + (e - m) → s + (e - m) ≤ j' → j' < b → lt (el (rot l s m e) i') (el (rot l s m e) j') := by
      intro i' j' g1 g2 g3 g4
      rw [r, r]
      have lo : ∀ x, a ≤ x → x < s → e < b → lt (el l x) (el l e) := by
        intro x q1 q2 q3
        have := c1 (by omega) q3
        by_cases q : x = s - 1
        · rw [q]; exact this
        · exact hs.trans (k1 x (s - 1) q1 (by omega) (by omega)) this
      have hi2 : ∀ x, m ≤ x → x < e → s < m → lt (el l x) (el l s) := by
        intro x q1 q2 q3
        have := c2 q3 (by omega)
        by_cases q : x = e - 1
        · rw [q]; exact this
        · exact hs.trans (k2 x (e - 1) q1 (by omega) (by omega)) this
      by_cases d1 : s ≤ i'
      · rw [if_pos (by omega)]
        by_cases d2 : j' < e
        · rw [if_neg (by omega), if_pos (by omega)]
          have := hi2 (i' + (m - s)) (by omega) (by omega) (by omega)
          by_cases q : j' - (e - m) = s
          · rw [q]; exact this
          · exact hs.trans this (k1 s _ h1 (by omega) (by omega))
        · rw [if_neg (by omega), if_neg (by omega)]
          exact k2 _ _ (by omega) (by omega) (by omega)
      · rw [if_neg (by omega), if_neg (by omega)]
        by_cases d2 : j' < e
        · rw [if_neg (by omega), if_pos (by omega)]
          exact k1 _ _ (by omega) (by omega) (by omega)
        · rw [if_neg (by omega), if_neg (by omega)]
          have := lo i' g1 (by omega) (by omega)
          by_cases q : j' = e
          · rw [q]; exact this
          · exact hs.trans this (k2 e j' h3 (by omega) (by omega))
    by_cases d1 : j < s + (e - m)
    · rw [p2.out i (by omega), p2.out j (by omega)]; exact p1.sorted i j hi hij d1
    · by_cases d2 : s + (e - m) ≤ i
      · exact p2.sorted i j d2 hij hj
      · rw [p2.out i (by omega)]
        obtain ⟨i', a1, a2, a3⟩ := p1.mem (by omega) hi (by omega)
        obtain ⟨j', b1, b2, b3⟩ := p2.mem (by rw [p1.len]; omega) (show s + (e - m) ≤ j by omega) hj
        rw [a3, b3, p1.out j' (by omega)]
        exact main i' j' a1 a2 b1 b2
/-- One element before a sorted stretch is put into its place. -/
theorem srt_mvr {lt : Int → Int → Prop} (hs : Sto lt) {a b i : Nat} {l : List Int} (h1 : a + 1 ≤ i) (h2 : i ≤ b) (h3 : b ≤ l.length) (k : SortedOn lt l (a + 1) b) (c1 : i = a + 1 ∨ lt (el l (i - 1)) (el l a)) (c2 : i = b ∨ lt (el l a) (el l i)) : Srt lt a b l (mvr l a (i - 1 - a)) := by
  have hk : a + (i - 1 - a) < l.length := by omega
  have r := mvr_el hk
  refine ⟨mvr_perm hk, fun x hx => by rw [r, if_neg (by omega), if_neg (by omega)], fun x y hx hxy hy => ?_⟩
  have lo : ∀ x, a < x → x < i → lt (el l x) (el l a) := by
    intro x q1 q2
    rcases c1 with c1 | c1
    · omega
    · by_cases q : x = i - 1
      · rw [q]; exact c1
      · exact hs.trans (k x (i - 1) q1 (by omega) (by omega)) c1
  have hi : ∀ x, i ≤ x → x < b → lt (el l a) (el l x) := by
    intro x q1 q2
    rcases c2 with c2 | c2
    · omega
    · by_cases q : x = i
      · rw [q]; exact c2
      · exact hs.trans c2 (k i x (by omega) (by omega) q2)
  rw [r, r]
  by_cases d1 : x < a + (i - 1 - a)
  · rw [if_pos (by omega)]
    by_cases d2 : y < a + (i - 1 - a)
    · rw [if_pos (by omega)]; exact k _ _ (by omega) (by omega) (by omega)
    · rw [if_neg (by omega)]
      by_cases d3 : y = a + (i - 1 - a)
      · rw [if_pos d3]; exact lo _ (by omega) (by omega)
      · rw [if_neg d3]; exact k _ _ (by omega) (by omega) (by omega)
  · rw [if_neg (by omega), if_neg (by omega : ¬(a ≤ y ∧ y < a + (i - 1 - a))), if_neg (by omega : ¬ y = a + (i - 1 - a))]
    by_cases d3 : x = a + (i - 1 - a)
    · rw [if_pos d3]; exact hi _ (by omega) hy
    · rw [if_neg d3]; exact k _ _ (by omega) hxy hy
/-- One element behind a sorted stretch is put into its place. -/
theorem srt_mvl {lt : Int → Int → Prop} (hs : Sto lt) {a m i : Nat} {l : List Int} (h1 : a ≤ i) (h2 : i ≤ m) (h3 : m < l.length) (k : SortedOn lt l a m) (c1 : i = a ∨ lt (el l (i - 1)) (el l m)) (c2 : i = m ∨ lt (el l m) (el l i)) : Srt lt a (m + 1) l (mvl l m (m - i)) := by
  have hk : m - i ≤ m := by omega
  have r := mvl_el hk h3
  rw [show m - (m - i) = i by omega] at r
  refine ⟨mvl_perm hk h3, fun x hx => by rw [r, if_neg (by omega), if_neg (by omega)], fun x y hx hxy hy => ?_⟩
  have lo : ∀ x, a ≤ x → x < i → lt (el l x) (el l m) := by
    intro x q1 q2
    rcases c1 with c1 | c1
    · omega
    · by_cases q : x = i - 1
      · rw [q]; exact c1
      · exact hs.trans (k x (i - 1) q1 (by omega) (by omega)) c1
  have hi : ∀ x, i ≤ x → x < m → lt (el l m) (el l x) := by
    intro x q1 q2
    rcases c2 with c2 | c2
    · omega
    · by_cases q : x = i
      · rw [q]; exact c2
      · exact hs.trans c2 (k i x (by omega) (by omega) q2)
  rw [r, r]
  by_cases d1 : y < i
  · rw [if_neg (by omega), if_neg (by omega), if_neg (by omega), if_neg (by omega)]; exact k _ _ hx hxy (by omega)
  · by_cases d2 : y = i
    · rw [if_neg (by omega), if_neg (by omega), if_neg (by omega), if_pos d2]; exact lo _ hx (by omega)
    · rw [if_pos (by omega : i < y ∧ y ≤ m)]
      by_cases d3 : x < i
      · rw [if_neg (by omega), if_neg (by omega)]; exact k _ _ hx (by omega) (by omega)
      · by_cases d4 : x = i
        · rw [if_neg (by omega), if_pos d4]; exact hi _ (by omega) (by omega)
        · rw [if_pos (by omega)]; exact k _ _ (by omega) (by omega) (by omega)
/-- The inner loop of insertion: the element at place j is on its way. -/
structure Ins (lt : Int → Int → Prop) (a i j : Nat) (l L : List Int) : Prop where
  perm : L.Perm l
  out : ∀ x, x < a ∨ i < x → el L x = el l x
  lo : a ≤ j
  hi : j ≤ i
  pairs : ∀ p q, a ≤ p → p < q → q ≤ i → p ≠ j → q ≠ j → lt (el L p) (el L q)
  less : ∀ q, j < q → q ≤ i → lt (el L j) (el L q)
  ord : ∀ p, a ≤ p → p ≤ i → p ≠ j → el L p < el L j
theorem Ins.start {lt : Int → Int → Prop} {a i : Nat} {l L : List Int} (h1 : a ≤ i) (h2 : i < l.length) (h : Srt lt a i l L) (ho : ∀ x, a ≤ x → x < i → el l x < el l i) : Ins lt a i i l L :=
  ⟨h.perm, fun x hx => h.out x (by omega), h1, Nat.le_refl _, fun p q g1 g2 g3 _ g4 => h.sorted p q g1 g2 (by omega), fun q g1 g2 => by omega, fun p g1 g2 g3 => by
    rw [h.out i (by omega)]
    obtain ⟨p', q1, q2, q3⟩ := h.mem (by omega) g1 (show p < i by omega)
    rw [q3]; exact ho p' q1 q2⟩
theorem Ins.step {lt : Int → Int → Prop} {a i j : Nat} {l L : List Int} (h2 : i < l.length) (h : Ins lt a i j l L) (hj : a < j) (ht : lt (el L j) (el L (j - 1))) : Ins lt a i (j - 1) l (sw L j (j - 1)) := by
  have e := h.perm.length_eq
  have hh := h.hi
  have r := sw_el (l := L) (i := j) (j := j - 1) (by omega) (by omega)
  refine ⟨(sw_perm (by omega) (by omega)).trans h.perm, fun x hx => by rw [r, if_neg (by omega), if_neg (by omega)]; exact h.out x hx, by omega, by omega, fun p q g1 g2 g3 g4 g5 => ?_, fun q g1 g2 => ?_, fun p g1 g2 g3 => ?_⟩
  · rw [r, r, if_neg g4, if_neg g5]
    by_cases d1 : p = j
    · rw [if_pos d1, if_neg (by omega)]; exact h.pairs _ _ (by omega) (by omega) g3 (by omega) (by omega)
    · rw [if_neg d1]
      by_cases d2 : q = j
      · rw [if_pos d2]; exact h.pairs _ _ g1 (by omega) (by omega) (by omega) (by omega)
      · rw [if_neg d2]; exact h.pairs _ _ g1 g2 g3 d1 d2
  · rw [r, r, if_pos rfl, if_neg (by omega)]
    by_cases d2 : q = j
    · rw [if_pos d2]; exact ht
    · rw [if_neg d2]; exact h.less q (by omega) g2
  · rw [r, r, if_pos rfl, if_neg g3]
    by_cases d2 : p = j
    · rw [if_pos d2]; exact h.ord _ (by omega) (by omega) (by omega)
    · rw [if_neg d2]; exact h.ord _ g1 g2 d2
theorem Ins.done {lt : Int → Int → Prop} (hs : Sto lt) {a i j : Nat} {l L : List Int} (h : Ins lt a i j l L) (hd : j = a ∨ ¬ lt (el L j) (el L (j - 1))) : Srt lt a (i + 1) l L := by
  refine ⟨h.perm, fun x hx => h.out x (by omega), fun p q g1 g2 g3 => ?_⟩
  by_cases d1 : p = j
  · subst d1; exact h.less q g2 (by omega)
  by_cases d2 : q = j
  · subst d2
    have hh := h.hi
    rcases hd with hd | hd
    · omega
    · have ho := h.ord (q - 1) (by omega) (by omega) (by omega)
      have hl : lt (el L (q - 1)) (el L q) := by
        rcases hs.tri (x := el L (q - 1)) (y := el L q) (by omega) with h | h
        · exact h
        · exact absurd h hd
      by_cases d3 : p = q - 1
      · rw [d3]; exact hl
      · exact hs.trans (h.pairs p (q - 1) g1 (by omega) (by omega) d1 (by omega)) hl
  · exact h.pairs p q g1 g2 (by omega) d1 d2
/-- Sorted between cuts, in the order of the numbers across cuts. -/
def Blk (lt : Int → Int → Prop) (K : Nat → Prop) (l : List Int) (n : Nat) : Prop :=
  (∀ i j, i < j → j < n → (∀ c, i < c → c ≤ j → ¬ K c) → lt (el l i) (el l j)) ∧ ∀ i j c, i < c → c ≤ j → j < n → K c → el l i < el l j
theorem Blk.congr {lt : Int → Int → Prop} {K K' : Nat → Prop} {l : List Int} {n : Nat} (h : Blk lt K l n) (hk : ∀ c, 0 < c → c < n → (K' c ↔ K c)) : Blk lt K' l n :=
  ⟨fun i j h1 h2 h3 => h.1 i j h1 h2 (fun c q1 q2 => fun hK => h3 c q1 q2 ((hk c (by omega) (by omega)).2 hK)), fun i j c h1 h2 h3 h4 => h.2 i j c h1 h2 h3 ((hk c (by omega) (by omega)).1 h4)⟩
theorem Blk.sort {lt : Int → Int → Prop} {K : Nat → Prop} {l l' : List Int} {a b : Nat} (h : Blk lt K l l.length) (hb : b ≤ l.length) (ha : 0 < a → K a) (hkb : b < l.length → K b) (hab : a < b) (hs : Srt lt a b l l') : Blk lt (fun c => K c ∧ ¬(a < c ∧ c < b)) l' l.length := by
  have w : ∀ i, ∃ i', el l' i = el l i' ∧ (i < a → i' = i) ∧ (b ≤ i → i' = i) ∧ (a ≤ i → i < b → a ≤ i' ∧ i' < b) := by
    intro i
    by_cases h1 : a ≤ i ∧ i < b
    · obtain ⟨i', q1, q2, q3⟩ := hs.mem hb h1.1 h1.2
      exact ⟨i', q3, by omega, by omega, fun _ _ => ⟨q1, q2⟩⟩
    · exact ⟨i, hs.out i (by omega), fun _ => rfl, fun _ => rfl, fun _ _ => by omega⟩
  refine ⟨fun i j h1 h2 h3 => ?_, fun i j c h1 h2 h3 h4 => ?_⟩
  · by_cases c1 : j < a
    · rw [hs.out i (by omega), hs.out j (by omega)]
      exact h.1 i j h1 h2 (fun c q1 q2 hK => h3 c q1 q2 ⟨hK, by omega⟩)
    by_cases c2 : i < a
    · exact absurd ⟨ha (by omega), by omega⟩ (h3 a c2 (by omega))
    by_cases c3 : j < b
    · exact hs.sorted i j (by omega) h1 c3
    by_cases c4 : i < b
    · exact absurd ⟨hkb (by omega), by omega⟩ (h3 b c4 (by omega))
    · rw [hs.out i (by omega), hs.out j (by omega)]
      exact h.1 i j h1 h2 (fun c q1 q2 hK => h3 c q1 q2 ⟨hK, by omega⟩)
  · obtain ⟨i', e1, a1, a2, a3⟩ := w i
    obtain ⟨j', e2, b1, b2, b3⟩ := w j
    rw [e1, e2]
    refine h.2 i' j' c ?_ ?_ ?_ h4.1
    · by_cases d1 : i < a
      · rw [a1 d1]; exact h1
      · by_cases d2 : b ≤ i
        · rw [a2 d2]; exact h1
        · have := a3 (by omega) (by omega); have := h4.2; omega
    · by_cases d1 : j < a
      · rw [b1 d1]; exact h2
      · by_cases d2 : b ≤ j
        · rw [b2 d2]; exact h2
        · have := b3 (by omega) (by omega); have := h4.2; omega
    · by_cases d1 : j < a
      · rw [b1 d1]; exact h3
      · by_cases d2 : b ≤ j
        · rw [b2 d2]; exact h3
        · have := b3 (by omega) (by omega); omega


end Go.Proofs.YtjlhnlfalomenaaDoor
