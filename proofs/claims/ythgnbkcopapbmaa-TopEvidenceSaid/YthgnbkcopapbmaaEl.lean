/-
  Rows of structs that the library sorts.
-/
import Derived.Test.YthgnbkcopapbmaaEk
import Derived.Sort.OwnSortedInts
import Derived.Shelf.GgSortFunc.RowK
namespace Go.Proofs.Ythgnbkcopapbmaa
open Go.RowKit
open Nat (reduceAdd reduceEqDiff reduceLT reduceLeDiff reduceSub reducePow reduceMul)
open Int (reduceToNat reduceLE reduceEq)
set_option linter.unusedVariables false
set_option linter.unusedSimpArgs false
set_option linter.unnecessarySimpa false

open Go.Sort
theorem holds_of_blockV {w : World} {g : Nat} {cur : Array Value} {e : TypeId} {us : List Value} (hb : w.heap[g]? = some (.cells cur e (0, 0))) (ht : cur.toList.take us.length = us) : Holds id w g 0 us.toArray := by
  intro j hj
  have hj' : j < us.length := by simpa using hj
  refine ⟨?_, by simp [World.frozen?, hb]⟩
  have h1 : (cur.toList.take us.length)[j]? = us[j]? := by rw [ht]
  rw [List.getElem?_take_of_lt hj'] at h1
  simp only [World.cell?, hb, Nat.zero_add]
  simp only [Option.isSome_none, Bool.false_eq_true, if_false]
  rw [← Array.getElem?_toList, h1]
  simp [hj']
theorem heap_sortedV {w : World} {g n : Nat} {os : Array Obj} {cur : Array Value} {e : TypeId} {fr : Nat × Nat} (d : Array Value) (hb : w.heap[g]? = some (.cells cur e fr)) :
    (grow (putRow id (Sort.ahead w n) g 0 d) os).heap[g]? = some (.cells (putCells id 0 d cur) e fr) := by
  have hg : g < w.heap.size := (Array.getElem?_eq_some_iff.1 hb).1
  rw [heap_grow_old _ _ (by simpa using hg)]
  simp [putRow, mapBlock, Sort.ahead, Array.getElem?_modify, hb, onCells]
theorem grownBy_sortedV {w : World} {g n : Nat} {os : Array Obj} (d : Array Value) : w.grownBy (grow (putRow id (Sort.ahead w n) g 0 d) os) (some g) := by
  refine ⟨rfl, rfl, rfl, by simp, fun k hk hne => ?_⟩
  rw [heap_grow_old _ _ (by simpa using hk)]
  have : g ≠ k := fun e => hne (by rw [e])
  simp [putRow, mapBlock, Sort.ahead, Array.getElem?_modify, this]
theorem take_putCellsV (cur : Array Value) (us : List Value) (h : us.length ≤ cur.size) : (putCells id 0 us.toArray cur).toList.take us.length = us := by
  apply List.ext_getElem?
  intro j
  by_cases hj : j < us.length
  · rw [List.getElem?_take_of_lt hj, Array.getElem?_toList]
    simp [putCells, hj, show j < cur.size by omega]
  · rw [List.getElem?_take_eq_none (by omega), List.getElem?_eq_none (by omega)]
/-- Behind the sort the same slice owns the sorted row. -/
theorem ownsRow_sortedV {w : World} {base g cap n m sz : Nat} {e : TypeId} {os : Array Obj} {cur : Array Value} {us : List Value} (hl : us.length = m * sz) (hbase : base ≤ g) (hb : w.heap[g]? = some (.cells cur e (0, 0)))
    (h1 : m ≤ cap) (h2 : cap ≤ maxLen) (h3 : cur.size = cap * sz) :
    (grow (putRow id (Sort.ahead w n) g 0 us.toArray) os).ownsRow base e sz (.slice (some ⟨g, 0, none⟩) m cap) m us :=
  ⟨hl, .inr ⟨g, cap, _, rfl, hbase, heap_sortedV _ hb, h1, h2, by simp [putCells, h3], by rw [← hl]; exact take_putCellsV cur us (by rw [h3, hl]; exact Nat.mul_le_mul_right _ h1)⟩⟩
def encW (x : WinS) : List Value := [.int .i64 x.from_, .int .i64 x.to_]
def defW : WinS := ⟨0, 0⟩
instance : Inhabited WinS := ⟨defW⟩
theorem wins_flatL (l : List WinS) : flatL (l.map WinS.pv) = (l.flatMap encW).map .sc := by
  induction l with
  | nil => rfl
  | cons y l ih => simp only [List.map_cons, flatL, List.flatMap_cons, List.map_append] at ih ⊢; rw [ih]; rfl
theorem flatW_len (l : List WinS) : (l.flatMap encW).length = l.length * 2 := by
  induction l with
  | nil => rfl
  | cons y l ih => rw [List.flatMap_cons, List.length_append, ih, List.length_cons, Nat.add_mul]; simp [encW]; omega
theorem flatW_get (l : List WinS) : ∀ t, t < l.length * 2 → (l.flatMap encW)[t]? = (encW (l.getD (t / 2) default))[t % 2]? := by
  induction l with
  | nil => intro t h; simp at h
  | cons y l ih =>
    intro t h
    rw [List.flatMap_cons]
    match t, h with
    | 0, _ => rfl
    | 1, _ => rfl
    | t + 2, h =>
      rw [List.getElem?_append_right (by simp [encW])]
      have e : t + 2 - (encW y).length = t := by simp [encW]
      rw [e, ih t (by rw [List.length_cons, Nat.add_mul] at h; omega)]
      have e1 : (t + 2) / 2 = t / 2 + 1 := by omega
      have e2 : (t + 2) % 2 = t % 2 := by omega
      rw [e1, e2]; rfl
theorem flatK_wins (l : List WinS) : flatK encW 2 l.toArray = (l.flatMap encW).toArray := by
  have hs : (l.flatMap encW).toArray.size = l.length * 2 := flatW_len l
  refine Sort.ext_get! (by rw [size_flatK, hs]; rfl) fun t ht => ?_
  have ht' : t < l.length * 2 := by simpa using ht
  rw [get_flatK _ _ _ t (by simpa using ht')]
  have h1 := flatW_get l t ht'
  have e1 : l.toArray[t / 2]! = l.getD (t / 2) default := by simp
  rw [e1]
  rw [List.getElem!_eq_getElem?_getD, ← h1]
  simp


end Go.Proofs.Ythgnbkcopapbmaa
