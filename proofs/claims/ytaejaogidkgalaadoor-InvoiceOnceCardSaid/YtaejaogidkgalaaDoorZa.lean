/-
  Fares and refunds: find, item, one.
-/
import Derived.Test.YtaejaogidkgalaaDoorYa
import Derived.Test.YtaejaogidkgalaaDoorXa
namespace Go.Proofs.YtaejaogidkgalaaDoor
open Go.RowKit
open Nat (reduceAdd reduceEqDiff reduceLT reduceLeDiff reduceSub reducePow reduceMul)
open Int (reduceToNat reduceLE reduceEq)
set_option linter.unusedVariables false
set_option linter.unusedSimpArgs false
set_option linter.unnecessarySimpa false

def zeroI : ItemS := ⟨0, 0, 0⟩
def zeroF : FareS := ⟨0, 0, [], 0⟩
def findF (fs : List FareS) (ride : Int) : Option FareS := fs.find? (fun f => f.ride == ride)
def findP : Option FareS → PV
  | some f => .tup [f.pv, .sc (.bool true)]
  | none => .tup [zeroF.pv, .sc (.bool false)]
def itemF (fs : List FareS) (ride i : Int) : Option (FareS × ItemS) := match findF fs ride with
  | some f => if h : 0 ≤ i ∧ i.toNat < f.items.length then some (f, f.items[i.toNat]'h.2) else none
  | none => none
def itemP : Option (FareS × ItemS) → PV
  | some (f, x) => .tup [f.pv, x.pv, .sc (.bool true)]
  | none => .tup [zeroF.pv, zeroI.pv, .sc (.bool false)]
def oneBad (r : RefS) : Bool := decide (r.id < 1) || decide (1000000 < r.id) || decide (r.amount < 1) || decide (1000000000000 < r.amount)
def oneL (fs : List FareS) (r : RefS) : Int := if oneBad r = true then 1 else match itemF fs r.ride r.item with
  | some (_, x) => if x.amount ≤ 0 then 27 else 0
  | none => 7
theorem find_some {α : Type} {p : α → Bool} {l : List α} {k : Nat} (h : k < l.length) (hno : ∀ j (hj : j < l.length), j < k → p l[j] = false) (hk : p l[k] = true) : l.find? p = some l[k] := by
  rw [List.find?_eq_some_iff_getElem]
  exact ⟨hk, k, h, rfl, fun j hj => by rw [hno j (by omega) hj]; rfl⟩
theorem find_none {α : Type} {p : α → Bool} {l : List α} (hno : ∀ j (hj : j < l.length), p l[j] = false) : l.find? p = none := by
  rw [List.find?_eq_none]
  intro x hx
  obtain ⟨j, hj, rfl⟩ := List.getElem_of_mem hx
  rw [hno j hj]; simp
set_option maxHeartbeats 1000000 in
theorem find_g (fs : List FareS) (ride : Int) : Good Tryd.prog 46 [.sl (fs.map FareS.pv), intP ride] (findP (findF fs ride)) := by
  refine .len (es := fs.map FareS.pv) (by simp) (fun hlen => ?_)
  rw [List.length_map] at hlen
  refine good46 (by simp) ?_
  simp only [ac46, intP, AW, reduceAdd, reduceCtorEq, reduceEqDiff, ↓reduceIte, reduceLT, reduceLeDiff, reduceSub, reducePow, reduceMul, reduceToNat, reduceLE, reduceEq, Int.reduceLT, Int.reduceBEq, Int.reduceBNe]
  refine run_loop (ι := Nat) (fun k => ⟨[(1, .sc (.int .i64 ride)), (4, .ptr 0 0), (8, .sl (fs.map FareS.pv)), (9, .sc (.int .i64 (fs.length : Int))), (10, .sc (.int .i64 (k : Int)))], [(0, .var [.sc (.int .i64 0), .sc (.int .i64 0), .sc (.slice none 0 0), .sc (.int .i64 0)])], 5, 21⟩) (fun k => k ≤ fs.length ∧ (∀ j (hj : j < fs.length), j < k → (fs[j].ride == ride) = false)) (fun k => fs.length - k) 5 (fun _ => rfl) 0 (by simp only [LW, Nat.reduceMod, Nat.reduceDiv, Int.natCast_zero, AW, reduceAdd, reduceCtorEq, reduceEqDiff, ↓reduceIte, reduceLT, reduceLeDiff, reduceSub, reducePow, reduceMul, reduceToNat, reduceLE, reduceEq, Int.reduceLT, Int.reduceBEq, Int.reduceBNe]) ⟨Nat.zero_le _, nofun⟩ (fun k hk => ?_)
  obtain ⟨gk, ik⟩ := hk
  by_cases hltk : k < fs.length
  rotate_left
  · have dk : decide ((k : Int) < ((fs.length : Nat) : Int)) = false := by rw [decide_eq_false_iff_not]; exact fun h => hltk (Int.ofNat_lt.1 h)
    have ek : k = fs.length := Nat.le_antisymm gk (Nat.le_of_not_lt hltk)
    subst ek
    have hn : findF fs ride = none := find_none (fun j hj => ik j hj hj)
    rw [hn]
    simp only [dk, findP, zeroF, FareS.pv, List.map_nil, AW, reduceAdd, reduceCtorEq, reduceEqDiff, ↓reduceIte, reduceLT, reduceLeDiff, reduceSub, reducePow, reduceMul, reduceToNat, reduceLE, reduceEq, Int.reduceLT, Int.reduceBEq, Int.reduceBNe]
  have dk : decide ((k : Int) < ((fs.length : Nat) : Int)) = true := by rw [decide_eq_true_eq]; exact Int.ofNat_lt.2 hltk
  simp only [dk, List.length_map, map_getD hltk, hltk, FareS.pv, AW, reduceAdd, reduceCtorEq, reduceEqDiff, ↓reduceIte, reduceLT, reduceLeDiff, reduceSub, reducePow, reduceMul, reduceToNat, reduceLE, reduceEq, Int.reduceLT, Int.reduceBEq, Int.reduceBNe]
  cases h : (fs[k].ride == ride)
  · simp only [AW, reduceAdd, reduceCtorEq, reduceEqDiff, ↓reduceIte, reduceLT, reduceLeDiff, reduceSub, reducePow, reduceMul, reduceToNat, reduceLE, reduceEq, Int.reduceLT, Int.reduceBEq, Int.reduceBNe]
    (try simp only [wrap_succ hltk hlen, AW, reduceAdd, reduceCtorEq, reduceEqDiff, ↓reduceIte, reduceLT, reduceLeDiff, reduceSub, reducePow, reduceMul, reduceToNat, reduceLE, reduceEq, Int.reduceLT, Int.reduceBEq, Int.reduceBNe])
    refine ⟨k + 1, ⟨hltk, fun j hj hjk => ?_⟩, ?_, meas_lt hltk⟩
    · by_cases e : j = k
      · subst e; exact h
      · exact ik j hj (by omega)
    · simp only [LW, Nat.reduceMod, Nat.reduceDiv, AW, reduceAdd, reduceCtorEq, reduceEqDiff, ↓reduceIte, reduceLT, reduceLeDiff, reduceSub, reducePow, reduceMul, reduceToNat, reduceLE, reduceEq, Int.reduceLT, Int.reduceBEq, Int.reduceBNe]
  · have hs : findF fs ride = some fs[k] := find_some hltk ik h
    rw [hs]
    simp only [findP, FareS.pv, AW, reduceAdd, reduceCtorEq, reduceEqDiff, ↓reduceIte, reduceLT, reduceLeDiff, reduceSub, reducePow, reduceMul, reduceToNat, reduceLE, reduceEq, Int.reduceLT, Int.reduceBEq, Int.reduceBNe]
set_option maxHeartbeats 2000000 in
theorem item_g (fs : List FareS) (ride i : Int) : Good Tryd.prog 44 [.sl (fs.map FareS.pv), intP ride, intP i] (itemP (itemF fs ride i)) := by
  have gf := find_g fs ride
  refine good44 (by simp) ?_
  simp only [ac44, intP, AW, reduceAdd, reduceCtorEq, reduceEqDiff, ↓reduceIte, reduceLT, reduceLeDiff, reduceSub, reducePow, reduceMul, reduceToNat, reduceLE, reduceEq, Int.reduceLT, Int.reduceBEq, Int.reduceBNe]
  cases hf : findF fs ride with
  | none =>
    rw [hf] at gf
    have hi : itemF fs ride i = none := by unfold itemF; rw [hf]
    rw [hi]
    simp only [findP, zeroF, FareS.pv, List.map_nil, AW, reduceAdd, reduceCtorEq, reduceEqDiff, ↓reduceIte, reduceLT, reduceLeDiff, reduceSub, reducePow, reduceMul, reduceToNat, reduceLE, reduceEq, Int.reduceLT, Int.reduceBEq, Int.reduceBNe] at gf
    refine ops_call (gf) (by simp only [intP, AW, reduceAdd, reduceCtorEq, reduceEqDiff, ↓reduceIte, reduceLT, reduceLeDiff, reduceSub, reducePow, reduceMul, reduceToNat, reduceLE, reduceEq, Int.reduceLT, Int.reduceBEq, Int.reduceBNe]) ?_; simp only [intP, AW, reduceAdd, reduceCtorEq, reduceEqDiff, ↓reduceIte, reduceLT, reduceLeDiff, reduceSub, reducePow, reduceMul, reduceToNat, reduceLE, reduceEq, Int.reduceLT, Int.reduceBEq, Int.reduceBNe]
    simp only [itemP, zeroF, zeroI, FareS.pv, ItemS.pv, ItemS.vals, List.map_nil, AW, reduceAdd, reduceCtorEq, reduceEqDiff, ↓reduceIte, reduceLT, reduceLeDiff, reduceSub, reducePow, reduceMul, reduceToNat, reduceLE, reduceEq, Int.reduceLT, Int.reduceBEq, Int.reduceBNe]
  | some f =>
    rw [hf] at gf
    simp only [findP, FareS.pv, AW, reduceAdd, reduceCtorEq, reduceEqDiff, ↓reduceIte, reduceLT, reduceLeDiff, reduceSub, reducePow, reduceMul, reduceToNat, reduceLE, reduceEq, Int.reduceLT, Int.reduceBEq, Int.reduceBNe] at gf
    refine ops_call (gf) (by simp only [intP, AW, reduceAdd, reduceCtorEq, reduceEqDiff, ↓reduceIte, reduceLT, reduceLeDiff, reduceSub, reducePow, reduceMul, reduceToNat, reduceLE, reduceEq, Int.reduceLT, Int.reduceBEq, Int.reduceBNe]) ?_; simp only [intP, AW, reduceAdd, reduceCtorEq, reduceEqDiff, ↓reduceIte, reduceLT, reduceLeDiff, reduceSub, reducePow, reduceMul, reduceToNat, reduceLE, reduceEq, Int.reduceLT, Int.reduceBEq, Int.reduceBNe]
    cases h1 : decide (i < 0)
    · have h1' := of_decide_eq_false h1
      cases h2 : decide ((f.items.length : Int) ≤ i)
      · have h2' := of_decide_eq_false h2
        have hlt : i.toNat < f.items.length := by omega
        have hi : itemF fs ride i = some (f, f.items[i.toNat]) := by
          unfold itemF; rw [hf]; simp only
          rw [dif_pos ⟨by omega, hlt⟩]
        rw [hi]
        obtain ⟨n, hn⟩ : ∃ n : Nat, (n : Int) = i := ⟨i.toNat, by omega⟩
        subst hn
        rw [Int.toNat_natCast] at hlt
        simp only [List.length_map, h2, map_getD hlt, hlt, ItemS.pv, ItemS.vals, AW, reduceAdd, reduceCtorEq, reduceEqDiff, ↓reduceIte, reduceLT, reduceLeDiff, reduceSub, reducePow, reduceMul, reduceToNat, reduceLE, reduceEq, Int.reduceLT, Int.reduceBEq, Int.reduceBNe]
        (try refine drawnK rfl ?_); (try simp only [AW, reduceAdd, reduceCtorEq, reduceEqDiff, ↓reduceIte, reduceLT, reduceLeDiff, reduceSub, reducePow, reduceMul, reduceToNat, reduceLE, reduceEq, Int.reduceLT, Int.reduceBEq, Int.reduceBNe])
        simp only [itemP, FareS.pv, ItemS.pv, ItemS.vals, Int.toNat_natCast, AW, reduceAdd, reduceCtorEq, reduceEqDiff, ↓reduceIte, reduceLT, reduceLeDiff, reduceSub, reducePow, reduceMul, reduceToNat, reduceLE, reduceEq, Int.reduceLT, Int.reduceBEq, Int.reduceBNe]
      · have h2' := of_decide_eq_true h2
        have hi : itemF fs ride i = none := by
          unfold itemF; rw [hf]; simp only
          rw [dif_neg (fun h => by omega)]
        rw [hi]
        simp only [List.length_map, h2, itemP, zeroF, zeroI, FareS.pv, ItemS.pv, ItemS.vals, List.map_nil, AW, reduceAdd, reduceCtorEq, reduceEqDiff, ↓reduceIte, reduceLT, reduceLeDiff, reduceSub, reducePow, reduceMul, reduceToNat, reduceLE, reduceEq, Int.reduceLT, Int.reduceBEq, Int.reduceBNe]
    · have h1' := of_decide_eq_true h1
      have hi : itemF fs ride i = none := by
        unfold itemF; rw [hf]; simp only
        rw [dif_neg (fun h => by omega)]
      rw [hi]
      simp only [itemP, zeroF, zeroI, FareS.pv, ItemS.pv, ItemS.vals, List.map_nil, AW, reduceAdd, reduceCtorEq, reduceEqDiff, ↓reduceIte, reduceLT, reduceLeDiff, reduceSub, reducePow, reduceMul, reduceToNat, reduceLE, reduceEq, Int.reduceLT, Int.reduceBEq, Int.reduceBNe]
theorem one_bad {fs : List FareS} {r : RefS} (h : oneBad r = true) : oneL fs r = 1 := by unfold oneL; rw [if_pos h]
set_option maxHeartbeats 2000000 in
theorem one_g (fs : List FareS) (r : RefS) : Good Tryd.prog 42 [.sl (fs.map FareS.pv), r.pv] (.sc (.int .i64 (oneL fs r))) := by
  have gi := item_g fs r.ride r.item
  refine good42 (by simp) ?_
  simp only [ac42, RefS.pv, RefS.vals, List.map_cons, List.map_nil, AW, reduceAdd, reduceCtorEq, reduceEqDiff, ↓reduceIte, reduceLT, reduceLeDiff, reduceSub, reducePow, reduceMul, reduceToNat, reduceLE, reduceEq, Int.reduceLT, Int.reduceBEq, Int.reduceBNe]
  cases h1 : decide (r.id < 1)
  rotate_left
  · rw [one_bad (by unfold oneBad; rw [h1]; rfl)]
    simp only [AW, reduceAdd, reduceCtorEq, reduceEqDiff, ↓reduceIte, reduceLT, reduceLeDiff, reduceSub, reducePow, reduceMul, reduceToNat, reduceLE, reduceEq, Int.reduceLT, Int.reduceBEq, Int.reduceBNe]
  cases h2 : decide ((1000000 : Int) < r.id)
  rotate_left
  · rw [one_bad (by unfold oneBad; rw [h2]; simp)]
    simp only [h2, AW, reduceAdd, reduceCtorEq, reduceEqDiff, ↓reduceIte, reduceLT, reduceLeDiff, reduceSub, reducePow, reduceMul, reduceToNat, reduceLE, reduceEq, Int.reduceLT, Int.reduceBEq, Int.reduceBNe]
  cases h3 : decide (r.amount < 1)
  rotate_left
  · rw [one_bad (by unfold oneBad; rw [h3]; simp)]
    simp only [h2, h3, AW, reduceAdd, reduceCtorEq, reduceEqDiff, ↓reduceIte, reduceLT, reduceLeDiff, reduceSub, reducePow, reduceMul, reduceToNat, reduceLE, reduceEq, Int.reduceLT, Int.reduceBEq, Int.reduceBNe]
  cases h4 : decide ((1000000000000 : Int) < r.amount)
  rotate_left
  · rw [one_bad (by unfold oneBad; rw [h4]; simp)]
    simp only [h2, h3, h4, AW, reduceAdd, reduceCtorEq, reduceEqDiff, ↓reduceIte, reduceLT, reduceLeDiff, reduceSub, reducePow, reduceMul, reduceToNat, reduceLE, reduceEq, Int.reduceLT, Int.reduceBEq, Int.reduceBNe]
  have hb : oneBad r = false := by unfold oneBad; rw [h1, h2, h3, h4]; rfl
  simp only [h2, h3, h4, AW, reduceAdd, reduceCtorEq, reduceEqDiff, ↓reduceIte, reduceLT, reduceLeDiff, reduceSub, reducePow, reduceMul, reduceToNat, reduceLE, reduceEq, Int.reduceLT, Int.reduceBEq, Int.reduceBNe]
  cases hi : itemF fs r.ride r.item with
  | none =>
    have ho : oneL fs r = 7 := by unfold oneL; rw [if_neg (by rw [hb]; simp), hi]
    rw [ho]
    rw [hi] at gi
    simp only [itemP, zeroF, zeroI, FareS.pv, ItemS.pv, ItemS.vals, List.map_nil, List.map_cons, AW, reduceAdd, reduceCtorEq, reduceEqDiff, ↓reduceIte, reduceLT, reduceLeDiff, reduceSub, reducePow, reduceMul, reduceToNat, reduceLE, reduceEq, Int.reduceLT, Int.reduceBEq, Int.reduceBNe] at gi
    refine ops_call (gi) (by simp only [intP, AW, reduceAdd, reduceCtorEq, reduceEqDiff, ↓reduceIte, reduceLT, reduceLeDiff, reduceSub, reducePow, reduceMul, reduceToNat, reduceLE, reduceEq, Int.reduceLT, Int.reduceBEq, Int.reduceBNe]) ?_; simp only [intP, AW, reduceAdd, reduceCtorEq, reduceEqDiff, ↓reduceIte, reduceLT, reduceLeDiff, reduceSub, reducePow, reduceMul, reduceToNat, reduceLE, reduceEq, Int.reduceLT, Int.reduceBEq, Int.reduceBNe]
  | some fx =>
    obtain ⟨f, x⟩ := fx
    have ho : oneL fs r = if x.amount ≤ 0 then 27 else 0 := by unfold oneL; rw [if_neg (by rw [hb]; simp), hi]
    rw [ho]
    rw [hi] at gi
    simp only [itemP, FareS.pv, ItemS.pv, ItemS.vals, List.map_nil, List.map_cons, AW, reduceAdd, reduceCtorEq, reduceEqDiff, ↓reduceIte, reduceLT, reduceLeDiff, reduceSub, reducePow, reduceMul, reduceToNat, reduceLE, reduceEq, Int.reduceLT, Int.reduceBEq, Int.reduceBNe] at gi
    refine ops_call (gi) (by simp only [intP, AW, reduceAdd, reduceCtorEq, reduceEqDiff, ↓reduceIte, reduceLT, reduceLeDiff, reduceSub, reducePow, reduceMul, reduceToNat, reduceLE, reduceEq, Int.reduceLT, Int.reduceBEq, Int.reduceBNe]) ?_; simp only [intP, AW, reduceAdd, reduceCtorEq, reduceEqDiff, ↓reduceIte, reduceLT, reduceLeDiff, reduceSub, reducePow, reduceMul, reduceToNat, reduceLE, reduceEq, Int.reduceLT, Int.reduceBEq, Int.reduceBNe]
    cases h5 : decide (x.amount ≤ 0)
    · have h5' := of_decide_eq_false h5
      simp only [h5', AW, reduceAdd, reduceCtorEq, reduceEqDiff, ↓reduceIte, reduceLT, reduceLeDiff, reduceSub, reducePow, reduceMul, reduceToNat, reduceLE, reduceEq, Int.reduceLT, Int.reduceBEq, Int.reduceBNe]
    · have h5' := of_decide_eq_true h5
      simp only [h5', AW, reduceAdd, reduceCtorEq, reduceEqDiff, ↓reduceIte, reduceLT, reduceLeDiff, reduceSub, reducePow, reduceMul, reduceToNat, reduceLE, reduceEq, Int.reduceLT, Int.reduceBEq, Int.reduceBNe]


end Go.Proofs.YtaejaogidkgalaaDoor
