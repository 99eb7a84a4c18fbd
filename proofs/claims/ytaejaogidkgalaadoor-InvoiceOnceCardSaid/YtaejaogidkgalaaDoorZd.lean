/-
  Refunds: the reference's functions.
-/
import Derived.Test.YtaejaogidkgalaaDoorZc
namespace Go.Proofs.YtaejaogidkgalaaDoor
open Go.RowKit
open Nat (reduceAdd reduceEqDiff reduceLT reduceLeDiff reduceSub reducePow reduceMul)
open Int (reduceToNat reduceLE reduceEq)
set_option linter.unusedVariables false
set_option linter.unusedSimpArgs false
set_option linter.unnecessarySimpa false

def amtP : Option (FareS × ItemS) → PV
  | some (_, x) => .tup [intP x.amount, .sc (.bool true)]
  | none => .tup [intP 0, .sc (.bool false)]
def fewF (fs : List FareS) : Bool := fs.all (fun f => decide (f.items.length ≤ 20)) && decide (fs.length ≤ 40)
set_option maxHeartbeats 1000000 in
theorem rfound_g (fs : List FareS) (ride : Int) : Good Tryd.prog 48 [.sl (fs.map FareS.pv), intP ride] (findP (findF fs ride)) := by
  refine .len (es := fs.map FareS.pv) (by simp) (fun hlen => ?_)
  rw [List.length_map] at hlen
  refine good48 (by simp) ?_
  simp only [ac48, intP, AW, reduceAdd, reduceCtorEq, reduceEqDiff, ↓reduceIte, reduceLT, reduceLeDiff, reduceSub, reducePow, reduceMul, reduceToNat, reduceLE, reduceEq, Int.reduceLT, Int.reduceBEq, Int.reduceBNe]
  refine run_loop (ι := Nat) (fun k => ⟨[(0, .sl (fs.map FareS.pv)), (1, .sc (.int .i64 ride)), (4, .ptr 0 0), (6, .sc (.int .i64 (k : Int)))], [(0, .var [.sc (.int .i64 0), .sc (.int .i64 0), .sc (.slice none 0 0), .sc (.int .i64 0)])], 3, 25⟩) (fun k => k ≤ fs.length ∧ (∀ j (hj : j < fs.length), j < k → (fs[j].ride == ride) = false)) (fun k => fs.length - k) 3 (fun _ => rfl) 0 (by simp only [LW, Nat.reduceMod, Nat.reduceDiv, Int.natCast_zero, AW, reduceAdd, reduceCtorEq, reduceEqDiff, ↓reduceIte, reduceLT, reduceLeDiff, reduceSub, reducePow, reduceMul, reduceToNat, reduceLE, reduceEq, Int.reduceLT, Int.reduceBEq, Int.reduceBNe]) ⟨Nat.zero_le _, nofun⟩ (fun k hk => ?_)
  obtain ⟨gk, ik⟩ := hk
  by_cases hltk : k < fs.length
  rotate_left
  · have dk : decide ((k : Int) < ((fs.length : Nat) : Int)) = false := by rw [decide_eq_false_iff_not]; exact fun h => hltk (Int.ofNat_lt.1 h)
    have ek : k = fs.length := Nat.le_antisymm gk (Nat.le_of_not_lt hltk)
    subst ek
    have hn : findF fs ride = none := find_none (fun j hj => ik j hj hj)
    rw [hn]
    simp only [dk, List.length_map, findP, zeroF, FareS.pv, List.map_nil, AW, reduceAdd, reduceCtorEq, reduceEqDiff, ↓reduceIte, reduceLT, reduceLeDiff, reduceSub, reducePow, reduceMul, reduceToNat, reduceLE, reduceEq, Int.reduceLT, Int.reduceBEq, Int.reduceBNe]
  have dk : decide ((k : Int) < ((fs.length : Nat) : Int)) = true := by rw [decide_eq_true_eq]; exact Int.ofNat_lt.2 hltk
  simp only [dk, List.length_map, map_getD hltk, hltk, FareS.pv, AW, reduceAdd, reduceCtorEq, reduceEqDiff, ↓reduceIte, reduceLT, reduceLeDiff, reduceSub, reducePow, reduceMul, reduceToNat, reduceLE, reduceEq, Int.reduceLT, Int.reduceBEq, Int.reduceBNe]
  cases h : (fs[k].ride == ride)
  · simp only [AW, reduceAdd, reduceCtorEq, reduceEqDiff, ↓reduceIte, reduceLT, reduceLeDiff, reduceSub, reducePow, reduceMul, reduceToNat, reduceLE, reduceEq, Int.reduceLT, Int.reduceBEq, Int.reduceBNe]
    (try simp only [wrap_succ hltk hlen, AW, reduceAdd, reduceCtorEq, reduceEqDiff, ↓reduceIte, reduceLT, reduceLeDiff, reduceSub, reducePow, reduceMul, reduceToNat, reduceLE, reduceEq, Int.reduceLT, Int.reduceBEq, Int.reduceBNe])
    refine ⟨k + 1, ⟨hltk, fun j hj hjk => ?_⟩, ?_, meas_lt hltk⟩
    · by_cases e : j = k
      · subst e; exact h
      · exact ik j hj (by omega)
    · simp only [LW, Nat.reduceMod, Nat.reduceDiv, AW, reduceAdd, reduceCtorEq, reduceEqDiff, ↓reduceIte, reduceLT, reduceLeDiff, reduceSub, reducePow, reduceMul, reduceToNat, reduceLE, reduceEq, Int.reduceLT, Int.reduceBEq, Int.reduceBNe]
  · have hs : findF fs ride = some fs[k] := find_some hltk ik h
    rw [hs]
    simp only [List.length_map, map_getD hltk, hltk, findP, FareS.pv, AW, reduceAdd, reduceCtorEq, reduceEqDiff, ↓reduceIte, reduceLT, reduceLeDiff, reduceSub, reducePow, reduceMul, reduceToNat, reduceLE, reduceEq, Int.reduceLT, Int.reduceBEq, Int.reduceBNe]
set_option maxHeartbeats 2000000 in
theorem ramount_g (fs : List FareS) (ride i : Int) : Good Tryd.prog 54 [.sl (fs.map FareS.pv), intP ride, intP i] (amtP (itemF fs ride i)) := by
  have gf := rfound_g fs ride
  refine good54 (by simp) ?_
  simp only [ac54, intP, AW, reduceAdd, reduceCtorEq, reduceEqDiff, ↓reduceIte, reduceLT, reduceLeDiff, reduceSub, reducePow, reduceMul, reduceToNat, reduceLE, reduceEq, Int.reduceLT, Int.reduceBEq, Int.reduceBNe]
  cases hf : findF fs ride with
  | none =>
    rw [hf] at gf
    have hi : itemF fs ride i = none := by unfold itemF; rw [hf]
    rw [hi]
    simp only [findP, zeroF, FareS.pv, List.map_nil, AW, reduceAdd, reduceCtorEq, reduceEqDiff, ↓reduceIte, reduceLT, reduceLeDiff, reduceSub, reducePow, reduceMul, reduceToNat, reduceLE, reduceEq, Int.reduceLT, Int.reduceBEq, Int.reduceBNe] at gf
    refine ops_call (gf) (by simp only [intP, AW, reduceAdd, reduceCtorEq, reduceEqDiff, ↓reduceIte, reduceLT, reduceLeDiff, reduceSub, reducePow, reduceMul, reduceToNat, reduceLE, reduceEq, Int.reduceLT, Int.reduceBEq, Int.reduceBNe]) ?_; simp only [intP, AW, reduceAdd, reduceCtorEq, reduceEqDiff, ↓reduceIte, reduceLT, reduceLeDiff, reduceSub, reducePow, reduceMul, reduceToNat, reduceLE, reduceEq, Int.reduceLT, Int.reduceBEq, Int.reduceBNe]
    simp only [amtP, intP, AW, reduceAdd, reduceCtorEq, reduceEqDiff, ↓reduceIte, reduceLT, reduceLeDiff, reduceSub, reducePow, reduceMul, reduceToNat, reduceLE, reduceEq, Int.reduceLT, Int.reduceBEq, Int.reduceBNe]
  | some f =>
    rw [hf] at gf
    simp only [findP, FareS.pv, AW, reduceAdd, reduceCtorEq, reduceEqDiff, ↓reduceIte, reduceLT, reduceLeDiff, reduceSub, reducePow, reduceMul, reduceToNat, reduceLE, reduceEq, Int.reduceLT, Int.reduceBEq, Int.reduceBNe] at gf
    refine ops_call (gf) (by simp only [intP, AW, reduceAdd, reduceCtorEq, reduceEqDiff, ↓reduceIte, reduceLT, reduceLeDiff, reduceSub, reducePow, reduceMul, reduceToNat, reduceLE, reduceEq, Int.reduceLT, Int.reduceBEq, Int.reduceBNe]) ?_; simp only [intP, AW, reduceAdd, reduceCtorEq, reduceEqDiff, ↓reduceIte, reduceLT, reduceLeDiff, reduceSub, reducePow, reduceMul, reduceToNat, reduceLE, reduceEq, Int.reduceLT, Int.reduceBEq, Int.reduceBNe]
    cases h1 : decide (i < 0)
    · have h1' := of_decide_eq_false h1
      cases h2 : decide ((f.items.length : Int) ≤ i)
      · have h2' := of_decide_eq_false h2
        have hlt : i.toNat < f.items.length := by omega
        have hi : itemF fs ride i = some (f, f.items[i.toNat]) := by
          unfold itemF; rw [hf]; simp only
          rw [dif_pos ⟨by omega, hlt⟩]
        rw [hi]
        obtain ⟨n, hn⟩ : ∃ n : Nat, (n : Int) = i := ⟨i.toNat, by omega⟩
        subst hn
        rw [Int.toNat_natCast] at hlt
        simp only [List.length_map, h2, map_getD hlt, hlt, ItemS.pv, ItemS.vals, List.map_cons, List.map_nil, AW, reduceAdd, reduceCtorEq, reduceEqDiff, ↓reduceIte, reduceLT, reduceLeDiff, reduceSub, reducePow, reduceMul, reduceToNat, reduceLE, reduceEq, Int.reduceLT, Int.reduceBEq, Int.reduceBNe]
        simp only [amtP, intP, Int.toNat_natCast, AW, reduceAdd, reduceCtorEq, reduceEqDiff, ↓reduceIte, reduceLT, reduceLeDiff, reduceSub, reducePow, reduceMul, reduceToNat, reduceLE, reduceEq, Int.reduceLT, Int.reduceBEq, Int.reduceBNe]
      · have h2' := of_decide_eq_true h2
        have hi : itemF fs ride i = none := by
          unfold itemF; rw [hf]; simp only
          rw [dif_neg (fun h => by omega)]
        rw [hi]
        simp only [List.length_map, h2, amtP, intP, AW, reduceAdd, reduceCtorEq, reduceEqDiff, ↓reduceIte, reduceLT, reduceLeDiff, reduceSub, reducePow, reduceMul, reduceToNat, reduceLE, reduceEq, Int.reduceLT, Int.reduceBEq, Int.reduceBNe]
    · have h1' := of_decide_eq_true h1
      have hi : itemF fs ride i = none := by
        unfold itemF; rw [hf]; simp only
        rw [dif_neg (fun h => by omega)]
      rw [hi]
      simp only [amtP, intP, AW, reduceAdd, reduceCtorEq, reduceEqDiff, ↓reduceIte, reduceLT, reduceLeDiff, reduceSub, reducePow, reduceMul, reduceToNat, reduceLE, reduceEq, Int.reduceLT, Int.reduceBEq, Int.reduceBNe]
set_option maxHeartbeats 2000000 in
theorem rone_g (fs : List FareS) (r : RefS) : Good Tryd.prog 47 [.sl (fs.map FareS.pv), r.pv] (.sc (.int .i64 (oneL fs r))) := by
  have gi := ramount_g fs r.ride r.item
  refine good47 (by simp) ?_
  simp only [ac47, RefS.pv, RefS.vals, List.map_cons, List.map_nil, AW, reduceAdd, reduceCtorEq, reduceEqDiff, ↓reduceIte, reduceLT, reduceLeDiff, reduceSub, reducePow, reduceMul, reduceToNat, reduceLE, reduceEq, Int.reduceLT, Int.reduceBEq, Int.reduceBNe]
  cases h1 : decide (r.id < 1)
  rotate_left
  · rw [one_bad (by unfold oneBad; rw [h1]; rfl)]
    simp only [AW, reduceAdd, reduceCtorEq, reduceEqDiff, ↓reduceIte, reduceLT, reduceLeDiff, reduceSub, reducePow, reduceMul, reduceToNat, reduceLE, reduceEq, Int.reduceLT, Int.reduceBEq, Int.reduceBNe]
  cases h2 : decide ((1000000 : Int) < r.id)
  rotate_left
  · rw [one_bad (by unfold oneBad; rw [h2]; simp)]
    simp only [h2, AW, reduceAdd, reduceCtorEq, reduceEqDiff, ↓reduceIte, reduceLT, reduceLeDiff, reduceSub, reducePow, reduceMul, reduceToNat, reduceLE, reduceEq, Int.reduceLT, Int.reduceBEq, Int.reduceBNe]
  cases h3 : decide (r.amount < 1)
  rotate_left
  · rw [one_bad (by unfold oneBad; rw [h3]; simp)]
    simp only [h2, h3, AW, reduceAdd, reduceCtorEq, reduceEqDiff, ↓reduceIte, reduceLT, reduceLeDiff, reduceSub, reducePow, reduceMul, reduceToNat, reduceLE, reduceEq, Int.reduceLT, Int.reduceBEq, Int.reduceBNe]
  cases h4 : decide ((1000000000000 : Int) < r.amount)
  rotate_left
  · rw [one_bad (by unfold oneBad; rw [h4]; simp)]
    simp only [h2, h3, h4, AW, reduceAdd, reduceCtorEq, reduceEqDiff, ↓reduceIte, reduceLT, reduceLeDiff, reduceSub, reducePow, reduceMul, reduceToNat, reduceLE, reduceEq, Int.reduceLT, Int.reduceBEq, Int.reduceBNe]
  have hb : oneBad r = false := by unfold oneBad; rw [h1, h2, h3, h4]; rfl
  simp only [h2, h3, h4, AW, reduceAdd, reduceCtorEq, reduceEqDiff, ↓reduceIte, reduceLT, reduceLeDiff, reduceSub, reducePow, reduceMul, reduceToNat, reduceLE, reduceEq, Int.reduceLT, Int.reduceBEq, Int.reduceBNe]
  cases hi : itemF fs r.ride r.item with
  | none =>
    have ho : oneL fs r = 7 := by unfold oneL; rw [if_neg (by rw [hb]; simp), hi]
    rw [ho]
    rw [hi] at gi
    simp only [amtP, intP, AW, reduceAdd, reduceCtorEq, reduceEqDiff, ↓reduceIte, reduceLT, reduceLeDiff, reduceSub, reducePow, reduceMul, reduceToNat, reduceLE, reduceEq, Int.reduceLT, Int.reduceBEq, Int.reduceBNe] at gi
    refine ops_call (gi) (by simp only [intP, AW, reduceAdd, reduceCtorEq, reduceEqDiff, ↓reduceIte, reduceLT, reduceLeDiff, reduceSub, reducePow, reduceMul, reduceToNat, reduceLE, reduceEq, Int.reduceLT, Int.reduceBEq, Int.reduceBNe]) ?_; simp only [intP, AW, reduceAdd, reduceCtorEq, reduceEqDiff, ↓reduceIte, reduceLT, reduceLeDiff, reduceSub, reducePow, reduceMul, reduceToNat, reduceLE, reduceEq, Int.reduceLT, Int.reduceBEq, Int.reduceBNe]
  | some fx =>
    obtain ⟨f, x⟩ := fx
    have ho : oneL fs r = if x.amount ≤ 0 then 27 else 0 := by unfold oneL; rw [if_neg (by rw [hb]; simp), hi]
    rw [ho]
    rw [hi] at gi
    simp only [amtP, intP, AW, reduceAdd, reduceCtorEq, reduceEqDiff, ↓reduceIte, reduceLT, reduceLeDiff, reduceSub, reducePow, reduceMul, reduceToNat, reduceLE, reduceEq, Int.reduceLT, Int.reduceBEq, Int.reduceBNe] at gi
    refine ops_call (gi) (by simp only [intP, AW, reduceAdd, reduceCtorEq, reduceEqDiff, ↓reduceIte, reduceLT, reduceLeDiff, reduceSub, reducePow, reduceMul, reduceToNat, reduceLE, reduceEq, Int.reduceLT, Int.reduceBEq, Int.reduceBNe]) ?_; simp only [intP, AW, reduceAdd, reduceCtorEq, reduceEqDiff, ↓reduceIte, reduceLT, reduceLeDiff, reduceSub, reducePow, reduceMul, reduceToNat, reduceLE, reduceEq, Int.reduceLT, Int.reduceBEq, Int.reduceBNe]
    cases h5 : decide (x.amount ≤ 0)
    · have h5' := of_decide_eq_false h5
      simp only [h5', AW, reduceAdd, reduceCtorEq, reduceEqDiff, ↓reduceIte, reduceLT, reduceLeDiff, reduceSub, reducePow, reduceMul, reduceToNat, reduceLE, reduceEq, Int.reduceLT, Int.reduceBEq, Int.reduceBNe]
    · have h5' := of_decide_eq_true h5
      simp only [h5', AW, reduceAdd, reduceCtorEq, reduceEqDiff, ↓reduceIte, reduceLT, reduceLeDiff, reduceSub, reducePow, reduceMul, reduceToNat, reduceLE, reduceEq, Int.reduceLT, Int.reduceBEq, Int.reduceBNe]
set_option maxHeartbeats 2000000 in
theorem spent_g (l : List RefS) (ride item : Int) (hA : amtOk l) (hl : l.length ≤ 512) : Good Tryd.prog 49 [.sl (l.map RefS.pv), intP ride, intP item] (.tup [intP (sI l ride item), intP (sR l ride)]) := by
  have hlen : l.length ≤ maxLen := by unfold maxLen; omega
  refine good49 (by simp) ?_
  simp only [ac49, intP, AW, reduceAdd, reduceCtorEq, reduceEqDiff, ↓reduceIte, reduceLT, reduceLeDiff, reduceSub, reducePow, reduceMul, reduceToNat, reduceLE, reduceEq, Int.reduceLT, Int.reduceBEq, Int.reduceBNe]
  refine run_loop (ι := Nat) (fun k => ⟨[(0, .sl (l.map RefS.pv)), (1, .sc (.int .i64 ride)), (2, .sc (.int .i64 item)), (8, .sc (.int .i64 (sI (l.take k) ride item))), (9, .sc (.int .i64 (sR (l.take k) ride))), (10, .sc (.int .i64 (k : Int)))], [], 5, 47⟩) (fun k => k ≤ l.length) (fun k => l.length - k) 5 (fun _ => rfl) 0 (by simp only [LW, Nat.reduceMod, Nat.reduceDiv, Int.natCast_zero, List.take_zero, sI, sR, List.filter_nil, List.map_nil, List.sum_nil, AW, reduceAdd, reduceCtorEq, reduceEqDiff, ↓reduceIte, reduceLT, reduceLeDiff, reduceSub, reducePow, reduceMul, reduceToNat, reduceLE, reduceEq, Int.reduceLT, Int.reduceBEq, Int.reduceBNe]) (Nat.zero_le _) (fun k hk => ?_)
  have gk := hk
  by_cases hltk : k < l.length
  rotate_left
  · have dk : decide ((k : Int) < ((l.length : Nat) : Int)) = false := by rw [decide_eq_false_iff_not]; exact fun h => hltk (Int.ofNat_lt.1 h)
    have ek : k = l.length := Nat.le_antisymm gk (Nat.le_of_not_lt hltk)
    subst ek
    simp only [dk, List.length_map, List.take_length, AW, reduceAdd, reduceCtorEq, reduceEqDiff, ↓reduceIte, reduceLT, reduceLeDiff, reduceSub, reducePow, reduceMul, reduceToNat, reduceLE, reduceEq, Int.reduceLT, Int.reduceBEq, Int.reduceBNe]
  have dk : decide ((k : Int) < ((l.length : Nat) : Int)) = true := by rw [decide_eq_true_eq]; exact Int.ofNat_lt.2 hltk
  have es : l.take (k + 1) = l.take k ++ [l[k]] := List.take_succ_eq_append_getElem hltk
  have n1 := sI_snoc (l.take k) l[k] ride item
  have n2 := sR_snoc (l.take k) l[k] ride
  rw [← es] at n1 n2
  have ha := hA l[k] (List.getElem_mem hltk)
  have b1 := amt_sum (fun x => x.ride == ride && x.item == item) (amtOk_take hA k)
  have b2 := amt_sum (fun x => x.ride == ride) (amtOk_take hA k)
  have b3 : (l.take k).length ≤ 512 := by rw [List.length_take]; omega
  change 0 ≤ sI (l.take k) ride item ∧ sI (l.take k) ride item ≤ _ at b1
  change 0 ≤ sR (l.take k) ride ∧ sR (l.take k) ride ≤ _ at b2
  have w1 : IntKind.i64.wrap (sI (l.take k) ride item + l[k].amount) = sI (l.take k) ride item + l[k].amount := wrap_id ⟨by omega, by omega⟩
  have w2 : IntKind.i64.wrap (sR (l.take k) ride + l[k].amount) = sR (l.take k) ride + l[k].amount := wrap_id ⟨by omega, by omega⟩
  simp only [dk, List.length_map, map_getD hltk, hltk, RefS.pv, RefS.vals, List.map_cons, List.map_nil, AW, reduceAdd, reduceCtorEq, reduceEqDiff, ↓reduceIte, reduceLT, reduceLeDiff, reduceSub, reducePow, reduceMul, reduceToNat, reduceLE, reduceEq, Int.reduceLT, Int.reduceBEq, Int.reduceBNe]
  cases h1 : (l[k].ride == ride)
  · rw [h1] at n1 n2
    simp only [Bool.false_and, Bool.false_eq_true, if_false, Int.add_zero] at n1 n2
    simp only [AW, reduceAdd, reduceCtorEq, reduceEqDiff, ↓reduceIte, reduceLT, reduceLeDiff, reduceSub, reducePow, reduceMul, reduceToNat, reduceLE, reduceEq, Int.reduceLT, Int.reduceBEq, Int.reduceBNe]
    (try simp only [wrap_succ hltk hlen, AW, reduceAdd, reduceCtorEq, reduceEqDiff, ↓reduceIte, reduceLT, reduceLeDiff, reduceSub, reducePow, reduceMul, reduceToNat, reduceLE, reduceEq, Int.reduceLT, Int.reduceBEq, Int.reduceBNe])
    refine ⟨k + 1, hltk, ?_, meas_lt hltk⟩
    simp only [LW, Nat.reduceMod, Nat.reduceDiv, n1, n2, AW, reduceAdd, reduceCtorEq, reduceEqDiff, ↓reduceIte, reduceLT, reduceLeDiff, reduceSub, reducePow, reduceMul, reduceToNat, reduceLE, reduceEq, Int.reduceLT, Int.reduceBEq, Int.reduceBNe]
  · rw [h1] at n1 n2
    simp only [Bool.true_and, if_true] at n1 n2
    simp only [List.length_map, map_getD hltk, hltk, RefS.pv, RefS.vals, List.map_cons, List.map_nil, w2, AW, reduceAdd, reduceCtorEq, reduceEqDiff, ↓reduceIte, reduceLT, reduceLeDiff, reduceSub, reducePow, reduceMul, reduceToNat, reduceLE, reduceEq, Int.reduceLT, Int.reduceBEq, Int.reduceBNe]
    cases h2 : (l[k].item == item)
    · rw [h2] at n1
      simp only [Bool.false_eq_true, if_false, Int.add_zero] at n1
      simp only [AW, reduceAdd, reduceCtorEq, reduceEqDiff, ↓reduceIte, reduceLT, reduceLeDiff, reduceSub, reducePow, reduceMul, reduceToNat, reduceLE, reduceEq, Int.reduceLT, Int.reduceBEq, Int.reduceBNe]
      (try simp only [wrap_succ hltk hlen, AW, reduceAdd, reduceCtorEq, reduceEqDiff, ↓reduceIte, reduceLT, reduceLeDiff, reduceSub, reducePow, reduceMul, reduceToNat, reduceLE, reduceEq, Int.reduceLT, Int.reduceBEq, Int.reduceBNe])
      refine ⟨k + 1, hltk, ?_, meas_lt hltk⟩
      simp only [LW, Nat.reduceMod, Nat.reduceDiv, n1, n2, AW, reduceAdd, reduceCtorEq, reduceEqDiff, ↓reduceIte, reduceLT, reduceLeDiff, reduceSub, reducePow, reduceMul, reduceToNat, reduceLE, reduceEq, Int.reduceLT, Int.reduceBEq, Int.reduceBNe]
    · rw [h2] at n1
      simp only [if_true] at n1
      simp only [List.length_map, map_getD hltk, hltk, RefS.pv, RefS.vals, List.map_cons, List.map_nil, w1, AW, reduceAdd, reduceCtorEq, reduceEqDiff, ↓reduceIte, reduceLT, reduceLeDiff, reduceSub, reducePow, reduceMul, reduceToNat, reduceLE, reduceEq, Int.reduceLT, Int.reduceBEq, Int.reduceBNe]
      (try simp only [wrap_succ hltk hlen, AW, reduceAdd, reduceCtorEq, reduceEqDiff, ↓reduceIte, reduceLT, reduceLeDiff, reduceSub, reducePow, reduceMul, reduceToNat, reduceLE, reduceEq, Int.reduceLT, Int.reduceBEq, Int.reduceBNe])
      refine ⟨k + 1, hltk, ?_, meas_lt hltk⟩
      simp only [LW, Nat.reduceMod, Nat.reduceDiv, n1, n2, AW, reduceAdd, reduceCtorEq, reduceEqDiff, ↓reduceIte, reduceLT, reduceLeDiff, reduceSub, reducePow, reduceMul, reduceToNat, reduceLE, reduceEq, Int.reduceLT, Int.reduceBEq, Int.reduceBNe]


end Go.Proofs.YtaejaogidkgalaaDoor
