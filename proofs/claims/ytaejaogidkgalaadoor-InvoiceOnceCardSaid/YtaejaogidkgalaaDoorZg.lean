/-
  Invoices: ranges, sums of items, whether a ride is met twice.
-/
import Derived.Test.YtaejaogidkgalaaDoorZf
import Derived.Test.YtaejaogidkgalaaDoorXb
namespace Go.Proofs.YtaejaogidkgalaaDoor
open Go.RowKit
open Nat (reduceAdd reduceEqDiff reduceLT reduceLeDiff reduceSub reducePow reduceMul)
open Int (reduceToNat reduceLE reduceEq)
set_option linter.unusedVariables false
set_option linter.unusedSimpArgs false
set_option linter.unnecessarySimpa false

def rgB (id rider : Int) (w : WinS) : Bool := !(decide (id < 1) || decide (1000000 < id) || decide (rider < 0) || decide (128 ≤ rider) || decide (w.from_ < 0) || decide (w.to_ < w.from_) || decide (4294944000 < w.to_))
def hasF (fs : List FareS) (ride : Int) : Bool := fs.any fun f => f.ride == ride
def amtIn (x : ItemS) : Bool := decide (-1000000000000 ≤ x.amount) && decide (x.amount ≤ 1000000000000)
def sumIt (l : List ItemS) : Int := (l.map (·.amount)).sum
def fsum (l : List ItemS) : PV := if 16 < l.length then .tup [intP 0, intP 8] else if l.all amtIn = true then .tup [intP (sumIt l), intP 0] else .tup [intP 0, intP 1]
def addedB (f : FareS) : Bool := decide (f.items.length ≤ 16) && f.items.all amtIn && decide (sumIt f.items = f.total)
theorem amtIn_iff {x : ItemS} : amtIn x = true ↔ -1000000000000 ≤ x.amount ∧ x.amount ≤ 1000000000000 := by simp [amtIn]
theorem all_no {α : Type} {p : α → Bool} {l : List α} {k : Nat} (hk : k < l.length) (h : p l[k] = false) : l.all p = false := by
  rw [Bool.eq_false_iff]; intro h2
  rw [List.all_eq_true.1 h2 _ (List.getElem_mem hk)] at h; cases h
theorem all_yes {α : Type} {p : α → Bool} {l : List α} (h : ∀ j (hj : j < l.length), p l[j] = true) : l.all p = true := List.all_eq_true.2 (fun x hx => by
  obtain ⟨j, hj, rfl⟩ := List.getElem_of_mem hx
  exact h j hj)
theorem sumIt_bnd {l : List ItemS} : ∀ k, k ≤ l.length → (∀ j (hj : j < l.length), j < k → amtIn l[j] = true) → -(k * 1000000000000 : Int) ≤ sumIt (l.take k) ∧ sumIt (l.take k) ≤ k * 1000000000000
  | 0, _, _ => by simp [sumIt]
  | k + 1, hk, h => by
    have ih := sumIt_bnd k (by omega) (fun j hj hjk => h j hj (by omega))
    have hv := amtIn_iff.1 (h k (by omega) (by omega))
    unfold sumIt at *
    rw [List.take_succ_eq_append_getElem (by omega), List.map_append, List.sum_append]
    simp only [List.map_cons, List.map_nil, List.sum_cons, List.sum_nil]; omega
theorem sumIt_succ {l : List ItemS} {k : Nat} (h : k < l.length) : sumIt (l.take (k + 1)) = sumIt (l.take k) + l[k].amount := by
  unfold sumIt
  rw [List.take_succ_eq_append_getElem h, List.map_append, List.sum_append]; simp
theorem once_not {l : List FareS} {k : Nat} (h : k < l.length) (ha : hasF (l.take k) l[k].ride = true) : ¬ (l.map (·.ride)).Nodup := by
  intro hn
  obtain ⟨r, hr, he⟩ := List.any_eq_true.1 ha
  obtain ⟨j, hj, rfl⟩ := List.getElem_of_mem hr
  rw [List.length_take] at hj
  rw [List.getElem_take] at he
  have := (List.nodup_iff_pairwise_ne.1 hn)
  rw [List.pairwise_iff_getElem] at this
  have h2 := this j k (by rw [List.length_map]; omega) (by rw [List.length_map]; omega) (by omega)
  rw [List.getElem_map, List.getElem_map] at h2
  exact h2 (beq_iff_eq.1 he)
theorem once_ok {l : List FareS} (h : ∀ k (hk : k < l.length), hasF (l.take k) l[k].ride = false) : (l.map (·.ride)).Nodup := by
  rw [List.nodup_iff_pairwise_ne, List.pairwise_iff_getElem]
  intro i j hi hj hij he
  rw [List.length_map] at hi hj
  rw [List.getElem_map, List.getElem_map] at he
  have := h j hj
  unfold hasF at this
  rw [List.any_eq_false] at this
  exact this l[i] (List.mem_iff_getElem.2 ⟨i, by rw [List.length_take]; omega, by rw [List.getElem_take]⟩) (by rw [he]; simp)
def rideM (l : List FareS) (k : Value) : Option Value := match k with
  | .int .i64 x => if hasF l x = true then some (.bool true) else none
  | _ => none
theorem rideM_nil : rideM [] = fun _ => none := by funext k; unfold rideM; split <;> rfl
theorem hasF_snoc (l : List FareS) (f : FareS) (x : Int) : hasF (l ++ [f]) x = (hasF l x || f.ride == x) := by
  unfold hasF; rw [List.any_append]; simp
theorem rideM_snoc (l : List FareS) (f : FareS) : rideM (l ++ [f]) = upd (rideM l) (.int .i64 f.ride) (.bool true) := by
  funext k
  by_cases e : k = .int .i64 f.ride
  · subst e
    rw [upd_same]
    show (if _ then _ else _) = _
    rw [if_pos (by rw [hasF_snoc]; simp)]
  · rw [upd_other _ _ e]
    unfold rideM
    split
    · rename_i x
      have hne : (f.ride == x) = false := by
        rw [Bool.eq_false_iff]; intro h2
        exact e (by rw [beq_iff_eq.1 h2])
      rw [hasF_snoc, hne, Bool.or_false]
    · rfl
theorem rideM_get (l : List FareS) (x : Int) : (rideM l (.int .i64 x)).getD (.bool false) = .bool (hasF l x) := by
  show (if _ then _ else _ : Option Value).getD _ = _
  cases h : hasF l x <;> rfl
set_option maxHeartbeats 2000000 in
theorem head_g (id rider : Int) (w : WinS) : Good Tryd.prog 37 [intP id, intP rider, w.pv] (.sc (.int .i64 (if rgB id rider w = true then 0 else 1))) := by
  refine good37 (by simp) ?_
  simp only [ac37, intP, WinS.pv, WinS.vals, List.map_cons, List.map_nil, AW, reduceAdd, reduceCtorEq, reduceEqDiff, ↓reduceIte, reduceLT, reduceLeDiff, reduceSub, reducePow, reduceMul, reduceToNat, reduceLE, reduceEq, Int.reduceLT, Int.reduceBEq, Int.reduceBNe]
  cases h0 : decide (id < 1)
  rotate_left
  · rw [show rgB id rider w = false by unfold rgB; rw [h0]; simp]
    simp only [h0, AW, reduceAdd, reduceCtorEq, reduceEqDiff, ↓reduceIte, reduceLT, reduceLeDiff, reduceSub, reducePow, reduceMul, reduceToNat, reduceLE, reduceEq, Int.reduceLT, Int.reduceBEq, Int.reduceBNe]
  cases h1 : decide ((1000000 : Int) < id)
  rotate_left
  · rw [show rgB id rider w = false by unfold rgB; rw [h1]; simp]
    simp only [h0, h1, AW, reduceAdd, reduceCtorEq, reduceEqDiff, ↓reduceIte, reduceLT, reduceLeDiff, reduceSub, reducePow, reduceMul, reduceToNat, reduceLE, reduceEq, Int.reduceLT, Int.reduceBEq, Int.reduceBNe]
  cases h2 : decide (rider < 0)
  rotate_left
  · rw [show rgB id rider w = false by unfold rgB; rw [h2]; simp]
    simp only [h0, h1, h2, AW, reduceAdd, reduceCtorEq, reduceEqDiff, ↓reduceIte, reduceLT, reduceLeDiff, reduceSub, reducePow, reduceMul, reduceToNat, reduceLE, reduceEq, Int.reduceLT, Int.reduceBEq, Int.reduceBNe]
  cases h3 : decide ((128 : Int) ≤ rider)
  rotate_left
  · rw [show rgB id rider w = false by unfold rgB; rw [h3]; simp]
    simp only [h0, h1, h2, h3, AW, reduceAdd, reduceCtorEq, reduceEqDiff, ↓reduceIte, reduceLT, reduceLeDiff, reduceSub, reducePow, reduceMul, reduceToNat, reduceLE, reduceEq, Int.reduceLT, Int.reduceBEq, Int.reduceBNe]
  cases h4 : decide (w.from_ < 0)
  rotate_left
  · rw [show rgB id rider w = false by unfold rgB; rw [h4]; simp]
    simp only [h0, h1, h2, h3, h4, AW, reduceAdd, reduceCtorEq, reduceEqDiff, ↓reduceIte, reduceLT, reduceLeDiff, reduceSub, reducePow, reduceMul, reduceToNat, reduceLE, reduceEq, Int.reduceLT, Int.reduceBEq, Int.reduceBNe]
  cases h5 : decide (w.to_ < w.from_)
  rotate_left
  · rw [show rgB id rider w = false by unfold rgB; rw [h5]; simp]
    simp only [h0, h1, h2, h3, h4, h5, AW, reduceAdd, reduceCtorEq, reduceEqDiff, ↓reduceIte, reduceLT, reduceLeDiff, reduceSub, reducePow, reduceMul, reduceToNat, reduceLE, reduceEq, Int.reduceLT, Int.reduceBEq, Int.reduceBNe]
  cases h6 : decide ((4294944000 : Int) < w.to_)
  rotate_left
  · rw [show rgB id rider w = false by unfold rgB; rw [h6]; simp]
    simp only [h0, h1, h2, h3, h4, h5, h6, AW, reduceAdd, reduceCtorEq, reduceEqDiff, ↓reduceIte, reduceLT, reduceLeDiff, reduceSub, reducePow, reduceMul, reduceToNat, reduceLE, reduceEq, Int.reduceLT, Int.reduceBEq, Int.reduceBNe]
  rw [show rgB id rider w = true by unfold rgB; rw [h0, h1, h2, h3, h4, h5, h6]; rfl]
  simp only [h0, h1, h2, h3, h4, h5, h6, AW, reduceAdd, reduceCtorEq, reduceEqDiff, ↓reduceIte, reduceLT, reduceLeDiff, reduceSub, reducePow, reduceMul, reduceToNat, reduceLE, reduceEq, Int.reduceLT, Int.reduceBEq, Int.reduceBNe]
set_option maxHeartbeats 2000000 in
theorem ranged_g (id rider : Int) (w : WinS) : Good Tryd.prog 28 [intP id, intP rider, w.pv] (.sc (.bool (rgB id rider w))) := by
  refine good28 (by simp) ?_
  simp only [ac28, intP, WinS.pv, WinS.vals, List.map_cons, List.map_nil, AW, reduceAdd, reduceCtorEq, reduceEqDiff, ↓reduceIte, reduceLT, reduceLeDiff, reduceSub, reducePow, reduceMul, reduceToNat, reduceLE, reduceEq, Int.reduceLT, Int.reduceBEq, Int.reduceBNe]
  cases h0 : decide (id < 1)
  rotate_left
  · have e0 : decide ((1 : Int) ≤ id) = false := by rw [decide_eq_false_iff_not]; have := of_decide_eq_true h0; omega
    rw [show rgB id rider w = false by unfold rgB; rw [h0]; simp]
    simp only [e0, AW, reduceAdd, reduceCtorEq, reduceEqDiff, ↓reduceIte, reduceLT, reduceLeDiff, reduceSub, reducePow, reduceMul, reduceToNat, reduceLE, reduceEq, Int.reduceLT, Int.reduceBEq, Int.reduceBNe]
  have e0 : decide ((1 : Int) ≤ id) = true := by rw [decide_eq_true_eq]; have := of_decide_eq_false h0; omega
  cases h1 : decide ((1000000 : Int) < id)
  rotate_left
  · have e1 : decide (id ≤ 1000000) = false := by rw [decide_eq_false_iff_not]; have := of_decide_eq_true h1; omega
    rw [show rgB id rider w = false by unfold rgB; rw [h1]; simp]
    simp only [e0, e1, AW, reduceAdd, reduceCtorEq, reduceEqDiff, ↓reduceIte, reduceLT, reduceLeDiff, reduceSub, reducePow, reduceMul, reduceToNat, reduceLE, reduceEq, Int.reduceLT, Int.reduceBEq, Int.reduceBNe]
  have e1 : decide (id ≤ 1000000) = true := by rw [decide_eq_true_eq]; have := of_decide_eq_false h1; omega
  cases h2 : decide (rider < 0)
  rotate_left
  · have e2 : decide ((0 : Int) ≤ rider) = false := by rw [decide_eq_false_iff_not]; have := of_decide_eq_true h2; omega
    rw [show rgB id rider w = false by unfold rgB; rw [h2]; simp]
    simp only [e0, e1, e2, AW, reduceAdd, reduceCtorEq, reduceEqDiff, ↓reduceIte, reduceLT, reduceLeDiff, reduceSub, reducePow, reduceMul, reduceToNat, reduceLE, reduceEq, Int.reduceLT, Int.reduceBEq, Int.reduceBNe]
  have e2 : decide ((0 : Int) ≤ rider) = true := by rw [decide_eq_true_eq]; have := of_decide_eq_false h2; omega
  cases h3 : decide ((128 : Int) ≤ rider)
  rotate_left
  · have e3 : decide (rider < 128) = false := by rw [decide_eq_false_iff_not]; have := of_decide_eq_true h3; omega
    rw [show rgB id rider w = false by unfold rgB; rw [h3]; simp]
    simp only [e0, e1, e2, e3, AW, reduceAdd, reduceCtorEq, reduceEqDiff, ↓reduceIte, reduceLT, reduceLeDiff, reduceSub, reducePow, reduceMul, reduceToNat, reduceLE, reduceEq, Int.reduceLT, Int.reduceBEq, Int.reduceBNe]
  have e3 : decide (rider < 128) = true := by rw [decide_eq_true_eq]; have := of_decide_eq_false h3; omega
  cases h4 : decide (w.from_ < 0)
  rotate_left
  · have e4 : decide ((0 : Int) ≤ w.from_) = false := by rw [decide_eq_false_iff_not]; have := of_decide_eq_true h4; omega
    rw [show rgB id rider w = false by unfold rgB; rw [h4]; simp]
    simp only [e0, e1, e2, e3, e4, AW, reduceAdd, reduceCtorEq, reduceEqDiff, ↓reduceIte, reduceLT, reduceLeDiff, reduceSub, reducePow, reduceMul, reduceToNat, reduceLE, reduceEq, Int.reduceLT, Int.reduceBEq, Int.reduceBNe]
  have e4 : decide ((0 : Int) ≤ w.from_) = true := by rw [decide_eq_true_eq]; have := of_decide_eq_false h4; omega
  cases h5 : decide (w.to_ < w.from_)
  rotate_left
  · have e5 : decide (w.from_ ≤ w.to_) = false := by rw [decide_eq_false_iff_not]; have := of_decide_eq_true h5; omega
    rw [show rgB id rider w = false by unfold rgB; rw [h5]; simp]
    simp only [e0, e1, e2, e3, e4, e5, AW, reduceAdd, reduceCtorEq, reduceEqDiff, ↓reduceIte, reduceLT, reduceLeDiff, reduceSub, reducePow, reduceMul, reduceToNat, reduceLE, reduceEq, Int.reduceLT, Int.reduceBEq, Int.reduceBNe]
  have e5 : decide (w.from_ ≤ w.to_) = true := by rw [decide_eq_true_eq]; have := of_decide_eq_false h5; omega
  cases h6 : decide ((4294944000 : Int) < w.to_)
  rotate_left
  · have e6 : decide (w.to_ ≤ 4294944000) = false := by rw [decide_eq_false_iff_not]; have := of_decide_eq_true h6; omega
    rw [show rgB id rider w = false by unfold rgB; rw [h6]; simp]
    simp only [e0, e1, e2, e3, e4, e5, e6, AW, reduceAdd, reduceCtorEq, reduceEqDiff, ↓reduceIte, reduceLT, reduceLeDiff, reduceSub, reducePow, reduceMul, reduceToNat, reduceLE, reduceEq, Int.reduceLT, Int.reduceBEq, Int.reduceBNe]
  have e6 : decide (w.to_ ≤ 4294944000) = true := by rw [decide_eq_true_eq]; have := of_decide_eq_false h6; omega
  rw [show rgB id rider w = true by unfold rgB; rw [h0, h1, h2, h3, h4, h5, h6]; rfl]
  simp only [e0, e1, e2, e3, e4, e5, e6, AW, reduceAdd, reduceCtorEq, reduceEqDiff, ↓reduceIte, reduceLT, reduceLeDiff, reduceSub, reducePow, reduceMul, reduceToNat, reduceLE, reduceEq, Int.reduceLT, Int.reduceBEq, Int.reduceBNe]
set_option maxHeartbeats 2000000 in
theorem has_g (fs : List FareS) (ride : Int) : Good Tryd.prog 30 [.sl (fs.map FareS.pv), intP ride] (.sc (.bool (hasF fs ride))) := by
  refine .len (es := fs.map FareS.pv) (by simp) (fun hlen => ?_)
  rw [List.length_map] at hlen
  refine good30 (by simp) ?_
  simp only [ac30, intP, AW, reduceAdd, reduceCtorEq, reduceEqDiff, ↓reduceIte, reduceLT, reduceLeDiff, reduceSub, reducePow, reduceMul, reduceToNat, reduceLE, reduceEq, Int.reduceLT, Int.reduceBEq, Int.reduceBNe]
  refine run_loop (ι := Nat) (fun k => ⟨[(0, .sl (fs.map FareS.pv)), (1, .sc (.int .i64 ride)), (5, .sc (.int .i64 (k : Int)))], [], 2, 19⟩) (fun k => k ≤ fs.length ∧ (∀ j (hj : j < fs.length), j < k → (fs[j].ride == ride) = false)) (fun k => fs.length - k) 2 (fun _ => rfl) 0 (by simp only [LW, Nat.reduceMod, Nat.reduceDiv, Int.natCast_zero, AW, reduceAdd, reduceCtorEq, reduceEqDiff, ↓reduceIte, reduceLT, reduceLeDiff, reduceSub, reducePow, reduceMul, reduceToNat, reduceLE, reduceEq, Int.reduceLT, Int.reduceBEq, Int.reduceBNe]) ⟨Nat.zero_le _, nofun⟩ (fun k hk => ?_)
  obtain ⟨gk, ik⟩ := hk
  by_cases hltk : k < fs.length
  rotate_left
  · have dk : decide ((k : Int) < ((fs.length : Nat) : Int)) = false := by rw [decide_eq_false_iff_not]; exact fun h => hltk (Int.ofNat_lt.1 h)
    have ek : k = fs.length := Nat.le_antisymm gk (Nat.le_of_not_lt hltk)
    subst ek
    have hn : hasF fs ride = false := by
      unfold hasF; rw [List.any_eq_false]
      intro x hx
      obtain ⟨j, hj, rfl⟩ := List.getElem_of_mem hx
      rw [ik j hj hj]; simp
    rw [hn]
    simp only [dk, List.length_map, AW, reduceAdd, reduceCtorEq, reduceEqDiff, ↓reduceIte, reduceLT, reduceLeDiff, reduceSub, reducePow, reduceMul, reduceToNat, reduceLE, reduceEq, Int.reduceLT, Int.reduceBEq, Int.reduceBNe]
  have dk : decide ((k : Int) < ((fs.length : Nat) : Int)) = true := by rw [decide_eq_true_eq]; exact Int.ofNat_lt.2 hltk
  simp only [dk, List.length_map, map_getD hltk, hltk, FareS.pv, AW, reduceAdd, reduceCtorEq, reduceEqDiff, ↓reduceIte, reduceLT, reduceLeDiff, reduceSub, reducePow, reduceMul, reduceToNat, reduceLE, reduceEq, Int.reduceLT, Int.reduceBEq, Int.reduceBNe]
  cases h : (fs[k].ride == ride)
  · simp only [AW, reduceAdd, reduceCtorEq, reduceEqDiff, ↓reduceIte, reduceLT, reduceLeDiff, reduceSub, reducePow, reduceMul, reduceToNat, reduceLE, reduceEq, Int.reduceLT, Int.reduceBEq, Int.reduceBNe]
    (try simp only [wrap_succ hltk hlen, AW, reduceAdd, reduceCtorEq, reduceEqDiff, ↓reduceIte, reduceLT, reduceLeDiff, reduceSub, reducePow, reduceMul, reduceToNat, reduceLE, reduceEq, Int.reduceLT, Int.reduceBEq, Int.reduceBNe])
    refine ⟨k + 1, ⟨hltk, fun j hj hjk => ?_⟩, ?_, meas_lt hltk⟩
    · by_cases e : j = k
      · subst e; exact h
      · exact ik j hj (by omega)
    · simp only [LW, Nat.reduceMod, Nat.reduceDiv, AW, reduceAdd, reduceCtorEq, reduceEqDiff, ↓reduceIte, reduceLT, reduceLeDiff, reduceSub, reducePow, reduceMul, reduceToNat, reduceLE, reduceEq, Int.reduceLT, Int.reduceBEq, Int.reduceBNe]
  · rw [show hasF fs ride = true from List.any_eq_true.2 ⟨_, List.getElem_mem hltk, h⟩]
    simp only [AW, reduceAdd, reduceCtorEq, reduceEqDiff, ↓reduceIte, reduceLT, reduceLeDiff, reduceSub, reducePow, reduceMul, reduceToNat, reduceLE, reduceEq, Int.reduceLT, Int.reduceBEq, Int.reduceBNe]
set_option maxHeartbeats 2000000 in
theorem fsum_g (l : List ItemS) : Good Tryd.prog 39 [.sl (l.map ItemS.pv)] (fsum l) := by
  refine good39 (by simp) ?_
  simp only [ac39, List.length_map, AW, reduceAdd, reduceCtorEq, reduceEqDiff, ↓reduceIte, reduceLT, reduceLeDiff, reduceSub, reducePow, reduceMul, reduceToNat, reduceLE, reduceEq, Int.reduceLT, Int.reduceBEq, Int.reduceBNe]
  cases h5 : decide ((16 : Int) < (l.length : Int))
  rotate_left
  · have h5' := of_decide_eq_true h5
    rw [show fsum l = .tup [intP 0, intP 8] by unfold fsum; rw [if_pos (by omega)]]
    simp only [intP, AW, reduceAdd, reduceCtorEq, reduceEqDiff, ↓reduceIte, reduceLT, reduceLeDiff, reduceSub, reducePow, reduceMul, reduceToNat, reduceLE, reduceEq, Int.reduceLT, Int.reduceBEq, Int.reduceBNe]
  have h5' := of_decide_eq_false h5
  have hlen : l.length ≤ maxLen := by unfold maxLen; omega
  have hf : fsum l = if l.all amtIn = true then .tup [intP (sumIt l), intP 0] else .tup [intP 0, intP 1] := by unfold fsum; rw [if_neg (by omega)]
  rw [hf]
  simp only [List.length_map, AW, reduceAdd, reduceCtorEq, reduceEqDiff, ↓reduceIte, reduceLT, reduceLeDiff, reduceSub, reducePow, reduceMul, reduceToNat, reduceLE, reduceEq, Int.reduceLT, Int.reduceBEq, Int.reduceBNe]
  refine run_loop (ι := Nat) (fun k => ⟨[(4, .sc (.int .i64 (sumIt (l.take k)))), (10, .sl (l.map ItemS.pv)), (11, .sc (.int .i64 (l.length : Int))), (12, .sc (.int .i64 (k : Int)))], [], 9, 30⟩) (fun k => k ≤ l.length ∧ (∀ j (hj : j < l.length), j < k → amtIn l[j] = true)) (fun k => l.length - k) 9 (fun _ => rfl) 0 (by simp only [LW, Nat.reduceMod, Nat.reduceDiv, Int.natCast_zero, List.take_zero, sumIt, List.map_nil, List.sum_nil, AW, reduceAdd, reduceCtorEq, reduceEqDiff, ↓reduceIte, reduceLT, reduceLeDiff, reduceSub, reducePow, reduceMul, reduceToNat, reduceLE, reduceEq, Int.reduceLT, Int.reduceBEq, Int.reduceBNe]) ⟨Nat.zero_le _, nofun⟩ (fun k hk => ?_)
  obtain ⟨gk, ik⟩ := hk
  by_cases hltk : k < l.length
  rotate_left
  · have dk : decide ((k : Int) < ((l.length : Nat) : Int)) = false := by rw [decide_eq_false_iff_not]; exact fun h => hltk (Int.ofNat_lt.1 h)
    have ek : k = l.length := Nat.le_antisymm gk (Nat.le_of_not_lt hltk)
    subst ek
    rw [if_pos (all_yes (fun j hj => ik j hj hj)), List.take_length]
    simp only [dk, intP, AW, reduceAdd, reduceCtorEq, reduceEqDiff, ↓reduceIte, reduceLT, reduceLeDiff, reduceSub, reducePow, reduceMul, reduceToNat, reduceLE, reduceEq, Int.reduceLT, Int.reduceBEq, Int.reduceBNe]
  have dk : decide ((k : Int) < ((l.length : Nat) : Int)) = true := by rw [decide_eq_true_eq]; exact Int.ofNat_lt.2 hltk
  have hs := sumIt_succ hltk
  simp only [dk, List.length_map, map_getD hltk, hltk, ItemS.pv, ItemS.vals, List.map_cons, List.map_nil, AW, reduceAdd, reduceCtorEq, reduceEqDiff, ↓reduceIte, reduceLT, reduceLeDiff, reduceSub, reducePow, reduceMul, reduceToNat, reduceLE, reduceEq, Int.reduceLT, Int.reduceBEq, Int.reduceBNe]
  cases h1 : decide (l[k].amount < -1000000000000)
  rotate_left
  · rw [if_neg (by rw [all_no hltk (p := amtIn) (by unfold amtIn; have := of_decide_eq_true h1; rw [show decide (-1000000000000 ≤ l[k].amount) = false by rw [decide_eq_false_iff_not]; omega]; rfl)]; simp)]
    simp only [intP, AW, reduceAdd, reduceCtorEq, reduceEqDiff, ↓reduceIte, reduceLT, reduceLeDiff, reduceSub, reducePow, reduceMul, reduceToNat, reduceLE, reduceEq, Int.reduceLT, Int.reduceBEq, Int.reduceBNe]
  cases h2 : decide ((1000000000000 : Int) < l[k].amount)
  rotate_left
  · rw [if_neg (by rw [all_no hltk (p := amtIn) (by unfold amtIn; have := of_decide_eq_true h2; rw [show decide (l[k].amount ≤ 1000000000000) = false by rw [decide_eq_false_iff_not]; omega]; simp)]; simp)]
    simp only [h2, intP, AW, reduceAdd, reduceCtorEq, reduceEqDiff, ↓reduceIte, reduceLT, reduceLeDiff, reduceSub, reducePow, reduceMul, reduceToNat, reduceLE, reduceEq, Int.reduceLT, Int.reduceBEq, Int.reduceBNe]
  have ha : amtIn l[k] = true := amtIn_iff.2 ⟨by have := of_decide_eq_false h1; omega, by have := of_decide_eq_false h2; omega⟩
  have hn : ∀ j (hj : j < l.length), j < k + 1 → amtIn l[j] = true := fun j hj hjk => by
    by_cases e : j = k
    · subst e; exact ha
    · exact ik j hj (by omega)
  have sb := sumIt_bnd (k + 1) hltk hn
  have w1 : IntKind.i64.wrap (sumIt (l.take k) + l[k].amount) = sumIt (l.take (k + 1)) := by rw [← hs]; exact wrap_id ⟨by omega, by omega⟩
  simp only [h2, w1, AW, reduceAdd, reduceCtorEq, reduceEqDiff, ↓reduceIte, reduceLT, reduceLeDiff, reduceSub, reducePow, reduceMul, reduceToNat, reduceLE, reduceEq, Int.reduceLT, Int.reduceBEq, Int.reduceBNe]
  (try simp only [wrap_succ hltk hlen, AW, reduceAdd, reduceCtorEq, reduceEqDiff, ↓reduceIte, reduceLT, reduceLeDiff, reduceSub, reducePow, reduceMul, reduceToNat, reduceLE, reduceEq, Int.reduceLT, Int.reduceBEq, Int.reduceBNe])
  refine ⟨k + 1, ⟨hltk, hn⟩, ?_, meas_lt hltk⟩
  simp only [LW, Nat.reduceMod, Nat.reduceDiv, AW, reduceAdd, reduceCtorEq, reduceEqDiff, ↓reduceIte, reduceLT, reduceLeDiff, reduceSub, reducePow, reduceMul, reduceToNat, reduceLE, reduceEq, Int.reduceLT, Int.reduceBEq, Int.reduceBNe]
set_option maxHeartbeats 2000000 in
theorem once_g (fs : List FareS) : Good Tryd.prog 38 [.sl (fs.map FareS.pv)] (.sc (.bool (decide (fs.map (·.ride)).Nodup))) := by
  refine .len (es := fs.map FareS.pv) (by simp) (fun hlen => ?_)
  rw [List.length_map] at hlen
  refine good38 (by simp) ?_
  simp only [ac38, List.length_map, AW, reduceAdd, reduceCtorEq, reduceEqDiff, ↓reduceIte, reduceLT, reduceLeDiff, reduceSub, reducePow, reduceMul, reduceToNat, reduceLE, reduceEq, Int.reduceLT, Int.reduceBEq, Int.reduceBNe]
  refine run_loop (ι := Nat) (fun k => ⟨[(3, .mp 1), (7, .sl (fs.map FareS.pv)), (8, .sc (.int .i64 (fs.length : Int))), (9, .sc (.int .i64 (k : Int)))], [(1, .mapb 3 (rideM (fs.take k)))], 6, 21⟩) (fun k => k ≤ fs.length ∧ (∀ j (hj : j < fs.length), j < k → hasF (fs.take j) fs[j].ride = false)) (fun k => fs.length - k) 6 (fun _ => rfl) 0 (by simp only [LW, Nat.reduceMod, Nat.reduceDiv, Int.natCast_zero, List.take_zero, rideM_nil, AW, reduceAdd, reduceCtorEq, reduceEqDiff, ↓reduceIte, reduceLT, reduceLeDiff, reduceSub, reducePow, reduceMul, reduceToNat, reduceLE, reduceEq, Int.reduceLT, Int.reduceBEq, Int.reduceBNe]) ⟨Nat.zero_le _, nofun⟩ (fun k hk => ?_)
  obtain ⟨gk, ik⟩ := hk
  by_cases hltk : k < fs.length
  rotate_left
  · have dk : decide ((k : Int) < ((fs.length : Nat) : Int)) = false := by rw [decide_eq_false_iff_not]; exact fun h => hltk (Int.ofNat_lt.1 h)
    have ek : k = fs.length := Nat.le_antisymm gk (Nat.le_of_not_lt hltk)
    subst ek
    have hn := once_ok (l := fs) (fun j hj => ik j hj hj)
    rw [decide_eq_true hn]
    simp only [dk, AW, reduceAdd, reduceCtorEq, reduceEqDiff, ↓reduceIte, reduceLT, reduceLeDiff, reduceSub, reducePow, reduceMul, reduceToNat, reduceLE, reduceEq, Int.reduceLT, Int.reduceBEq, Int.reduceBNe]
  have dk : decide ((k : Int) < ((fs.length : Nat) : Int)) = true := by rw [decide_eq_true_eq]; exact Int.ofNat_lt.2 hltk
  have e1 := rideM_get (fs.take k) fs[k].ride
  have es : fs.take (k + 1) = fs.take k ++ [fs[k]] := List.take_succ_eq_append_getElem hltk
  simp only [dk, List.length_map, map_getD hltk, hltk, FareS.pv, isIntB, e1, AW, reduceAdd, reduceCtorEq, reduceEqDiff, ↓reduceIte, reduceLT, reduceLeDiff, reduceSub, reducePow, reduceMul, reduceToNat, reduceLE, reduceEq, Int.reduceLT, Int.reduceBEq, Int.reduceBNe]
  cases h1 : hasF (fs.take k) fs[k].ride
  · simp only [isIntB, AW, reduceAdd, reduceCtorEq, reduceEqDiff, ↓reduceIte, reduceLT, reduceLeDiff, reduceSub, reducePow, reduceMul, reduceToNat, reduceLE, reduceEq, Int.reduceLT, Int.reduceBEq, Int.reduceBNe]
    (try simp only [wrap_succ hltk hlen, AW, reduceAdd, reduceCtorEq, reduceEqDiff, ↓reduceIte, reduceLT, reduceLeDiff, reduceSub, reducePow, reduceMul, reduceToNat, reduceLE, reduceEq, Int.reduceLT, Int.reduceBEq, Int.reduceBNe])
    refine ⟨k + 1, ⟨hltk, fun j hj hjk => ?_⟩, ?_, meas_lt hltk⟩
    · by_cases e : j = k
      · subst e; exact h1
      · exact ik j hj (by omega)
    · simp only [LW, Nat.reduceMod, Nat.reduceDiv, es, rideM_snoc, AW, reduceAdd, reduceCtorEq, reduceEqDiff, ↓reduceIte, reduceLT, reduceLeDiff, reduceSub, reducePow, reduceMul, reduceToNat, reduceLE, reduceEq, Int.reduceLT, Int.reduceBEq, Int.reduceBNe]
  · rw [decide_eq_false (once_not hltk h1)]
    simp only [AW, reduceAdd, reduceCtorEq, reduceEqDiff, ↓reduceIte, reduceLT, reduceLeDiff, reduceSub, reducePow, reduceMul, reduceToNat, reduceLE, reduceEq, Int.reduceLT, Int.reduceBEq, Int.reduceBNe]


end Go.Proofs.YtaejaogidkgalaaDoor
