/-
  Refunds: Check and Net.
-/
import Derived.Test.YtaejaogidkgalaaDoorZb
namespace Go.Proofs.YtaejaogidkgalaaDoor
open Go.RowKit
open Nat (reduceAdd reduceEqDiff reduceLT reduceLeDiff reduceSub reducePow reduceMul)
open Int (reduceToNat reduceLE reduceEq)
set_option linter.unusedVariables false
set_option linter.unusedSimpArgs false
set_option linter.unnecessarySimpa false

def errL (fs : List FareS) (l : List RefS) : Int := match l.find? (fun r => oneL fs r != 0) with
  | some r => oneL fs r
  | none => 0
def amtBad (fs : List FareS) (l : List RefS) (r : RefS) : Bool := match itemF fs r.ride r.item with
  | some (f, x) => decide (x.amount < sI l r.ride r.item) || decide (f.total < sR l r.ride)
  | none => false
def checkR (fs : List FareS) (l : List RefS) : Int :=
  if 512 < l.length then 8 else if errL fs l ≠ 0 then errL fs l else if ¬ (l.map (·.id)).Nodup then 6 else if l.any (amtBad fs l) = true then 27 else 0
theorem errL_at {fs : List FareS} {l : List RefS} {k : Nat} (h : k < l.length) (hno : ∀ j (hj : j < l.length), j < k → oneL fs l[j] = 0) (hk : oneL fs l[k] ≠ 0) : errL fs l = oneL fs l[k] := by
  have := find_some (p := fun r => oneL fs r != 0) h (fun j hj hlt => by simp [hno j hj hlt]) (by simpa using hk)
  simp only [errL, this]
theorem errL_zero {fs : List FareS} {l : List RefS} (hno : ∀ j (hj : j < l.length), oneL fs l[j] = 0) : errL fs l = 0 := by
  have := find_none (p := fun r => oneL fs r != 0) (l := l) (fun j hj => by simp [hno j hj])
  simp only [errL, this]
theorem one_zero {fs : List FareS} {r : RefS} (h : oneL fs r = 0) : (∃ f x, itemF fs r.ride r.item = some (f, x) ∧ 0 < x.amount) ∧ 1 ≤ r.amount ∧ r.amount ≤ 1000000000000 ∧ 1 ≤ r.id ∧ r.id ≤ 1000000 := by
  unfold oneL at h
  split at h
  · cases h
  · rename_i hb
    have hb : oneBad r = false := by simpa using hb
    simp only [oneBad, Bool.or_eq_false_iff, decide_eq_false_iff_not] at hb
    obtain ⟨⟨⟨b1, b2⟩, b3⟩, b4⟩ := hb
    refine ⟨?_, by omega, by omega, by omega, by omega⟩
    split at h
    · rename_i f x hx
      split at h
      · cases h
      · exact ⟨_, _, hx, by omega⟩
    · cases h
def idsM (l : List RefS) (k : Value) : Option Value := match k with
  | .int .i64 x => if (l.any fun r => r.id == x) = true then some (.bool true) else none
  | _ => none
theorem idsM_nil : idsM [] = fun _ => none := by funext k; unfold idsM; split <;> rfl
theorem idsM_snoc (l : List RefS) (r : RefS) : idsM (l ++ [r]) = upd (idsM l) (.int .i64 r.id) (.bool true) := by
  funext k
  by_cases e : k = .int .i64 r.id
  · subst e
    rw [upd_same]
    show (if _ then _ else _) = _
    rw [if_pos (by simp)]
  · rw [upd_other _ _ e]
    unfold idsM
    split
    · rename_i x
      have hne : (r.id == x) = false := by
        rw [Bool.eq_false_iff]; intro h2
        exact e (by rw [beq_iff_eq.1 h2])
      simp only [List.any_append, List.any_cons, List.any_nil, hne, Bool.or_false]
    · rfl
theorem idsM_get (l : List RefS) (x : Int) : (idsM l (.int .i64 x)).getD (.bool false) = .bool (l.any fun r => r.id == x) := by
  show (if _ then _ else _ : Option Value).getD _ = _
  cases h : l.any fun r => r.id == x <;> rfl
theorem ids_not {l : List RefS} {k : Nat} (h : k < l.length) (ha : ((l.take k).any fun r => r.id == l[k].id) = true) : ¬ (l.map (·.id)).Nodup := by
  intro hn
  obtain ⟨r, hr, he⟩ := List.any_eq_true.1 ha
  obtain ⟨j, hj, rfl⟩ := List.getElem_of_mem hr
  rw [List.length_take] at hj
  rw [List.getElem_take] at he
  have := (List.nodup_iff_pairwise_ne.1 hn)
  rw [List.pairwise_iff_getElem] at this
  have h2 := this j k (by rw [List.length_map]; omega) (by rw [List.length_map]; omega) (by omega)
  rw [List.getElem_map, List.getElem_map] at h2
  exact h2 (beq_iff_eq.1 he)
theorem ids_ok {l : List RefS} (h : ∀ k (hk : k < l.length), ((l.take k).any fun r => r.id == l[k].id) = false) : (l.map (·.id)).Nodup := by
  rw [List.nodup_iff_pairwise_ne, List.pairwise_iff_getElem]
  intro i j hi hj hij he
  rw [List.length_map] at hi hj
  rw [List.getElem_map, List.getElem_map] at he
  have := h j hj
  rw [List.any_eq_false] at this
  exact this l[i] (List.mem_iff_getElem.2 ⟨i, by rw [List.length_take]; omega, by rw [List.getElem_take]⟩) (by rw [he]; simp)
set_option maxHeartbeats 8000000 in
theorem check_g (fs : List FareS) (l : List RefS) : Good Tryd.prog 23 [.sl (fs.map FareS.pv), .sl (l.map RefS.pv)] (.sc (.int .i64 (checkR fs l))) := by
  refine .len (es := l.map RefS.pv) (by simp) (fun hlen => ?_)
  rw [List.length_map] at hlen
  refine good23 (by simp) ?_
  simp only [ac23, List.length_map, AW, reduceAdd, reduceCtorEq, reduceEqDiff, ↓reduceIte, reduceLT, reduceLeDiff, reduceSub, reducePow, reduceMul, reduceToNat, reduceLE, reduceEq, Int.reduceLT, Int.reduceBEq, Int.reduceBNe]
  cases h5 : decide ((512 : Int) < (l.length : Int))
  rotate_left
  · have h5' := of_decide_eq_true h5
    rw [show checkR fs l = 8 by unfold checkR; rw [if_pos (by omega)]]
    simp only [AW, reduceAdd, reduceCtorEq, reduceEqDiff, ↓reduceIte, reduceLT, reduceLeDiff, reduceSub, reducePow, reduceMul, reduceToNat, reduceLE, reduceEq, Int.reduceLT, Int.reduceBEq, Int.reduceBNe]
  have h5' := of_decide_eq_false h5
  simp only [List.length_map, AW, reduceAdd, reduceCtorEq, reduceEqDiff, ↓reduceIte, reduceLT, reduceLeDiff, reduceSub, reducePow, reduceMul, reduceToNat, reduceLE, reduceEq, Int.reduceLT, Int.reduceBEq, Int.reduceBNe]
  refine run_loop (ι := Nat) (fun k => ⟨[(0, .sl (fs.map FareS.pv)), (1, .sl (l.map RefS.pv)), (21, .sl (l.map RefS.pv)), (22, .sc (.int .i64 (l.length : Int))), (23, .sc (.int .i64 (k : Int)))], [], 7, 90⟩) (fun k => k ≤ l.length ∧ (∀ j (hj : j < l.length), j < k → oneL fs l[j] = 0)) (fun k => l.length - k) 7 (fun _ => rfl) 0 (by simp only [LW, Nat.reduceMod, Nat.reduceDiv, Int.natCast_zero, AW, reduceAdd, reduceCtorEq, reduceEqDiff, ↓reduceIte, reduceLT, reduceLeDiff, reduceSub, reducePow, reduceMul, reduceToNat, reduceLE, reduceEq, Int.reduceLT, Int.reduceBEq, Int.reduceBNe]) ⟨Nat.zero_le _, nofun⟩ (fun k hk => ?_)
  obtain ⟨gk, ik⟩ := hk
  by_cases hltk : k < l.length
  rotate_left
  · have dk : decide ((k : Int) < ((l.length : Nat) : Int)) = false := by rw [decide_eq_false_iff_not]; exact fun h => hltk (Int.ofNat_lt.1 h)
    have ek : k = l.length := Nat.le_antisymm gk (Nat.le_of_not_lt hltk)
    subst ek
    have he := errL_zero (fs := fs) (l := l) (fun j hj => ik j hj hj)
    have hA : amtOk l := fun x hx => by
      obtain ⟨j, hj, rfl⟩ := List.getElem_of_mem hx
      have := one_zero (ik j hj hj); omega
    have gs := sums_g l hA (by omega)
    have hones := ik
    simp only [dk, List.length_map, AW, reduceAdd, reduceCtorEq, reduceEqDiff, ↓reduceIte, reduceLT, reduceLeDiff, reduceSub, reducePow, reduceMul, reduceToNat, reduceLE, reduceEq, Int.reduceLT, Int.reduceBEq, Int.reduceBNe]
    refine run_loop (ι := Nat) (fun m => ⟨[(0, .sl (fs.map FareS.pv)), (1, .sl (l.map RefS.pv)), (8, .mp 8), (35, .sl (l.map RefS.pv)), (36, .sc (.int .i64 (l.length : Int))), (37, .sc (.int .i64 (m : Int)))], [(8, .mapb 3 (idsM (l.take m)))], 13, 90⟩) (fun m => m ≤ l.length ∧ (∀ j (hj : j < l.length), j < m → ((l.take j).any fun r => r.id == l[j].id) = false)) (fun m => l.length - m) 13 (fun _ => rfl) 0 (by simp only [LW, Nat.reduceMod, Nat.reduceDiv, Int.natCast_zero, List.take_zero, idsM_nil, AW, reduceAdd, reduceCtorEq, reduceEqDiff, ↓reduceIte, reduceLT, reduceLeDiff, reduceSub, reducePow, reduceMul, reduceToNat, reduceLE, reduceEq, Int.reduceLT, Int.reduceBEq, Int.reduceBNe]) ⟨Nat.zero_le _, nofun⟩ (fun m hm => ?_)
    obtain ⟨gm, im⟩ := hm
    by_cases hltm : m < l.length
    rotate_left
    · have dm : decide ((m : Int) < ((l.length : Nat) : Int)) = false := by rw [decide_eq_false_iff_not]; exact fun h => hltm (Int.ofNat_lt.1 h)
      have em : m = l.length := Nat.le_antisymm gm (Nat.le_of_not_lt hltm)
      subst em
      have hn := ids_ok (l := l) (fun j hj => im j hj hj)
      simp only [dm, List.length_map, AW, reduceAdd, reduceCtorEq, reduceEqDiff, ↓reduceIte, reduceLT, reduceLeDiff, reduceSub, reducePow, reduceMul, reduceToNat, reduceLE, reduceEq, Int.reduceLT, Int.reduceBEq, Int.reduceBNe]
      simp only [sumsP, AW, reduceAdd, reduceCtorEq, reduceEqDiff, ↓reduceIte, reduceLT, reduceLeDiff, reduceSub, reducePow, reduceMul, reduceToNat, reduceLE, reduceEq, Int.reduceLT, Int.reduceBEq, Int.reduceBNe] at gs
      refine ops_call (gs) (by simp only [AW, reduceAdd, reduceCtorEq, reduceEqDiff, ↓reduceIte, reduceLT, reduceLeDiff, reduceSub, reducePow, reduceMul, reduceToNat, reduceLE, reduceEq, Int.reduceLT, Int.reduceBEq, Int.reduceBNe]) ?_; simp only [AW, reduceAdd, reduceCtorEq, reduceEqDiff, ↓reduceIte, reduceLT, reduceLeDiff, reduceSub, reducePow, reduceMul, reduceToNat, reduceLE, reduceEq, Int.reduceLT, Int.reduceBEq, Int.reduceBNe]
      refine run_loop (ι := Nat) (fun q => ⟨[(0, .sl (fs.map FareS.pv)), (11, .fm (.arr 2 .i64) (mI l)), (12, .fm (.int .i64) (mR l)), (54, .sl (l.map RefS.pv)), (55, .sc (.int .i64 (l.length : Int))), (56, .sc (.int .i64 (q : Int)))], [(8, .mapb 3 (idsM l))], 24, 90⟩) (fun q => q ≤ l.length ∧ (∀ j (hj : j < l.length), j < q → amtBad fs l l[j] = false)) (fun q => l.length - q) 24 (fun _ => rfl) 0 (by simp only [LW, Nat.reduceMod, Nat.reduceDiv, Int.natCast_zero, List.take_length, AW, reduceAdd, reduceCtorEq, reduceEqDiff, ↓reduceIte, reduceLT, reduceLeDiff, reduceSub, reducePow, reduceMul, reduceToNat, reduceLE, reduceEq, Int.reduceLT, Int.reduceBEq, Int.reduceBNe]) ⟨Nat.zero_le _, nofun⟩ (fun q hq => ?_)
      obtain ⟨gq, iq⟩ := hq
      by_cases hltq : q < l.length
      rotate_left
      · have dq : decide ((q : Int) < ((l.length : Nat) : Int)) = false := by rw [decide_eq_false_iff_not]; exact fun h => hltq (Int.ofNat_lt.1 h)
        have eq : q = l.length := Nat.le_antisymm gq (Nat.le_of_not_lt hltq)
        subst eq
        have hb : ¬ l.any (amtBad fs l) = true := by
          intro h
          obtain ⟨x, hx, hb⟩ := List.any_eq_true.1 h
          obtain ⟨j, hj, rfl⟩ := List.getElem_of_mem hx
          rw [iq j hj hj] at hb; cases hb
        rw [show checkR fs l = 0 by unfold checkR; rw [if_neg (by omega), if_neg (by rw [he]; simp), if_neg (by simpa using hn), if_neg hb]]
        simp only [dq, AW, reduceAdd, reduceCtorEq, reduceEqDiff, ↓reduceIte, reduceLT, reduceLeDiff, reduceSub, reducePow, reduceMul, reduceToNat, reduceLE, reduceEq, Int.reduceLT, Int.reduceBEq, Int.reduceBNe]
      have dq : decide ((q : Int) < ((l.length : Nat) : Int)) = true := by rw [decide_eq_true_eq]; exact Int.ofNat_lt.2 hltq
      obtain ⟨⟨f, x, hi, hx0⟩, -⟩ := one_zero (hones q hltq hltq)
      have gi := item_g fs l[q].ride l[q].item
      rw [hi] at gi
      simp only [itemP, FareS.pv, ItemS.pv, ItemS.vals, List.map_cons, List.map_nil, AW, reduceAdd, reduceCtorEq, reduceEqDiff, ↓reduceIte, reduceLT, reduceLeDiff, reduceSub, reducePow, reduceMul, reduceToNat, reduceLE, reduceEq, Int.reduceLT, Int.reduceBEq, Int.reduceBNe] at gi
      have hbad : amtBad fs l l[q] = (decide (x.amount < sI l l[q].ride l[q].item) || decide (f.total < sR l l[q].ride)) := by unfold amtBad; rw [hi]
      have e1 := mI_get l l[q].ride l[q].item
      have e2 := mR_get l l[q].ride
      rw [pk] at e1
      simp only [dq, List.length_map, map_getD hltq, hltq, RefS.pv, RefS.vals, List.map_cons, List.map_nil, AW, reduceAdd, reduceCtorEq, reduceEqDiff, ↓reduceIte, reduceLT, reduceLeDiff, reduceSub, reducePow, reduceMul, reduceToNat, reduceLE, reduceEq, Int.reduceLT, Int.reduceBEq, Int.reduceBNe]
      refine ops_call (gi) (by simp only [intP, AW, reduceAdd, reduceCtorEq, reduceEqDiff, ↓reduceIte, reduceLT, reduceLeDiff, reduceSub, reducePow, reduceMul, reduceToNat, reduceLE, reduceEq, Int.reduceLT, Int.reduceBEq, Int.reduceBNe]) ?_; simp only [intP, AW, reduceAdd, reduceCtorEq, reduceEqDiff, ↓reduceIte, reduceLT, reduceLeDiff, reduceSub, reducePow, reduceMul, reduceToNat, reduceLE, reduceEq, Int.reduceLT, Int.reduceBEq, Int.reduceBNe]
      cases h1 : decide (x.amount < sI l l[q].ride l[q].item)
      · cases h2 : decide (f.total < sR l l[q].ride)
        · rw [h1, h2] at hbad
          simp only [isIntB, e1, h1, e2, h2, AW, reduceAdd, reduceCtorEq, reduceEqDiff, ↓reduceIte, reduceLT, reduceLeDiff, reduceSub, reducePow, reduceMul, reduceToNat, reduceLE, reduceEq, Int.reduceLT, Int.reduceBEq, Int.reduceBNe]
          (try refine drawnK rfl ?_); (try simp only [wrap_succ hltq hlen, AW, reduceAdd, reduceCtorEq, reduceEqDiff, ↓reduceIte, reduceLT, reduceLeDiff, reduceSub, reducePow, reduceMul, reduceToNat, reduceLE, reduceEq, Int.reduceLT, Int.reduceBEq, Int.reduceBNe])
          refine ⟨q + 1, ⟨hltq, fun j hj hjq => ?_⟩, ?_, meas_lt hltq⟩
          · by_cases e : j = q
            · subst e; exact hbad
            · exact iq j hj (by omega)
          · simp only [LW, Nat.reduceMod, Nat.reduceDiv, AW, reduceAdd, reduceCtorEq, reduceEqDiff, ↓reduceIte, reduceLT, reduceLeDiff, reduceSub, reducePow, reduceMul, reduceToNat, reduceLE, reduceEq, Int.reduceLT, Int.reduceBEq, Int.reduceBNe]
        · rw [h1, h2] at hbad
          rw [show checkR fs l = 27 by unfold checkR; rw [if_neg (by omega), if_neg (by rw [he]; simp), if_neg (by simpa using hn), if_pos (List.any_eq_true.2 ⟨_, List.getElem_mem hltq, hbad⟩)]]
          simp only [isIntB, e1, h1, e2, h2, AW, reduceAdd, reduceCtorEq, reduceEqDiff, ↓reduceIte, reduceLT, reduceLeDiff, reduceSub, reducePow, reduceMul, reduceToNat, reduceLE, reduceEq, Int.reduceLT, Int.reduceBEq, Int.reduceBNe]
          first | rfl | (refine drawnK rfl ?_; (try simp only [AW, reduceAdd, reduceCtorEq, reduceEqDiff, ↓reduceIte, reduceLT, reduceLeDiff, reduceSub, reducePow, reduceMul, reduceToNat, reduceLE, reduceEq, Int.reduceLT, Int.reduceBEq, Int.reduceBNe]))
      · rw [h1] at hbad
        rw [show checkR fs l = 27 by unfold checkR; rw [if_neg (by omega), if_neg (by rw [he]; simp), if_neg (by simpa using hn), if_pos (List.any_eq_true.2 ⟨_, List.getElem_mem hltq, by rw [hbad]; rfl⟩)]]
        simp only [isIntB, e1, h1, AW, reduceAdd, reduceCtorEq, reduceEqDiff, ↓reduceIte, reduceLT, reduceLeDiff, reduceSub, reducePow, reduceMul, reduceToNat, reduceLE, reduceEq, Int.reduceLT, Int.reduceBEq, Int.reduceBNe]
        first | rfl | (refine drawnK rfl ?_; (try simp only [AW, reduceAdd, reduceCtorEq, reduceEqDiff, ↓reduceIte, reduceLT, reduceLeDiff, reduceSub, reducePow, reduceMul, reduceToNat, reduceLE, reduceEq, Int.reduceLT, Int.reduceBEq, Int.reduceBNe]))
    have dm : decide ((m : Int) < ((l.length : Nat) : Int)) = true := by rw [decide_eq_true_eq]; exact Int.ofNat_lt.2 hltm
    have e1 := idsM_get (l.take m) l[m].id
    have es : l.take (m + 1) = l.take m ++ [l[m]] := List.take_succ_eq_append_getElem hltm
    simp only [dm, List.length_map, map_getD hltm, hltm, RefS.pv, RefS.vals, List.map_cons, List.map_nil, isIntB, e1, AW, reduceAdd, reduceCtorEq, reduceEqDiff, ↓reduceIte, reduceLT, reduceLeDiff, reduceSub, reducePow, reduceMul, reduceToNat, reduceLE, reduceEq, Int.reduceLT, Int.reduceBEq, Int.reduceBNe]
    cases h1 : (l.take m).any fun r => r.id == l[m].id
    · simp only [isIntB, AW, reduceAdd, reduceCtorEq, reduceEqDiff, ↓reduceIte, reduceLT, reduceLeDiff, reduceSub, reducePow, reduceMul, reduceToNat, reduceLE, reduceEq, Int.reduceLT, Int.reduceBEq, Int.reduceBNe]
      (try simp only [wrap_succ hltm hlen, AW, reduceAdd, reduceCtorEq, reduceEqDiff, ↓reduceIte, reduceLT, reduceLeDiff, reduceSub, reducePow, reduceMul, reduceToNat, reduceLE, reduceEq, Int.reduceLT, Int.reduceBEq, Int.reduceBNe])
      refine ⟨m + 1, ⟨hltm, fun j hj hjm => ?_⟩, ?_, meas_lt hltm⟩
      · by_cases e : j = m
        · subst e; exact h1
        · exact im j hj (by omega)
      · simp only [LW, Nat.reduceMod, Nat.reduceDiv, es, idsM_snoc, AW, reduceAdd, reduceCtorEq, reduceEqDiff, ↓reduceIte, reduceLT, reduceLeDiff, reduceSub, reducePow, reduceMul, reduceToNat, reduceLE, reduceEq, Int.reduceLT, Int.reduceBEq, Int.reduceBNe]
    · rw [show checkR fs l = 6 by unfold checkR; rw [if_neg (by omega), if_neg (by rw [he]; simp), if_pos (ids_not hltm h1)]]
      simp only [AW, reduceAdd, reduceCtorEq, reduceEqDiff, ↓reduceIte, reduceLT, reduceLeDiff, reduceSub, reducePow, reduceMul, reduceToNat, reduceLE, reduceEq, Int.reduceLT, Int.reduceBEq, Int.reduceBNe]
  have dk : decide ((k : Int) < ((l.length : Nat) : Int)) = true := by rw [decide_eq_true_eq]; exact Int.ofNat_lt.2 hltk
  have g1 := one_g fs l[k]
  simp only [RefS.pv, RefS.vals, List.map_cons, List.map_nil, AW, reduceAdd, reduceCtorEq, reduceEqDiff, ↓reduceIte, reduceLT, reduceLeDiff, reduceSub, reducePow, reduceMul, reduceToNat, reduceLE, reduceEq, Int.reduceLT, Int.reduceBEq, Int.reduceBNe] at g1
  simp only [dk, List.length_map, map_getD hltk, hltk, RefS.pv, RefS.vals, List.map_cons, List.map_nil, AW, reduceAdd, reduceCtorEq, reduceEqDiff, ↓reduceIte, reduceLT, reduceLeDiff, reduceSub, reducePow, reduceMul, reduceToNat, reduceLE, reduceEq, Int.reduceLT, Int.reduceBEq, Int.reduceBNe]
  refine ops_call (g1) (by simp only [AW, reduceAdd, reduceCtorEq, reduceEqDiff, ↓reduceIte, reduceLT, reduceLeDiff, reduceSub, reducePow, reduceMul, reduceToNat, reduceLE, reduceEq, Int.reduceLT, Int.reduceBEq, Int.reduceBNe]) ?_; simp only [AW, reduceAdd, reduceCtorEq, reduceEqDiff, ↓reduceIte, reduceLT, reduceLeDiff, reduceSub, reducePow, reduceMul, reduceToNat, reduceLE, reduceEq, Int.reduceLT, Int.reduceBEq, Int.reduceBNe]
  cases h1 : (oneL fs l[k] != 0)
  · simp only [AW, reduceAdd, reduceCtorEq, reduceEqDiff, ↓reduceIte, reduceLT, reduceLeDiff, reduceSub, reducePow, reduceMul, reduceToNat, reduceLE, reduceEq, Int.reduceLT, Int.reduceBEq, Int.reduceBNe]
    (try simp only [wrap_succ hltk hlen, AW, reduceAdd, reduceCtorEq, reduceEqDiff, ↓reduceIte, reduceLT, reduceLeDiff, reduceSub, reducePow, reduceMul, reduceToNat, reduceLE, reduceEq, Int.reduceLT, Int.reduceBEq, Int.reduceBNe])
    refine ⟨k + 1, ⟨hltk, fun j hj hjk => ?_⟩, ?_, meas_lt hltk⟩
    · by_cases e : j = k
      · subst e; simpa using h1
      · exact ik j hj (by omega)
    · simp only [LW, Nat.reduceMod, Nat.reduceDiv, AW, reduceAdd, reduceCtorEq, reduceEqDiff, ↓reduceIte, reduceLT, reduceLeDiff, reduceSub, reducePow, reduceMul, reduceToNat, reduceLE, reduceEq, Int.reduceLT, Int.reduceBEq, Int.reduceBNe]
  · have hne : oneL fs l[k] ≠ 0 := by simpa using h1
    have hv := errL_at hltk ik hne
    rw [show checkR fs l = oneL fs l[k] by unfold checkR; rw [if_neg (by omega), if_pos (by rw [hv]; exact hne), hv]]
    simp only [AW, reduceAdd, reduceCtorEq, reduceEqDiff, ↓reduceIte, reduceLT, reduceLeDiff, reduceSub, reducePow, reduceMul, reduceToNat, reduceLE, reduceEq, Int.reduceLT, Int.reduceBEq, Int.reduceBNe]
theorem errL_iff {fs : List FareS} {l : List RefS} : errL fs l = 0 ↔ ∀ r ∈ l, oneL fs r = 0 := by
  constructor
  · intro h r hr
    unfold errL at h
    split at h
    · rename_i r2 hf
      have := List.find?_some hf
      rw [h] at this; cases this
    · rename_i hf
      rw [List.find?_eq_none] at hf
      simpa using hf r hr
  · intro h
    exact errL_zero (fun j hj => h _ (List.getElem_mem hj))
/-- What an accepted list of refunds is. -/
theorem check_ok {fs : List FareS} {l : List RefS} : checkR fs l = 0 ↔ l.length ≤ 512 ∧ (∀ r ∈ l, oneL fs r = 0) ∧ (l.map (·.id)).Nodup ∧ ∀ r ∈ l, amtBad fs l r = false := by
  unfold checkR
  constructor
  · intro h
    split at h
    · cases h
    · split at h
      · exact absurd h (by assumption)
      · rename_i h1 h2
        split at h
        · cases h
        · rename_i h3
          split at h
          · cases h
          · rename_i h4
            refine ⟨by omega, errL_iff.1 (by simpa using h2), by simpa using h3, fun r hr => ?_⟩
            cases hb : amtBad fs l r
            · rfl
            · exact absurd (List.any_eq_true.2 ⟨r, hr, hb⟩) h4
  · rintro ⟨h1, h2, h3, h4⟩
    rw [if_neg (by omega), if_neg (by rw [errL_iff.2 h2]; simp), if_neg (by simpa using h3), if_neg]
    intro h
    obtain ⟨r, hr, hb⟩ := List.any_eq_true.1 h
    rw [h4 r hr] at hb; cases hb
theorem check_amt {fs : List FareS} {l : List RefS} (h : checkR fs l = 0) : l.length ≤ 512 ∧ amtOk l := by
  obtain ⟨h1, h2, -⟩ := check_ok.1 h
  exact ⟨h1, fun x hx => by have := one_zero (h2 x hx); omega⟩
def netP (fs : List FareS) (l : List RefS) (ride : Int) : PV := if checkR fs l ≠ 0 then .tup [intP 0, intP (checkR fs l)] else match findF fs ride with
  | some f => .tup [intP (IntKind.i64.wrap (f.total - sR l ride)), intP 0]
  | none => .tup [intP 0, intP 7]
set_option maxHeartbeats 2000000 in
theorem net_g (fs : List FareS) (l : List RefS) (ride : Int) : Good Tryd.prog 25 [.sl (fs.map FareS.pv), .sl (l.map RefS.pv), intP ride] (netP fs l ride) := by
  have gc := check_g fs l
  have gf := find_g fs ride
  refine good25 (by simp) ?_
  simp only [ac25, intP, AW, reduceAdd, reduceCtorEq, reduceEqDiff, ↓reduceIte, reduceLT, reduceLeDiff, reduceSub, reducePow, reduceMul, reduceToNat, reduceLE, reduceEq, Int.reduceLT, Int.reduceBEq, Int.reduceBNe]
  refine ops_call (gc) (by simp only [AW, reduceAdd, reduceCtorEq, reduceEqDiff, ↓reduceIte, reduceLT, reduceLeDiff, reduceSub, reducePow, reduceMul, reduceToNat, reduceLE, reduceEq, Int.reduceLT, Int.reduceBEq, Int.reduceBNe]) ?_; simp only [AW, reduceAdd, reduceCtorEq, reduceEqDiff, ↓reduceIte, reduceLT, reduceLeDiff, reduceSub, reducePow, reduceMul, reduceToNat, reduceLE, reduceEq, Int.reduceLT, Int.reduceBEq, Int.reduceBNe]
  cases h1 : (checkR fs l != 0)
  rotate_left
  · have hne : checkR fs l ≠ 0 := by simpa using h1
    unfold netP; rw [if_pos hne]
    simp only [intP, AW, reduceAdd, reduceCtorEq, reduceEqDiff, ↓reduceIte, reduceLT, reduceLeDiff, reduceSub, reducePow, reduceMul, reduceToNat, reduceLE, reduceEq, Int.reduceLT, Int.reduceBEq, Int.reduceBNe]
  have h0 : checkR fs l = 0 := by simpa using h1
  unfold netP; rw [if_neg (by rw [h0]; simp)]
  obtain ⟨c1, c2⟩ := check_amt h0
  have gs := sums_g l c2 c1
  simp only [sumsP, AW, reduceAdd, reduceCtorEq, reduceEqDiff, ↓reduceIte, reduceLT, reduceLeDiff, reduceSub, reducePow, reduceMul, reduceToNat, reduceLE, reduceEq, Int.reduceLT, Int.reduceBEq, Int.reduceBNe] at gs
  simp only [AW, reduceAdd, reduceCtorEq, reduceEqDiff, ↓reduceIte, reduceLT, reduceLeDiff, reduceSub, reducePow, reduceMul, reduceToNat, reduceLE, reduceEq, Int.reduceLT, Int.reduceBEq, Int.reduceBNe]
  cases hf : findF fs ride with
  | none =>
    rw [hf] at gf
    simp only [findP, zeroF, FareS.pv, List.map_nil, AW, reduceAdd, reduceCtorEq, reduceEqDiff, ↓reduceIte, reduceLT, reduceLeDiff, reduceSub, reducePow, reduceMul, reduceToNat, reduceLE, reduceEq, Int.reduceLT, Int.reduceBEq, Int.reduceBNe] at gf
    refine ops_call (gf) (by simp only [intP, AW, reduceAdd, reduceCtorEq, reduceEqDiff, ↓reduceIte, reduceLT, reduceLeDiff, reduceSub, reducePow, reduceMul, reduceToNat, reduceLE, reduceEq, Int.reduceLT, Int.reduceBEq, Int.reduceBNe]) ?_; simp only [intP, AW, reduceAdd, reduceCtorEq, reduceEqDiff, ↓reduceIte, reduceLT, reduceLeDiff, reduceSub, reducePow, reduceMul, reduceToNat, reduceLE, reduceEq, Int.reduceLT, Int.reduceBEq, Int.reduceBNe]
  | some f =>
    rw [hf] at gf
    simp only [findP, FareS.pv, AW, reduceAdd, reduceCtorEq, reduceEqDiff, ↓reduceIte, reduceLT, reduceLeDiff, reduceSub, reducePow, reduceMul, reduceToNat, reduceLE, reduceEq, Int.reduceLT, Int.reduceBEq, Int.reduceBNe] at gf
    refine ops_call (gf) (by simp only [intP, AW, reduceAdd, reduceCtorEq, reduceEqDiff, ↓reduceIte, reduceLT, reduceLeDiff, reduceSub, reducePow, reduceMul, reduceToNat, reduceLE, reduceEq, Int.reduceLT, Int.reduceBEq, Int.reduceBNe]) ?_; simp only [intP, AW, reduceAdd, reduceCtorEq, reduceEqDiff, ↓reduceIte, reduceLT, reduceLeDiff, reduceSub, reducePow, reduceMul, reduceToNat, reduceLE, reduceEq, Int.reduceLT, Int.reduceBEq, Int.reduceBNe]
    refine ops_call (gs) (by simp only [AW, reduceAdd, reduceCtorEq, reduceEqDiff, ↓reduceIte, reduceLT, reduceLeDiff, reduceSub, reducePow, reduceMul, reduceToNat, reduceLE, reduceEq, Int.reduceLT, Int.reduceBEq, Int.reduceBNe]) ?_; simp only [AW, reduceAdd, reduceCtorEq, reduceEqDiff, ↓reduceIte, reduceLT, reduceLeDiff, reduceSub, reducePow, reduceMul, reduceToNat, reduceLE, reduceEq, Int.reduceLT, Int.reduceBEq, Int.reduceBNe]
    simp only [isIntB, mR_get, AW, reduceAdd, reduceCtorEq, reduceEqDiff, ↓reduceIte, reduceLT, reduceLeDiff, reduceSub, reducePow, reduceMul, reduceToNat, reduceLE, reduceEq, Int.reduceLT, Int.reduceBEq, Int.reduceBNe]


end Go.Proofs.YtaejaogidkgalaaDoor
