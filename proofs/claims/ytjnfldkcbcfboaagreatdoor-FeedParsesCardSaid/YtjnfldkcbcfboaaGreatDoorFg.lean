/-
  Status: fleets, docks; what its lines are.
-/
import Derived.Test.YtjnfldkcbcfboaaGreatDoorFf
namespace Go.Proofs.YtjnfldkcbcfboaaGreatDoor
open Go.RowKit
open Nat (reduceAdd reduceEqDiff reduceLT reduceLeDiff reduceSub reducePow reduceMul)
open Int (reduceToNat reduceLE reduceEq)
set_option linter.unusedVariables false
set_option linter.unusedSimpArgs false
set_option linter.unnecessarySimpa false


def fleetE (f : FleetS) : Int := if (inB f.bikes 1 128 && inB f.riders 1 128 && inB f.devices 1 256) = false then 1 else if 32 < f.docks.length ∨ 8 < f.trucks.length then 8 else if ((f.docks.all fun x => inB x 1 32) && (f.trucks.all fun x => inB x 1 32)) = true then 0 else 1
def atD (x : SpotS) : Bool := x.where_ == 1
def okDock (f : FleetS) (p : Int) : Bool := decide (0 ≤ p) && decide (p.tdiv 32 < f.docks.length) && decide (p.tmod 32 < f.docks.getD (p.tdiv 32).toNat 0)
def usedP (l : List SpotS) (p : Int) : Bool := l.any fun x => atD x && x.place == p
def spotOk (f : FleetS) (spots : List SpotS) (i : Nat) (x : SpotS) : Bool := !(atD x) || (okDock f x.place && !usedP (spots.take i) x.place)
def spotsOk (f : FleetS) (spots : List SpotS) : Bool := spots.zipIdx.all fun x => spotOk f spots x.2 x.1
def atS (s : Nat) (x : SpotS) : Bool := atD x && decide ((x.place.tdiv 32).toNat = s)
def cnt (l : List SpotS) (s : Nat) : Int := (l.countP (atS s) : Int)
def cntL (f : FleetS) (l : List SpotS) : List Int := (List.range f.docks.length).map (cnt l)
def statE (f : FleetS) (spots : List SpotS) : Int := if fleetE f ≠ 0 then fleetE f else if (spots.length : Int) ≠ f.bikes then 3 else if spotsOk f spots = true then 0 else 23
def statLine (f : FleetS) (spots : List SpotS) (s : Nat) : List UInt8 := wordsL (dec (s : Int)) [dec (cnt spots s), dec (f.docks.getD s 0 - cnt spots s)]
def statX (f : FleetS) (spots : List SpotS) : List (List UInt8) := (List.range f.docks.length).map (statLine f spots)
def statP (f : FleetS) (spots : List SpotS) : PV := if statE f spots ≠ 0 then .tup [.sl [], intP (statE f spots)] else .tup [.sl ((statX f spots).map txP), intP 0]
def usedM (l : List SpotS) (k : Value) : Option Value := match k with
  | .int .i64 x => if usedP l x = true then some (.bool true) else none
  | _ => none
theorem usedM_nil : usedM [] = fun _ => none := by funext k; unfold usedM; split <;> rfl
theorem usedP_snoc (l : List SpotS) (x : SpotS) (p : Int) : usedP (l ++ [x]) p = (usedP l p || (atD x && x.place == p)) := by
  unfold usedP; rw [List.any_append]; simp
theorem usedM_skip {l : List SpotS} {x : SpotS} (h : atD x = false) : usedM (l ++ [x]) = usedM l := by
  funext k; unfold usedM; split
  · rw [usedP_snoc, h, Bool.false_and, Bool.or_false]
  · rfl
theorem usedM_snoc {l : List SpotS} {x : SpotS} (h : atD x = true) : usedM (l ++ [x]) = upd (usedM l) (.int .i64 x.place) (.bool true) := by
  funext k
  by_cases e : k = .int .i64 x.place
  · subst e
    rw [upd_same]
    show (if _ then _ else _) = _
    rw [if_pos (by rw [usedP_snoc, h]; simp)]
  · rw [upd_other _ _ e]
    unfold usedM
    split
    · rename_i y
      have hne : (x.place == y) = false := by
        rw [Bool.eq_false_iff]; intro h2
        exact e (by rw [beq_iff_eq.1 h2])
      rw [usedP_snoc, hne, Bool.and_false, Bool.or_false]
    · rfl
theorem usedM_get (l : List SpotS) (x : Int) : (usedM l (.int .i64 x)).getD (.bool false) = .bool (usedP l x) := by
  show (if _ then _ else _ : Option Value).getD _ = _
  cases h : usedP l x <;> rfl
theorem quo32 {p : Int} (h : I64 p) : IntKind.i64.wrap (p.tdiv 32) = p.tdiv 32 := by
  obtain ⟨h1, h2⟩ := h
  by_cases h0 : 0 ≤ p
  · rw [Int.tdiv_eq_ediv_of_nonneg h0]
    exact wrap_id ⟨by omega, by omega⟩
  · obtain ⟨q, rfl⟩ : ∃ q : Int, p = -q := ⟨-p, by omega⟩
    rw [Int.neg_tdiv, Int.tdiv_eq_ediv_of_nonneg (by omega)]
    exact wrap_id ⟨by omega, by omega⟩
theorem cntL_len (f : FleetS) (l : List SpotS) : (cntL f l).length = f.docks.length := by unfold cntL; simp
theorem cnt_skip {l : List SpotS} {x : SpotS} (h : atD x = false) (s : Nat) : cnt (l ++ [x]) s = cnt l s := by
  unfold cnt atS; rw [List.countP_append]; simp [List.countP_cons, h]
theorem cntL_skip {f : FleetS} {l : List SpotS} {x : SpotS} (h : atD x = false) : cntL f (l ++ [x]) = cntL f l := by
  unfold cntL; exact List.map_congr_left fun s _ => cnt_skip h s
theorem cnt_snoc {l : List SpotS} {x : SpotS} (h : atD x = true) (s : Nat) : cnt (l ++ [x]) s = if (x.place.tdiv 32).toNat = s then cnt l s + 1 else cnt l s := by
  unfold cnt atS; rw [List.countP_append]
  by_cases e : (x.place.tdiv 32).toNat = s
  · rw [if_pos e]; simp [List.countP_cons, h, e]
  · rw [if_neg e]; simp [List.countP_cons, h, e]
theorem cntL_get {f : FleetS} {l : List SpotS} {j : Nat} (h : j < (cntL f l).length) : (cntL f l)[j] = cnt l j := by simp [cntL]
theorem cntL_snoc {f : FleetS} {l : List SpotS} {x : SpotS} (h : atD x = true) : (cntL f (l ++ [x])).map intP = ((cntL f l).map intP).set (x.place.tdiv 32).toNat (intP (cnt l (x.place.tdiv 32).toNat + 1)) := by
  refine List.ext_getElem (by rw [List.length_set, List.length_map, List.length_map, cntL_len, cntL_len]) (fun j h1 h2 => ?_)
  rw [List.getElem_set, List.getElem_map, List.getElem_map, cntL_get, cntL_get, cnt_snoc h]
  by_cases e : (x.place.tdiv 32).toNat = j
  · rw [if_pos e, if_pos e, e]
  · rw [if_neg e, if_neg e]
theorem cntL_zero (f : FleetS) : (cntL f []).map intP = List.replicate f.docks.length (intP 0) := by
  unfold cntL
  rw [List.map_map]
  refine List.ext_getElem (by simp) (fun j h1 h2 => ?_)
  rw [List.getElem_map, List.getElem_replicate]; rfl
theorem cnt_bnd (l : List SpotS) (s : Nat) : 0 ≤ cnt l s ∧ cnt l s ≤ l.length := by
  unfold cnt
  have := List.countP_le_length (p := atS s) (l := l)
  omega
theorem spots_no {f : FleetS} {spots : List SpotS} {k : Nat} (hk : k < spots.length) (h : spotOk f spots k spots[k] = false) : spotsOk f spots = false := by
  unfold spotsOk
  rw [Bool.eq_false_iff]; intro h2
  have := List.all_eq_true.1 h2 (spots[k], k) (List.mem_iff_getElem.2 ⟨k, by rw [List.length_zipIdx]; exact hk, by rw [List.getElem_zipIdx]; simp⟩)
  simp only at this
  rw [h] at this; cases this
theorem spots_yes {f : FleetS} {spots : List SpotS} (h : ∀ k (hk : k < spots.length), spotOk f spots k spots[k] = true) : spotsOk f spots = true := by
  unfold spotsOk
  rw [List.all_eq_true]
  rintro ⟨x, i⟩ hx
  obtain ⟨h1, h2, h3⟩ := List.mem_zipIdx hx
  simp only at h1 h2 h3 ⊢
  rw [h3]
  simp only [Nat.sub_zero]
  exact h i (by omega)
def fleC (f : FleetS) : List PV := [.sc (.int .i64 f.bikes), .sc (.int .i64 f.riders), .sc (.int .i64 f.devices), .sl (f.docks.map intP), .sl (f.trucks.map intP)]
theorem fle_fact {f : FuncId} {r : FleetS} {ps qs : List PV} {u : PV} (h : r.docks.length ≤ maxLen → r.trucks.length ≤ maxLen → Good Tryz.prog f (ps ++ r.pv :: qs) u) : Good Tryz.prog f (ps ++ r.pv :: qs) u := by
  refine .lenA (cs := fleC r) (es := r.docks.map intP) (by simp [FleetS.pv, fleC]) (by simp [fleC]) (fun h1 => ?_)
  refine .lenA (cs := fleC r) (es := r.trucks.map intP) (by simp [FleetS.pv, fleC]) (by simp [fleC]) (fun h2 => ?_)
  exact h (by simpa using h1) (by simpa using h2)
theorem within_g (n lo hi : Int) : Good Tryz.prog 39 [intP n, intP lo, intP hi] (.sc (.bool (inB n lo hi))) := by
  refine good39 (by simp) ?_
  simp only [ac39, intP, inB, AW, reduceAdd, reduceCtorEq, reduceEqDiff, ↓reduceIte, reduceLT, reduceLeDiff, reduceSub, reducePow, reduceMul, reduceToNat, reduceLE, reduceEq, Int.reduceLT, Int.reduceBEq, Int.reduceBNe]
  cases h1 : decide (lo ≤ n)
  · simp only [AW, reduceAdd, reduceCtorEq, reduceEqDiff, ↓reduceIte, reduceLT, reduceLeDiff, reduceSub, reducePow, reduceMul, reduceToNat, reduceLE, reduceEq, Int.reduceLT, Int.reduceBEq, Int.reduceBNe]
  simp only [AW, reduceAdd, reduceCtorEq, reduceEqDiff, ↓reduceIte, reduceLT, reduceLeDiff, reduceSub, reducePow, reduceMul, reduceToNat, reduceLE, reduceEq, Int.reduceLT, Int.reduceBEq, Int.reduceBNe]
set_option maxHeartbeats 1000000 in
theorem all_g (l : List Int) (m : Int) : Good Tryz.prog 40 [intsP l, intP m] (.sc (.bool (l.all fun x => inB x 1 m))) := by
  refine .len (es := l.map intP) (by simp [intsP]) (fun hlen => ?_)
  rw [List.length_map] at hlen
  refine good40 (by simp) ?_
  simp only [ac40, intsP, intP, List.length_map, AW, reduceAdd, reduceCtorEq, reduceEqDiff, ↓reduceIte, reduceLT, reduceLeDiff, reduceSub, reducePow, reduceMul, reduceToNat, reduceLE, reduceEq, Int.reduceLT, Int.reduceBEq, Int.reduceBNe]
  refine run_loop (ι := Nat) (fun k => ⟨[(1, .sc (.int .i64 m)), (7, .sl (l.map intP)), (8, .sc (.int .i64 (l.length : Int))), (9, .sc (.int .i64 (k : Int)))], [], 4, 18⟩) (fun k => k ≤ l.length ∧ (∀ j (hj : j < l.length), j < k → inB l[j] 1 m = true)) (fun k => l.length - k) 4 (fun _ => rfl) 0 (by simp only [LW, Nat.reduceMod, Nat.reduceDiv, Int.natCast_zero, List.length_map, AW, reduceAdd, reduceCtorEq, reduceEqDiff, ↓reduceIte, reduceLT, reduceLeDiff, reduceSub, reducePow, reduceMul, reduceToNat, reduceLE, reduceEq, Int.reduceLT, Int.reduceBEq, Int.reduceBNe]) ⟨Nat.zero_le _, nofun⟩ (fun k hk => ?_)
  obtain ⟨gk, ik⟩ := hk
  by_cases hltk : k < l.length
  rotate_left
  · have dk : decide ((k : Int) < ((l.length : Nat) : Int)) = false := by rw [decide_eq_false_iff_not]; exact fun h => hltk (Int.ofNat_lt.1 h)
    have ek : k = l.length := Nat.le_antisymm gk (Nat.le_of_not_lt hltk)
    subst ek
    rw [show (l.all fun x => inB x 1 m) = true from all_yes (fun j hj => ik j hj hj)]
    simp only [dk, AW, reduceAdd, reduceCtorEq, reduceEqDiff, ↓reduceIte, reduceLT, reduceLeDiff, reduceSub, reducePow, reduceMul, reduceToNat, reduceLE, reduceEq, Int.reduceLT, Int.reduceBEq, Int.reduceBNe]
  have dk : decide ((k : Int) < ((l.length : Nat) : Int)) = true := by rw [decide_eq_true_eq]; exact Int.ofNat_lt.2 hltk
  simp only [dk, map_getD hltk, hltk, intP, List.length_map, AW, reduceAdd, reduceCtorEq, reduceEqDiff, ↓reduceIte, reduceLT, reduceLeDiff, reduceSub, reducePow, reduceMul, reduceToNat, reduceLE, reduceEq, Int.reduceLT, Int.reduceBEq, Int.reduceBNe]
  refine ops_call (within_g l[k] 1 m) (by simp only [intP, AW, reduceAdd, reduceCtorEq, reduceEqDiff, ↓reduceIte, reduceLT, reduceLeDiff, reduceSub, reducePow, reduceMul, reduceToNat, reduceLE, reduceEq, Int.reduceLT, Int.reduceBEq, Int.reduceBNe]) ?_; simp only [intP, AW, reduceAdd, reduceCtorEq, reduceEqDiff, ↓reduceIte, reduceLT, reduceLeDiff, reduceSub, reducePow, reduceMul, reduceToNat, reduceLE, reduceEq, Int.reduceLT, Int.reduceBEq, Int.reduceBNe]
  cases h : inB l[k] 1 m
  · rw [all_no (p := fun x => inB x 1 m) hltk h]
    simp only [AW, reduceAdd, reduceCtorEq, reduceEqDiff, ↓reduceIte, reduceLT, reduceLeDiff, reduceSub, reducePow, reduceMul, reduceToNat, reduceLE, reduceEq, Int.reduceLT, Int.reduceBEq, Int.reduceBNe]
  simp only [wrap_succ hltk hlen, AW, reduceAdd, reduceCtorEq, reduceEqDiff, ↓reduceIte, reduceLT, reduceLeDiff, reduceSub, reducePow, reduceMul, reduceToNat, reduceLE, reduceEq, Int.reduceLT, Int.reduceBEq, Int.reduceBNe]
  refine ⟨k + 1, ⟨hltk, fun j hj hjk => ?_⟩, ?_, by omega⟩
  · by_cases e : j = k
    · subst e; exact h
    · exact ik j hj (by omega)
  · simp only [LW, Nat.reduceMod, Nat.reduceDiv, AW, reduceAdd, reduceCtorEq, reduceEqDiff, ↓reduceIte, reduceLT, reduceLeDiff, reduceSub, reducePow, reduceMul, reduceToNat, reduceLE, reduceEq, Int.reduceLT, Int.reduceBEq, Int.reduceBNe]
set_option maxHeartbeats 2000000 in
theorem fleet_g (f : FleetS) : Good Tryz.prog 22 [f.pv] (intP (fleetE f)) := by
  refine fle_fact (ps := []) (qs := []) (fun _ _ => ?_)
  refine good22 (by simp) ?_
  simp only [ac22, FleetS.pv, List.nil_append, AW, reduceAdd, reduceCtorEq, reduceEqDiff, ↓reduceIte, reduceLT, reduceLeDiff, reduceSub, reducePow, reduceMul, reduceToNat, reduceLE, reduceEq, Int.reduceLT, Int.reduceBEq, Int.reduceBNe]
  have e1 : (inB f.bikes 1 128 && inB f.riders 1 128 && inB f.devices 1 256) = false → fleetE f = 1 := fun h => if_pos h
  refine ops_call (within_g f.bikes 1 128) (by simp only [intP, AW, reduceAdd, reduceCtorEq, reduceEqDiff, ↓reduceIte, reduceLT, reduceLeDiff, reduceSub, reducePow, reduceMul, reduceToNat, reduceLE, reduceEq, Int.reduceLT, Int.reduceBEq, Int.reduceBNe]) ?_; simp only [intP, AW, reduceAdd, reduceCtorEq, reduceEqDiff, ↓reduceIte, reduceLT, reduceLeDiff, reduceSub, reducePow, reduceMul, reduceToNat, reduceLE, reduceEq, Int.reduceLT, Int.reduceBEq, Int.reduceBNe]
  cases h1 : inB f.bikes 1 128
  · rw [e1 (by rw [h1]; rfl)]
    simp only [intP, AW, reduceAdd, reduceCtorEq, reduceEqDiff, ↓reduceIte, reduceLT, reduceLeDiff, reduceSub, reducePow, reduceMul, reduceToNat, reduceLE, reduceEq, Int.reduceLT, Int.reduceBEq, Int.reduceBNe]
  simp only [AW, reduceAdd, reduceCtorEq, reduceEqDiff, ↓reduceIte, reduceLT, reduceLeDiff, reduceSub, reducePow, reduceMul, reduceToNat, reduceLE, reduceEq, Int.reduceLT, Int.reduceBEq, Int.reduceBNe]
  refine ops_call (within_g f.riders 1 128) (by simp only [intP, AW, reduceAdd, reduceCtorEq, reduceEqDiff, ↓reduceIte, reduceLT, reduceLeDiff, reduceSub, reducePow, reduceMul, reduceToNat, reduceLE, reduceEq, Int.reduceLT, Int.reduceBEq, Int.reduceBNe]) ?_; simp only [intP, AW, reduceAdd, reduceCtorEq, reduceEqDiff, ↓reduceIte, reduceLT, reduceLeDiff, reduceSub, reducePow, reduceMul, reduceToNat, reduceLE, reduceEq, Int.reduceLT, Int.reduceBEq, Int.reduceBNe]
  cases h2 : inB f.riders 1 128
  · rw [e1 (by rw [h2, Bool.and_false]; rfl)]
    simp only [intP, AW, reduceAdd, reduceCtorEq, reduceEqDiff, ↓reduceIte, reduceLT, reduceLeDiff, reduceSub, reducePow, reduceMul, reduceToNat, reduceLE, reduceEq, Int.reduceLT, Int.reduceBEq, Int.reduceBNe]
  simp only [AW, reduceAdd, reduceCtorEq, reduceEqDiff, ↓reduceIte, reduceLT, reduceLeDiff, reduceSub, reducePow, reduceMul, reduceToNat, reduceLE, reduceEq, Int.reduceLT, Int.reduceBEq, Int.reduceBNe]
  refine ops_call (within_g f.devices 1 256) (by simp only [intP, AW, reduceAdd, reduceCtorEq, reduceEqDiff, ↓reduceIte, reduceLT, reduceLeDiff, reduceSub, reducePow, reduceMul, reduceToNat, reduceLE, reduceEq, Int.reduceLT, Int.reduceBEq, Int.reduceBNe]) ?_; simp only [intP, AW, reduceAdd, reduceCtorEq, reduceEqDiff, ↓reduceIte, reduceLT, reduceLeDiff, reduceSub, reducePow, reduceMul, reduceToNat, reduceLE, reduceEq, Int.reduceLT, Int.reduceBEq, Int.reduceBNe]
  cases h3 : inB f.devices 1 256
  · rw [e1 (by rw [h3, Bool.and_false])]
    simp only [intP, AW, reduceAdd, reduceCtorEq, reduceEqDiff, ↓reduceIte, reduceLT, reduceLeDiff, reduceSub, reducePow, reduceMul, reduceToNat, reduceLE, reduceEq, Int.reduceLT, Int.reduceBEq, Int.reduceBNe]
  have n1 : ¬ (inB f.bikes 1 128 && inB f.riders 1 128 && inB f.devices 1 256) = false := by rw [h1, h2, h3]; decide
  simp only [List.length_map, AW, reduceAdd, reduceCtorEq, reduceEqDiff, ↓reduceIte, reduceLT, reduceLeDiff, reduceSub, reducePow, reduceMul, reduceToNat, reduceLE, reduceEq, Int.reduceLT, Int.reduceBEq, Int.reduceBNe]
  cases h4 : decide ((32 : Int) < (f.docks.length : Int))
  rotate_left
  · have := of_decide_eq_true h4
    rw [show fleetE f = 8 by unfold fleetE; rw [if_neg n1, if_pos (.inl (by omega))]]
    simp only [h4, intP, AW, reduceAdd, reduceCtorEq, reduceEqDiff, ↓reduceIte, reduceLT, reduceLeDiff, reduceSub, reducePow, reduceMul, reduceToNat, reduceLE, reduceEq, Int.reduceLT, Int.reduceBEq, Int.reduceBNe]
  have h4' := of_decide_eq_false h4
  simp only [h4, List.length_map, AW, reduceAdd, reduceCtorEq, reduceEqDiff, ↓reduceIte, reduceLT, reduceLeDiff, reduceSub, reducePow, reduceMul, reduceToNat, reduceLE, reduceEq, Int.reduceLT, Int.reduceBEq, Int.reduceBNe]
  cases h5 : decide ((8 : Int) < (f.trucks.length : Int))
  rotate_left
  · have := of_decide_eq_true h5
    rw [show fleetE f = 8 by unfold fleetE; rw [if_neg n1, if_pos (.inr (by omega))]]
    simp only [h5, intP, AW, reduceAdd, reduceCtorEq, reduceEqDiff, ↓reduceIte, reduceLT, reduceLeDiff, reduceSub, reducePow, reduceMul, reduceToNat, reduceLE, reduceEq, Int.reduceLT, Int.reduceBEq, Int.reduceBNe]
  have h5' := of_decide_eq_false h5
  have n2 : ¬ (32 < f.docks.length ∨ 8 < f.trucks.length) := by omega
  simp only [h5, AW, reduceAdd, reduceCtorEq, reduceEqDiff, ↓reduceIte, reduceLT, reduceLeDiff, reduceSub, reducePow, reduceMul, reduceToNat, reduceLE, reduceEq, Int.reduceLT, Int.reduceBEq, Int.reduceBNe]
  refine ops_call (all_g f.docks 32) (by simp only [intP, intsP, AW, reduceAdd, reduceCtorEq, reduceEqDiff, ↓reduceIte, reduceLT, reduceLeDiff, reduceSub, reducePow, reduceMul, reduceToNat, reduceLE, reduceEq, Int.reduceLT, Int.reduceBEq, Int.reduceBNe]) ?_; simp only [intP, intsP, AW, reduceAdd, reduceCtorEq, reduceEqDiff, ↓reduceIte, reduceLT, reduceLeDiff, reduceSub, reducePow, reduceMul, reduceToNat, reduceLE, reduceEq, Int.reduceLT, Int.reduceBEq, Int.reduceBNe]
  have e3 : ((f.docks.all fun x => inB x 1 32) && (f.trucks.all fun x => inB x 1 32)) = false → fleetE f = 1 := fun h => by unfold fleetE; rw [if_neg n1, if_neg n2, if_neg (by rw [h]; decide)]
  cases h6 : f.docks.all fun x => inB x 1 32
  · rw [e3 (by rw [h6]; rfl)]
    simp only [intP, AW, reduceAdd, reduceCtorEq, reduceEqDiff, ↓reduceIte, reduceLT, reduceLeDiff, reduceSub, reducePow, reduceMul, reduceToNat, reduceLE, reduceEq, Int.reduceLT, Int.reduceBEq, Int.reduceBNe]
  simp only [AW, reduceAdd, reduceCtorEq, reduceEqDiff, ↓reduceIte, reduceLT, reduceLeDiff, reduceSub, reducePow, reduceMul, reduceToNat, reduceLE, reduceEq, Int.reduceLT, Int.reduceBEq, Int.reduceBNe]
  refine ops_call (all_g f.trucks 32) (by simp only [intP, intsP, AW, reduceAdd, reduceCtorEq, reduceEqDiff, ↓reduceIte, reduceLT, reduceLeDiff, reduceSub, reducePow, reduceMul, reduceToNat, reduceLE, reduceEq, Int.reduceLT, Int.reduceBEq, Int.reduceBNe]) ?_; simp only [intP, intsP, AW, reduceAdd, reduceCtorEq, reduceEqDiff, ↓reduceIte, reduceLT, reduceLeDiff, reduceSub, reducePow, reduceMul, reduceToNat, reduceLE, reduceEq, Int.reduceLT, Int.reduceBEq, Int.reduceBNe]
  cases h7 : f.trucks.all fun x => inB x 1 32
  · rw [e3 (by rw [h7, Bool.and_false])]
    simp only [intP, AW, reduceAdd, reduceCtorEq, reduceEqDiff, ↓reduceIte, reduceLT, reduceLeDiff, reduceSub, reducePow, reduceMul, reduceToNat, reduceLE, reduceEq, Int.reduceLT, Int.reduceBEq, Int.reduceBNe]
  rw [show fleetE f = 0 by unfold fleetE; rw [if_neg n1, if_neg n2, if_pos (by rw [h6, h7]; rfl)]]
  simp only [intP, AW, reduceAdd, reduceCtorEq, reduceEqDiff, ↓reduceIte, reduceLT, reduceLeDiff, reduceSub, reducePow, reduceMul, reduceToNat, reduceLE, reduceEq, Int.reduceLT, Int.reduceBEq, Int.reduceBNe]


end Go.Proofs.YtjnfldkcbcfboaaGreatDoor
