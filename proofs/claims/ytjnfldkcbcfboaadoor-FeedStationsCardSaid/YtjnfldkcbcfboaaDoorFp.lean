/-
  The law of the stations' lines.
-/
import Derived.Test.YtjnfldkcbcfboaaDoorFo
namespace Go.Proofs.YtjnfldkcbcfboaaDoor
open Go.RowKit
open Nat (reduceAdd reduceEqDiff reduceLT reduceLeDiff reduceSub reducePow reduceMul)
open Int (reduceToNat reduceLE reduceEq)
set_option linter.unusedVariables false
set_option linter.unusedSimpArgs false
set_option linter.unnecessarySimpa false

def idxD : Nat → Int
  | 0 => -1
  | j + 1 => (j : Int)
theorem idxD_s (j : Nat) : idxD (j + 1) = (j : Int) := rfl
theorem idxD_0 : idxD 0 = -1 := rfl
theorem idxD_wrap {j : Nat} (h : j ≤ 1000000) : IntKind.i64.wrap ((j : Int) - 1) = idxD j := by
  cases j with
  | zero => decide
  | succ j => rw [wrap_id ⟨by omega, by omega⟩]; show _ = (j : Int); omega
theorem statP_form (f : FleetS) (l : List SpotS) : ∃ L e, statP f l = .tup [.sl (L.map txP), intP e] ∧ ((e ≠ 0 ∧ L = []) ∨ (e = 0 ∧ statE f l = 0 ∧ L = statX f l)) := by
  unfold statP
  by_cases h : statE f l ≠ 0
  · rw [if_pos h]; exact ⟨[], _, rfl, Or.inl ⟨h, rfl⟩⟩
  · rw [if_neg h]; exact ⟨_, 0, rfl, Or.inr ⟨rfl, Decidable.not_not.1 h, rfl⟩⟩
theorem stat_parts {f : FleetS} {l : List SpotS} (h : statE f l = 0) : fleetE f = 0 ∧ l.length ≤ 128 ∧ spotsOk f l = true := by
  unfold statE at h
  split at h
  · rename_i h1; exact absurd h h1
  · rename_i h1
    split at h
    · cases h
    · rename_i h2
      split at h
      · rename_i h3
        have h1 := Decidable.not_not.1 h1
        obtain ⟨_, b, _⟩ := fleet_ok h1
        exact ⟨h1, by omega, h3⟩
      · cases h
def backP (l : List SpotS) (k : Nat) : List PV := (l.drop k).reverse.map SpotS.pv
theorem backP_len (l : List SpotS) (k : Nat) : (backP l k).length = l.length - k := by unfold backP; simp
theorem backP_step {l : List SpotS} {j : Nat} (h : j < l.length) : backP l j = backP l (j + 1) ++ [l[j].pv] := by
  unfold backP; rw [List.drop_eq_getElem_cons h, List.reverse_cons, List.map_append]; rfl
theorem backP_end (l : List SpotS) : backP l l.length = [] := by unfold backP; rw [List.drop_length]; rfl
theorem backP_all (l : List SpotS) : backP l 0 = l.reverse.map SpotS.pv := rfl
def dkN (l : List SpotS) (k : Nat) : Int := ((l.drop k).countP atD : Int)
theorem dkN_end (l : List SpotS) : dkN l l.length = 0 := by unfold dkN; rw [List.drop_length]; rfl
theorem dkN_step {l : List SpotS} {j : Nat} (h : j < l.length) : dkN l j = if (l[j].where_ == 1) = true then dkN l (j + 1) + 1 else dkN l (j + 1) := by
  unfold dkN; rw [List.drop_eq_getElem_cons h, List.countP_cons]
  show ((_ + if (l[j].where_ == 1) = true then 1 else 0 : Nat) : Int) = _
  split <;> simp
theorem dkN_bnd (l : List SpotS) (k : Nat) : 0 ≤ dkN l k ∧ dkN l k ≤ l.length := by
  unfold dkN
  have := List.countP_le_length (p := atD) (l := l.drop k)
  rw [List.length_drop] at this; omega
theorem tot_bnd (l : List SpotS) (k : Nat) : 0 ≤ tot l k ∧ tot l k ≤ l.length := by
  unfold tot
  have := List.countP_le_length (p := fun x : SpotS => atD x && decide ((x.place.tdiv 32).toNat < k)) (l := l)
  omega
set_option maxHeartbeats 8000000 in
theorem feedStations_good (f : FleetS) (spots : List SpotS) : Good Tryd.prog 7 [f.pv, .sl (spots.map SpotS.pv)] (.sc (.bool true)) := by
  have g1 := rfew_g f
  obtain ⟨L, e, hst, hcase⟩ := statP_form f spots
  have g2 := status_g f spots
  have g3 := status_g f spots.reverse
  rw [statP_rev, hst] at g3
  rw [hst] at g2
  refine good7 (by simp) ?_
  simp only [ac7, FleetS.pv, AW, reduceAdd, reduceCtorEq, reduceEqDiff, ↓reduceIte, reduceLT, reduceLeDiff, reduceSub, reducePow, reduceMul, reduceToNat, reduceLE, reduceEq, Int.reduceLT, Int.reduceBEq, Int.reduceBNe]
  refine ops_call (g1) (by simp only [FleetS.pv, AW, reduceAdd, reduceCtorEq, reduceEqDiff, ↓reduceIte, reduceLT, reduceLeDiff, reduceSub, reducePow, reduceMul, reduceToNat, reduceLE, reduceEq, Int.reduceLT, Int.reduceBEq, Int.reduceBNe]) ?_; simp only [FleetS.pv, AW, reduceAdd, reduceCtorEq, reduceEqDiff, ↓reduceIte, reduceLT, reduceLeDiff, reduceSub, reducePow, reduceMul, reduceToNat, reduceLE, reduceEq, Int.reduceLT, Int.reduceBEq, Int.reduceBNe]
  cases hf : (decide (f.docks.length ≤ 100) && decide (f.trucks.length ≤ 100))
  · simp only [AW, reduceAdd, reduceCtorEq, reduceEqDiff, ↓reduceIte, reduceLT, reduceLeDiff, reduceSub, reducePow, reduceMul, reduceToNat, reduceLE, reduceEq, Int.reduceLT, Int.reduceBEq, Int.reduceBNe]
    refine ops_call (awake_g) (by simp only [AW, reduceAdd, reduceCtorEq, reduceEqDiff, ↓reduceIte, reduceLT, reduceLeDiff, reduceSub, reducePow, reduceMul, reduceToNat, reduceLE, reduceEq, Int.reduceLT, Int.reduceBEq, Int.reduceBNe]) ?_; simp only [AW, reduceAdd, reduceCtorEq, reduceEqDiff, ↓reduceIte, reduceLT, reduceLeDiff, reduceSub, reducePow, reduceMul, reduceToNat, reduceLE, reduceEq, Int.reduceLT, Int.reduceBEq, Int.reduceBNe]
  simp only [List.length_map, AW, reduceAdd, reduceCtorEq, reduceEqDiff, ↓reduceIte, reduceLT, reduceLeDiff, reduceSub, reducePow, reduceMul, reduceToNat, reduceLE, reduceEq, Int.reduceLT, Int.reduceBEq, Int.reduceBNe]
  cases h2 : decide ((200 : Int) < (spots.length : Int))
  rotate_left
  · simp only [h2, AW, reduceAdd, reduceCtorEq, reduceEqDiff, ↓reduceIte, reduceLT, reduceLeDiff, reduceSub, reducePow, reduceMul, reduceToNat, reduceLE, reduceEq, Int.reduceLT, Int.reduceBEq, Int.reduceBNe]
    refine ops_call (awake_g) (by simp only [AW, reduceAdd, reduceCtorEq, reduceEqDiff, ↓reduceIte, reduceLT, reduceLeDiff, reduceSub, reducePow, reduceMul, reduceToNat, reduceLE, reduceEq, Int.reduceLT, Int.reduceBEq, Int.reduceBNe]) ?_; simp only [AW, reduceAdd, reduceCtorEq, reduceEqDiff, ↓reduceIte, reduceLT, reduceLeDiff, reduceSub, reducePow, reduceMul, reduceToNat, reduceLE, reduceEq, Int.reduceLT, Int.reduceBEq, Int.reduceBNe]
  have h2' := of_decide_eq_false h2
  simp only [h2, AW, reduceAdd, reduceCtorEq, reduceEqDiff, ↓reduceIte, reduceLT, reduceLeDiff, reduceSub, reducePow, reduceMul, reduceToNat, reduceLE, reduceEq, Int.reduceLT, Int.reduceBEq, Int.reduceBNe]
  refine ops_call (g2) (by simp only [FleetS.pv, intP, AW, reduceAdd, reduceCtorEq, reduceEqDiff, ↓reduceIte, reduceLT, reduceLeDiff, reduceSub, reducePow, reduceMul, reduceToNat, reduceLE, reduceEq, Int.reduceLT, Int.reduceBEq, Int.reduceBNe]) ?_; simp only [FleetS.pv, intP, AW, reduceAdd, reduceCtorEq, reduceEqDiff, ↓reduceIte, reduceLT, reduceLeDiff, reduceSub, reducePow, reduceMul, reduceToNat, reduceLE, reduceEq, Int.reduceLT, Int.reduceBEq, Int.reduceBNe]
  have w0 := idxD_wrap (j := spots.length) (by omega)
  simp only [List.length_map, w0, AW, reduceAdd, reduceCtorEq, reduceEqDiff, ↓reduceIte, reduceLT, reduceLeDiff, reduceSub, reducePow, reduceMul, reduceToNat, reduceLE, reduceEq, Int.reduceLT, Int.reduceBEq, Int.reduceBNe]
  refine run_loop (ι := Nat) (fun k => ⟨[(1, .sl (spots.map SpotS.pv)), (2, .ptr 0 0), (5, .sl (L.map txP)), (6, .sc (.int .i64 e)), (7, .own 24 0), (8, .sc (.int .i64 (dkN spots k))), (9, .sc (.int .i64 (idxD k)))], [(0, .var [.sc (.int .i64 f.bikes), .sc (.int .i64 f.riders), .sc (.int .i64 f.devices), .sl (f.docks.map intP), .sl (f.trucks.map intP)]), (24, .row 51 4 0 (backP spots k))], 25, 137⟩) (fun k => k ≤ spots.length) (fun k => k) 25 (fun _ => rfl) spots.length (by simp only [LW, Nat.reduceMod, Nat.reduceDiv, backP_end, dkN_end, Nat.zero_lt_one, AW, reduceAdd, reduceCtorEq, reduceEqDiff, ↓reduceIte, reduceLT, reduceLeDiff, reduceSub, reducePow, reduceMul, reduceToNat, reduceLE, reduceEq, Int.reduceLT, Int.reduceBEq, Int.reduceBNe]) (Nat.le_refl _) (fun k hk => ?_)
  rcases k with _ | j
  rotate_left
  · have hj : j < spots.length := hk
    have d0 : decide ((0 : Int) ≤ (j : Int)) = true := by rw [decide_eq_true_eq]; omega
    have q1 : (backP spots (j + 1)).length + 1 ≤ maxLen := by rw [backP_len]; unfold maxLen; omega
    have q2 : ((backP spots (j + 1)).length + 1) * 32 ≤ 140737488355328 := by rw [backP_len]; omega
    have es := backP_step hj
    have ed := dkN_step hj
    have wj := idxD_wrap (j := j) (by omega)
    have db := dkN_bnd spots (j + 1)
    generalize backP spots (j + 1) = rw_ at *
    simp only [idxD_s, d0, map_getD hj, hj, SpotS.pv, SpotS.vals, List.map_cons, List.map_nil, List.length_map, q1, q2, AW, reduceAdd, reduceCtorEq, reduceEqDiff, ↓reduceIte, reduceLT, reduceLeDiff, reduceSub, reducePow, reduceMul, reduceToNat, reduceLE, reduceEq, Int.reduceLT, Int.reduceBEq, Int.reduceBNe]
    (first | (refine drawnK rfl ?_; (try simp only [AW, reduceAdd, reduceCtorEq, reduceEqDiff, ↓reduceIte, reduceLT, reduceLeDiff, reduceSub, reducePow, reduceMul, reduceToNat, reduceLE, reduceEq, Int.reduceLT, Int.reduceBEq, Int.reduceBNe])) | skip)
    (try simp only [idxD_s, d0, map_getD hj, hj, SpotS.pv, SpotS.vals, List.map_cons, List.map_nil, List.length_map, q1, q2, AW, reduceAdd, reduceCtorEq, reduceEqDiff, ↓reduceIte, reduceLT, reduceLeDiff, reduceSub, reducePow, reduceMul, reduceToNat, reduceLE, reduceEq, Int.reduceLT, Int.reduceBEq, Int.reduceBNe])
    cases hw : (spots[j].where_ == 1)
    · rw [hw, if_neg (by decide)] at ed
      simp only [wj, AW, reduceAdd, reduceCtorEq, reduceEqDiff, ↓reduceIte, reduceLT, reduceLeDiff, reduceSub, reducePow, reduceMul, reduceToNat, reduceLE, reduceEq, Int.reduceLT, Int.reduceBEq, Int.reduceBNe]
      refine ⟨j, Nat.le_of_lt hj, ?_, Nat.lt_succ_self j⟩
      simp only [LW, Nat.reduceMod, Nat.reduceDiv, es, ed, SpotS.pv, SpotS.vals, List.map_cons, List.map_nil, AW, reduceAdd, reduceCtorEq, reduceEqDiff, ↓reduceIte, reduceLT, reduceLeDiff, reduceSub, reducePow, reduceMul, reduceToNat, reduceLE, reduceEq, Int.reduceLT, Int.reduceBEq, Int.reduceBNe]
    · rw [hw, if_pos rfl] at ed
      have w1 : IntKind.i64.wrap (dkN spots (j + 1) + 1) = dkN spots (j + 1) + 1 := wrap_id ⟨by omega, by omega⟩
      simp only [wj, w1, AW, reduceAdd, reduceCtorEq, reduceEqDiff, ↓reduceIte, reduceLT, reduceLeDiff, reduceSub, reducePow, reduceMul, reduceToNat, reduceLE, reduceEq, Int.reduceLT, Int.reduceBEq, Int.reduceBNe]
      refine ⟨j, Nat.le_of_lt hj, ?_, Nat.lt_succ_self j⟩
      simp only [LW, Nat.reduceMod, Nat.reduceDiv, es, ed, SpotS.pv, SpotS.vals, List.map_cons, List.map_nil, AW, reduceAdd, reduceCtorEq, reduceEqDiff, ↓reduceIte, reduceLT, reduceLeDiff, reduceSub, reducePow, reduceMul, reduceToNat, reduceLE, reduceEq, Int.reduceLT, Int.reduceBEq, Int.reduceBNe]
  have d0 : decide ((0 : Int) ≤ -1) = false := by decide
  simp only [idxD_0, d0, backP_all, AW, reduceAdd, reduceCtorEq, reduceEqDiff, ↓reduceIte, reduceLT, reduceLeDiff, reduceSub, reducePow, reduceMul, reduceToNat, reduceLE, reduceEq, Int.reduceLT, Int.reduceBEq, Int.reduceBNe]
  refine ops_call (g3) (by simp only [FleetS.pv, intP, AW, reduceAdd, reduceCtorEq, reduceEqDiff, ↓reduceIte, reduceLT, reduceLeDiff, reduceSub, reducePow, reduceMul, reduceToNat, reduceLE, reduceEq, Int.reduceLT, Int.reduceBEq, Int.reduceBNe]) ?_; simp only [FleetS.pv, intP, AW, reduceAdd, reduceCtorEq, reduceEqDiff, ↓reduceIte, reduceLT, reduceLeDiff, reduceSub, reducePow, reduceMul, reduceToNat, reduceLE, reduceEq, Int.reduceLT, Int.reduceBEq, Int.reduceBNe]
  (try simp only [bne_self_eq_false, AW, reduceAdd, reduceCtorEq, reduceEqDiff, ↓reduceIte, reduceLT, reduceLeDiff, reduceSub, reducePow, reduceMul, reduceToNat, reduceLE, reduceEq, Int.reduceLT, Int.reduceBEq, Int.reduceBNe])
  refine ops_call (sameL_g L) (by simp only [AW, reduceAdd, reduceCtorEq, reduceEqDiff, ↓reduceIte, reduceLT, reduceLeDiff, reduceSub, reducePow, reduceMul, reduceToNat, reduceLE, reduceEq, Int.reduceLT, Int.reduceBEq, Int.reduceBNe]) ?_; simp only [AW, reduceAdd, reduceCtorEq, reduceEqDiff, ↓reduceIte, reduceLT, reduceLeDiff, reduceSub, reducePow, reduceMul, reduceToNat, reduceLE, reduceEq, Int.reduceLT, Int.reduceBEq, Int.reduceBNe]
  rcases hcase with ⟨he, rfl⟩ | ⟨rfl, h0, hL⟩
  · have he2 : (e != 0) = true := by rw [bne_iff_ne]; exact he
    simp only [he2, List.map_nil, nil_len0, AW, reduceAdd, reduceCtorEq, reduceEqDiff, ↓reduceIte, reduceLT, reduceLeDiff, reduceSub, reducePow, reduceMul, reduceToNat, reduceLE, reduceEq, Int.reduceLT, Int.reduceBEq, Int.reduceBNe]
    refine ops_call (awake_g) (by simp only [AW, reduceAdd, reduceCtorEq, reduceEqDiff, ↓reduceIte, reduceLT, reduceLeDiff, reduceSub, reducePow, reduceMul, reduceToNat, reduceLE, reduceEq, Int.reduceLT, Int.reduceBEq, Int.reduceBNe]) ?_; simp only [AW, reduceAdd, reduceCtorEq, reduceEqDiff, ↓reduceIte, reduceLT, reduceLeDiff, reduceSub, reducePow, reduceMul, reduceToNat, reduceLE, reduceEq, Int.reduceLT, Int.reduceBEq, Int.reduceBNe]
  obtain ⟨hfl, hsl, hso⟩ := stat_parts h0
  obtain ⟨b1, b2, b3, b4⟩ := fleet_ok hfl
  have hLl : L.length = f.docks.length := by rw [hL]; unfold statX; simp
  have hLx : ∀ s (h : s < L.length) (hd : s < f.docks.length), L[s] = txt3 (dec (s : Int)) (dec (cnt spots s)) (dec (f.docks[s] - cnt spots s)) := fun s h hd => by
    have e1 : L[s] = statLine f spots s := by
      subst hL
      simp [statX]
    rw [e1, statLine_eq, getD_get hd]; rfl
  clear hL
  have hne : ((f.docks.length : Int) != (f.docks.length : Int)) = false := bne_self_eq_false _
  simp only [hLl, hne, List.length_map, AW, reduceAdd, reduceCtorEq, reduceEqDiff, ↓reduceIte, reduceLT, reduceLeDiff, reduceSub, reducePow, reduceMul, reduceToNat, reduceLE, reduceEq, Int.reduceLT, Int.reduceBEq, Int.reduceBNe]
  refine run_loop (ι := Nat) (fun s => ⟨[(2, .ptr 0 0), (5, .sl (L.map txP)), (8, .sc (.int .i64 (dkN spots 0))), (12, .sc (.int .i64 (tot spots s))), (13, .sc (.int .i64 (s : Int)))], [(0, .var [.sc (.int .i64 f.bikes), .sc (.int .i64 f.riders), .sc (.int .i64 f.devices), .sl (f.docks.map intP), .sl (f.trucks.map intP)]), (24, .frz 0 (spots.reverse.map SpotS.pv))], 54, 137⟩) (fun s => s ≤ f.docks.length) (fun s => f.docks.length - s) 54 (fun _ => rfl) 0 (by simp only [LW, Nat.reduceMod, Nat.reduceDiv, Int.natCast_zero, tot_zero, List.length_map, AW, reduceAdd, reduceCtorEq, reduceEqDiff, ↓reduceIte, reduceLT, reduceLeDiff, reduceSub, reducePow, reduceMul, reduceToNat, reduceLE, reduceEq, Int.reduceLT, Int.reduceBEq, Int.reduceBNe]) (Nat.zero_le _) (fun s hs => ?_)
  have gs := hs
  by_cases hlts : s < f.docks.length
  rotate_left
  · have ds : decide ((s : Int) < ((f.docks.length : Nat) : Int)) = false := by rw [decide_eq_false_iff_not]; exact fun h => hlts (Int.ofNat_lt.1 h)
    have es : s = f.docks.length := Nat.le_antisymm gs (Nat.le_of_not_lt hlts)
    rw [es]
    have et : (tot spots f.docks.length == dkN spots 0) = true := by
      rw [tot_all (spotsOk_iff.1 hso).1]; unfold dkN; rw [List.drop_zero]; simp
    simp only [hLl, dlt_irr, et, List.length_map, AW, reduceAdd, reduceCtorEq, reduceEqDiff, ↓reduceIte, reduceLT, reduceLeDiff, reduceSub, reducePow, reduceMul, reduceToNat, reduceLE, reduceEq, Int.reduceLT, Int.reduceBEq, Int.reduceBNe]
    refine ops_call (awake_g) (by simp only [AW, reduceAdd, reduceCtorEq, reduceEqDiff, ↓reduceIte, reduceLT, reduceLeDiff, reduceSub, reducePow, reduceMul, reduceToNat, reduceLE, reduceEq, Int.reduceLT, Int.reduceBEq, Int.reduceBNe]) ?_; simp only [AW, reduceAdd, reduceCtorEq, reduceEqDiff, ↓reduceIte, reduceLT, reduceLeDiff, reduceSub, reducePow, reduceMul, reduceToNat, reduceLE, reduceEq, Int.reduceLT, Int.reduceBEq, Int.reduceBNe]
  have ds : decide ((s : Int) < ((f.docks.length : Nat) : Int)) = true := by rw [decide_eq_true_eq]; exact Int.ofNat_lt.2 hlts
  have hsL : s < L.length := by omega
  have hcb := cnt_bnd spots s
  have hdk := b4 _ (List.getElem_mem hlts)
  have hcd := cnt_dock hso hlts
  have htb := tot_bnd spots s
  have htb1 := tot_bnd spots (s + 1)
  have hts := tot_succ spots s
  have gt := three_g (dec (s : Int)) (dec (cnt spots s)) (dec (f.docks[s] - cnt spots s)) s (cnt spots s) (f.docks[s] - cnt spots s) (by have := dec_len (n := (s : Int)) ⟨by omega, by omega⟩; omega) (by have := dec_len (n := cnt spots s) ⟨by omega, by omega⟩; omega) (by have := dec_len (n := f.docks[s] - cnt spots s) ⟨by omega, by omega⟩; omega) (dec_blank _) (dec_blank _) (dec_blank _) (parN_dec (valB_small (by omega) (by omega))) (parN_dec (valB_small (by omega) (by omega))) (parN_dec (valB_small (by omega) (by omega)))
  rw [← hLx s hsL hlts] at gt
  generalize hcv : cnt spots s = cv at *
  generalize hdv : f.docks[s] = dv at *
  have c1 : decide (cv < 0) = false := by rw [decide_eq_false_iff_not]; omega
  have c2 : decide (dv - cv < 0) = false := by rw [decide_eq_false_iff_not]; omega
  have c3 : IntKind.i64.wrap (cv + (dv - cv)) = dv := by rw [wrap_id ⟨by omega, by omega⟩]; omega
  have c4 : IntKind.i64.wrap (tot spots s + cv) = tot spots (s + 1) := by rw [hts]; exact wrap_id ⟨by omega, by omega⟩
  have c5 : (f.docks.map intP).getD s .dead = intP dv := by rw [map_getD hlts, hdv]
  simp only [ds, hLl, map_getD hsL, hsL, hlts, List.length_map, txP, AW, reduceAdd, reduceCtorEq, reduceEqDiff, ↓reduceIte, reduceLT, reduceLeDiff, reduceSub, reducePow, reduceMul, reduceToNat, reduceLE, reduceEq, Int.reduceLT, Int.reduceBEq, Int.reduceBNe]
  refine ops_call (gt) (by simp only [txP, AW, reduceAdd, reduceCtorEq, reduceEqDiff, ↓reduceIte, reduceLT, reduceLeDiff, reduceSub, reducePow, reduceMul, reduceToNat, reduceLE, reduceEq, Int.reduceLT, Int.reduceBEq, Int.reduceBNe]) ?_; simp only [txP, AW, reduceAdd, reduceCtorEq, reduceEqDiff, ↓reduceIte, reduceLT, reduceLeDiff, reduceSub, reducePow, reduceMul, reduceToNat, reduceLE, reduceEq, Int.reduceLT, Int.reduceBEq, Int.reduceBNe]
  (first | (refine drawnK rfl ?_; (try simp only [AW, reduceAdd, reduceCtorEq, reduceEqDiff, ↓reduceIte, reduceLT, reduceLeDiff, reduceSub, reducePow, reduceMul, reduceToNat, reduceLE, reduceEq, Int.reduceLT, Int.reduceBEq, Int.reduceBNe])) | skip)
  simp only [bne_self_eq_false, c1, c2, c3, c4, c5, intP, hlts, List.length_map, AW, reduceAdd, reduceCtorEq, reduceEqDiff, ↓reduceIte, reduceLT, reduceLeDiff, reduceSub, reducePow, reduceMul, reduceToNat, reduceLE, reduceEq, Int.reduceLT, Int.reduceBEq, Int.reduceBNe]
  (first | (refine drawnK rfl ?_; (try simp only [AW, reduceAdd, reduceCtorEq, reduceEqDiff, ↓reduceIte, reduceLT, reduceLeDiff, reduceSub, reducePow, reduceMul, reduceToNat, reduceLE, reduceEq, Int.reduceLT, Int.reduceBEq, Int.reduceBNe])) | skip)
  (try simp only [bne_self_eq_false, c1, c2, c3, c4, c5, intP, hlts, List.length_map, AW, reduceAdd, reduceCtorEq, reduceEqDiff, ↓reduceIte, reduceLT, reduceLeDiff, reduceSub, reducePow, reduceMul, reduceToNat, reduceLE, reduceEq, Int.reduceLT, Int.reduceBEq, Int.reduceBNe])
  (try simp only [add1N (show s ≤ 1000000 by omega), AW, reduceAdd, reduceCtorEq, reduceEqDiff, ↓reduceIte, reduceLT, reduceLeDiff, reduceSub, reducePow, reduceMul, reduceToNat, reduceLE, reduceEq, Int.reduceLT, Int.reduceBEq, Int.reduceBNe])
  refine ⟨s + 1, hlts, ?_, meas_lt hlts⟩
  simp only [LW, Nat.reduceMod, Nat.reduceDiv, AW, reduceAdd, reduceCtorEq, reduceEqDiff, ↓reduceIte, reduceLT, reduceLeDiff, reduceSub, reducePow, reduceMul, reduceToNat, reduceLE, reduceEq, Int.reduceLT, Int.reduceBEq, Int.reduceBNe]


end Go.Proofs.YtjnfldkcbcfboaaDoor
