/-
  Status, walked: the reference's.
-/
import Derived.Test.YtjnfldkcbcfboaaDoorFh
namespace Go.Proofs.YtjnfldkcbcfboaaDoor
open Go.RowKit
open Nat (reduceAdd reduceEqDiff reduceLT reduceLeDiff reduceSub reducePow reduceMul)
open Int (reduceToNat reduceLE reduceEq)
set_option linter.unusedVariables false
set_option linter.unusedSimpArgs false
set_option linter.unnecessarySimpa false

theorem usedP_no {l : List SpotS} {p : Int} (h : ∀ j (hj : j < l.length), (atD l[j] && l[j].place == p) = false) : usedP l p = false := by
  unfold usedP; rw [List.any_eq_false]
  intro x hx
  obtain ⟨j, hj, rfl⟩ := List.getElem_of_mem hx
  rw [h j hj]; simp
theorem usedP_yes {l : List SpotS} {p : Int} {k m : Nat} (hm : m < k) (hk : k < l.length) (h : (atD (l[m]'(by omega)) && (l[m]'(by omega)).place == p) = true) : usedP (l.take k) p = true := by
  unfold usedP; rw [List.any_eq_true]
  exact ⟨l[m]'(by omega), List.mem_iff_getElem.2 ⟨m, by rw [List.length_take]; omega, by rw [List.getElem_take]⟩, h⟩
set_option maxHeartbeats 8000000 in
theorem qstatus_g (f : FleetS) (spots : List SpotS) : Good Tryd.prog 18 [f.pv, .sl (spots.map SpotS.pv)] (statP f spots) := by
  refine fle_fact (ps := []) (fun hdl htl => ?_)
  refine .len (es := spots.map SpotS.pv) (by simp) (fun hlen => ?_)
  refine .rngEl (es := spots.map SpotS.pv) (by simp) (fun hrg => ?_)
  rw [List.length_map] at hlen
  have hpl : ∀ x ∈ spots, I64 x.place := fun x hx => hrg _ (List.mem_map.2 ⟨x, hx, rfl⟩) x.place (by simp [SpotS.vals])
  clear hrg
  refine good18 (by simp) ?_
  simp only [ac18, FleetS.pv, List.nil_append, AW, reduceAdd, reduceCtorEq, reduceEqDiff, ↓reduceIte, reduceLT, reduceLeDiff, reduceSub, reducePow, reduceMul, reduceToNat, reduceLE, reduceEq, Int.reduceLT, Int.reduceBEq, Int.reduceBNe]
  refine ops_call (qfleet_g f) (by simp only [FleetS.pv, intP, AW, reduceAdd, reduceCtorEq, reduceEqDiff, ↓reduceIte, reduceLT, reduceLeDiff, reduceSub, reducePow, reduceMul, reduceToNat, reduceLE, reduceEq, Int.reduceLT, Int.reduceBEq, Int.reduceBNe]) ?_; simp only [FleetS.pv, intP, AW, reduceAdd, reduceCtorEq, reduceEqDiff, ↓reduceIte, reduceLT, reduceLeDiff, reduceSub, reducePow, reduceMul, reduceToNat, reduceLE, reduceEq, Int.reduceLT, Int.reduceBEq, Int.reduceBNe]
  by_cases hf : fleetE f ≠ 0
  · have e : statP f spots = .tup [.sl [], intP (fleetE f)] := by
      have e2 : statE f spots = fleetE f := by unfold statE; rw [if_pos hf]
      unfold statP; rw [e2, if_pos hf]
    rw [e]
    simp only [ne_bne hf, intP, AW, reduceAdd, reduceCtorEq, reduceEqDiff, ↓reduceIte, reduceLT, reduceLeDiff, reduceSub, reducePow, reduceMul, reduceToNat, reduceLE, reduceEq, Int.reduceLT, Int.reduceBEq, Int.reduceBNe]
  have hf0 : fleetE f = 0 := Decidable.not_not.1 hf
  obtain ⟨b1, b2, b3, b4⟩ := fleet_ok hf0
  simp only [eq_bne hf0, List.length_map, AW, reduceAdd, reduceCtorEq, reduceEqDiff, ↓reduceIte, reduceLT, reduceLeDiff, reduceSub, reducePow, reduceMul, reduceToNat, reduceLE, reduceEq, Int.reduceLT, Int.reduceBEq, Int.reduceBNe]
  by_cases hn : (spots.length : Int) ≠ f.bikes
  · have e : statP f spots = .tup [.sl [], intP 3] := by
      have e2 : statE f spots = 3 := by unfold statE; rw [if_neg hf, if_pos hn]
      unfold statP; rw [e2]; rfl
    rw [e]
    simp only [ne_bne hn, intP, AW, reduceAdd, reduceCtorEq, reduceEqDiff, ↓reduceIte, reduceLT, reduceLeDiff, reduceSub, reducePow, reduceMul, reduceToNat, reduceLE, reduceEq, Int.reduceLT, Int.reduceBEq, Int.reduceBNe]
  have hn0 : (spots.length : Int) = f.bikes := Decidable.not_not.1 hn
  have mk2 : ((8 : Nat) : Int) * (f.docks.length : Int) ≤ 281474976710656 := by omega
  have mk3 : (f.docks.length : Int) ≤ 9223372036854775807 := by omega
  simp only [eq_bne hn0, List.length_map, mk2, mk3, Nat.zero_lt_one, AW, reduceAdd, reduceCtorEq, reduceEqDiff, ↓reduceIte, reduceLT, reduceLeDiff, reduceSub, reducePow, reduceMul, reduceToNat, reduceLE, reduceEq, Int.reduceLT, Int.reduceBEq, Int.reduceBNe]
  refine run_loop (ι := Nat) (fun k => ⟨[(1, .sl (spots.map SpotS.pv)), (2, .ptr 0 0), (7, .own 16 0), (8, .sc (.int .i64 (k : Int)))], [(0, .var [.sc (.int .i64 f.bikes), .sc (.int .i64 f.riders), .sc (.int .i64 f.devices), .sl (f.docks.map intP), .sl (f.trucks.map intP)]), (16, .row 3 1 0 (bkP f (spots.take k)))], 19, 113⟩) (fun k => k ≤ spots.length ∧ (∀ j (hj : j < spots.length), j < k → spotOk f spots j spots[j] = true)) (fun k => spots.length - k) 19 (fun _ => rfl) 0 (by simp only [LW, Nat.reduceMod, Nat.reduceDiv, Int.natCast_zero, List.take_zero, bkP_zero, List.length_map, AW, reduceAdd, reduceCtorEq, reduceEqDiff, ↓reduceIte, reduceLT, reduceLeDiff, reduceSub, reducePow, reduceMul, reduceToNat, reduceLE, reduceEq, Int.reduceLT, Int.reduceBEq, Int.reduceBNe]) ⟨Nat.zero_le _, nofun⟩ (fun k hk => ?_)
  obtain ⟨gk, ik⟩ := hk
  by_cases hltk : k < spots.length
  rotate_left
  · have dk : decide ((k : Int) < ((spots.length : Nat) : Int)) = false := by rw [decide_eq_false_iff_not]; exact fun h => hltk (Int.ofNat_lt.1 h)
    have ek : k = spots.length := Nat.le_antisymm gk (Nat.le_of_not_lt hltk)
    subst ek
    have hall : spotsOk f spots = true := spots_yes (fun j hj => ik j hj hj)
    rw [List.take_length]
    simp only [dk, List.length_map, AW, reduceAdd, reduceCtorEq, reduceEqDiff, ↓reduceIte, reduceLT, reduceLeDiff, reduceSub, reducePow, reduceMul, reduceToNat, reduceLE, reduceEq, Int.reduceLT, Int.reduceBEq, Int.reduceBNe]
    refine run_loop (ι := Nat) (fun s => ⟨[(2, .ptr 0 0), (7, .own 16 0), (11, .own 25 0), (12, .sc (.int .i64 (s : Int)))], [(0, .var [.sc (.int .i64 f.bikes), .sc (.int .i64 f.riders), .sc (.int .i64 f.devices), .sl (f.docks.map intP), .sl (f.trucks.map intP)]), (16, .row 3 1 0 (bkP f spots)), (25, .row 9 1 0 (stP f spots s))], 26, 113⟩) (fun s => s ≤ f.docks.length) (fun s => f.docks.length - s) 26 (fun _ => rfl) 0 (by simp only [LW, Nat.reduceMod, Nat.reduceDiv, Int.natCast_zero, stP_zero, bkP_len, Nat.zero_lt_one, AW, reduceAdd, reduceCtorEq, reduceEqDiff, ↓reduceIte, reduceLT, reduceLeDiff, reduceSub, reducePow, reduceMul, reduceToNat, reduceLE, reduceEq, Int.reduceLT, Int.reduceBEq, Int.reduceBNe]) (Nat.zero_le _) (fun s hs => ?_)
    have gs := hs
    by_cases hlts : s < f.docks.length
    rotate_left
    · have ds : decide ((s : Int) < ((f.docks.length : Nat) : Int)) = false := by rw [decide_eq_false_iff_not]; exact fun h => hlts (Int.ofNat_lt.1 h)
      have es : s = f.docks.length := Nat.le_antisymm gs (Nat.le_of_not_lt hlts)
      subst es
      have e : statP f spots = .tup [.sl (stP f spots f.docks.length), intP 0] := by
        have e2 : statE f spots = 0 := by unfold statE; rw [if_neg hf, if_neg hn, if_pos hall]
        unfold statP; rw [e2]; rfl
      rw [e]
      simp only [ds, bkP_len, intP, AW, reduceAdd, reduceCtorEq, reduceEqDiff, ↓reduceIte, reduceLT, reduceLeDiff, reduceSub, reducePow, reduceMul, reduceToNat, reduceLE, reduceEq, Int.reduceLT, Int.reduceBEq, Int.reduceBNe]
    have ds : decide ((s : Int) < ((f.docks.length : Nat) : Int)) = true := by rw [decide_eq_true_eq]; exact Int.ofNat_lt.2 hlts
    have hcb := cnt_bnd spots s
    have hsl : spots.length ≤ 128 := by omega
    have hdk := b4 _ (List.getElem_mem hlts)
    have wsub : IntKind.i64.wrap (f.docks[s] - cnt spots s) = f.docks[s] - cnt spots s := wrap_id ⟨by omega, by omega⟩
    have g1 := decimal_g (s : Int)
    rw [dec_val (valB_small (by omega) (by omega))] at g1
    have i1 := dec_len (n := (s : Int)) ⟨by omega, by omega⟩
    have g2 := qline_g (dec (s : Int)) [cnt spots s, f.docks[s] - cnt spots s] (by omega) (by simp)
    rw [lineR_eq (fun x hx => by
      simp only [List.mem_cons, List.not_mem_nil, or_false] at hx
      rcases hx with rfl | rfl <;> exact valB_small (by omega) (by omega))] at g2
    have e0 : lineT (dec (s : Int)) [cnt spots s, f.docks[s] - cnt spots s] = statLine f spots s := by
      unfold statLine lineT; rw [getD_get hlts]; rfl
    rw [e0] at g2
    have eb : (bkP f spots).getD s .dead = intP (cnt spots s) := bkP_get hlts
    have q1 : (stP f spots s).length + 1 ≤ maxLen := by rw [stP_len]; unfold maxLen; omega
    have q2 : ((stP f spots s).length + 1) * 16 ≤ 140737488355328 := by rw [stP_len]; omega
    have es := stP_succ f spots s
    generalize stP f spots s = out at *
    simp only [ds, bkP_len, AW, reduceAdd, reduceCtorEq, reduceEqDiff, ↓reduceIte, reduceLT, reduceLeDiff, reduceSub, reducePow, reduceMul, reduceToNat, reduceLE, reduceEq, Int.reduceLT, Int.reduceBEq, Int.reduceBNe]
    refine ops_call (g1) (by simp only [intP, txP, AW, reduceAdd, reduceCtorEq, reduceEqDiff, ↓reduceIte, reduceLT, reduceLeDiff, reduceSub, reducePow, reduceMul, reduceToNat, reduceLE, reduceEq, Int.reduceLT, Int.reduceBEq, Int.reduceBNe]) ?_; simp only [intP, txP, AW, reduceAdd, reduceCtorEq, reduceEqDiff, ↓reduceIte, reduceLT, reduceLeDiff, reduceSub, reducePow, reduceMul, reduceToNat, reduceLE, reduceEq, Int.reduceLT, Int.reduceBEq, Int.reduceBNe]
    simp only [bkP_len, hlts, eb, intP, map_getD hlts, List.length_map, wsub, AW, reduceAdd, reduceCtorEq, reduceEqDiff, ↓reduceIte, reduceLT, reduceLeDiff, reduceSub, reducePow, reduceMul, reduceToNat, reduceLE, reduceEq, Int.reduceLT, Int.reduceBEq, Int.reduceBNe]
    refine ops_call (g2) (by simp only [intP, txP, intsP, List.map_cons, List.map_nil, AW, reduceAdd, reduceCtorEq, reduceEqDiff, ↓reduceIte, reduceLT, reduceLeDiff, reduceSub, reducePow, reduceMul, reduceToNat, reduceLE, reduceEq, Int.reduceLT, Int.reduceBEq, Int.reduceBNe]) ?_; simp only [intP, txP, intsP, List.map_cons, List.map_nil, AW, reduceAdd, reduceCtorEq, reduceEqDiff, ↓reduceIte, reduceLT, reduceLeDiff, reduceSub, reducePow, reduceMul, reduceToNat, reduceLE, reduceEq, Int.reduceLT, Int.reduceBEq, Int.reduceBNe]
    simp only [q1, q2, AW, reduceAdd, reduceCtorEq, reduceEqDiff, ↓reduceIte, reduceLT, reduceLeDiff, reduceSub, reducePow, reduceMul, reduceToNat, reduceLE, reduceEq, Int.reduceLT, Int.reduceBEq, Int.reduceBNe]
    refine drawnK rfl ?_
    (try simp only [add1N (show s ≤ 1000000 by omega), bkP_len, AW, reduceAdd, reduceCtorEq, reduceEqDiff, ↓reduceIte, reduceLT, reduceLeDiff, reduceSub, reducePow, reduceMul, reduceToNat, reduceLE, reduceEq, Int.reduceLT, Int.reduceBEq, Int.reduceBNe])
    refine ⟨s + 1, hlts, ?_, meas_lt hlts⟩
    simp only [LW, Nat.reduceMod, Nat.reduceDiv, es, txP, bkP_len, AW, reduceAdd, reduceCtorEq, reduceEqDiff, ↓reduceIte, reduceLT, reduceLeDiff, reduceSub, reducePow, reduceMul, reduceToNat, reduceLE, reduceEq, Int.reduceLT, Int.reduceBEq, Int.reduceBNe]
  have dk : decide ((k : Int) < ((spots.length : Nat) : Int)) = true := by rw [decide_eq_true_eq]; exact Int.ofNat_lt.2 hltk
  have hip := hpl _ (List.getElem_mem hltk)
  have hq := quo32 hip
  have et := take_snoc hltk
  have no := fun h => spot_bad hltk hf hn h
  have ebne : (spots[k].where_ != 1) = !(spots[k].where_ == 1) := rfl
  simp only [dk, map_getD hltk, hltk, SpotS.pv, SpotS.vals, List.map_cons, List.map_nil, List.length_map, ebne, AW, reduceAdd, reduceCtorEq, reduceEqDiff, ↓reduceIte, reduceLT, reduceLeDiff, reduceSub, reducePow, reduceMul, reduceToNat, reduceLE, reduceEq, Int.reduceLT, Int.reduceBEq, Int.reduceBNe]
  cases hA : (spots[k].where_ == 1)
  · have hA' : atD spots[k] = false := hA
    have hok : spotOk f spots k spots[k] = true := by unfold spotOk; rw [hA']; rfl
    simp only [wrap_succ hltk hlen, AW, reduceAdd, reduceCtorEq, reduceEqDiff, ↓reduceIte, reduceLT, reduceLeDiff, reduceSub, reducePow, reduceMul, reduceToNat, reduceLE, reduceEq, Int.reduceLT, Int.reduceBEq, Int.reduceBNe]
    refine ⟨k + 1, ⟨hltk, fun j hj hjk => ?_⟩, ?_, meas_lt hltk⟩
    · by_cases e : j = k
      · subst e; exact hok
      · exact ik j hj (by omega)
    · simp only [LW, Nat.reduceMod, Nat.reduceDiv, et, bkP_skip hA', AW, reduceAdd, reduceCtorEq, reduceEqDiff, ↓reduceIte, reduceLT, reduceLeDiff, reduceSub, reducePow, reduceMul, reduceToNat, reduceLE, reduceEq, Int.reduceLT, Int.reduceBEq, Int.reduceBNe]
  have hA' : atD spots[k] = true := hA
  have hso : spotOk f spots k spots[k] = (okDock f spots[k].place && !usedP (spots.take k) spots[k].place) := by unfold spotOk; rw [hA']; rfl
  have eb := bkP_snoc (f := f) (l := spots.take k) hA'
  rw [← et] at eb
  obtain ⟨p, hp⟩ : ∃ p, spots[k].place = p := ⟨_, rfl⟩
  have gd := dock_g f p
  rw [hp] at hso eb hq
  simp only [map_getD hltk, hltk, SpotS.pv, SpotS.vals, List.map_cons, List.map_nil, List.length_map, hp, AW, reduceAdd, reduceCtorEq, reduceEqDiff, ↓reduceIte, reduceLT, reduceLeDiff, reduceSub, reducePow, reduceMul, reduceToNat, reduceLE, reduceEq, Int.reduceLT, Int.reduceBEq, Int.reduceBNe]
  refine ops_call (gd) (by simp only [FleetS.pv, intP, AW, reduceAdd, reduceCtorEq, reduceEqDiff, ↓reduceIte, reduceLT, reduceLeDiff, reduceSub, reducePow, reduceMul, reduceToNat, reduceLE, reduceEq, Int.reduceLT, Int.reduceBEq, Int.reduceBNe]) ?_; simp only [FleetS.pv, intP, AW, reduceAdd, reduceCtorEq, reduceEqDiff, ↓reduceIte, reduceLT, reduceLeDiff, reduceSub, reducePow, reduceMul, reduceToNat, reduceLE, reduceEq, Int.reduceLT, Int.reduceBEq, Int.reduceBNe]
  (try simp only [AW, reduceAdd, reduceCtorEq, reduceEqDiff, ↓reduceIte, reduceLT, reduceLeDiff, reduceSub, reducePow, reduceMul, reduceToNat, reduceLE, reduceEq, Int.reduceLT, Int.reduceBEq, Int.reduceBNe])
  cases hokd : okDock f p
  · rw [no (by rw [hso, hokd]; rfl)]
    simp only [intP, AW, reduceAdd, reduceCtorEq, reduceEqDiff, ↓reduceIte, reduceLT, reduceLeDiff, reduceSub, reducePow, reduceMul, reduceToNat, reduceLE, reduceEq, Int.reduceLT, Int.reduceBEq, Int.reduceBNe]
    (first | exact rfl | (refine drawnK rfl ?_; (try simp only [AW, reduceAdd, reduceCtorEq, reduceEqDiff, ↓reduceIte, reduceLT, reduceLeDiff, reduceSub, reducePow, reduceMul, reduceToNat, reduceLE, reduceEq, Int.reduceLT, Int.reduceBEq, Int.reduceBNe])) | skip)
  refine drawnK rfl ?_
  (try simp only [AW, reduceAdd, reduceCtorEq, reduceEqDiff, ↓reduceIte, reduceLT, reduceLeDiff, reduceSub, reducePow, reduceMul, reduceToNat, reduceLE, reduceEq, Int.reduceLT, Int.reduceBEq, Int.reduceBNe])
  have hokd2 := hokd
  unfold okDock at hokd2
  simp only [Bool.and_eq_true, decide_eq_true_eq] at hokd2
  have hd0 : 0 ≤ p.tdiv 32 := by rw [Int.tdiv_eq_ediv_of_nonneg hokd2.1.1]; omega
  have hlt : (p.tdiv 32).toNat < f.docks.length := by have := hokd2.1.2; omega
  clear hokd2
  refine run_loop (ι := Nat) (fun m => ⟨[(1, .sl (spots.map SpotS.pv)), (2, .ptr 0 0), (7, .own 16 0), (8, .sc (.int .i64 (k : Int))), (9, .sc (.int .i64 (m : Int)))], [(0, .var [.sc (.int .i64 f.bikes), .sc (.int .i64 f.riders), .sc (.int .i64 f.devices), .sl (f.docks.map intP), .sl (f.trucks.map intP)]), (16, .row 3 1 0 (bkP f (spots.take k)))], 38, 113⟩) (fun m => m ≤ k ∧ (∀ j (hj : j < spots.length), j < m → (atD spots[j] && spots[j].place == p) = false)) (fun m => k - m) 38 (fun _ => rfl) 0 (by simp only [LW, Nat.reduceMod, Nat.reduceDiv, Int.natCast_zero, AW, reduceAdd, reduceCtorEq, reduceEqDiff, ↓reduceIte, reduceLT, reduceLeDiff, reduceSub, reducePow, reduceMul, reduceToNat, reduceLE, reduceEq, Int.reduceLT, Int.reduceBEq, Int.reduceBNe]) ⟨Nat.zero_le _, nofun⟩ (fun m hm => ?_)
  obtain ⟨gm, im⟩ := hm
  by_cases hltm : m < k
  rotate_left
  · have dm : decide ((m : Int) < ((k : Nat) : Int)) = false := by rw [decide_eq_false_iff_not]; exact fun h => hltm (Int.ofNat_lt.1 h)
    have em : m = k := Nat.le_antisymm gm (Nat.le_of_not_lt hltm)
    rw [em]
    have hu : usedP (spots.take k) p = false := usedP_no (fun j hj => by
      rw [List.length_take] at hj
      rw [List.getElem_take]; exact im j (by omega) (by omega))
    have hok : spotOk f spots k spots[k] = true := by rw [hso, hokd, hu]; rfl
    have hcb := cnt_bnd (spots.take k) (p.tdiv 32).toNat
    rw [List.length_take] at hcb
    have wad : IntKind.i64.wrap (cnt (spots.take k) (p.tdiv 32).toNat + 1) = cnt (spots.take k) (p.tdiv 32).toNat + 1 := wrap_id ⟨by omega, by omega⟩
    have dkk : decide ((k : Int) < (k : Int)) = false := by rw [decide_eq_false_iff_not]; omega
    simp only [dkk, map_getD hltk, hltk, SpotS.pv, SpotS.vals, List.map_cons, List.map_nil, List.length_map, hp, hq, hd0, bkP_len, hlt, bkP_get hlt, intP, wad, AW, reduceAdd, reduceCtorEq, reduceEqDiff, ↓reduceIte, reduceLT, reduceLeDiff, reduceSub, reducePow, reduceMul, reduceToNat, reduceLE, reduceEq, Int.reduceLT, Int.reduceBEq, Int.reduceBNe]
    (try simp only [wrap_succ hltk hlen, AW, reduceAdd, reduceCtorEq, reduceEqDiff, ↓reduceIte, reduceLT, reduceLeDiff, reduceSub, reducePow, reduceMul, reduceToNat, reduceLE, reduceEq, Int.reduceLT, Int.reduceBEq, Int.reduceBNe])
    refine ⟨k + 1, ⟨hltk, fun j hj hjk => ?_⟩, ?_, meas_lt hltk⟩
    · by_cases e : j = k
      · subst e; exact hok
      · exact ik j hj (by omega)
    · simp only [LW, Nat.reduceMod, Nat.reduceDiv, eb, intP, AW, reduceAdd, reduceCtorEq, reduceEqDiff, ↓reduceIte, reduceLT, reduceLeDiff, reduceSub, reducePow, reduceMul, reduceToNat, reduceLE, reduceEq, Int.reduceLT, Int.reduceBEq, Int.reduceBNe]
  have dm : decide ((m : Int) < ((k : Nat) : Int)) = true := by rw [decide_eq_true_eq]; exact Int.ofNat_lt.2 hltm
  have hmk : m < spots.length := by omega
  simp only [dm, map_getD hmk, hmk, map_getD hltk, hltk, SpotS.pv, SpotS.vals, List.map_cons, List.map_nil, List.length_map, hp, AW, reduceAdd, reduceCtorEq, reduceEqDiff, ↓reduceIte, reduceLT, reduceLeDiff, reduceSub, reducePow, reduceMul, reduceToNat, reduceLE, reduceEq, Int.reduceLT, Int.reduceBEq, Int.reduceBNe]
  cases hM : (spots[m].where_ == 1)
  · have hM' : atD spots[m] = false := hM
    simp only [AW, reduceAdd, reduceCtorEq, reduceEqDiff, ↓reduceIte, reduceLT, reduceLeDiff, reduceSub, reducePow, reduceMul, reduceToNat, reduceLE, reduceEq, Int.reduceLT, Int.reduceBEq, Int.reduceBNe]
    refine drawnK rfl ?_
    (try simp only [wrap_succ hltm (show k ≤ maxLen by omega), AW, reduceAdd, reduceCtorEq, reduceEqDiff, ↓reduceIte, reduceLT, reduceLeDiff, reduceSub, reducePow, reduceMul, reduceToNat, reduceLE, reduceEq, Int.reduceLT, Int.reduceBEq, Int.reduceBNe])
    refine ⟨m + 1, ⟨hltm, fun j hj hjm => ?_⟩, ?_, meas_lt hltm⟩
    · by_cases e : j = m
      · subst e; rw [hM']; rfl
      · exact im j hj (by omega)
    · simp only [LW, Nat.reduceMod, Nat.reduceDiv, AW, reduceAdd, reduceCtorEq, reduceEqDiff, ↓reduceIte, reduceLT, reduceLeDiff, reduceSub, reducePow, reduceMul, reduceToNat, reduceLE, reduceEq, Int.reduceLT, Int.reduceBEq, Int.reduceBNe]
  have hM' : atD spots[m] = true := hM
  simp only [map_getD hmk, hmk, map_getD hltk, hltk, SpotS.pv, SpotS.vals, List.map_cons, List.map_nil, List.length_map, hp, AW, reduceAdd, reduceCtorEq, reduceEqDiff, ↓reduceIte, reduceLT, reduceLeDiff, reduceSub, reducePow, reduceMul, reduceToNat, reduceLE, reduceEq, Int.reduceLT, Int.reduceBEq, Int.reduceBNe]
  cases hP : (spots[m].place == p)
  · simp only [AW, reduceAdd, reduceCtorEq, reduceEqDiff, ↓reduceIte, reduceLT, reduceLeDiff, reduceSub, reducePow, reduceMul, reduceToNat, reduceLE, reduceEq, Int.reduceLT, Int.reduceBEq, Int.reduceBNe]
    refine drawnK rfl ?_
    (try simp only [wrap_succ hltm (show k ≤ maxLen by omega), AW, reduceAdd, reduceCtorEq, reduceEqDiff, ↓reduceIte, reduceLT, reduceLeDiff, reduceSub, reducePow, reduceMul, reduceToNat, reduceLE, reduceEq, Int.reduceLT, Int.reduceBEq, Int.reduceBNe])
    refine ⟨m + 1, ⟨hltm, fun j hj hjm => ?_⟩, ?_, meas_lt hltm⟩
    · by_cases e : j = m
      · subst e; rw [hP, Bool.and_false]
      · exact im j hj (by omega)
    · simp only [LW, Nat.reduceMod, Nat.reduceDiv, AW, reduceAdd, reduceCtorEq, reduceEqDiff, ↓reduceIte, reduceLT, reduceLeDiff, reduceSub, reducePow, reduceMul, reduceToNat, reduceLE, reduceEq, Int.reduceLT, Int.reduceBEq, Int.reduceBNe]
  have hu : usedP (spots.take k) p = true := usedP_yes hltm hltk (by rw [hM', hP]; rfl)
  rw [no (by rw [hso, hu, Bool.not_true, Bool.and_false])]
  simp only [intP, AW, reduceAdd, reduceCtorEq, reduceEqDiff, ↓reduceIte, reduceLT, reduceLeDiff, reduceSub, reducePow, reduceMul, reduceToNat, reduceLE, reduceEq, Int.reduceLT, Int.reduceBEq, Int.reduceBNe]
  (first | exact rfl | (refine drawnK rfl ?_; (try simp only [AW, reduceAdd, reduceCtorEq, reduceEqDiff, ↓reduceIte, reduceLT, reduceLeDiff, reduceSub, reducePow, reduceMul, reduceToNat, reduceLE, reduceEq, Int.reduceLT, Int.reduceBEq, Int.reduceBNe])) | skip)


end Go.Proofs.YtjnfldkcbcfboaaDoor
