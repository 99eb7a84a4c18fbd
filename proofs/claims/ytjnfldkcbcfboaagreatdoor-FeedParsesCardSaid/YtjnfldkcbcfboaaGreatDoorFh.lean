/-
  Status, walked: the program's.
-/
import Derived.Test.YtjnfldkcbcfboaaGreatDoorFg
namespace Go.Proofs.YtjnfldkcbcfboaaGreatDoor
open Go.RowKit
open Nat (reduceAdd reduceEqDiff reduceLT reduceLeDiff reduceSub reducePow reduceMul)
open Int (reduceToNat reduceLE reduceEq)
set_option linter.unusedVariables false
set_option linter.unusedSimpArgs false
set_option linter.unnecessarySimpa false


/-- What any values of a list of structs are: numbers in their range. -/
theorem Good.rngEl {f : FuncId} {args es : List PV} {r : PV} (hm : PV.sl es ∈ args) (h : (∀ cs, PV.agg cs ∈ es → ∀ n, PV.sc (.int .i64 n) ∈ cs → I64 n) → Good Tryz.prog f args r) : Good Tryz.prog f args r :=
  .fact _ (fun M w vs hp => by
    obtain ⟨v, hv⟩ := hp.mem hm
    intro cs hcs n hn
    cases hv with
    | slE => cases hcs
    | sl _ b o cap sz vals h0 h1 h2 h3 h4 h5 h6 h7 =>
      obtain ⟨i, hi, e⟩ := List.getElem_of_mem hcs
      obtain ⟨j, hj, e2⟩ := List.getElem_of_mem hn
      have := h6 i (.agg cs) j (.sc (.int .i64 n)) (by rw [List.getElem?_eq_getElem hi, e]) (by show cs[j]? = _; rw [List.getElem?_eq_getElem hj, e2])
      exact rng_i64.1 this.sc_rng) h
theorem fleet_ok {f : FleetS} (h : fleetE f = 0) : 1 ≤ f.bikes ∧ f.bikes ≤ 128 ∧ f.docks.length ≤ 32 ∧ ∀ x ∈ f.docks, 1 ≤ x ∧ x ≤ 32 := by
  unfold fleetE at h
  split at h
  · cases h
  rename_i h1
  split at h
  · cases h
  rename_i h2
  split at h
  rotate_left
  · cases h
  rename_i h3
  have h1 : (inB f.bikes 1 128 && inB f.riders 1 128 && inB f.devices 1 256) = true := by
    cases hh : (inB f.bikes 1 128 && inB f.riders 1 128 && inB f.devices 1 256)
    · exact absurd hh h1
    · rfl
  simp only [Bool.and_eq_true] at h1 h3
  obtain ⟨a, b⟩ := inB_iff.1 h1.1.1
  exact ⟨a, b, by omega, fun x hx => inB_iff.1 (List.all_eq_true.1 h3.1 x hx)⟩
def stP (f : FleetS) (spots : List SpotS) (k : Nat) : List PV := ((List.range k).map (statLine f spots)).map txP
theorem stP_zero (f : FleetS) (spots : List SpotS) : stP f spots 0 = [] := rfl
theorem stP_succ (f : FleetS) (spots : List SpotS) (k : Nat) : stP f spots (k + 1) = stP f spots k ++ [txP (statLine f spots k)] := by
  unfold stP; rw [List.range_succ, List.map_append, List.map_append]; rfl
theorem stP_len (f : FleetS) (spots : List SpotS) (k : Nat) : (stP f spots k).length = k := by unfold stP; simp
def bkP (f : FleetS) (l : List SpotS) : List PV := (cntL f l).map intP
theorem bkP_len (f : FleetS) (l : List SpotS) : (bkP f l).length = f.docks.length := by unfold bkP; rw [List.length_map, cntL_len]
theorem bkP_get {f : FleetS} {l : List SpotS} {j : Nat} (h : j < f.docks.length) : (bkP f l).getD j .dead = intP (cnt l j) := by
  unfold bkP
  rw [map_getD (by rw [cntL_len]; exact h), cntL_get]
theorem bkP_zero (f : FleetS) : bkP f [] = List.replicate f.docks.length (.sc (.int .i64 0)) := cntL_zero f
theorem bkP_skip {f : FleetS} {l : List SpotS} {x : SpotS} (h : atD x = false) : bkP f (l ++ [x]) = bkP f l := by unfold bkP; rw [cntL_skip h]
theorem bkP_snoc {f : FleetS} {l : List SpotS} {x : SpotS} (h : atD x = true) : bkP f (l ++ [x]) = (bkP f l).set (x.place.tdiv 32).toNat (intP (cnt l (x.place.tdiv 32).toNat + 1)) := cntL_snoc h
theorem take_snoc {α : Type} {l : List α} {k : Nat} (h : k < l.length) : l.take (k + 1) = l.take k ++ [l[k]] := List.take_succ_eq_append_getElem h
theorem spot_bad {f : FleetS} {spots : List SpotS} {k : Nat} (hk : k < spots.length) (hf : ¬ fleetE f ≠ 0) (hn : ¬ (spots.length : Int) ≠ f.bikes) (h : spotOk f spots k spots[k] = false) : statP f spots = .tup [.sl [], intP 23] := by
  have e : statE f spots = 23 := by unfold statE; rw [if_neg hf, if_neg hn, if_neg (by rw [spots_no hk h]; decide)]
  unfold statP; rw [e]; rfl
set_option maxHeartbeats 8000000 in
theorem status_g (f : FleetS) (spots : List SpotS) : Good Tryz.prog 10 [f.pv, .sl (spots.map SpotS.pv)] (statP f spots) := by
  refine fle_fact (ps := []) (fun hdl htl => ?_)
  refine .len (es := spots.map SpotS.pv) (by simp) (fun hlen => ?_)
  refine .rngEl (es := spots.map SpotS.pv) (by simp) (fun hrg => ?_)
  rw [List.length_map] at hlen
  have hpl : ∀ x ∈ spots, I64 x.place := fun x hx => hrg _ (List.mem_map.2 ⟨x, hx, rfl⟩) x.place (by simp [SpotS.vals])
  clear hrg
  refine good10 (by simp) ?_
  simp only [ac10, FleetS.pv, List.nil_append, AW, reduceAdd, reduceCtorEq, reduceEqDiff, ↓reduceIte, reduceLT, reduceLeDiff, reduceSub, reducePow, reduceMul, reduceToNat, reduceLE, reduceEq, Int.reduceLT, Int.reduceBEq, Int.reduceBNe]
  refine ops_call (fleet_g f) (by simp only [FleetS.pv, intP, AW, reduceAdd, reduceCtorEq, reduceEqDiff, ↓reduceIte, reduceLT, reduceLeDiff, reduceSub, reducePow, reduceMul, reduceToNat, reduceLE, reduceEq, Int.reduceLT, Int.reduceBEq, Int.reduceBNe]) ?_; simp only [FleetS.pv, intP, AW, reduceAdd, reduceCtorEq, reduceEqDiff, ↓reduceIte, reduceLT, reduceLeDiff, reduceSub, reducePow, reduceMul, reduceToNat, reduceLE, reduceEq, Int.reduceLT, Int.reduceBEq, Int.reduceBNe]
  by_cases hf : fleetE f ≠ 0
  · have e : statP f spots = .tup [.sl [], intP (fleetE f)] := by
      have e2 : statE f spots = fleetE f := by unfold statE; rw [if_pos hf]
      unfold statP; rw [e2, if_pos hf]
    rw [e]
    simp only [ne_bne hf, intP, AW, reduceAdd, reduceCtorEq, reduceEqDiff, ↓reduceIte, reduceLT, reduceLeDiff, reduceSub, reducePow, reduceMul, reduceToNat, reduceLE, reduceEq, Int.reduceLT, Int.reduceBEq, Int.reduceBNe]
  have hf0 : fleetE f = 0 := Decidable.not_not.1 hf
  obtain ⟨b1, b2, b3, b4⟩ := fleet_ok hf0
  simp only [eq_bne hf0, List.length_map, AW, reduceAdd, reduceCtorEq, reduceEqDiff, ↓reduceIte, reduceLT, reduceLeDiff, reduceSub, reducePow, reduceMul, reduceToNat, reduceLE, reduceEq, Int.reduceLT, Int.reduceBEq, Int.reduceBNe]
  by_cases hn : (spots.length : Int) ≠ f.bikes
  · have e : statP f spots = .tup [.sl [], intP 3] := by
      have e2 : statE f spots = 3 := by unfold statE; rw [if_neg hf, if_pos hn]
      unfold statP; rw [e2]; rfl
    rw [e]
    simp only [ne_bne hn, intP, AW, reduceAdd, reduceCtorEq, reduceEqDiff, ↓reduceIte, reduceLT, reduceLeDiff, reduceSub, reducePow, reduceMul, reduceToNat, reduceLE, reduceEq, Int.reduceLT, Int.reduceBEq, Int.reduceBNe]
  have hn0 : (spots.length : Int) = f.bikes := Decidable.not_not.1 hn
  have mk2 : ((8 : Nat) : Int) * (f.docks.length : Int) ≤ 281474976710656 := by omega
  have mk3 : (f.docks.length : Int) ≤ 9223372036854775807 := by omega
  simp only [eq_bne hn0, List.length_map, mk2, mk3, Nat.zero_lt_one, AW, reduceAdd, reduceCtorEq, reduceEqDiff, ↓reduceIte, reduceLT, reduceLeDiff, reduceSub, reducePow, reduceMul, reduceToNat, reduceLE, reduceEq, Int.reduceLT, Int.reduceBEq, Int.reduceBNe]
  refine run_loop (ι := Nat) (fun k => ⟨[(2, .ptr 0 0), (7, .mp 13), (8, .own 18 0), (31, .sl (spots.map SpotS.pv)), (32, .sc (.int .i64 (spots.length : Int))), (33, .sc (.int .i64 (k : Int)))], [(0, .var [.sc (.int .i64 f.bikes), .sc (.int .i64 f.riders), .sc (.int .i64 f.devices), .sl (f.docks.map intP), .sl (f.trucks.map intP)]), (13, .mapb 3 (usedM (spots.take k))), (18, .row 3 1 0 (bkP f (spots.take k)))], 23, 107⟩) (fun k => k ≤ spots.length ∧ (∀ j (hj : j < spots.length), j < k → spotOk f spots j spots[j] = true)) (fun k => spots.length - k) 23 (fun _ => rfl) 0 (by simp only [LW, Nat.reduceMod, Nat.reduceDiv, Int.natCast_zero, List.take_zero, usedM_nil, bkP_zero, List.length_map, AW, reduceAdd, reduceCtorEq, reduceEqDiff, ↓reduceIte, reduceLT, reduceLeDiff, reduceSub, reducePow, reduceMul, reduceToNat, reduceLE, reduceEq, Int.reduceLT, Int.reduceBEq, Int.reduceBNe]) ⟨Nat.zero_le _, nofun⟩ (fun k hk => ?_)
  obtain ⟨gk, ik⟩ := hk
  by_cases hltk : k < spots.length
  rotate_left
  · have dk : decide ((k : Int) < ((spots.length : Nat) : Int)) = false := by rw [decide_eq_false_iff_not]; exact fun h => hltk (Int.ofNat_lt.1 h)
    have ek : k = spots.length := Nat.le_antisymm gk (Nat.le_of_not_lt hltk)
    subst ek
    have hall : spotsOk f spots = true := spots_yes (fun j hj => ik j hj hj)
    rw [List.take_length]
    simp only [dk, AW, reduceAdd, reduceCtorEq, reduceEqDiff, ↓reduceIte, reduceLT, reduceLeDiff, reduceSub, reducePow, reduceMul, reduceToNat, reduceLE, reduceEq, Int.reduceLT, Int.reduceBEq, Int.reduceBNe]
    refine run_loop (ι := Nat) (fun s => ⟨[(2, .ptr 0 0), (13, .own 28 0), (81, .own 18 0), (82, .sc (.int .i64 (f.docks.length : Int))), (83, .sc (.int .i64 (s : Int)))], [(0, .var [.sc (.int .i64 f.bikes), .sc (.int .i64 f.riders), .sc (.int .i64 f.devices), .sl (f.docks.map intP), .sl (f.trucks.map intP)]), (13, .mapb 3 (usedM spots)), (18, .row 3 1 0 (bkP f spots)), (28, .row 9 1 0 (stP f spots s))], 29, 107⟩) (fun s => s ≤ f.docks.length) (fun s => f.docks.length - s) 29 (fun _ => rfl) 0 (by simp only [LW, Nat.reduceMod, Nat.reduceDiv, Int.natCast_zero, stP_zero, bkP_len, Nat.zero_lt_one, AW, reduceAdd, reduceCtorEq, reduceEqDiff, ↓reduceIte, reduceLT, reduceLeDiff, reduceSub, reducePow, reduceMul, reduceToNat, reduceLE, reduceEq, Int.reduceLT, Int.reduceBEq, Int.reduceBNe]) (Nat.zero_le _) (fun s hs => ?_)
    have gs := hs
    by_cases hlts : s < f.docks.length
    rotate_left
    · have ds : decide ((s : Int) < ((f.docks.length : Nat) : Int)) = false := by rw [decide_eq_false_iff_not]; exact fun h => hlts (Int.ofNat_lt.1 h)
      have es : s = f.docks.length := Nat.le_antisymm gs (Nat.le_of_not_lt hlts)
      subst es
      have e : statP f spots = .tup [.sl (stP f spots f.docks.length), intP 0] := by
        have e2 : statE f spots = 0 := by unfold statE; rw [if_neg hf, if_neg hn, if_pos hall]
        unfold statP; rw [e2]; rfl
      rw [e]
      simp only [ds, bkP_len, intP, AW, reduceAdd, reduceCtorEq, reduceEqDiff, ↓reduceIte, reduceLT, reduceLeDiff, reduceSub, reducePow, reduceMul, reduceToNat, reduceLE, reduceEq, Int.reduceLT, Int.reduceBEq, Int.reduceBNe]
    have ds : decide ((s : Int) < ((f.docks.length : Nat) : Int)) = true := by rw [decide_eq_true_eq]; exact Int.ofNat_lt.2 hlts
    have hcb := cnt_bnd spots s
    have hsl : spots.length ≤ 128 := by omega
    have hdk := b4 _ (List.getElem_mem hlts)
    have wsub : IntKind.i64.wrap (f.docks[s] - cnt spots s) = f.docks[s] - cnt spots s := wrap_id ⟨by omega, by omega⟩
    have g1 := itoa_g (s : Int)
    have g2 := itoa_g (cnt spots s)
    have g3 := itoa_g (f.docks[s] - cnt spots s)
    have e0 : statLine f spots s = Lib.join [dec (s : Int), dec (cnt spots s), dec (f.docks[s] - cnt spots s)] [32] := by
      rw [join_words]; unfold statLine; rw [getD_get hlts]
    have i1 := dec_len (n := (s : Int)) ⟨by omega, by omega⟩
    have i2 := dec_len (n := cnt spots s) ⟨by omega, by omega⟩
    have i3 := dec_len (n := f.docks[s] - cnt spots s) ⟨by omega, by omega⟩
    have hjl : (Lib.join [dec (s : Int), dec (cnt spots s), dec (f.docks[s] - cnt spots s)] [32]).length ≤ 1000000000 := by
      rw [join_words]; unfold wordsL
      simp only [List.length_append, List.flatMap_cons, List.flatMap_nil, List.length_cons, List.length_nil, List.length_append]; omega
    have gj := join_g [dec (s : Int), dec (cnt spots s), dec (f.docks[s] - cnt spots s)] [32] (by simp) hjl
    rw [← e0] at gj
    have eb : (bkP f spots).getD s .dead = intP (cnt spots s) := bkP_get hlts
    have q1 : (stP f spots s).length + 1 ≤ maxLen := by rw [stP_len]; unfold maxLen; omega
    have q2 : ((stP f spots s).length + 1) * 16 ≤ 140737488355328 := by rw [stP_len]; omega
    have es := stP_succ f spots s
    generalize stP f spots s = out at *
    simp only [ds, bkP_len, hlts, eb, intP, AW, reduceAdd, reduceCtorEq, reduceEqDiff, ↓reduceIte, reduceLT, reduceLeDiff, reduceSub, reducePow, reduceMul, reduceToNat, reduceLE, reduceEq, Int.reduceLT, Int.reduceBEq, Int.reduceBNe]
    refine ops_call (g1) (by simp only [intP, txP, AW, reduceAdd, reduceCtorEq, reduceEqDiff, ↓reduceIte, reduceLT, reduceLeDiff, reduceSub, reducePow, reduceMul, reduceToNat, reduceLE, reduceEq, Int.reduceLT, Int.reduceBEq, Int.reduceBNe]) ?_; simp only [intP, txP, AW, reduceAdd, reduceCtorEq, reduceEqDiff, ↓reduceIte, reduceLT, reduceLeDiff, reduceSub, reducePow, reduceMul, reduceToNat, reduceLE, reduceEq, Int.reduceLT, Int.reduceBEq, Int.reduceBNe]
    refine ops_call (g2) (by simp only [intP, txP, AW, reduceAdd, reduceCtorEq, reduceEqDiff, ↓reduceIte, reduceLT, reduceLeDiff, reduceSub, reducePow, reduceMul, reduceToNat, reduceLE, reduceEq, Int.reduceLT, Int.reduceBEq, Int.reduceBNe]) ?_; simp only [intP, txP, AW, reduceAdd, reduceCtorEq, reduceEqDiff, ↓reduceIte, reduceLT, reduceLeDiff, reduceSub, reducePow, reduceMul, reduceToNat, reduceLE, reduceEq, Int.reduceLT, Int.reduceBEq, Int.reduceBNe]
    simp only [map_getD hlts, hlts, intP, List.length_map, wsub, AW, reduceAdd, reduceCtorEq, reduceEqDiff, ↓reduceIte, reduceLT, reduceLeDiff, reduceSub, reducePow, reduceMul, reduceToNat, reduceLE, reduceEq, Int.reduceLT, Int.reduceBEq, Int.reduceBNe]
    refine ops_call (g3) (by simp only [intP, txP, AW, reduceAdd, reduceCtorEq, reduceEqDiff, ↓reduceIte, reduceLT, reduceLeDiff, reduceSub, reducePow, reduceMul, reduceToNat, reduceLE, reduceEq, Int.reduceLT, Int.reduceBEq, Int.reduceBNe]) ?_; simp only [intP, txP, AW, reduceAdd, reduceCtorEq, reduceEqDiff, ↓reduceIte, reduceLT, reduceLeDiff, reduceSub, reducePow, reduceMul, reduceToNat, reduceLE, reduceEq, Int.reduceLT, Int.reduceBEq, Int.reduceBNe]
    refine ops_call (gj) (by simp only [txP, b32, List.map_cons, List.map_nil, dec, AW, reduceAdd, reduceCtorEq, reduceEqDiff, ↓reduceIte, reduceLT, reduceLeDiff, reduceSub, reducePow, reduceMul, reduceToNat, reduceLE, reduceEq, Int.reduceLT, Int.reduceBEq, Int.reduceBNe]) ?_; simp only [txP, b32, List.map_cons, List.map_nil, dec, AW, reduceAdd, reduceCtorEq, reduceEqDiff, ↓reduceIte, reduceLT, reduceLeDiff, reduceSub, reducePow, reduceMul, reduceToNat, reduceLE, reduceEq, Int.reduceLT, Int.reduceBEq, Int.reduceBNe]
    simp only [q1, q2, AW, reduceAdd, reduceCtorEq, reduceEqDiff, ↓reduceIte, reduceLT, reduceLeDiff, reduceSub, reducePow, reduceMul, reduceToNat, reduceLE, reduceEq, Int.reduceLT, Int.reduceBEq, Int.reduceBNe]
    refine drawnK rfl ?_
    (try simp only [add1N (show s ≤ 1000000 by omega), bkP_len, AW, reduceAdd, reduceCtorEq, reduceEqDiff, ↓reduceIte, reduceLT, reduceLeDiff, reduceSub, reducePow, reduceMul, reduceToNat, reduceLE, reduceEq, Int.reduceLT, Int.reduceBEq, Int.reduceBNe])
    refine ⟨s + 1, hlts, ?_, meas_lt hlts⟩
    simp only [LW, Nat.reduceMod, Nat.reduceDiv, es, txP, bkP_len, AW, reduceAdd, reduceCtorEq, reduceEqDiff, ↓reduceIte, reduceLT, reduceLeDiff, reduceSub, reducePow, reduceMul, reduceToNat, reduceLE, reduceEq, Int.reduceLT, Int.reduceBEq, Int.reduceBNe]
  have dk : decide ((k : Int) < ((spots.length : Nat) : Int)) = true := by rw [decide_eq_true_eq]; exact Int.ofNat_lt.2 hltk
  have hip := hpl _ (List.getElem_mem hltk)
  have hq := quo32 hip
  have et := take_snoc hltk
  have no := fun h => spot_bad hltk hf hn h
  have ebne : (spots[k].where_ != 1) = !(spots[k].where_ == 1) := rfl
  simp only [dk, map_getD hltk, hltk, SpotS.pv, SpotS.vals, List.map_cons, List.map_nil, List.length_map, ebne, AW, reduceAdd, reduceCtorEq, reduceEqDiff, ↓reduceIte, reduceLT, reduceLeDiff, reduceSub, reducePow, reduceMul, reduceToNat, reduceLE, reduceEq, Int.reduceLT, Int.reduceBEq, Int.reduceBNe]
  cases hA : (spots[k].where_ == 1)
  · have hA' : atD spots[k] = false := hA
    have hok : spotOk f spots k spots[k] = true := by unfold spotOk; rw [hA']; rfl
    simp only [wrap_succ hltk hlen, AW, reduceAdd, reduceCtorEq, reduceEqDiff, ↓reduceIte, reduceLT, reduceLeDiff, reduceSub, reducePow, reduceMul, reduceToNat, reduceLE, reduceEq, Int.reduceLT, Int.reduceBEq, Int.reduceBNe]
    refine ⟨k + 1, ⟨hltk, fun j hj hjk => ?_⟩, ?_, meas_lt hltk⟩
    · by_cases e : j = k
      · subst e; exact hok
      · exact ik j hj (by omega)
    · simp only [LW, Nat.reduceMod, Nat.reduceDiv, et, usedM_skip hA', bkP_skip hA', AW, reduceAdd, reduceCtorEq, reduceEqDiff, ↓reduceIte, reduceLT, reduceLeDiff, reduceSub, reducePow, reduceMul, reduceToNat, reduceLE, reduceEq, Int.reduceLT, Int.reduceBEq, Int.reduceBNe]
  have hA' : atD spots[k] = true := hA
  have hso : spotOk f spots k spots[k] = (okDock f spots[k].place && !usedP (spots.take k) spots[k].place) := by unfold spotOk; rw [hA']; rfl
  have hmg := usedM_get (spots.take k) spots[k].place
  have em := usedM_snoc (l := spots.take k) hA'
  have eb := bkP_snoc (f := f) (l := spots.take k) hA'
  rw [← et] at em eb
  obtain ⟨p, hp⟩ : ∃ p, spots[k].place = p := ⟨_, rfl⟩
  rw [hp] at hso hmg em eb hq
  simp only [hp, hq, AW, reduceAdd, reduceCtorEq, reduceEqDiff, ↓reduceIte, reduceLT, reduceLeDiff, reduceSub, reducePow, reduceMul, reduceToNat, reduceLE, reduceEq, Int.reduceLT, Int.reduceBEq, Int.reduceBNe]
  refine drawnK rfl ?_
  (try simp only [hp, hq, AW, reduceAdd, reduceCtorEq, reduceEqDiff, ↓reduceIte, reduceLT, reduceLeDiff, reduceSub, reducePow, reduceMul, reduceToNat, reduceLE, reduceEq, Int.reduceLT, Int.reduceBEq, Int.reduceBNe])
  cases h1 : decide (p < 0)
  rotate_left
  · have h1' := of_decide_eq_true h1
    rw [no (by rw [hso]; unfold okDock; rw [decide_eq_false (by omega)]; rfl)]
    simp only [intP, AW, reduceAdd, reduceCtorEq, reduceEqDiff, ↓reduceIte, reduceLT, reduceLeDiff, reduceSub, reducePow, reduceMul, reduceToNat, reduceLE, reduceEq, Int.reduceLT, Int.reduceBEq, Int.reduceBNe]
  have h1' := of_decide_eq_false h1
  have hd0 : 0 ≤ p.tdiv 32 := by rw [Int.tdiv_eq_ediv_of_nonneg (by omega)]; omega
  simp only [List.length_map, AW, reduceAdd, reduceCtorEq, reduceEqDiff, ↓reduceIte, reduceLT, reduceLeDiff, reduceSub, reducePow, reduceMul, reduceToNat, reduceLE, reduceEq, Int.reduceLT, Int.reduceBEq, Int.reduceBNe]
  cases h2 : decide ((f.docks.length : Int) ≤ p.tdiv 32)
  rotate_left
  · have h2' := of_decide_eq_true h2
    rw [no (by rw [hso]; unfold okDock; rw [decide_eq_false (show ¬ p.tdiv 32 < f.docks.length by omega), Bool.and_false]; rfl)]
    simp only [intP, AW, reduceAdd, reduceCtorEq, reduceEqDiff, ↓reduceIte, reduceLT, reduceLeDiff, reduceSub, reducePow, reduceMul, reduceToNat, reduceLE, reduceEq, Int.reduceLT, Int.reduceBEq, Int.reduceBNe]
  have h2' := of_decide_eq_false h2
  have hlt : (p.tdiv 32).toNat < f.docks.length := by omega
  simp only [hd0, map_getD hlt, hlt, intP, List.length_map, AW, reduceAdd, reduceCtorEq, reduceEqDiff, ↓reduceIte, reduceLT, reduceLeDiff, reduceSub, reducePow, reduceMul, reduceToNat, reduceLE, reduceEq, Int.reduceLT, Int.reduceBEq, Int.reduceBNe]
  cases h3 : decide (f.docks[(p.tdiv 32).toNat] ≤ p.tmod 32)
  rotate_left
  · have h3' := of_decide_eq_true h3
    rw [no (by rw [hso]; unfold okDock; rw [getD_get hlt, decide_eq_false (show ¬ p.tmod 32 < f.docks[(p.tdiv 32).toNat] by omega), Bool.and_false]; rfl)]
    simp only [intP, AW, reduceAdd, reduceCtorEq, reduceEqDiff, ↓reduceIte, reduceLT, reduceLeDiff, reduceSub, reducePow, reduceMul, reduceToNat, reduceLE, reduceEq, Int.reduceLT, Int.reduceBEq, Int.reduceBNe]
  have h3' := of_decide_eq_false h3
  have hokd : okDock f p = true := by
    unfold okDock; rw [getD_get hlt, decide_eq_true (show 0 ≤ p by omega), decide_eq_true (show p.tdiv 32 < f.docks.length by omega), decide_eq_true (show p.tmod 32 < f.docks[(p.tdiv 32).toNat] by omega)]; rfl
  simp only [hmg, AW, reduceAdd, reduceCtorEq, reduceEqDiff, ↓reduceIte, reduceLT, reduceLeDiff, reduceSub, reducePow, reduceMul, reduceToNat, reduceLE, reduceEq, Int.reduceLT, Int.reduceBEq, Int.reduceBNe]
  cases h4 : usedP (spots.take k) p
  rotate_left
  · rw [no (by rw [hso, h4, Bool.not_true, Bool.and_false])]
    simp only [intP, AW, reduceAdd, reduceCtorEq, reduceEqDiff, ↓reduceIte, reduceLT, reduceLeDiff, reduceSub, reducePow, reduceMul, reduceToNat, reduceLE, reduceEq, Int.reduceLT, Int.reduceBEq, Int.reduceBNe]
  have hok : spotOk f spots k spots[k] = true := by rw [hso, hokd, h4]; rfl
  have hcb := cnt_bnd (spots.take k) (p.tdiv 32).toNat
  rw [List.length_take] at hcb
  have wad : IntKind.i64.wrap (cnt (spots.take k) (p.tdiv 32).toNat + 1) = cnt (spots.take k) (p.tdiv 32).toNat + 1 := wrap_id ⟨by omega, by omega⟩
  simp only [hd0, bkP_len, hlt, bkP_get hlt, intP, wad, AW, reduceAdd, reduceCtorEq, reduceEqDiff, ↓reduceIte, reduceLT, reduceLeDiff, reduceSub, reducePow, reduceMul, reduceToNat, reduceLE, reduceEq, Int.reduceLT, Int.reduceBEq, Int.reduceBNe]
  (try simp only [wrap_succ hltk hlen, AW, reduceAdd, reduceCtorEq, reduceEqDiff, ↓reduceIte, reduceLT, reduceLeDiff, reduceSub, reducePow, reduceMul, reduceToNat, reduceLE, reduceEq, Int.reduceLT, Int.reduceBEq, Int.reduceBNe])
  refine ⟨k + 1, ⟨hltk, fun j hj hjk => ?_⟩, ?_, meas_lt hltk⟩
  · by_cases e : j = k
    · subst e; exact hok
    · exact ik j hj (by omega)
  · simp only [LW, Nat.reduceMod, Nat.reduceDiv, em, eb, intP, AW, reduceAdd, reduceCtorEq, reduceEqDiff, ↓reduceIte, reduceLT, reduceLeDiff, reduceSub, reducePow, reduceMul, reduceToNat, reduceLE, reduceEq, Int.reduceLT, Int.reduceBEq, Int.reduceBNe]


end Go.Proofs.YtjnfldkcbcfboaaGreatDoor
