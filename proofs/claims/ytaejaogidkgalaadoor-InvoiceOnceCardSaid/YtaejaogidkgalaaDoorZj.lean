/-
  Invoices: the reference's Make.
-/
import Derived.Test.YtaejaogidkgalaaDoorZi
namespace Go.Proofs.YtaejaogidkgalaaDoor
open Go.RowKit
open Nat (reduceAdd reduceEqDiff reduceLT reduceLeDiff reduceSub reducePow reduceMul)
open Int (reduceToNat reduceLE reduceEq)
set_option linter.unusedVariables false
set_option linter.unusedSimpArgs false
set_option linter.unnecessarySimpa false

set_option maxRecDepth 20000 in
set_option maxHeartbeats 8000000 in
theorem rmake_g (id rider : Int) (w : WinS) (rs : List RideS) (fs : List FareS) (l : List RefS) : Good Tryd.prog 12 [intP id, intP rider, w.pv, .sl (rs.map RideS.pv), .sl (fs.map FareS.pv), .sl (l.map RefS.pv)] (makeP (makeX id rider w rs fs l)) := by
  have gh := ranged_g id rider w
  have gc := rcheck_g fs l
  refine good12 (by simp) ?_
  simp only [ac12, intP, WinS.pv, WinS.vals, List.map_cons, List.map_nil, AW, reduceAdd, reduceCtorEq, reduceEqDiff, ↓reduceIte, reduceLT, reduceLeDiff, reduceSub, reducePow, reduceMul, reduceToNat, reduceLE, reduceEq, Int.reduceLT, Int.reduceBEq, Int.reduceBNe]
  simp only [WinS.pv, WinS.vals, List.map_cons, List.map_nil, AW, reduceAdd, reduceCtorEq, reduceEqDiff, ↓reduceIte, reduceLT, reduceLeDiff, reduceSub, reducePow, reduceMul, reduceToNat, reduceLE, reduceEq, Int.reduceLT, Int.reduceBEq, Int.reduceBNe] at gh
  refine ops_call (gh) (by simp only [intP, AW, reduceAdd, reduceCtorEq, reduceEqDiff, ↓reduceIte, reduceLT, reduceLeDiff, reduceSub, reducePow, reduceMul, reduceToNat, reduceLE, reduceEq, Int.reduceLT, Int.reduceBEq, Int.reduceBNe]) ?_; simp only [intP, AW, reduceAdd, reduceCtorEq, reduceEqDiff, ↓reduceIte, reduceLT, reduceLeDiff, reduceSub, reducePow, reduceMul, reduceToNat, reduceLE, reduceEq, Int.reduceLT, Int.reduceBEq, Int.reduceBNe]
  cases hr : rgB id rider w
  · rw [show makeX id rider w rs fs l = (zeroX, 1) by unfold makeX; rw [if_pos hr]]
    simp only [makeP, zeroX, InvS.pv, intP, List.map_nil, AW, reduceAdd, reduceCtorEq, reduceEqDiff, ↓reduceIte, reduceLT, reduceLeDiff, reduceSub, reducePow, reduceMul, reduceToNat, reduceLE, reduceEq, Int.reduceLT, Int.reduceBEq, Int.reduceBNe]
  have hrn : ¬ rgB id rider w = false := by rw [hr]; simp
  simp only [List.length_map, AW, reduceAdd, reduceCtorEq, reduceEqDiff, ↓reduceIte, reduceLT, reduceLeDiff, reduceSub, reducePow, reduceMul, reduceToNat, reduceLE, reduceEq, Int.reduceLT, Int.reduceBEq, Int.reduceBNe]
  cases h5 : decide ((256 : Int) < (fs.length : Int))
  rotate_left
  · have h5' := of_decide_eq_true h5
    rw [show makeX id rider w rs fs l = (zeroX, 8) by unfold makeX; rw [if_neg hrn, if_pos (by omega)]]
    simp only [makeP, zeroX, InvS.pv, intP, List.map_nil, AW, reduceAdd, reduceCtorEq, reduceEqDiff, ↓reduceIte, reduceLT, reduceLeDiff, reduceSub, reducePow, reduceMul, reduceToNat, reduceLE, reduceEq, Int.reduceLT, Int.reduceBEq, Int.reduceBNe]
  have h5' := of_decide_eq_false h5
  have h5n : ¬ 256 < fs.length := by omega
  have hlen : fs.length ≤ maxLen := by unfold maxLen; omega
  (try simp only [List.length_map, AW, reduceAdd, reduceCtorEq, reduceEqDiff, ↓reduceIte, reduceLT, reduceLeDiff, reduceSub, reducePow, reduceMul, reduceToNat, reduceLE, reduceEq, Int.reduceLT, Int.reduceBEq, Int.reduceBNe])
  refine run_loop (ι := Nat) (fun k => ⟨[(0, .sc (.int .i64 id)), (1, .sc (.int .i64 rider)), (3, .sl (rs.map RideS.pv)), (4, .sl (fs.map FareS.pv)), (5, .sl (l.map RefS.pv)), (8, .ptr 0 0), (12, .ptr 1 0), (14, .sc (.int .i64 (k : Int)))], [(0, .var [.sc (.int .i64 w.from_), .sc (.int .i64 w.to_)]), (1, .var [.sc (.int .i64 0), .sc (.int .i64 0), .sc (.int .i64 0), .sc (.int .i64 0), .sc (.slice none 0 0), .sc (.slice none 0 0), .sc (.int .i64 0)])], 12, 168⟩) (fun k => k ≤ fs.length ∧ (∀ j (hj : j < fs.length), j < k → (findRd rs fs[j].ride).isSome = true)) (fun k => fs.length - k) 12 (fun _ => rfl) 0 (by simp only [LW, Nat.reduceMod, Nat.reduceDiv, Int.natCast_zero, AW, reduceAdd, reduceCtorEq, reduceEqDiff, ↓reduceIte, reduceLT, reduceLeDiff, reduceSub, reducePow, reduceMul, reduceToNat, reduceLE, reduceEq, Int.reduceLT, Int.reduceBEq, Int.reduceBNe]) ⟨Nat.zero_le _, nofun⟩ (fun k hk => ?_)
  obtain ⟨gk, ik⟩ := hk
  by_cases hltk : k < fs.length
  rotate_left
  · have dk : decide ((k : Int) < ((fs.length : Nat) : Int)) = false := by rw [decide_eq_false_iff_not]; exact fun h => hltk (Int.ofNat_lt.1 h)
    have ek : k = fs.length := Nat.le_antisymm gk (Nat.le_of_not_lt hltk)
    subst ek
    have hall : fs.all (fun f => (findRd rs f.ride).isSome) = true := all_yes (fun j hj => ik j hj hj)
    have halln : ¬ fs.all (fun f => (findRd rs f.ride).isSome) = false := by rw [hall]; simp
    simp only [dk, List.length_map, AW, reduceAdd, reduceCtorEq, reduceEqDiff, ↓reduceIte, reduceLT, reduceLeDiff, reduceSub, reducePow, reduceMul, reduceToNat, reduceLE, reduceEq, Int.reduceLT, Int.reduceBEq, Int.reduceBNe]
    refine ops_call (gc) (by simp only [AW, reduceAdd, reduceCtorEq, reduceEqDiff, ↓reduceIte, reduceLT, reduceLeDiff, reduceSub, reducePow, reduceMul, reduceToNat, reduceLE, reduceEq, Int.reduceLT, Int.reduceBEq, Int.reduceBNe]) ?_; simp only [AW, reduceAdd, reduceCtorEq, reduceEqDiff, ↓reduceIte, reduceLT, reduceLeDiff, reduceSub, reducePow, reduceMul, reduceToNat, reduceLE, reduceEq, Int.reduceLT, Int.reduceBEq, Int.reduceBNe]
    cases hc : (checkR fs l != 0)
    rotate_left
    · have hne : checkR fs l ≠ 0 := by simpa using hc
      rw [show makeX id rider w rs fs l = (zeroX, checkR fs l) by unfold makeX; rw [if_neg hrn, if_neg h5n, if_neg halln, if_pos hne]]
      simp only [makeP, zeroX, InvS.pv, intP, List.map_nil, AW, reduceAdd, reduceCtorEq, reduceEqDiff, ↓reduceIte, reduceLT, reduceLeDiff, reduceSub, reducePow, reduceMul, reduceToNat, reduceLE, reduceEq, Int.reduceLT, Int.reduceBEq, Int.reduceBNe]
    have h0 : checkR fs l = 0 := by simpa using hc
    obtain ⟨c1, c2⟩ := check_amt h0
    have hlen2 : l.length ≤ maxLen := by unfold maxLen; omega
    (try simp only [List.length_map, AW, reduceAdd, reduceCtorEq, reduceEqDiff, ↓reduceIte, reduceLT, reduceLeDiff, reduceSub, reducePow, reduceMul, reduceToNat, reduceLE, reduceEq, Int.reduceLT, Int.reduceBEq, Int.reduceBNe])
    refine run_loop (ι := Nat) (fun m => ⟨[(1, .sc (.int .i64 rider)), (3, .sl (rs.map RideS.pv)), (4, .sl (fs.map FareS.pv)), (5, .sl (l.map RefS.pv)), (8, .ptr 0 0), (12, .ptr 1 0), (18, .ptr 26 0), (19, .sc (.int .i64 (m : Int)))], [(0, .var [.sc (.int .i64 w.from_), .sc (.int .i64 w.to_)]), (1, .var [.sc (.int .i64 0), .sc (.int .i64 0), .sc (.int .i64 0), .sc (.int .i64 0), .sc (.slice none 0 0), .sc (.slice none 0 0), .sc (.int .i64 0)]), (26, .var [.sc (.int .i64 id), .sc (.int .i64 rider), .sc (.int .i64 w.from_), .sc (.int .i64 w.to_), .own 29 0, .sc (.slice none 0 0), .sc (.int .i64 (totF (mineF rs rider w (fs.take m))))]), (29, .row 55 4 0 ((mineF rs rider w (fs.take m)).map FareS.pv))], 30, 168⟩) (fun m => m ≤ fs.length ∧ ((mineF rs rider w (fs.take m)).all (fun f => moneyB f.total) = true)) (fun m => fs.length - m) 30 (fun _ => rfl) 0 (by simp only [LW, Nat.reduceMod, Nat.reduceDiv, Int.natCast_zero, List.take_zero, mineF, List.filter_nil, List.map_nil, totF, List.sum_nil, AW, reduceAdd, reduceCtorEq, reduceEqDiff, ↓reduceIte, reduceLT, reduceLeDiff, reduceSub, reducePow, reduceMul, reduceToNat, reduceLE, reduceEq, Int.reduceLT, Int.reduceBEq, Int.reduceBNe]) ⟨Nat.zero_le _, rfl⟩ (fun m hm => ?_)
    obtain ⟨gm, im⟩ := hm
    by_cases hltm : m < fs.length
    rotate_left
    · have dm : decide ((m : Int) < ((fs.length : Nat) : Int)) = false := by rw [decide_eq_false_iff_not]; exact fun h => hltm (Int.ofNat_lt.1 h)
      have em : m = fs.length := Nat.le_antisymm gm (Nat.le_of_not_lt hltm)
      subst em
      rw [List.take_length] at im ⊢
      have hml : (mineF rs rider w fs).length ≤ 256 := Nat.le_trans (List.length_filter_le _ _) (by omega)
      have hfin : makeX id rider w rs fs l = (⟨id, rider, w, mineF rs rider w fs, refsF (mineF rs rider w fs) l, totF (mineF rs rider w fs) - amtR (refsF (mineF rs rider w fs) l)⟩, 0) := by
        unfold makeX; rw [if_neg hrn, if_neg h5n, if_neg halln, if_neg (by rw [h0]; simp), if_neg (by rw [im]; simp)]
      rw [hfin]
      generalize mineF rs rider w fs = mine at *
      have tb := totF_money im
      simp only [dm, List.length_map, AW, reduceAdd, reduceCtorEq, reduceEqDiff, ↓reduceIte, reduceLT, reduceLeDiff, reduceSub, reducePow, reduceMul, reduceToNat, reduceLE, reduceEq, Int.reduceLT, Int.reduceBEq, Int.reduceBNe]
      refine run_loop (ι := Nat) (fun q => ⟨[(5, .sl (l.map RefS.pv)), (12, .ptr 1 0), (18, .ptr 26 0), (22, .sc (.int .i64 (q : Int)))], [(0, .var [.sc (.int .i64 w.from_), .sc (.int .i64 w.to_)]), (1, .var [.sc (.int .i64 0), .sc (.int .i64 0), .sc (.int .i64 0), .sc (.int .i64 0), .sc (.slice none 0 0), .sc (.slice none 0 0), .sc (.int .i64 0)]), (26, .var [.sc (.int .i64 id), .sc (.int .i64 rider), .sc (.int .i64 w.from_), .sc (.int .i64 w.to_), .own 29 0, .own 35 0, .sc (.int .i64 (totF mine - amtR (refsF mine (l.take q))))]), (29, .row 55 4 0 (mine.map FareS.pv)), (35, .row 60 4 0 ((refsF mine (l.take q)).map RefS.pv))], 36, 168⟩) (fun q => q ≤ l.length) (fun q => l.length - q) 36 (fun _ => rfl) 0 (by simp only [LW, Nat.reduceMod, Nat.reduceDiv, Int.natCast_zero, List.take_zero, refsF, List.filter_nil, List.map_nil, amtR, List.sum_nil, Int.sub_zero, AW, reduceAdd, reduceCtorEq, reduceEqDiff, ↓reduceIte, reduceLT, reduceLeDiff, reduceSub, reducePow, reduceMul, reduceToNat, reduceLE, reduceEq, Int.reduceLT, Int.reduceBEq, Int.reduceBNe]) (Nat.zero_le _) (fun q hq => ?_)
      have gq := hq
      by_cases hltq : q < l.length
      rotate_left
      · have dq : decide ((q : Int) < ((l.length : Nat) : Int)) = false := by rw [decide_eq_false_iff_not]; exact fun h => hltq (Int.ofNat_lt.1 h)
        have eq : q = l.length := Nat.le_antisymm gq (Nat.le_of_not_lt hltq)
        subst eq
        rw [List.take_length]
        simp only [dq, List.length_map, makeP, InvS.pv, intP, AW, reduceAdd, reduceCtorEq, reduceEqDiff, ↓reduceIte, reduceLT, reduceLeDiff, reduceSub, reducePow, reduceMul, reduceToNat, reduceLE, reduceEq, Int.reduceLT, Int.reduceBEq, Int.reduceBNe]
      have dq : decide ((q : Int) < ((l.length : Nat) : Int)) = true := by rw [decide_eq_true_eq]; exact Int.ofNat_lt.2 hltq
      have gb := has_g mine l[q].ride
      have fsn := filter_snoc (fun r : RefS => hasF mine r.ride) hltq
      change refsF mine (l.take (q + 1)) = refsF mine (l.take q) ++ _ at fsn
      have ab := amt_sum (fun r => hasF mine r.ride) (amtOk_take c2 (q + 1))
      change 0 ≤ amtR (refsF mine (l.take (q + 1))) ∧ amtR (refsF mine (l.take (q + 1))) ≤ _ at ab
      have al : (l.take (q + 1)).length ≤ 512 := by rw [List.length_take]; omega
      have rl : (refsF mine (l.take q)).length ≤ 512 := Nat.le_trans (List.length_filter_le _ _) (by rw [List.length_take]; omega)
      simp only [dq, List.length_map, map_getD hltq, hltq, RefS.pv, RefS.vals, List.map_cons, List.map_nil, AW, reduceAdd, reduceCtorEq, reduceEqDiff, ↓reduceIte, reduceLT, reduceLeDiff, reduceSub, reducePow, reduceMul, reduceToNat, reduceLE, reduceEq, Int.reduceLT, Int.reduceBEq, Int.reduceBNe]
      refine ops_call (gb) (by simp only [intP, AW, reduceAdd, reduceCtorEq, reduceEqDiff, ↓reduceIte, reduceLT, reduceLeDiff, reduceSub, reducePow, reduceMul, reduceToNat, reduceLE, reduceEq, Int.reduceLT, Int.reduceBEq, Int.reduceBNe]) ?_; simp only [intP, AW, reduceAdd, reduceCtorEq, reduceEqDiff, ↓reduceIte, reduceLT, reduceLeDiff, reduceSub, reducePow, reduceMul, reduceToNat, reduceLE, reduceEq, Int.reduceLT, Int.reduceBEq, Int.reduceBNe]
      cases h1 : hasF mine l[q].ride
      · rw [h1, if_neg (by simp), List.append_nil] at fsn
        simp only [AW, reduceAdd, reduceCtorEq, reduceEqDiff, ↓reduceIte, reduceLT, reduceLeDiff, reduceSub, reducePow, reduceMul, reduceToNat, reduceLE, reduceEq, Int.reduceLT, Int.reduceBEq, Int.reduceBNe]
        (try refine drawnK rfl ?_)
        (try simp only [wrap_succ hltq hlen2, AW, reduceAdd, reduceCtorEq, reduceEqDiff, ↓reduceIte, reduceLT, reduceLeDiff, reduceSub, reducePow, reduceMul, reduceToNat, reduceLE, reduceEq, Int.reduceLT, Int.reduceBEq, Int.reduceBNe])
        refine ⟨q + 1, hltq, ?_, meas_lt hltq⟩
        simp only [LW, Nat.reduceMod, Nat.reduceDiv, fsn, AW, reduceAdd, reduceCtorEq, reduceEqDiff, ↓reduceIte, reduceLT, reduceLeDiff, reduceSub, reducePow, reduceMul, reduceToNat, reduceLE, reduceEq, Int.reduceLT, Int.reduceBEq, Int.reduceBNe]
      · rw [h1, if_pos rfl] at fsn
        have ta := amtR_app (refsF mine (l.take q)) l[q]
        rw [← fsn] at ta
        have w1 : IntKind.i64.wrap (totF mine - amtR (refsF mine (l.take q)) - l[q].amount) = totF mine - amtR (refsF mine (l.take (q + 1))) := by rw [ta, wrap_id ⟨by omega, by omega⟩]; omega
        have b1 : (refsF mine (l.take q)).length + 1 ≤ maxLen := by unfold maxLen; omega
        have b2 : ((refsF mine (l.take q)).length + 1) * 32 ≤ 140737488355328 := by omega
        simp only [List.length_map, map_getD hltq, hltq, RefS.pv, RefS.vals, List.map_cons, List.map_nil, w1, b1, b2, AW, reduceAdd, reduceCtorEq, reduceEqDiff, ↓reduceIte, reduceLT, reduceLeDiff, reduceSub, reducePow, reduceMul, reduceToNat, reduceLE, reduceEq, Int.reduceLT, Int.reduceBEq, Int.reduceBNe]
        (try refine drawnK rfl ?_)
        (try simp only [List.length_map, map_getD hltq, hltq, RefS.pv, RefS.vals, List.map_cons, List.map_nil, w1, b1, b2, AW, reduceAdd, reduceCtorEq, reduceEqDiff, ↓reduceIte, reduceLT, reduceLeDiff, reduceSub, reducePow, reduceMul, reduceToNat, reduceLE, reduceEq, Int.reduceLT, Int.reduceBEq, Int.reduceBNe])
        (try refine drawnK rfl ?_)
        (try simp only [List.length_map, map_getD hltq, hltq, RefS.pv, RefS.vals, List.map_cons, List.map_nil, w1, b1, b2, AW, reduceAdd, reduceCtorEq, reduceEqDiff, ↓reduceIte, reduceLT, reduceLeDiff, reduceSub, reducePow, reduceMul, reduceToNat, reduceLE, reduceEq, Int.reduceLT, Int.reduceBEq, Int.reduceBNe])
        (try refine drawnK rfl ?_)
        (try simp only [wrap_succ hltq hlen2, AW, reduceAdd, reduceCtorEq, reduceEqDiff, ↓reduceIte, reduceLT, reduceLeDiff, reduceSub, reducePow, reduceMul, reduceToNat, reduceLE, reduceEq, Int.reduceLT, Int.reduceBEq, Int.reduceBNe])
        refine ⟨q + 1, hltq, ?_, meas_lt hltq⟩
        simp only [LW, Nat.reduceMod, Nat.reduceDiv, fsn, List.map_append, List.map_cons, List.map_nil, RefS.pv, RefS.vals, AW, reduceAdd, reduceCtorEq, reduceEqDiff, ↓reduceIte, reduceLT, reduceLeDiff, reduceSub, reducePow, reduceMul, reduceToNat, reduceLE, reduceEq, Int.reduceLT, Int.reduceBEq, Int.reduceBNe]
    have dm : decide ((m : Int) < ((fs.length : Nat) : Int)) = true := by rw [decide_eq_true_eq]; exact Int.ofNat_lt.2 hltm
    have fsn := filter_snoc (mineB rs rider w) hltm
    have hmem : fs[m] ∈ fs := List.getElem_mem hltm
    obtain ⟨r, hfr⟩ : ∃ r, findRd rs fs[m].ride = some r := Option.isSome_iff_exists.1 (List.all_eq_true.1 hall _ hmem)
    have gf := rfindR_g rs fs[m].ride
    rw [hfr] at gf
    simp only [findRP, RideS.pv, AW, reduceAdd, reduceCtorEq, reduceEqDiff, ↓reduceIte, reduceLT, reduceLeDiff, reduceSub, reducePow, reduceMul, reduceToNat, reduceLE, reduceEq, Int.reduceLT, Int.reduceBEq, Int.reduceBNe] at gf
    have hml : (mineF rs rider w (fs.take m)).length ≤ 256 := by
      have := List.length_filter_le (mineB rs rider w) (fs.take m)
      rw [List.length_take] at this
      unfold mineF; omega
    change mineF rs rider w (fs.take (m + 1)) = mineF rs rider w (fs.take m) ++ _ at fsn
    have ht : startLo rs fs[m].ride = r.start.lo := by unfold startLo; rw [hfr]
    have hmb : mineB rs rider w fs[m] = ((fs[m].rider == rider) && decide (w.from_ ≤ r.start.lo) && decide (r.start.lo < w.to_)) := by unfold mineB; rw [ht]
    have no : mineB rs rider w fs[m] = false → mineF rs rider w (fs.take (m + 1)) = mineF rs rider w (fs.take m) := fun h => by rw [fsn, h, if_neg (by simp), List.append_nil]
    simp only [dm, List.length_map, map_getD hltm, hltm, FareS.pv, AW, reduceAdd, reduceCtorEq, reduceEqDiff, ↓reduceIte, reduceLT, reduceLeDiff, reduceSub, reducePow, reduceMul, reduceToNat, reduceLE, reduceEq, Int.reduceLT, Int.reduceBEq, Int.reduceBNe]
    refine ops_call (gf) (by simp only [intP, AW, reduceAdd, reduceCtorEq, reduceEqDiff, ↓reduceIte, reduceLT, reduceLeDiff, reduceSub, reducePow, reduceMul, reduceToNat, reduceLE, reduceEq, Int.reduceLT, Int.reduceBEq, Int.reduceBNe]) ?_; simp only [intP, AW, reduceAdd, reduceCtorEq, reduceEqDiff, ↓reduceIte, reduceLT, reduceLeDiff, reduceSub, reducePow, reduceMul, reduceToNat, reduceLE, reduceEq, Int.reduceLT, Int.reduceBEq, Int.reduceBNe]
    simp only [List.length_map, map_getD hltm, hltm, FareS.pv, AW, reduceAdd, reduceCtorEq, reduceEqDiff, ↓reduceIte, reduceLT, reduceLeDiff, reduceSub, reducePow, reduceMul, reduceToNat, reduceLE, reduceEq, Int.reduceLT, Int.reduceBEq, Int.reduceBNe]
    cases h1 : (fs[m].rider == rider)
    · have hnb : mineB rs rider w fs[m] = false := by
        rw [hmb]
        rw [h1]; rfl
      simp only [AW, reduceAdd, reduceCtorEq, reduceEqDiff, ↓reduceIte, reduceLT, reduceLeDiff, reduceSub, reducePow, reduceMul, reduceToNat, reduceLE, reduceEq, Int.reduceLT, Int.reduceBEq, Int.reduceBNe]
      (try refine drawnK rfl ?_)
      (try simp only [wrap_succ hltm hlen, AW, reduceAdd, reduceCtorEq, reduceEqDiff, ↓reduceIte, reduceLT, reduceLeDiff, reduceSub, reducePow, reduceMul, reduceToNat, reduceLE, reduceEq, Int.reduceLT, Int.reduceBEq, Int.reduceBNe])
      refine ⟨m + 1, ⟨hltm, by rw [no hnb]; exact im⟩, ?_, meas_lt hltm⟩
      simp only [LW, Nat.reduceMod, Nat.reduceDiv, no hnb, AW, reduceAdd, reduceCtorEq, reduceEqDiff, ↓reduceIte, reduceLT, reduceLeDiff, reduceSub, reducePow, reduceMul, reduceToNat, reduceLE, reduceEq, Int.reduceLT, Int.reduceBEq, Int.reduceBNe]
    cases h2 : decide (w.from_ ≤ r.start.lo)
    · have hnb : mineB rs rider w fs[m] = false := by
        rw [hmb]
        rw [h2]; simp
      simp only [h2, AW, reduceAdd, reduceCtorEq, reduceEqDiff, ↓reduceIte, reduceLT, reduceLeDiff, reduceSub, reducePow, reduceMul, reduceToNat, reduceLE, reduceEq, Int.reduceLT, Int.reduceBEq, Int.reduceBNe]
      (try refine drawnK rfl ?_)
      (try simp only [wrap_succ hltm hlen, AW, reduceAdd, reduceCtorEq, reduceEqDiff, ↓reduceIte, reduceLT, reduceLeDiff, reduceSub, reducePow, reduceMul, reduceToNat, reduceLE, reduceEq, Int.reduceLT, Int.reduceBEq, Int.reduceBNe])
      refine ⟨m + 1, ⟨hltm, by rw [no hnb]; exact im⟩, ?_, meas_lt hltm⟩
      simp only [LW, Nat.reduceMod, Nat.reduceDiv, no hnb, AW, reduceAdd, reduceCtorEq, reduceEqDiff, ↓reduceIte, reduceLT, reduceLeDiff, reduceSub, reducePow, reduceMul, reduceToNat, reduceLE, reduceEq, Int.reduceLT, Int.reduceBEq, Int.reduceBNe]
    cases h3 : decide (r.start.lo < w.to_)
    · have hnb : mineB rs rider w fs[m] = false := by
        rw [hmb]
        rw [h3]; simp
      simp only [h2, h3, AW, reduceAdd, reduceCtorEq, reduceEqDiff, ↓reduceIte, reduceLT, reduceLeDiff, reduceSub, reducePow, reduceMul, reduceToNat, reduceLE, reduceEq, Int.reduceLT, Int.reduceBEq, Int.reduceBNe]
      (try refine drawnK rfl ?_)
      (try simp only [wrap_succ hltm hlen, AW, reduceAdd, reduceCtorEq, reduceEqDiff, ↓reduceIte, reduceLT, reduceLeDiff, reduceSub, reducePow, reduceMul, reduceToNat, reduceLE, reduceEq, Int.reduceLT, Int.reduceBEq, Int.reduceBNe])
      refine ⟨m + 1, ⟨hltm, by rw [no hnb]; exact im⟩, ?_, meas_lt hltm⟩
      simp only [LW, Nat.reduceMod, Nat.reduceDiv, no hnb, AW, reduceAdd, reduceCtorEq, reduceEqDiff, ↓reduceIte, reduceLT, reduceLeDiff, reduceSub, reducePow, reduceMul, reduceToNat, reduceLE, reduceEq, Int.reduceLT, Int.reduceBEq, Int.reduceBNe]
    have hyes : mineB rs rider w fs[m] = true := by rw [hmb, h1, h2, h3]; rfl
    rw [hyes, if_pos rfl] at fsn
    have bad : moneyB fs[m].total = false → makeX id rider w rs fs l = (zeroX, 2) := fun h => by
      have ha : (mineF rs rider w fs).all (fun f => moneyB f.total) = false := by
        rw [Bool.eq_false_iff]; intro h2
        have := List.all_eq_true.1 h2 fs[m] (List.mem_filter.2 ⟨hmem, hyes⟩)
        rw [h] at this; cases this
      unfold makeX; rw [if_neg hrn, if_neg h5n, if_neg halln, if_neg (by rw [h0]; simp), if_pos ha]
    simp only [h2, h3, AW, reduceAdd, reduceCtorEq, reduceEqDiff, ↓reduceIte, reduceLT, reduceLeDiff, reduceSub, reducePow, reduceMul, reduceToNat, reduceLE, reduceEq, Int.reduceLT, Int.reduceBEq, Int.reduceBNe]
    (try refine drawnK rfl ?_)
    (try simp only [List.length_map, map_getD hltm, hltm, FareS.pv, AW, reduceAdd, reduceCtorEq, reduceEqDiff, ↓reduceIte, reduceLT, reduceLeDiff, reduceSub, reducePow, reduceMul, reduceToNat, reduceLE, reduceEq, Int.reduceLT, Int.reduceBEq, Int.reduceBNe])
    cases h4 : decide (fs[m].total < -1000000000000)
    rotate_left
    · rw [bad (by unfold moneyB; have := of_decide_eq_true h4; rw [decide_eq_false (by omega : ¬ -1000000000000 ≤ fs[m].total)]; rfl)]
      simp only [makeP, zeroX, InvS.pv, intP, List.map_nil, AW, reduceAdd, reduceCtorEq, reduceEqDiff, ↓reduceIte, reduceLT, reduceLeDiff, reduceSub, reducePow, reduceMul, reduceToNat, reduceLE, reduceEq, Int.reduceLT, Int.reduceBEq, Int.reduceBNe]
      (try first | rfl | (refine drawnK rfl ?_; (try simp only [makeP, zeroX, InvS.pv, intP, List.map_nil, AW, reduceAdd, reduceCtorEq, reduceEqDiff, ↓reduceIte, reduceLT, reduceLeDiff, reduceSub, reducePow, reduceMul, reduceToNat, reduceLE, reduceEq, Int.reduceLT, Int.reduceBEq, Int.reduceBNe])))
    cases h6 : decide ((1000000000000 : Int) < fs[m].total)
    rotate_left
    · rw [bad (by unfold moneyB; have := of_decide_eq_true h6; rw [decide_eq_false (by omega : ¬ fs[m].total ≤ 1000000000000)]; simp)]
      simp only [List.length_map, map_getD hltm, hltm, FareS.pv, h6, makeP, zeroX, InvS.pv, intP, List.map_nil, AW, reduceAdd, reduceCtorEq, reduceEqDiff, ↓reduceIte, reduceLT, reduceLeDiff, reduceSub, reducePow, reduceMul, reduceToNat, reduceLE, reduceEq, Int.reduceLT, Int.reduceBEq, Int.reduceBNe]
      (try first | rfl | (refine drawnK rfl ?_; (try simp only [makeP, zeroX, InvS.pv, intP, List.map_nil, AW, reduceAdd, reduceCtorEq, reduceEqDiff, ↓reduceIte, reduceLT, reduceLeDiff, reduceSub, reducePow, reduceMul, reduceToNat, reduceLE, reduceEq, Int.reduceLT, Int.reduceBEq, Int.reduceBNe])))
    have hmo : moneyB fs[m].total = true := by
      have a1 := of_decide_eq_false h4
      have a2 := of_decide_eq_false h6
      unfold moneyB; rw [decide_eq_true (by omega), decide_eq_true (by omega)]; rfl
    have hall2 : (mineF rs rider w (fs.take (m + 1))).all (fun f => moneyB f.total) = true := by
      rw [fsn, List.all_append, im]; simp [hmo]
    have tb := totF_money hall2
    have tl : (mineF rs rider w (fs.take (m + 1))).length ≤ 257 := by rw [fsn, List.length_append]; simp only [List.length_cons, List.length_nil]; omega
    have ta := totF_app (mineF rs rider w (fs.take m)) fs[m]
    rw [← fsn] at ta
    have w1 : IntKind.i64.wrap (totF (mineF rs rider w (fs.take m)) + fs[m].total) = totF (mineF rs rider w (fs.take (m + 1))) := by rw [← ta]; exact wrap_id ⟨by omega, by omega⟩
    have b1 : (mineF rs rider w (fs.take m)).length + 1 ≤ maxLen := by unfold maxLen; omega
    have b2 : ((mineF rs rider w (fs.take m)).length + 1) * 48 ≤ 140737488355328 := by omega
    simp only [List.length_map, map_getD hltm, hltm, FareS.pv, h6, w1, b1, b2, AW, reduceAdd, reduceCtorEq, reduceEqDiff, ↓reduceIte, reduceLT, reduceLeDiff, reduceSub, reducePow, reduceMul, reduceToNat, reduceLE, reduceEq, Int.reduceLT, Int.reduceBEq, Int.reduceBNe]
    (try refine drawnK rfl ?_)
    (try simp only [List.length_map, map_getD hltm, hltm, FareS.pv, h6, w1, b1, b2, AW, reduceAdd, reduceCtorEq, reduceEqDiff, ↓reduceIte, reduceLT, reduceLeDiff, reduceSub, reducePow, reduceMul, reduceToNat, reduceLE, reduceEq, Int.reduceLT, Int.reduceBEq, Int.reduceBNe])
    (try refine drawnK rfl ?_)
    (try simp only [List.length_map, map_getD hltm, hltm, FareS.pv, h6, w1, b1, b2, AW, reduceAdd, reduceCtorEq, reduceEqDiff, ↓reduceIte, reduceLT, reduceLeDiff, reduceSub, reducePow, reduceMul, reduceToNat, reduceLE, reduceEq, Int.reduceLT, Int.reduceBEq, Int.reduceBNe])
    (try simp only [wrap_succ hltm hlen, AW, reduceAdd, reduceCtorEq, reduceEqDiff, ↓reduceIte, reduceLT, reduceLeDiff, reduceSub, reducePow, reduceMul, reduceToNat, reduceLE, reduceEq, Int.reduceLT, Int.reduceBEq, Int.reduceBNe])
    refine ⟨m + 1, ⟨hltm, hall2⟩, ?_, meas_lt hltm⟩
    simp only [LW, Nat.reduceMod, Nat.reduceDiv, fsn, List.map_append, List.map_cons, List.map_nil, FareS.pv, AW, reduceAdd, reduceCtorEq, reduceEqDiff, ↓reduceIte, reduceLT, reduceLeDiff, reduceSub, reducePow, reduceMul, reduceToNat, reduceLE, reduceEq, Int.reduceLT, Int.reduceBEq, Int.reduceBNe]
  have dk : decide ((k : Int) < ((fs.length : Nat) : Int)) = true := by rw [decide_eq_true_eq]; exact Int.ofNat_lt.2 hltk
  have gf := rfindR_g rs fs[k].ride
  simp only [dk, List.length_map, map_getD hltk, hltk, FareS.pv, AW, reduceAdd, reduceCtorEq, reduceEqDiff, ↓reduceIte, reduceLT, reduceLeDiff, reduceSub, reducePow, reduceMul, reduceToNat, reduceLE, reduceEq, Int.reduceLT, Int.reduceBEq, Int.reduceBNe]
  cases hf : findRd rs fs[k].ride with
  | none =>
    rw [hf] at gf
    simp only [findRP, zeroR, RideS.pv, List.map_nil, AW, reduceAdd, reduceCtorEq, reduceEqDiff, ↓reduceIte, reduceLT, reduceLeDiff, reduceSub, reducePow, reduceMul, reduceToNat, reduceLE, reduceEq, Int.reduceLT, Int.reduceBEq, Int.reduceBNe] at gf
    refine ops_call (gf) (by simp only [intP, AW, reduceAdd, reduceCtorEq, reduceEqDiff, ↓reduceIte, reduceLT, reduceLeDiff, reduceSub, reducePow, reduceMul, reduceToNat, reduceLE, reduceEq, Int.reduceLT, Int.reduceBEq, Int.reduceBNe]) ?_; simp only [intP, AW, reduceAdd, reduceCtorEq, reduceEqDiff, ↓reduceIte, reduceLT, reduceLeDiff, reduceSub, reducePow, reduceMul, reduceToNat, reduceLE, reduceEq, Int.reduceLT, Int.reduceBEq, Int.reduceBNe]
    rw [show makeX id rider w rs fs l = (zeroX, 7) by unfold makeX; rw [if_neg hrn, if_neg h5n, if_pos (all_no hltk (by rw [hf]; rfl))]]
    simp only [makeP, zeroX, InvS.pv, intP, List.map_nil, AW, reduceAdd, reduceCtorEq, reduceEqDiff, ↓reduceIte, reduceLT, reduceLeDiff, reduceSub, reducePow, reduceMul, reduceToNat, reduceLE, reduceEq, Int.reduceLT, Int.reduceBEq, Int.reduceBNe]
    (try first | rfl | (refine drawnK rfl ?_; (try simp only [makeP, zeroX, InvS.pv, intP, List.map_nil, AW, reduceAdd, reduceCtorEq, reduceEqDiff, ↓reduceIte, reduceLT, reduceLeDiff, reduceSub, reducePow, reduceMul, reduceToNat, reduceLE, reduceEq, Int.reduceLT, Int.reduceBEq, Int.reduceBNe])))
  | some r =>
    rw [hf] at gf
    simp only [findRP, RideS.pv, AW, reduceAdd, reduceCtorEq, reduceEqDiff, ↓reduceIte, reduceLT, reduceLeDiff, reduceSub, reducePow, reduceMul, reduceToNat, reduceLE, reduceEq, Int.reduceLT, Int.reduceBEq, Int.reduceBNe] at gf
    refine ops_call (gf) (by simp only [intP, AW, reduceAdd, reduceCtorEq, reduceEqDiff, ↓reduceIte, reduceLT, reduceLeDiff, reduceSub, reducePow, reduceMul, reduceToNat, reduceLE, reduceEq, Int.reduceLT, Int.reduceBEq, Int.reduceBNe]) ?_; simp only [intP, AW, reduceAdd, reduceCtorEq, reduceEqDiff, ↓reduceIte, reduceLT, reduceLeDiff, reduceSub, reducePow, reduceMul, reduceToNat, reduceLE, reduceEq, Int.reduceLT, Int.reduceBEq, Int.reduceBNe]
    (try refine drawnK rfl ?_)
    (try simp only [wrap_succ hltk hlen, AW, reduceAdd, reduceCtorEq, reduceEqDiff, ↓reduceIte, reduceLT, reduceLeDiff, reduceSub, reducePow, reduceMul, reduceToNat, reduceLE, reduceEq, Int.reduceLT, Int.reduceBEq, Int.reduceBNe])
    refine ⟨k + 1, ⟨hltk, fun j hj hjk => ?_⟩, ?_, meas_lt hltk⟩
    · by_cases e : j = k
      · subst e; rw [hf]; rfl
      · exact ik j hj (by omega)
    · simp only [LW, Nat.reduceMod, Nat.reduceDiv, AW, reduceAdd, reduceCtorEq, reduceEqDiff, ↓reduceIte, reduceLT, reduceLeDiff, reduceSub, reducePow, reduceMul, reduceToNat, reduceLE, reduceEq, Int.reduceLT, Int.reduceBEq, Int.reduceBNe]


end Go.Proofs.YtaejaogidkgalaaDoor
