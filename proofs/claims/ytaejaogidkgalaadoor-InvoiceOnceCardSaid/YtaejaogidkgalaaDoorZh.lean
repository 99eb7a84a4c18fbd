/-
  Invoices: Check of both.
-/
import Derived.Test.YtaejaogidkgalaaDoorZg
namespace Go.Proofs.YtaejaogidkgalaaDoor
open Go.RowKit
open Nat (reduceAdd reduceEqDiff reduceLT reduceLeDiff reduceSub reducePow reduceMul)
open Int (reduceToNat reduceLE reduceEq)
set_option linter.unusedVariables false
set_option linter.unusedSimpArgs false
set_option linter.unnecessarySimpa false

theorem fares_fl (fs : List FareS) : ((fs.map FareS.pv).all fun p => p.flat.length == 4) = true := List.all_eq_true.2 (fun p hp => by obtain ⟨x, _, rfl⟩ := List.mem_map.1 hp; rfl)
def totF (fs : List FareS) : Int := (fs.map (·.total)).sum
def amtR (l : List RefS) : Int := (l.map (·.amount)).sum
theorem totF_succ {fs : List FareS} {k : Nat} (h : k < fs.length) : totF (fs.take (k + 1)) = totF (fs.take k) + fs[k].total := by
  unfold totF; rw [List.take_succ_eq_append_getElem h, List.map_append, List.sum_append]; simp
theorem amtR_succ {l : List RefS} {k : Nat} (h : k < l.length) : amtR (l.take (k + 1)) = amtR (l.take k) + l[k].amount := by
  unfold amtR; rw [List.take_succ_eq_append_getElem h, List.map_append, List.sum_append]; simp
theorem amtR_bnd {l : List RefS} (h : amtOk l) : 0 ≤ amtR l ∧ amtR l ≤ l.length * 1000000000000 := by
  have := amt_sum (fun _ => true) h
  rw [List.filter_eq_self.2 (fun _ _ => rfl)] at this; exact this
theorem added_bnd {f : FareS} (h : addedB f = true) : -16000000000000 ≤ f.total ∧ f.total ≤ 16000000000000 := by
  simp only [addedB, Bool.and_eq_true, decide_eq_true_eq] at h
  obtain ⟨⟨h1, h2⟩, h3⟩ := h
  have := sumIt_bnd (l := f.items) f.items.length (Nat.le_refl _) (fun j hj _ => List.all_eq_true.1 h2 _ (List.getElem_mem hj))
  rw [List.take_length, h3] at this; omega
theorem totF_bnd {fs : List FareS} : ∀ k, k ≤ fs.length → (∀ j (hj : j < fs.length), j < k → addedB fs[j] = true) → -(k * 16000000000000 : Int) ≤ totF (fs.take k) ∧ totF (fs.take k) ≤ k * 16000000000000
  | 0, _, _ => by simp [totF]
  | k + 1, hk, h => by
    have ih := totF_bnd k (by omega) (fun j hj hjk => h j hj (by omega))
    have hv := added_bnd (h k (by omega) (by omega))
    rw [totF_succ (by omega)]; omega
def formB (x : InvS) (f : FareS) : Bool := (f.rider == x.rider) && addedB f
def checkX (x : InvS) : Int :=
  if rgB x.id x.rider x.when_ = false then 1 else if 256 < x.fares.length then 8 else if ¬ (x.fares.map (·.ride)).Nodup then 6
  else if x.fares.all (formB x) = false then 3 else if checkR x.fares x.refunds ≠ 0 then checkR x.fares x.refunds
  else if totF x.fares - amtR x.refunds ≠ x.total then 27 else 0
theorem fsum_added {f : FareS} (h : addedB f = true) : fsum f.items = .tup [intP f.total, intP 0] := by
  simp only [addedB, Bool.and_eq_true, decide_eq_true_eq] at h
  unfold fsum; rw [if_neg (by omega), if_pos h.1.2, h.2]
theorem fsum_not {f : FareS} (h : addedB f = false) : ∃ n e, fsum f.items = .tup [intP n, intP e] ∧ (e ≠ 0 ∨ (e = 0 ∧ n ≠ f.total)) := by
  unfold fsum
  by_cases h1 : 16 < f.items.length
  · rw [if_pos h1]; exact ⟨_, _, rfl, .inl (by decide)⟩
  · rw [if_neg h1]
    by_cases h2 : f.items.all amtIn = true
    · rw [if_pos h2]
      refine ⟨_, _, rfl, .inr ⟨rfl, fun h3 => ?_⟩⟩
      unfold addedB at h
      rw [h2, decide_eq_true h3, decide_eq_true (by omega : f.items.length ≤ 16)] at h
      cases h
    · rw [if_neg h2]; exact ⟨_, _, rfl, .inl (by decide)⟩
set_option maxHeartbeats 4000000 in
theorem added_g (f : FareS) : Good Tryd.prog 40 [f.pv] (.sc (.bool (addedB f))) := by
  refine good40 (by simp) ?_
  simp only [ac40, FareS.pv, AW, reduceAdd, reduceCtorEq, reduceEqDiff, ↓reduceIte, reduceLT, reduceLeDiff, reduceSub, reducePow, reduceMul, reduceToNat, reduceLE, reduceEq, Int.reduceLT, Int.reduceBEq, Int.reduceBNe]
  refine run_loop (ι := Nat) (fun k => ⟨[(1, .ptr 0 0), (3, .sc (.int .i64 (sumIt (f.items.take k)))), (4, .sc (.int .i64 (k : Int)))], [(0, .var [.sc (.int .i64 f.ride), .sc (.int .i64 f.rider), .sl (f.items.map ItemS.pv), .sc (.int .i64 f.total)])], 4, 42⟩) (fun k => k ≤ f.items.length ∧ k ≤ 16 ∧ ∀ j (hj : j < f.items.length), j < k → amtIn f.items[j] = true) (fun k => 16 - k) 4 (fun _ => rfl) 0 (by simp only [LW, Nat.reduceMod, Nat.reduceDiv, List.take_zero, sumIt, List.map_nil, List.sum_nil, Int.natCast_zero, AW, reduceAdd, reduceCtorEq, reduceEqDiff, ↓reduceIte, reduceLT, reduceLeDiff, reduceSub, reducePow, reduceMul, reduceToNat, reduceLE, reduceEq, Int.reduceLT, Int.reduceBEq, Int.reduceBNe]) ⟨Nat.zero_le _, Nat.zero_le _, nofun⟩ (fun k hk => ?_)
  obtain ⟨k1, k2, k3⟩ := hk
  by_cases hlt : k < f.items.length
  rotate_left
  · have ek : k = f.items.length := by omega
    have d1 : decide ((k : Int) < (f.items.length : Int)) = false := by rw [decide_eq_false_iff_not]; omega
    have d2 : decide ((f.items.length : Int) ≤ 16) = true := by rw [decide_eq_true_eq]; omega
    have hall : f.items.all amtIn = true := all_yes (fun j hj => k3 j hj (by omega))
    have e1 : (sumIt f.items == f.total) = decide (sumIt f.items = f.total) := by
      by_cases h : sumIt f.items = f.total
      · rw [h]; simp
      · rw [decide_eq_false h]; exact beq_eq_false_iff_ne.2 h
    have hr : addedB f = decide (sumIt f.items = f.total) := by
      unfold addedB; rw [hall, decide_eq_true (by omega : f.items.length ≤ 16)]; simp
    rw [hr]
    subst ek
    simp only [List.length_map, d1, d2, List.take_length, e1, AW, reduceAdd, reduceCtorEq, reduceEqDiff, ↓reduceIte, reduceLT, reduceLeDiff, reduceSub, reducePow, reduceMul, reduceToNat, reduceLE, reduceEq, Int.reduceLT, Int.reduceBEq, Int.reduceBNe]
  by_cases h16 : k < 16
  rotate_left
  · have d1 : decide ((k : Int) < (f.items.length : Int)) = true := by rw [decide_eq_true_eq]; omega
    have d2 : decide ((k : Int) < 16) = false := by rw [decide_eq_false_iff_not]; omega
    have d3 : decide ((f.items.length : Int) ≤ 16) = false := by rw [decide_eq_false_iff_not]; omega
    have hr : addedB f = false := by unfold addedB; rw [decide_eq_false (by omega : ¬ f.items.length ≤ 16)]; simp
    rw [hr]
    simp only [List.length_map, d1, d2, d3, AW, reduceAdd, reduceCtorEq, reduceEqDiff, ↓reduceIte, reduceLT, reduceLeDiff, reduceSub, reducePow, reduceMul, reduceToNat, reduceLE, reduceEq, Int.reduceLT, Int.reduceBEq, Int.reduceBNe]
  have d1 : decide ((k : Int) < (f.items.length : Int)) = true := by rw [decide_eq_true_eq]; omega
  have d2 : decide ((k : Int) < 16) = true := by rw [decide_eq_true_eq]; omega
  have hs := sumIt_succ hlt
  simp only [List.length_map, d1, d2, map_getD hlt, hlt, ItemS.pv, ItemS.vals, List.map_cons, List.map_nil, AW, reduceAdd, reduceCtorEq, reduceEqDiff, ↓reduceIte, reduceLT, reduceLeDiff, reduceSub, reducePow, reduceMul, reduceToNat, reduceLE, reduceEq, Int.reduceLT, Int.reduceBEq, Int.reduceBNe]
  cases h1 : decide (f.items[k].amount < -1000000000000)
  rotate_left
  · rw [show addedB f = false by unfold addedB; rw [all_no hlt (p := amtIn) (by unfold amtIn; have := of_decide_eq_true h1; rw [show decide (-1000000000000 ≤ f.items[k].amount) = false by rw [decide_eq_false_iff_not]; omega]; rfl)]; simp]
    simp only [AW, reduceAdd, reduceCtorEq, reduceEqDiff, ↓reduceIte, reduceLT, reduceLeDiff, reduceSub, reducePow, reduceMul, reduceToNat, reduceLE, reduceEq, Int.reduceLT, Int.reduceBEq, Int.reduceBNe]
  cases h2 : decide ((1000000000000 : Int) < f.items[k].amount)
  rotate_left
  · rw [show addedB f = false by unfold addedB; rw [all_no hlt (p := amtIn) (by unfold amtIn; have := of_decide_eq_true h2; rw [show decide (f.items[k].amount ≤ 1000000000000) = false by rw [decide_eq_false_iff_not]; omega]; simp)]; simp]
    simp only [h2, AW, reduceAdd, reduceCtorEq, reduceEqDiff, ↓reduceIte, reduceLT, reduceLeDiff, reduceSub, reducePow, reduceMul, reduceToNat, reduceLE, reduceEq, Int.reduceLT, Int.reduceBEq, Int.reduceBNe]
  have ha : amtIn f.items[k] = true := amtIn_iff.2 ⟨by have := of_decide_eq_false h1; omega, by have := of_decide_eq_false h2; omega⟩
  have hn : ∀ j (hj : j < f.items.length), j < k + 1 → amtIn f.items[j] = true := fun j hj hjk => by
    by_cases e : j = k
    · subst e; exact ha
    · exact k3 j hj (by omega)
  have sb := sumIt_bnd (k + 1) hlt hn
  have w1 : IntKind.i64.wrap (sumIt (f.items.take k) + f.items[k].amount) = sumIt (f.items.take (k + 1)) := by rw [← hs]; exact wrap_id ⟨by omega, by omega⟩
  simp only [h2, w1, AW, reduceAdd, reduceCtorEq, reduceEqDiff, ↓reduceIte, reduceLT, reduceLeDiff, reduceSub, reducePow, reduceMul, reduceToNat, reduceLE, reduceEq, Int.reduceLT, Int.reduceBEq, Int.reduceBNe]
  (try simp only [wrap_succ h16 (show 16 ≤ maxLen by unfold maxLen; omega), AW, reduceAdd, reduceCtorEq, reduceEqDiff, ↓reduceIte, reduceLT, reduceLeDiff, reduceSub, reducePow, reduceMul, reduceToNat, reduceLE, reduceEq, Int.reduceLT, Int.reduceBEq, Int.reduceBNe])
  refine ⟨k + 1, ⟨hlt, h16, hn⟩, ?_, by omega⟩
  simp only [LW, Nat.reduceMod, Nat.reduceDiv, AW, reduceAdd, reduceCtorEq, reduceEqDiff, ↓reduceIte, reduceLT, reduceLeDiff, reduceSub, reducePow, reduceMul, reduceToNat, reduceLE, reduceEq, Int.reduceLT, Int.reduceBEq, Int.reduceBNe]
set_option maxHeartbeats 8000000 in
theorem icheck_g (x : InvS) : Good Tryd.prog 17 [x.pv] (.sc (.int .i64 (checkX x))) := by
  have gh := head_g x.id x.rider x.when_
  refine good17 (by simp) ?_
  simp only [ac17, InvS.pv, AW, reduceAdd, reduceCtorEq, reduceEqDiff, ↓reduceIte, reduceLT, reduceLeDiff, reduceSub, reducePow, reduceMul, reduceToNat, reduceLE, reduceEq, Int.reduceLT, Int.reduceBEq, Int.reduceBNe]
  simp only [WinS.pv, WinS.vals, List.map_cons, List.map_nil, AW, reduceAdd, reduceCtorEq, reduceEqDiff, ↓reduceIte, reduceLT, reduceLeDiff, reduceSub, reducePow, reduceMul, reduceToNat, reduceLE, reduceEq, Int.reduceLT, Int.reduceBEq, Int.reduceBNe] at gh
  refine ops_call (gh) (by simp only [intP, AW, reduceAdd, reduceCtorEq, reduceEqDiff, ↓reduceIte, reduceLT, reduceLeDiff, reduceSub, reducePow, reduceMul, reduceToNat, reduceLE, reduceEq, Int.reduceLT, Int.reduceBEq, Int.reduceBNe]) ?_; simp only [intP, AW, reduceAdd, reduceCtorEq, reduceEqDiff, ↓reduceIte, reduceLT, reduceLeDiff, reduceSub, reducePow, reduceMul, reduceToNat, reduceLE, reduceEq, Int.reduceLT, Int.reduceBEq, Int.reduceBNe]
  cases hr : rgB x.id x.rider x.when_
  · rw [show checkX x = 1 by unfold checkX; rw [if_pos hr]]
    simp only [AW, reduceAdd, reduceCtorEq, reduceEqDiff, ↓reduceIte, reduceLT, reduceLeDiff, reduceSub, reducePow, reduceMul, reduceToNat, reduceLE, reduceEq, Int.reduceLT, Int.reduceBEq, Int.reduceBNe]
  have hrn : ¬ rgB x.id x.rider x.when_ = false := by rw [hr]; simp
  simp only [List.length_map, AW, reduceAdd, reduceCtorEq, reduceEqDiff, ↓reduceIte, reduceLT, reduceLeDiff, reduceSub, reducePow, reduceMul, reduceToNat, reduceLE, reduceEq, Int.reduceLT, Int.reduceBEq, Int.reduceBNe]
  cases h5 : decide ((256 : Int) < (x.fares.length : Int))
  rotate_left
  · have h5' := of_decide_eq_true h5
    rw [show checkX x = 8 by unfold checkX; rw [if_neg hrn, if_pos (by omega)]]
    simp only [AW, reduceAdd, reduceCtorEq, reduceEqDiff, ↓reduceIte, reduceLT, reduceLeDiff, reduceSub, reducePow, reduceMul, reduceToNat, reduceLE, reduceEq, Int.reduceLT, Int.reduceBEq, Int.reduceBNe]
  have h5' := of_decide_eq_false h5
  have h5n : ¬ 256 < x.fares.length := by omega
  have hlen : x.fares.length ≤ maxLen := by unfold maxLen; omega
  have go := once_g x.fares
  simp only [AW, reduceAdd, reduceCtorEq, reduceEqDiff, ↓reduceIte, reduceLT, reduceLeDiff, reduceSub, reducePow, reduceMul, reduceToNat, reduceLE, reduceEq, Int.reduceLT, Int.reduceBEq, Int.reduceBNe]
  refine ops_call (go) (by simp only [AW, reduceAdd, reduceCtorEq, reduceEqDiff, ↓reduceIte, reduceLT, reduceLeDiff, reduceSub, reducePow, reduceMul, reduceToNat, reduceLE, reduceEq, Int.reduceLT, Int.reduceBEq, Int.reduceBNe]) ?_; simp only [AW, reduceAdd, reduceCtorEq, reduceEqDiff, ↓reduceIte, reduceLT, reduceLeDiff, reduceSub, reducePow, reduceMul, reduceToNat, reduceLE, reduceEq, Int.reduceLT, Int.reduceBEq, Int.reduceBNe]
  by_cases hno : (x.fares.map (·.ride)).Nodup
  rotate_left
  · rw [show checkX x = 6 by unfold checkX; rw [if_neg hrn, if_neg h5n, if_pos (by simpa using hno)]]
    simp only [decide_eq_false hno, AW, reduceAdd, reduceCtorEq, reduceEqDiff, ↓reduceIte, reduceLT, reduceLeDiff, reduceSub, reducePow, reduceMul, reduceToNat, reduceLE, reduceEq, Int.reduceLT, Int.reduceBEq, Int.reduceBNe]
  simp only [decide_eq_true hno, List.length_map, AW, reduceAdd, reduceCtorEq, reduceEqDiff, ↓reduceIte, reduceLT, reduceLeDiff, reduceSub, reducePow, reduceMul, reduceToNat, reduceLE, reduceEq, Int.reduceLT, Int.reduceBEq, Int.reduceBNe]
  refine run_loop (ι := Nat) (fun k => ⟨[(1, .ptr 0 0), (4, .sc (.int .i64 (totF (x.fares.take k)))), (31, .sl (x.fares.map FareS.pv)), (32, .sc (.int .i64 (x.fares.length : Int))), (33, .sc (.int .i64 (k : Int)))], [(0, .var [.sc (.int .i64 x.id), .sc (.int .i64 x.rider), .sc (.int .i64 x.when_.from_), .sc (.int .i64 x.when_.to_), .sl (x.fares.map FareS.pv), .sl (x.refunds.map RefS.pv), .sc (.int .i64 x.total)])], 25, 87⟩) (fun k => k ≤ x.fares.length ∧ (∀ j (hj : j < x.fares.length), j < k → formB x x.fares[j] = true)) (fun k => x.fares.length - k) 25 (fun _ => rfl) 0 (by simp only [LW, Nat.reduceMod, Nat.reduceDiv, Int.natCast_zero, List.take_zero, totF, List.map_nil, List.sum_nil, AW, reduceAdd, reduceCtorEq, reduceEqDiff, ↓reduceIte, reduceLT, reduceLeDiff, reduceSub, reducePow, reduceMul, reduceToNat, reduceLE, reduceEq, Int.reduceLT, Int.reduceBEq, Int.reduceBNe]) ⟨Nat.zero_le _, nofun⟩ (fun k hk => ?_)
  obtain ⟨gk, ik⟩ := hk
  by_cases hltk : k < x.fares.length
  rotate_left
  · have dk : decide ((k : Int) < ((x.fares.length : Nat) : Int)) = false := by rw [decide_eq_false_iff_not]; exact fun h => hltk (Int.ofNat_lt.1 h)
    have ek : k = x.fares.length := Nat.le_antisymm gk (Nat.le_of_not_lt hltk)
    subst ek
    have hall : x.fares.all (formB x) = true := all_yes (fun j hj => ik j hj hj)
    have halln : ¬ x.fares.all (formB x) = false := by rw [hall]; simp
    have gc := check_g x.fares x.refunds
    have tb := totF_bnd (fs := x.fares) x.fares.length (Nat.le_refl _) (fun j hj _ => by have := ik j hj hj; unfold formB at this; simp only [Bool.and_eq_true] at this; exact this.2)
    rw [List.take_length] at tb ⊢
    simp only [dk, List.length_map, AW, reduceAdd, reduceCtorEq, reduceEqDiff, ↓reduceIte, reduceLT, reduceLeDiff, reduceSub, reducePow, reduceMul, reduceToNat, reduceLE, reduceEq, Int.reduceLT, Int.reduceBEq, Int.reduceBNe]
    refine ops_call (gc) (by simp only [AW, reduceAdd, reduceCtorEq, reduceEqDiff, ↓reduceIte, reduceLT, reduceLeDiff, reduceSub, reducePow, reduceMul, reduceToNat, reduceLE, reduceEq, Int.reduceLT, Int.reduceBEq, Int.reduceBNe]) ?_; simp only [AW, reduceAdd, reduceCtorEq, reduceEqDiff, ↓reduceIte, reduceLT, reduceLeDiff, reduceSub, reducePow, reduceMul, reduceToNat, reduceLE, reduceEq, Int.reduceLT, Int.reduceBEq, Int.reduceBNe]
    cases hc : (checkR x.fares x.refunds != 0)
    rotate_left
    · have hne : checkR x.fares x.refunds ≠ 0 := by simpa using hc
      rw [show checkX x = checkR x.fares x.refunds by unfold checkX; rw [if_neg hrn, if_neg h5n, if_neg (by simpa using hno), if_neg halln, if_pos hne]]
      simp only [AW, reduceAdd, reduceCtorEq, reduceEqDiff, ↓reduceIte, reduceLT, reduceLeDiff, reduceSub, reducePow, reduceMul, reduceToNat, reduceLE, reduceEq, Int.reduceLT, Int.reduceBEq, Int.reduceBNe]
    have h0 : checkR x.fares x.refunds = 0 := by simpa using hc
    obtain ⟨c1, c2⟩ := check_amt h0
    have hlen2 : x.refunds.length ≤ maxLen := by unfold maxLen; omega
    have hfin : checkX x = if totF x.fares - amtR x.refunds ≠ x.total then 27 else 0 := by
      unfold checkX; rw [if_neg hrn, if_neg h5n, if_neg (by simpa using hno), if_neg halln, if_neg (by rw [h0]; simp)]
    rw [hfin]
    simp only [List.length_map, AW, reduceAdd, reduceCtorEq, reduceEqDiff, ↓reduceIte, reduceLT, reduceLeDiff, reduceSub, reducePow, reduceMul, reduceToNat, reduceLE, reduceEq, Int.reduceLT, Int.reduceBEq, Int.reduceBNe]
    refine run_loop (ι := Nat) (fun m => ⟨[(1, .ptr 0 0), (4, .sc (.int .i64 (totF x.fares - amtR (x.refunds.take m)))), (72, .sl (x.refunds.map RefS.pv)), (73, .sc (.int .i64 (x.refunds.length : Int))), (74, .sc (.int .i64 (m : Int)))], [(0, .var [.sc (.int .i64 x.id), .sc (.int .i64 x.rider), .sc (.int .i64 x.when_.from_), .sc (.int .i64 x.when_.to_), .sl (x.fares.map FareS.pv), .sl (x.refunds.map RefS.pv), .sc (.int .i64 x.total)])], 38, 87⟩) (fun m => m ≤ x.refunds.length) (fun m => x.refunds.length - m) 38 (fun _ => rfl) 0 (by simp only [LW, Nat.reduceMod, Nat.reduceDiv, Int.natCast_zero, List.take_zero, amtR, List.map_nil, List.sum_nil, Int.sub_zero, AW, reduceAdd, reduceCtorEq, reduceEqDiff, ↓reduceIte, reduceLT, reduceLeDiff, reduceSub, reducePow, reduceMul, reduceToNat, reduceLE, reduceEq, Int.reduceLT, Int.reduceBEq, Int.reduceBNe]) (Nat.zero_le _) (fun m hm => ?_)
    have gm := hm
    by_cases hltm : m < x.refunds.length
    rotate_left
    · have dm : decide ((m : Int) < ((x.refunds.length : Nat) : Int)) = false := by rw [decide_eq_false_iff_not]; exact fun h => hltm (Int.ofNat_lt.1 h)
      have em : m = x.refunds.length := Nat.le_antisymm gm (Nat.le_of_not_lt hltm)
      subst em
      have ab := amtR_bnd c2
      rw [List.take_length]
      simp only [dm, List.length_map, AW, reduceAdd, reduceCtorEq, reduceEqDiff, ↓reduceIte, reduceLT, reduceLeDiff, reduceSub, reducePow, reduceMul, reduceToNat, reduceLE, reduceEq, Int.reduceLT, Int.reduceBEq, Int.reduceBNe]
      cases ht : (totF x.fares - amtR x.refunds != x.total)
      · have ht' : totF x.fares - amtR x.refunds = x.total := by simpa using ht
        rw [if_neg (by simpa using ht')]
        simp only [AW, reduceAdd, reduceCtorEq, reduceEqDiff, ↓reduceIte, reduceLT, reduceLeDiff, reduceSub, reducePow, reduceMul, reduceToNat, reduceLE, reduceEq, Int.reduceLT, Int.reduceBEq, Int.reduceBNe]
      · have ht' : totF x.fares - amtR x.refunds ≠ x.total := by simpa using ht
        rw [if_pos ht']
        simp only [AW, reduceAdd, reduceCtorEq, reduceEqDiff, ↓reduceIte, reduceLT, reduceLeDiff, reduceSub, reducePow, reduceMul, reduceToNat, reduceLE, reduceEq, Int.reduceLT, Int.reduceBEq, Int.reduceBNe]
    have dm : decide ((m : Int) < ((x.refunds.length : Nat) : Int)) = true := by rw [decide_eq_true_eq]; exact Int.ofNat_lt.2 hltm
    have asu := amtR_succ hltm
    have ab := amtR_bnd (amtOk_take c2 (m + 1))
    have al : (x.refunds.take (m + 1)).length ≤ 512 := by rw [List.length_take]; omega
    have w1 : IntKind.i64.wrap (totF x.fares - amtR (x.refunds.take m) - x.refunds[m].amount) = totF x.fares - amtR (x.refunds.take (m + 1)) := by rw [asu, wrap_id ⟨by omega, by omega⟩]; omega
    simp only [dm, List.length_map, map_getD hltm, hltm, RefS.pv, RefS.vals, List.map_cons, List.map_nil, w1, AW, reduceAdd, reduceCtorEq, reduceEqDiff, ↓reduceIte, reduceLT, reduceLeDiff, reduceSub, reducePow, reduceMul, reduceToNat, reduceLE, reduceEq, Int.reduceLT, Int.reduceBEq, Int.reduceBNe]
    (try simp only [wrap_succ hltm hlen2, AW, reduceAdd, reduceCtorEq, reduceEqDiff, ↓reduceIte, reduceLT, reduceLeDiff, reduceSub, reducePow, reduceMul, reduceToNat, reduceLE, reduceEq, Int.reduceLT, Int.reduceBEq, Int.reduceBNe])
    refine ⟨m + 1, hltm, ?_, meas_lt hltm⟩
    simp only [LW, Nat.reduceMod, Nat.reduceDiv, AW, reduceAdd, reduceCtorEq, reduceEqDiff, ↓reduceIte, reduceLT, reduceLeDiff, reduceSub, reducePow, reduceMul, reduceToNat, reduceLE, reduceEq, Int.reduceLT, Int.reduceBEq, Int.reduceBNe]
  have dk : decide ((k : Int) < ((x.fares.length : Nat) : Int)) = true := by rw [decide_eq_true_eq]; exact Int.ofNat_lt.2 hltk
  have hs := totF_succ hltk
  have gs := fsum_g x.fares[k].items
  have bad : formB x x.fares[k] = false → checkX x = 3 := fun h => by
    unfold checkX; rw [if_neg hrn, if_neg h5n, if_neg (by simpa using hno), if_pos (all_no hltk h)]
  simp only [dk, List.length_map, map_getD hltk, hltk, FareS.pv, AW, reduceAdd, reduceCtorEq, reduceEqDiff, ↓reduceIte, reduceLT, reduceLeDiff, reduceSub, reducePow, reduceMul, reduceToNat, reduceLE, reduceEq, Int.reduceLT, Int.reduceBEq, Int.reduceBNe]
  cases ha : addedB x.fares[k]
  · obtain ⟨n, e, e1, e2⟩ := fsum_not ha
    rw [bad (by unfold formB; rw [ha]; simp)]
    rw [e1] at gs
    refine ops_call (gs) (by simp only [intP, AW, reduceAdd, reduceCtorEq, reduceEqDiff, ↓reduceIte, reduceLT, reduceLeDiff, reduceSub, reducePow, reduceMul, reduceToNat, reduceLE, reduceEq, Int.reduceLT, Int.reduceBEq, Int.reduceBNe]) ?_; simp only [intP, AW, reduceAdd, reduceCtorEq, reduceEqDiff, ↓reduceIte, reduceLT, reduceLeDiff, reduceSub, reducePow, reduceMul, reduceToNat, reduceLE, reduceEq, Int.reduceLT, Int.reduceBEq, Int.reduceBNe]
    cases hri : (x.fares[k].rider != x.rider)
    · rcases e2 with e2 | ⟨e2, e3⟩
      · have d1 : (e != 0) = true := by rw [bne_iff_ne]; exact e2
        simp only [d1, AW, reduceAdd, reduceCtorEq, reduceEqDiff, ↓reduceIte, reduceLT, reduceLeDiff, reduceSub, reducePow, reduceMul, reduceToNat, reduceLE, reduceEq, Int.reduceLT, Int.reduceBEq, Int.reduceBNe]
      · subst e2
        have d2 : (n != x.fares[k].total) = true := by rw [bne_iff_ne]; exact e3
        simp only [d2, AW, reduceAdd, reduceCtorEq, reduceEqDiff, ↓reduceIte, reduceLT, reduceLeDiff, reduceSub, reducePow, reduceMul, reduceToNat, reduceLE, reduceEq, Int.reduceLT, Int.reduceBEq, Int.reduceBNe]
    · simp only [AW, reduceAdd, reduceCtorEq, reduceEqDiff, ↓reduceIte, reduceLT, reduceLeDiff, reduceSub, reducePow, reduceMul, reduceToNat, reduceLE, reduceEq, Int.reduceLT, Int.reduceBEq, Int.reduceBNe]
  · rw [fsum_added ha] at gs
    refine ops_call (gs) (by simp only [intP, AW, reduceAdd, reduceCtorEq, reduceEqDiff, ↓reduceIte, reduceLT, reduceLeDiff, reduceSub, reducePow, reduceMul, reduceToNat, reduceLE, reduceEq, Int.reduceLT, Int.reduceBEq, Int.reduceBNe]) ?_; simp only [intP, AW, reduceAdd, reduceCtorEq, reduceEqDiff, ↓reduceIte, reduceLT, reduceLeDiff, reduceSub, reducePow, reduceMul, reduceToNat, reduceLE, reduceEq, Int.reduceLT, Int.reduceBEq, Int.reduceBNe]
    cases hri : (x.fares[k].rider != x.rider)
    · have hf : formB x x.fares[k] = true := by
        unfold formB; rw [ha, Bool.and_true]; simpa using hri
      have hn : ∀ j (hj : j < x.fares.length), j < k + 1 → formB x x.fares[j] = true := fun j hj hjk => by
        by_cases e : j = k
        · subst e; exact hf
        · exact ik j hj (by omega)
      have tb := totF_bnd (fs := x.fares) (k + 1) hltk (fun j hj hjk => by have := hn j hj hjk; unfold formB at this; simp only [Bool.and_eq_true] at this; exact this.2)
      have w1 : IntKind.i64.wrap (totF (x.fares.take k) + x.fares[k].total) = totF (x.fares.take (k + 1)) := by rw [← hs]; exact wrap_id ⟨by omega, by omega⟩
      simp only [w1, AW, reduceAdd, reduceCtorEq, reduceEqDiff, ↓reduceIte, reduceLT, reduceLeDiff, reduceSub, reducePow, reduceMul, reduceToNat, reduceLE, reduceEq, Int.reduceLT, Int.reduceBEq, Int.reduceBNe]
      (try simp only [wrap_succ hltk hlen, AW, reduceAdd, reduceCtorEq, reduceEqDiff, ↓reduceIte, reduceLT, reduceLeDiff, reduceSub, reducePow, reduceMul, reduceToNat, reduceLE, reduceEq, Int.reduceLT, Int.reduceBEq, Int.reduceBNe])
      refine ⟨k + 1, ⟨hltk, hn⟩, ?_, meas_lt hltk⟩
      simp only [LW, Nat.reduceMod, Nat.reduceDiv, AW, reduceAdd, reduceCtorEq, reduceEqDiff, ↓reduceIte, reduceLT, reduceLeDiff, reduceSub, reducePow, reduceMul, reduceToNat, reduceLE, reduceEq, Int.reduceLT, Int.reduceBEq, Int.reduceBNe]
    · rw [bad (by unfold formB; rw [ha, Bool.and_true]; simpa using hri)]
      simp only [AW, reduceAdd, reduceCtorEq, reduceEqDiff, ↓reduceIte, reduceLT, reduceLeDiff, reduceSub, reducePow, reduceMul, reduceToNat, reduceLE, reduceEq, Int.reduceLT, Int.reduceBEq, Int.reduceBNe]
set_option maxHeartbeats 8000000 in
theorem rcheckX_g (x : InvS) : Good Tryd.prog 18 [x.pv] (.sc (.int .i64 (checkX x))) := by
  have gh := ranged_g x.id x.rider x.when_
  refine good18 (by simp) ?_
  simp only [ac18, InvS.pv, AW, reduceAdd, reduceCtorEq, reduceEqDiff, ↓reduceIte, reduceLT, reduceLeDiff, reduceSub, reducePow, reduceMul, reduceToNat, reduceLE, reduceEq, Int.reduceLT, Int.reduceBEq, Int.reduceBNe]
  simp only [WinS.pv, WinS.vals, List.map_cons, List.map_nil, AW, reduceAdd, reduceCtorEq, reduceEqDiff, ↓reduceIte, reduceLT, reduceLeDiff, reduceSub, reducePow, reduceMul, reduceToNat, reduceLE, reduceEq, Int.reduceLT, Int.reduceBEq, Int.reduceBNe] at gh
  refine ops_call (gh) (by simp only [intP, AW, reduceAdd, reduceCtorEq, reduceEqDiff, ↓reduceIte, reduceLT, reduceLeDiff, reduceSub, reducePow, reduceMul, reduceToNat, reduceLE, reduceEq, Int.reduceLT, Int.reduceBEq, Int.reduceBNe]) ?_; simp only [intP, AW, reduceAdd, reduceCtorEq, reduceEqDiff, ↓reduceIte, reduceLT, reduceLeDiff, reduceSub, reducePow, reduceMul, reduceToNat, reduceLE, reduceEq, Int.reduceLT, Int.reduceBEq, Int.reduceBNe]
  cases hr : rgB x.id x.rider x.when_
  · rw [show checkX x = 1 by unfold checkX; rw [if_pos hr]]
    simp only [AW, reduceAdd, reduceCtorEq, reduceEqDiff, ↓reduceIte, reduceLT, reduceLeDiff, reduceSub, reducePow, reduceMul, reduceToNat, reduceLE, reduceEq, Int.reduceLT, Int.reduceBEq, Int.reduceBNe]
  have hrn : ¬ rgB x.id x.rider x.when_ = false := by rw [hr]; simp
  simp only [List.length_map, AW, reduceAdd, reduceCtorEq, reduceEqDiff, ↓reduceIte, reduceLT, reduceLeDiff, reduceSub, reducePow, reduceMul, reduceToNat, reduceLE, reduceEq, Int.reduceLT, Int.reduceBEq, Int.reduceBNe]
  cases h5 : decide ((256 : Int) < (x.fares.length : Int))
  rotate_left
  · have h5' := of_decide_eq_true h5
    rw [show checkX x = 8 by unfold checkX; rw [if_neg hrn, if_pos (by omega)]]
    simp only [AW, reduceAdd, reduceCtorEq, reduceEqDiff, ↓reduceIte, reduceLT, reduceLeDiff, reduceSub, reducePow, reduceMul, reduceToNat, reduceLE, reduceEq, Int.reduceLT, Int.reduceBEq, Int.reduceBNe]
  have h5' := of_decide_eq_false h5
  have h5n : ¬ 256 < x.fares.length := by omega
  have hlen : x.fares.length ≤ maxLen := by unfold maxLen; omega
  simp only [List.length_map, AW, reduceAdd, reduceCtorEq, reduceEqDiff, ↓reduceIte, reduceLT, reduceLeDiff, reduceSub, reducePow, reduceMul, reduceToNat, reduceLE, reduceEq, Int.reduceLT, Int.reduceBEq, Int.reduceBNe]
  refine run_loop (ι := Nat) (fun n => ⟨[(1, .ptr 0 0), (3, .sc (.int .i64 (n : Int)))], [(0, .var [.sc (.int .i64 x.id), .sc (.int .i64 x.rider), .sc (.int .i64 x.when_.from_), .sc (.int .i64 x.when_.to_), .sl (x.fares.map FareS.pv), .sl (x.refunds.map RefS.pv), .sc (.int .i64 x.total)])], 15, 98⟩) (fun n => n ≤ x.fares.length ∧ (∀ j (hj : j < x.fares.length), j < n → hasF (x.fares.take j) x.fares[j].ride = false)) (fun n => x.fares.length - n) 15 (fun _ => rfl) 0 (by simp only [LW, Nat.reduceMod, Nat.reduceDiv, Int.natCast_zero, AW, reduceAdd, reduceCtorEq, reduceEqDiff, ↓reduceIte, reduceLT, reduceLeDiff, reduceSub, reducePow, reduceMul, reduceToNat, reduceLE, reduceEq, Int.reduceLT, Int.reduceBEq, Int.reduceBNe]) ⟨Nat.zero_le _, nofun⟩ (fun n hn => ?_)
  obtain ⟨gn, inn⟩ := hn
  by_cases hltn : n < x.fares.length
  rotate_left
  · have dn : decide ((n : Int) < ((x.fares.length : Nat) : Int)) = false := by rw [decide_eq_false_iff_not]; exact fun h => hltn (Int.ofNat_lt.1 h)
    have en : n = x.fares.length := Nat.le_antisymm gn (Nat.le_of_not_lt hltn)
    subst en
    have hno : (x.fares.map (·.ride)).Nodup := once_ok (fun j hj => inn j hj hj)
    simp only [dn, List.length_map, AW, reduceAdd, reduceCtorEq, reduceEqDiff, ↓reduceIte, reduceLT, reduceLeDiff, reduceSub, reducePow, reduceMul, reduceToNat, reduceLE, reduceEq, Int.reduceLT, Int.reduceBEq, Int.reduceBNe]
    refine run_loop (ι := Nat) (fun k => ⟨[(1, .ptr 0 0), (4, .sc (.int .i64 (totF (x.fares.take k)))), (5, .sc (.int .i64 (k : Int)))], [(0, .var [.sc (.int .i64 x.id), .sc (.int .i64 x.rider), .sc (.int .i64 x.when_.from_), .sc (.int .i64 x.when_.to_), .sl (x.fares.map FareS.pv), .sl (x.refunds.map RefS.pv), .sc (.int .i64 x.total)])], 22, 98⟩) (fun k => k ≤ x.fares.length ∧ (∀ j (hj : j < x.fares.length), j < k → formB x x.fares[j] = true)) (fun k => x.fares.length - k) 22 (fun _ => rfl) 0 (by simp only [LW, Nat.reduceMod, Nat.reduceDiv, Int.natCast_zero, List.take_zero, totF, List.map_nil, List.sum_nil, AW, reduceAdd, reduceCtorEq, reduceEqDiff, ↓reduceIte, reduceLT, reduceLeDiff, reduceSub, reducePow, reduceMul, reduceToNat, reduceLE, reduceEq, Int.reduceLT, Int.reduceBEq, Int.reduceBNe]) ⟨Nat.zero_le _, nofun⟩ (fun k hk => ?_)
    obtain ⟨gk, ik⟩ := hk
    by_cases hltk : k < x.fares.length
    rotate_left
    · have dk : decide ((k : Int) < ((x.fares.length : Nat) : Int)) = false := by rw [decide_eq_false_iff_not]; exact fun h => hltk (Int.ofNat_lt.1 h)
      have ek : k = x.fares.length := Nat.le_antisymm gk (Nat.le_of_not_lt hltk)
      subst ek
      have hall : x.fares.all (formB x) = true := all_yes (fun j hj => ik j hj hj)
      have halln : ¬ x.fares.all (formB x) = false := by rw [hall]; simp
      have gc := rcheck_g x.fares x.refunds
      have tb := totF_bnd (fs := x.fares) x.fares.length (Nat.le_refl _) (fun j hj _ => by have := ik j hj hj; unfold formB at this; simp only [Bool.and_eq_true] at this; exact this.2)
      rw [List.take_length] at tb ⊢
      simp only [dk, List.length_map, AW, reduceAdd, reduceCtorEq, reduceEqDiff, ↓reduceIte, reduceLT, reduceLeDiff, reduceSub, reducePow, reduceMul, reduceToNat, reduceLE, reduceEq, Int.reduceLT, Int.reduceBEq, Int.reduceBNe]
      refine ops_call (gc) (by simp only [AW, reduceAdd, reduceCtorEq, reduceEqDiff, ↓reduceIte, reduceLT, reduceLeDiff, reduceSub, reducePow, reduceMul, reduceToNat, reduceLE, reduceEq, Int.reduceLT, Int.reduceBEq, Int.reduceBNe]) ?_; simp only [AW, reduceAdd, reduceCtorEq, reduceEqDiff, ↓reduceIte, reduceLT, reduceLeDiff, reduceSub, reducePow, reduceMul, reduceToNat, reduceLE, reduceEq, Int.reduceLT, Int.reduceBEq, Int.reduceBNe]
      cases hc : (checkR x.fares x.refunds != 0)
      rotate_left
      · have hne : checkR x.fares x.refunds ≠ 0 := by simpa using hc
        rw [show checkX x = checkR x.fares x.refunds by unfold checkX; rw [if_neg hrn, if_neg h5n, if_neg (by simpa using hno), if_neg halln, if_pos hne]]
        simp only [AW, reduceAdd, reduceCtorEq, reduceEqDiff, ↓reduceIte, reduceLT, reduceLeDiff, reduceSub, reducePow, reduceMul, reduceToNat, reduceLE, reduceEq, Int.reduceLT, Int.reduceBEq, Int.reduceBNe]
      have h0 : checkR x.fares x.refunds = 0 := by simpa using hc
      obtain ⟨c1, c2⟩ := check_amt h0
      have hlen2 : x.refunds.length ≤ maxLen := by unfold maxLen; omega
      have hfin : checkX x = if totF x.fares - amtR x.refunds ≠ x.total then 27 else 0 := by
        unfold checkX; rw [if_neg hrn, if_neg h5n, if_neg (by simpa using hno), if_neg halln, if_neg (by rw [h0]; simp)]
      rw [hfin]
      simp only [List.length_map, AW, reduceAdd, reduceCtorEq, reduceEqDiff, ↓reduceIte, reduceLT, reduceLeDiff, reduceSub, reducePow, reduceMul, reduceToNat, reduceLE, reduceEq, Int.reduceLT, Int.reduceBEq, Int.reduceBNe]
      refine run_loop (ι := Nat) (fun m => ⟨[(1, .ptr 0 0), (4, .sc (.int .i64 (totF x.fares - amtR (x.refunds.take m)))), (7, .sc (.int .i64 (m : Int)))], [(0, .var [.sc (.int .i64 x.id), .sc (.int .i64 x.rider), .sc (.int .i64 x.when_.from_), .sc (.int .i64 x.when_.to_), .sl (x.fares.map FareS.pv), .sl (x.refunds.map RefS.pv), .sc (.int .i64 x.total)])], 36, 98⟩) (fun m => m ≤ x.refunds.length) (fun m => x.refunds.length - m) 36 (fun _ => rfl) 0 (by simp only [LW, Nat.reduceMod, Nat.reduceDiv, Int.natCast_zero, List.take_zero, amtR, List.map_nil, List.sum_nil, Int.sub_zero, AW, reduceAdd, reduceCtorEq, reduceEqDiff, ↓reduceIte, reduceLT, reduceLeDiff, reduceSub, reducePow, reduceMul, reduceToNat, reduceLE, reduceEq, Int.reduceLT, Int.reduceBEq, Int.reduceBNe]) (Nat.zero_le _) (fun m hm => ?_)
      have gm := hm
      by_cases hltm : m < x.refunds.length
      rotate_left
      · have dm : decide ((m : Int) < ((x.refunds.length : Nat) : Int)) = false := by rw [decide_eq_false_iff_not]; exact fun h => hltm (Int.ofNat_lt.1 h)
        have em : m = x.refunds.length := Nat.le_antisymm gm (Nat.le_of_not_lt hltm)
        subst em
        have ab := amtR_bnd c2
        rw [List.take_length]
        simp only [dm, List.length_map, AW, reduceAdd, reduceCtorEq, reduceEqDiff, ↓reduceIte, reduceLT, reduceLeDiff, reduceSub, reducePow, reduceMul, reduceToNat, reduceLE, reduceEq, Int.reduceLT, Int.reduceBEq, Int.reduceBNe]
        cases ht : (totF x.fares - amtR x.refunds != x.total)
        · have ht' : totF x.fares - amtR x.refunds = x.total := by simpa using ht
          rw [if_neg (by simpa using ht')]
          simp only [AW, reduceAdd, reduceCtorEq, reduceEqDiff, ↓reduceIte, reduceLT, reduceLeDiff, reduceSub, reducePow, reduceMul, reduceToNat, reduceLE, reduceEq, Int.reduceLT, Int.reduceBEq, Int.reduceBNe]
        · have ht' : totF x.fares - amtR x.refunds ≠ x.total := by simpa using ht
          rw [if_pos ht']
          simp only [AW, reduceAdd, reduceCtorEq, reduceEqDiff, ↓reduceIte, reduceLT, reduceLeDiff, reduceSub, reducePow, reduceMul, reduceToNat, reduceLE, reduceEq, Int.reduceLT, Int.reduceBEq, Int.reduceBNe]
      have dm : decide ((m : Int) < ((x.refunds.length : Nat) : Int)) = true := by rw [decide_eq_true_eq]; exact Int.ofNat_lt.2 hltm
      have asu := amtR_succ hltm
      have ab := amtR_bnd (amtOk_take c2 (m + 1))
      have al : (x.refunds.take (m + 1)).length ≤ 512 := by rw [List.length_take]; omega
      have w1 : IntKind.i64.wrap (totF x.fares - amtR (x.refunds.take m) - x.refunds[m].amount) = totF x.fares - amtR (x.refunds.take (m + 1)) := by rw [asu, wrap_id ⟨by omega, by omega⟩]; omega
      simp only [dm, List.length_map, map_getD hltm, hltm, RefS.pv, RefS.vals, List.map_cons, List.map_nil, w1, AW, reduceAdd, reduceCtorEq, reduceEqDiff, ↓reduceIte, reduceLT, reduceLeDiff, reduceSub, reducePow, reduceMul, reduceToNat, reduceLE, reduceEq, Int.reduceLT, Int.reduceBEq, Int.reduceBNe]
      (try simp only [wrap_succ hltm hlen2, AW, reduceAdd, reduceCtorEq, reduceEqDiff, ↓reduceIte, reduceLT, reduceLeDiff, reduceSub, reducePow, reduceMul, reduceToNat, reduceLE, reduceEq, Int.reduceLT, Int.reduceBEq, Int.reduceBNe])
      refine ⟨m + 1, hltm, ?_, meas_lt hltm⟩
      simp only [LW, Nat.reduceMod, Nat.reduceDiv, AW, reduceAdd, reduceCtorEq, reduceEqDiff, ↓reduceIte, reduceLT, reduceLeDiff, reduceSub, reducePow, reduceMul, reduceToNat, reduceLE, reduceEq, Int.reduceLT, Int.reduceBEq, Int.reduceBNe]
    have dk : decide ((k : Int) < ((x.fares.length : Nat) : Int)) = true := by rw [decide_eq_true_eq]; exact Int.ofNat_lt.2 hltk
    have hs := totF_succ hltk
    have ga := added_g x.fares[k]
    have bad : formB x x.fares[k] = false → checkX x = 3 := fun h => by
      unfold checkX; rw [if_neg hrn, if_neg h5n, if_neg (by simpa using hno), if_pos (all_no hltk h)]
    simp only [FareS.pv, AW, reduceAdd, reduceCtorEq, reduceEqDiff, ↓reduceIte, reduceLT, reduceLeDiff, reduceSub, reducePow, reduceMul, reduceToNat, reduceLE, reduceEq, Int.reduceLT, Int.reduceBEq, Int.reduceBNe] at ga
    simp only [dk, List.length_map, map_getD hltk, hltk, FareS.pv, AW, reduceAdd, reduceCtorEq, reduceEqDiff, ↓reduceIte, reduceLT, reduceLeDiff, reduceSub, reducePow, reduceMul, reduceToNat, reduceLE, reduceEq, Int.reduceLT, Int.reduceBEq, Int.reduceBNe]
    cases hri : (x.fares[k].rider != x.rider)
    rotate_left
    · have hf : formB x x.fares[k] = false := by
        unfold formB
        have : (x.fares[k].rider == x.rider) = false := by rw [beq_eq_false_iff_ne]; simpa using hri
        rw [this]; rfl
      rw [bad hf]
      simp only [AW, reduceAdd, reduceCtorEq, reduceEqDiff, ↓reduceIte, reduceLT, reduceLeDiff, reduceSub, reducePow, reduceMul, reduceToNat, reduceLE, reduceEq, Int.reduceLT, Int.reduceBEq, Int.reduceBNe]
      (try first | rfl | (refine drawnK rfl ?_; (try simp only [AW, reduceAdd, reduceCtorEq, reduceEqDiff, ↓reduceIte, reduceLT, reduceLeDiff, reduceSub, reducePow, reduceMul, reduceToNat, reduceLE, reduceEq, Int.reduceLT, Int.reduceBEq, Int.reduceBNe])))
    have hrb : (x.fares[k].rider == x.rider) = true := by simpa using hri
    simp only [List.length_map, map_getD hltk, hltk, FareS.pv, AW, reduceAdd, reduceCtorEq, reduceEqDiff, ↓reduceIte, reduceLT, reduceLeDiff, reduceSub, reducePow, reduceMul, reduceToNat, reduceLE, reduceEq, Int.reduceLT, Int.reduceBEq, Int.reduceBNe]
    refine ops_call (ga) (by simp only [AW, reduceAdd, reduceCtorEq, reduceEqDiff, ↓reduceIte, reduceLT, reduceLeDiff, reduceSub, reducePow, reduceMul, reduceToNat, reduceLE, reduceEq, Int.reduceLT, Int.reduceBEq, Int.reduceBNe]) ?_; simp only [AW, reduceAdd, reduceCtorEq, reduceEqDiff, ↓reduceIte, reduceLT, reduceLeDiff, reduceSub, reducePow, reduceMul, reduceToNat, reduceLE, reduceEq, Int.reduceLT, Int.reduceBEq, Int.reduceBNe]
    cases ha : addedB x.fares[k]
    · rw [bad (by unfold formB; rw [ha]; simp)]
      simp only [AW, reduceAdd, reduceCtorEq, reduceEqDiff, ↓reduceIte, reduceLT, reduceLeDiff, reduceSub, reducePow, reduceMul, reduceToNat, reduceLE, reduceEq, Int.reduceLT, Int.reduceBEq, Int.reduceBNe]
      (try first | rfl | (refine drawnK rfl ?_; (try simp only [AW, reduceAdd, reduceCtorEq, reduceEqDiff, ↓reduceIte, reduceLT, reduceLeDiff, reduceSub, reducePow, reduceMul, reduceToNat, reduceLE, reduceEq, Int.reduceLT, Int.reduceBEq, Int.reduceBNe])))
    · have hf : formB x x.fares[k] = true := by unfold formB; rw [ha, hrb]; rfl
      have hn : ∀ j (hj : j < x.fares.length), j < k + 1 → formB x x.fares[j] = true := fun j hj hjk => by
        by_cases e : j = k
        · subst e; exact hf
        · exact ik j hj (by omega)
      have tb := totF_bnd (fs := x.fares) (k + 1) hltk (fun j hj hjk => by have := hn j hj hjk; unfold formB at this; simp only [Bool.and_eq_true] at this; exact this.2)
      have w1 : IntKind.i64.wrap (totF (x.fares.take k) + x.fares[k].total) = totF (x.fares.take (k + 1)) := by rw [← hs]; exact wrap_id ⟨by omega, by omega⟩
      simp only [AW, reduceAdd, reduceCtorEq, reduceEqDiff, ↓reduceIte, reduceLT, reduceLeDiff, reduceSub, reducePow, reduceMul, reduceToNat, reduceLE, reduceEq, Int.reduceLT, Int.reduceBEq, Int.reduceBNe]
      (try refine drawnK rfl ?_)
      simp only [List.length_map, map_getD hltk, hltk, FareS.pv, w1, AW, reduceAdd, reduceCtorEq, reduceEqDiff, ↓reduceIte, reduceLT, reduceLeDiff, reduceSub, reducePow, reduceMul, reduceToNat, reduceLE, reduceEq, Int.reduceLT, Int.reduceBEq, Int.reduceBNe]
      (try simp only [wrap_succ hltk hlen, AW, reduceAdd, reduceCtorEq, reduceEqDiff, ↓reduceIte, reduceLT, reduceLeDiff, reduceSub, reducePow, reduceMul, reduceToNat, reduceLE, reduceEq, Int.reduceLT, Int.reduceBEq, Int.reduceBNe])
      refine ⟨k + 1, ⟨hltk, hn⟩, ?_, meas_lt hltk⟩
      simp only [LW, Nat.reduceMod, Nat.reduceDiv, AW, reduceAdd, reduceCtorEq, reduceEqDiff, ↓reduceIte, reduceLT, reduceLeDiff, reduceSub, reducePow, reduceMul, reduceToNat, reduceLE, reduceEq, Int.reduceLT, Int.reduceBEq, Int.reduceBNe]
  have dn : decide ((n : Int) < ((x.fares.length : Nat) : Int)) = true := by rw [decide_eq_true_eq]; exact Int.ofNat_lt.2 hltn
  have gb := has_g (x.fares.take n) x.fares[n].ride
  have ln : n ≤ x.fares.length := by omega
  simp only [dn, List.length_map, map_getD hltn, hltn, FareS.pv, ln, fares_fl, AW, reduceAdd, reduceCtorEq, reduceEqDiff, ↓reduceIte, reduceLT, reduceLeDiff, reduceSub, reducePow, reduceMul, reduceToNat, reduceLE, reduceEq, Int.reduceLT, Int.reduceBEq, Int.reduceBNe]
  rw [← List.map_take]
  refine ops_call (gb) (by simp only [intP, AW, reduceAdd, reduceCtorEq, reduceEqDiff, ↓reduceIte, reduceLT, reduceLeDiff, reduceSub, reducePow, reduceMul, reduceToNat, reduceLE, reduceEq, Int.reduceLT, Int.reduceBEq, Int.reduceBNe]) ?_; simp only [intP, AW, reduceAdd, reduceCtorEq, reduceEqDiff, ↓reduceIte, reduceLT, reduceLeDiff, reduceSub, reducePow, reduceMul, reduceToNat, reduceLE, reduceEq, Int.reduceLT, Int.reduceBEq, Int.reduceBNe]
  cases hb : hasF (x.fares.take n) x.fares[n].ride
  · simp only [AW, reduceAdd, reduceCtorEq, reduceEqDiff, ↓reduceIte, reduceLT, reduceLeDiff, reduceSub, reducePow, reduceMul, reduceToNat, reduceLE, reduceEq, Int.reduceLT, Int.reduceBEq, Int.reduceBNe]
    (try refine drawnK rfl ?_)
    (try simp only [wrap_succ hltn hlen, AW, reduceAdd, reduceCtorEq, reduceEqDiff, ↓reduceIte, reduceLT, reduceLeDiff, reduceSub, reducePow, reduceMul, reduceToNat, reduceLE, reduceEq, Int.reduceLT, Int.reduceBEq, Int.reduceBNe])
    refine ⟨n + 1, ⟨hltn, fun j hj hjk => ?_⟩, ?_, meas_lt hltn⟩
    · by_cases e : j = n
      · subst e; exact hb
      · exact inn j hj (by omega)
    · simp only [LW, Nat.reduceMod, Nat.reduceDiv, AW, reduceAdd, reduceCtorEq, reduceEqDiff, ↓reduceIte, reduceLT, reduceLeDiff, reduceSub, reducePow, reduceMul, reduceToNat, reduceLE, reduceEq, Int.reduceLT, Int.reduceBEq, Int.reduceBNe]
  · rw [show checkX x = 6 by unfold checkX; rw [if_neg hrn, if_neg h5n, if_pos (by simpa using once_not hltn hb)]]
    simp only [AW, reduceAdd, reduceCtorEq, reduceEqDiff, ↓reduceIte, reduceLT, reduceLeDiff, reduceSub, reducePow, reduceMul, reduceToNat, reduceLE, reduceEq, Int.reduceLT, Int.reduceBEq, Int.reduceBNe]
    (try first | rfl | (refine drawnK rfl ?_; (try simp only [AW, reduceAdd, reduceCtorEq, reduceEqDiff, ↓reduceIte, reduceLT, reduceLeDiff, reduceSub, reducePow, reduceMul, reduceToNat, reduceLE, reduceEq, Int.reduceLT, Int.reduceBEq, Int.reduceBNe])))


end Go.Proofs.YtaejaogidkgalaaDoor
