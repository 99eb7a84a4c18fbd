/-
  Invoices: Make.
-/
import Derived.Test.YtaejaogidkgalaaDoorZh
namespace Go.Proofs.YtaejaogidkgalaaDoor
open Go.RowKit
open Nat (reduceAdd reduceEqDiff reduceLT reduceLeDiff reduceSub reducePow reduceMul)
open Int (reduceToNat reduceLE reduceEq)
set_option linter.unusedVariables false
set_option linter.unusedSimpArgs false
set_option linter.unnecessarySimpa false

def zeroX : InvS := ⟨0, 0, ⟨0, 0⟩, [], [], 0⟩
def startLo (rs : List RideS) (x : Int) : Int := match findRd rs x with
  | some r => r.start.lo
  | none => 0
def mineB (rs : List RideS) (rider : Int) (w : WinS) (f : FareS) : Bool := (f.rider == rider) && decide (w.from_ ≤ startLo rs f.ride) && decide (startLo rs f.ride < w.to_)
def moneyB (n : Int) : Bool := decide (-1000000000000 ≤ n) && decide (n ≤ 1000000000000)
def mineF (rs : List RideS) (rider : Int) (w : WinS) (fs : List FareS) : List FareS := fs.filter (mineB rs rider w)
def refsF (mine : List FareS) (l : List RefS) : List RefS := l.filter fun r => hasF mine r.ride
def makeX (id rider : Int) (w : WinS) (rs : List RideS) (fs : List FareS) (l : List RefS) : InvS × Int :=
  if rgB id rider w = false then (zeroX, 1) else if 256 < fs.length then (zeroX, 8) else if fs.all (fun f => (findRd rs f.ride).isSome) = false then (zeroX, 7)
  else if checkR fs l ≠ 0 then (zeroX, checkR fs l) else if (mineF rs rider w fs).all (fun f => moneyB f.total) = false then (zeroX, 2)
  else (⟨id, rider, w, mineF rs rider w fs, refsF (mineF rs rider w fs) l, totF (mineF rs rider w fs) - amtR (refsF (mineF rs rider w fs) l)⟩, 0)
def makeP (r : InvS × Int) : PV := .tup [r.1.pv, intP r.2]
def startM (rs : List RideS) (l : List FareS) (k : Value) : Option Value := match k with
  | .int .i64 x => if hasF l x = true then some (.int .i64 (startLo rs x)) else none
  | _ => none
theorem startM_nil (rs : List RideS) : startM rs [] = fun _ => none := by funext k; unfold startM; split <;> rfl
theorem startM_snoc (rs : List RideS) (l : List FareS) (f : FareS) : startM rs (l ++ [f]) = upd (startM rs l) (.int .i64 f.ride) (.int .i64 (startLo rs f.ride)) := by
  funext k
  by_cases e : k = .int .i64 f.ride
  · subst e
    rw [upd_same]
    show (if _ then _ else _) = _
    rw [if_pos (by rw [hasF_snoc]; simp)]
  · rw [upd_other _ _ e]
    unfold startM
    split
    · rename_i x
      have hne : (f.ride == x) = false := by
        rw [Bool.eq_false_iff]; intro h2
        exact e (by rw [beq_iff_eq.1 h2])
      rw [hasF_snoc, hne, Bool.or_false]
    · rfl
theorem startM_get (rs : List RideS) {l : List FareS} {f : FareS} (h : f ∈ l) : (startM rs l (.int .i64 f.ride)).getD (.int .i64 0) = .int .i64 (startLo rs f.ride) := by
  show (if _ then _ else _ : Option Value).getD _ = _
  rw [if_pos (show hasF l f.ride = true from List.any_eq_true.2 ⟨f, h, by simp⟩)]; rfl
theorem filter_snoc {α : Type} (p : α → Bool) {l : List α} {k : Nat} (h : k < l.length) : (l.take (k + 1)).filter p = (l.take k).filter p ++ if p l[k] = true then [l[k]] else [] := by
  rw [List.take_succ_eq_append_getElem h, List.filter_append]
  congr 1
  by_cases hp : p l[k] = true
  · rw [if_pos hp, List.filter_cons, if_pos hp]; rfl
  · rw [if_neg hp, List.filter_cons, if_neg hp]; rfl
theorem totF_app (a : List FareS) (f : FareS) : totF (a ++ [f]) = totF a + f.total := by unfold totF; rw [List.map_append, List.sum_append]; simp
theorem amtR_app (a : List RefS) (r : RefS) : amtR (a ++ [r]) = amtR a + r.amount := by unfold amtR; rw [List.map_append, List.sum_append]; simp
theorem totF_money {l : List FareS} (h : l.all (fun f => moneyB f.total) = true) : -(l.length * 1000000000000 : Int) ≤ totF l ∧ totF l ≤ l.length * 1000000000000 := by
  induction l with
  | nil => simp [totF]
  | cons f l ih =>
    rw [List.all_cons, Bool.and_eq_true] at h
    have ih := ih h.2
    have hf := h.1
    simp only [moneyB, Bool.and_eq_true, decide_eq_true_eq] at hf
    unfold totF at *
    rw [List.map_cons, List.sum_cons, List.length_cons]; omega
theorem items_ok (l : List ItemS) : ((l.map ItemS.pv).all fun p => p.flat.length == 3 && p.flat.all PV.cellOk) = true := List.all_eq_true.2 (fun p hp => by obtain ⟨x, _, rfl⟩ := List.mem_map.1 hp; rfl)
set_option maxRecDepth 20000 in
set_option maxHeartbeats 8000000 in
theorem make_g (id rider : Int) (w : WinS) (rs : List RideS) (fs : List FareS) (l : List RefS) (hR : ∀ r ∈ rs, r.legs.length ≤ 1000000 ∧ r.pauses.length ≤ 1000000) (hI : ∀ f ∈ fs, f.items.length ≤ 1000) : Good Tryd.prog 24 [intP id, intP rider, w.pv, .sl (rs.map RideS.pv), .sl (fs.map FareS.pv), .sl (l.map RefS.pv)] (makeP (makeX id rider w rs fs l)) := by
  have gh := head_g id rider w
  have gc := check_g fs l
  refine good24 (by simp) ?_
  simp only [ac24, intP, WinS.pv, WinS.vals, List.map_cons, List.map_nil, AW, reduceAdd, reduceCtorEq, reduceEqDiff, ↓reduceIte, reduceLT, reduceLeDiff, reduceSub, reducePow, reduceMul, reduceToNat, reduceLE, reduceEq, Int.reduceLT, Int.reduceBEq, Int.reduceBNe]
  simp only [WinS.pv, WinS.vals, List.map_cons, List.map_nil, AW, reduceAdd, reduceCtorEq, reduceEqDiff, ↓reduceIte, reduceLT, reduceLeDiff, reduceSub, reducePow, reduceMul, reduceToNat, reduceLE, reduceEq, Int.reduceLT, Int.reduceBEq, Int.reduceBNe] at gh
  refine ops_call (gh) (by simp only [intP, AW, reduceAdd, reduceCtorEq, reduceEqDiff, ↓reduceIte, reduceLT, reduceLeDiff, reduceSub, reducePow, reduceMul, reduceToNat, reduceLE, reduceEq, Int.reduceLT, Int.reduceBEq, Int.reduceBNe]) ?_; simp only [intP, AW, reduceAdd, reduceCtorEq, reduceEqDiff, ↓reduceIte, reduceLT, reduceLeDiff, reduceSub, reducePow, reduceMul, reduceToNat, reduceLE, reduceEq, Int.reduceLT, Int.reduceBEq, Int.reduceBNe]
  cases hr : rgB id rider w
  · rw [show makeX id rider w rs fs l = (zeroX, 1) by unfold makeX; rw [if_pos hr]]
    simp only [makeP, zeroX, InvS.pv, intP, List.map_nil, AW, reduceAdd, reduceCtorEq, reduceEqDiff, ↓reduceIte, reduceLT, reduceLeDiff, reduceSub, reducePow, reduceMul, reduceToNat, reduceLE, reduceEq, Int.reduceLT, Int.reduceBEq, Int.reduceBNe]
  have hrn : ¬ rgB id rider w = false := by rw [hr]; simp
  simp only [List.length_map, AW, reduceAdd, reduceCtorEq, reduceEqDiff, ↓reduceIte, reduceLT, reduceLeDiff, reduceSub, reducePow, reduceMul, reduceToNat, reduceLE, reduceEq, Int.reduceLT, Int.reduceBEq, Int.reduceBNe]
  cases h5 : decide ((256 : Int) < (fs.length : Int))
  rotate_left
  · have h5' := of_decide_eq_true h5
    rw [show makeX id rider w rs fs l = (zeroX, 8) by unfold makeX; rw [if_neg hrn, if_pos (by omega)]]
    simp only [makeP, zeroX, InvS.pv, intP, List.map_nil, AW, reduceAdd, reduceCtorEq, reduceEqDiff, ↓reduceIte, reduceLT, reduceLeDiff, reduceSub, reducePow, reduceMul, reduceToNat, reduceLE, reduceEq, Int.reduceLT, Int.reduceBEq, Int.reduceBNe]
  have h5' := of_decide_eq_false h5
  have h5n : ¬ 256 < fs.length := by omega
  have hlen : fs.length ≤ maxLen := by unfold maxLen; omega
  simp only [List.length_map, AW, reduceAdd, reduceCtorEq, reduceEqDiff, ↓reduceIte, reduceLT, reduceLeDiff, reduceSub, reducePow, reduceMul, reduceToNat, reduceLE, reduceEq, Int.reduceLT, Int.reduceBEq, Int.reduceBNe]
  refine run_loop (ι := Nat) (fun k => ⟨[(0, .sc (.int .i64 id)), (1, .sc (.int .i64 rider)), (3, .sl (rs.map RideS.pv)), (4, .sl (fs.map FareS.pv)), (5, .sl (l.map RefS.pv)), (8, .ptr 0 0), (12, .ptr 1 0), (15, .mp 13), (41, .sl (fs.map FareS.pv)), (42, .sc (.int .i64 (fs.length : Int))), (43, .sc (.int .i64 (k : Int)))], [(0, .var [.sc (.int .i64 w.from_), .sc (.int .i64 w.to_)]), (1, .var [.sc (.int .i64 0), .sc (.int .i64 0), .sc (.int .i64 0), .sc (.int .i64 0), .sc (.slice none 0 0), .sc (.slice none 0 0), .sc (.int .i64 0)]), (13, .mapb 3 (startM rs (fs.take k)))], 18, 155⟩) (fun k => k ≤ fs.length ∧ (∀ j (hj : j < fs.length), j < k → (findRd rs fs[j].ride).isSome = true)) (fun k => fs.length - k) 18 (fun _ => rfl) 0 (by simp only [LW, Nat.reduceMod, Nat.reduceDiv, Int.natCast_zero, List.take_zero, startM_nil, AW, reduceAdd, reduceCtorEq, reduceEqDiff, ↓reduceIte, reduceLT, reduceLeDiff, reduceSub, reducePow, reduceMul, reduceToNat, reduceLE, reduceEq, Int.reduceLT, Int.reduceBEq, Int.reduceBNe]) ⟨Nat.zero_le _, nofun⟩ (fun k hk => ?_)
  obtain ⟨gk, ik⟩ := hk
  by_cases hltk : k < fs.length
  rotate_left
  · have dk : decide ((k : Int) < ((fs.length : Nat) : Int)) = false := by rw [decide_eq_false_iff_not]; exact fun h => hltk (Int.ofNat_lt.1 h)
    have ek : k = fs.length := Nat.le_antisymm gk (Nat.le_of_not_lt hltk)
    subst ek
    have hall : fs.all (fun f => (findRd rs f.ride).isSome) = true := all_yes (fun j hj => ik j hj hj)
    have halln : ¬ fs.all (fun f => (findRd rs f.ride).isSome) = false := by rw [hall]; simp
    rw [List.take_length]
    simp only [dk, List.length_map, AW, reduceAdd, reduceCtorEq, reduceEqDiff, ↓reduceIte, reduceLT, reduceLeDiff, reduceSub, reducePow, reduceMul, reduceToNat, reduceLE, reduceEq, Int.reduceLT, Int.reduceBEq, Int.reduceBNe]
    refine ops_call (gc) (by simp only [AW, reduceAdd, reduceCtorEq, reduceEqDiff, ↓reduceIte, reduceLT, reduceLeDiff, reduceSub, reducePow, reduceMul, reduceToNat, reduceLE, reduceEq, Int.reduceLT, Int.reduceBEq, Int.reduceBNe]) ?_; simp only [AW, reduceAdd, reduceCtorEq, reduceEqDiff, ↓reduceIte, reduceLT, reduceLeDiff, reduceSub, reducePow, reduceMul, reduceToNat, reduceLE, reduceEq, Int.reduceLT, Int.reduceBEq, Int.reduceBNe]
    cases hc : (checkR fs l != 0)
    rotate_left
    · have hne : checkR fs l ≠ 0 := by simpa using hc
      rw [show makeX id rider w rs fs l = (zeroX, checkR fs l) by unfold makeX; rw [if_neg hrn, if_neg h5n, if_neg halln, if_pos hne]]
      simp only [makeP, zeroX, InvS.pv, intP, List.map_nil, AW, reduceAdd, reduceCtorEq, reduceEqDiff, ↓reduceIte, reduceLT, reduceLeDiff, reduceSub, reducePow, reduceMul, reduceToNat, reduceLE, reduceEq, Int.reduceLT, Int.reduceBEq, Int.reduceBNe]
    have h0 : checkR fs l = 0 := by simpa using hc
    obtain ⟨c1, c2⟩ := check_amt h0
    have hlen2 : l.length ≤ maxLen := by unfold maxLen; omega
    simp only [List.length_map, AW, reduceAdd, reduceCtorEq, reduceEqDiff, ↓reduceIte, reduceLT, reduceLeDiff, reduceSub, reducePow, reduceMul, reduceToNat, reduceLE, reduceEq, Int.reduceLT, Int.reduceBEq, Int.reduceBNe]
    refine run_loop (ι := Nat) (fun m => ⟨[(1, .sc (.int .i64 rider)), (5, .sl (l.map RefS.pv)), (8, .ptr 0 0), (12, .ptr 1 0), (15, .mp 13), (21, .ptr 29 0), (22, .mp 31), (76, .sl (fs.map FareS.pv)), (77, .sc (.int .i64 (fs.length : Int))), (78, .sc (.int .i64 (m : Int)))], [(0, .var [.sc (.int .i64 w.from_), .sc (.int .i64 w.to_)]), (1, .var [.sc (.int .i64 0), .sc (.int .i64 0), .sc (.int .i64 0), .sc (.int .i64 0), .sc (.slice none 0 0), .sc (.slice none 0 0), .sc (.int .i64 0)]), (13, .mapb 3 (startM rs fs)), (29, .var [.sc (.int .i64 id), .sc (.int .i64 rider), .sc (.int .i64 w.from_), .sc (.int .i64 w.to_), .own 36 0, .sc (.slice none 0 0), .sc (.int .i64 (totF (mineF rs rider w (fs.take m))))]), (31, .mapb 3 (rideM (mineF rs rider w (fs.take m)))), (36, .row 55 4 0 ((mineF rs rider w (fs.take m)).map FareS.pv))], 37, 155⟩) (fun m => m ≤ fs.length ∧ ((mineF rs rider w (fs.take m)).all (fun f => moneyB f.total) = true)) (fun m => fs.length - m) 37 (fun _ => rfl) 0 (by simp only [LW, Nat.reduceMod, Nat.reduceDiv, Int.natCast_zero, List.take_zero, mineF, List.filter_nil, List.map_nil, rideM_nil, totF, List.sum_nil, AW, reduceAdd, reduceCtorEq, reduceEqDiff, ↓reduceIte, reduceLT, reduceLeDiff, reduceSub, reducePow, reduceMul, reduceToNat, reduceLE, reduceEq, Int.reduceLT, Int.reduceBEq, Int.reduceBNe]) ⟨Nat.zero_le _, rfl⟩ (fun m hm => ?_)
    obtain ⟨gm, im⟩ := hm
    by_cases hltm : m < fs.length
    rotate_left
    · have dm : decide ((m : Int) < ((fs.length : Nat) : Int)) = false := by rw [decide_eq_false_iff_not]; exact fun h => hltm (Int.ofNat_lt.1 h)
      have em : m = fs.length := Nat.le_antisymm gm (Nat.le_of_not_lt hltm)
      subst em
      rw [List.take_length] at im ⊢
      have hml : (mineF rs rider w fs).length ≤ 256 := Nat.le_trans (List.length_filter_le _ _) (by omega)
      have hfin : makeX id rider w rs fs l = (⟨id, rider, w, mineF rs rider w fs, refsF (mineF rs rider w fs) l, totF (mineF rs rider w fs) - amtR (refsF (mineF rs rider w fs) l)⟩, 0) := by
        unfold makeX; rw [if_neg hrn, if_neg h5n, if_neg halln, if_neg (by rw [h0]; simp), if_neg (by rw [im]; simp)]
      rw [hfin]
      generalize mineF rs rider w fs = mine at *
      have tb := totF_money im
      simp only [dm, List.length_map, AW, reduceAdd, reduceCtorEq, reduceEqDiff, ↓reduceIte, reduceLT, reduceLeDiff, reduceSub, reducePow, reduceMul, reduceToNat, reduceLE, reduceEq, Int.reduceLT, Int.reduceBEq, Int.reduceBNe]
      refine run_loop (ι := Nat) (fun q => ⟨[(12, .ptr 1 0), (21, .ptr 29 0), (22, .mp 31), (131, .sl (l.map RefS.pv)), (132, .sc (.int .i64 (l.length : Int))), (133, .sc (.int .i64 (q : Int)))], [(0, .var [.sc (.int .i64 w.from_), .sc (.int .i64 w.to_)]), (1, .var [.sc (.int .i64 0), .sc (.int .i64 0), .sc (.int .i64 0), .sc (.int .i64 0), .sc (.slice none 0 0), .sc (.slice none 0 0), .sc (.int .i64 0)]), (13, .mapb 3 (startM rs fs)), (29, .var [.sc (.int .i64 id), .sc (.int .i64 rider), .sc (.int .i64 w.from_), .sc (.int .i64 w.to_), .own 36 0, .own 41 0, .sc (.int .i64 (totF mine - amtR (refsF mine (l.take q))))]), (31, .mapb 3 (rideM mine)), (36, .row 55 4 0 (mine.map FareS.pv)), (41, .row 60 4 0 ((refsF mine (l.take q)).map RefS.pv))], 42, 155⟩) (fun q => q ≤ l.length) (fun q => l.length - q) 42 (fun _ => rfl) 0 (by simp only [LW, Nat.reduceMod, Nat.reduceDiv, Int.natCast_zero, List.take_zero, refsF, List.filter_nil, List.map_nil, amtR, List.sum_nil, Int.sub_zero, AW, reduceAdd, reduceCtorEq, reduceEqDiff, ↓reduceIte, reduceLT, reduceLeDiff, reduceSub, reducePow, reduceMul, reduceToNat, reduceLE, reduceEq, Int.reduceLT, Int.reduceBEq, Int.reduceBNe]) (Nat.zero_le _) (fun q hq => ?_)
      have gq := hq
      by_cases hltq : q < l.length
      rotate_left
      · have dq : decide ((q : Int) < ((l.length : Nat) : Int)) = false := by rw [decide_eq_false_iff_not]; exact fun h => hltq (Int.ofNat_lt.1 h)
        have eq : q = l.length := Nat.le_antisymm gq (Nat.le_of_not_lt hltq)
        subst eq
        rw [List.take_length]
        simp only [dq, makeP, InvS.pv, intP, AW, reduceAdd, reduceCtorEq, reduceEqDiff, ↓reduceIte, reduceLT, reduceLeDiff, reduceSub, reducePow, reduceMul, reduceToNat, reduceLE, reduceEq, Int.reduceLT, Int.reduceBEq, Int.reduceBNe]
      have dq : decide ((q : Int) < ((l.length : Nat) : Int)) = true := by rw [decide_eq_true_eq]; exact Int.ofNat_lt.2 hltq
      have e1 := rideM_get mine l[q].ride
      have fsn := filter_snoc (fun r : RefS => hasF mine r.ride) hltq
      change refsF mine (l.take (q + 1)) = refsF mine (l.take q) ++ _ at fsn
      have ab := amt_sum (fun r => hasF mine r.ride) (amtOk_take c2 (q + 1))
      change 0 ≤ amtR (refsF mine (l.take (q + 1))) ∧ amtR (refsF mine (l.take (q + 1))) ≤ _ at ab
      have al : (l.take (q + 1)).length ≤ 512 := by rw [List.length_take]; omega
      have rl : (refsF mine (l.take q)).length ≤ 512 := Nat.le_trans (List.length_filter_le _ _) (by rw [List.length_take]; omega)
      simp only [dq, List.length_map, map_getD hltq, hltq, RefS.pv, RefS.vals, List.map_cons, List.map_nil, isIntB, e1, AW, reduceAdd, reduceCtorEq, reduceEqDiff, ↓reduceIte, reduceLT, reduceLeDiff, reduceSub, reducePow, reduceMul, reduceToNat, reduceLE, reduceEq, Int.reduceLT, Int.reduceBEq, Int.reduceBNe]
      cases h1 : hasF mine l[q].ride
      · rw [h1, if_neg (by simp), List.append_nil] at fsn
        simp only [AW, reduceAdd, reduceCtorEq, reduceEqDiff, ↓reduceIte, reduceLT, reduceLeDiff, reduceSub, reducePow, reduceMul, reduceToNat, reduceLE, reduceEq, Int.reduceLT, Int.reduceBEq, Int.reduceBNe]
        (try simp only [wrap_succ hltq hlen2, AW, reduceAdd, reduceCtorEq, reduceEqDiff, ↓reduceIte, reduceLT, reduceLeDiff, reduceSub, reducePow, reduceMul, reduceToNat, reduceLE, reduceEq, Int.reduceLT, Int.reduceBEq, Int.reduceBNe])
        refine ⟨q + 1, hltq, ?_, meas_lt hltq⟩
        simp only [LW, Nat.reduceMod, Nat.reduceDiv, fsn, AW, reduceAdd, reduceCtorEq, reduceEqDiff, ↓reduceIte, reduceLT, reduceLeDiff, reduceSub, reducePow, reduceMul, reduceToNat, reduceLE, reduceEq, Int.reduceLT, Int.reduceBEq, Int.reduceBNe]
      · rw [h1, if_pos rfl] at fsn
        have ta := amtR_app (refsF mine (l.take q)) l[q]
        rw [← fsn] at ta
        have w1 : IntKind.i64.wrap (totF mine - amtR (refsF mine (l.take q)) - l[q].amount) = totF mine - amtR (refsF mine (l.take (q + 1))) := by rw [ta, wrap_id ⟨by omega, by omega⟩]; omega
        have b1 : (refsF mine (l.take q)).length + 1 ≤ maxLen := by unfold maxLen; omega
        have b2 : ((refsF mine (l.take q)).length + 1) * 32 ≤ 140737488355328 := by omega
        simp only [List.length_map, map_getD hltq, hltq, RefS.pv, RefS.vals, List.map_cons, List.map_nil, w1, b1, b2, AW, reduceAdd, reduceCtorEq, reduceEqDiff, ↓reduceIte, reduceLT, reduceLeDiff, reduceSub, reducePow, reduceMul, reduceToNat, reduceLE, reduceEq, Int.reduceLT, Int.reduceBEq, Int.reduceBNe]
        (try simp only [wrap_succ hltq hlen2, AW, reduceAdd, reduceCtorEq, reduceEqDiff, ↓reduceIte, reduceLT, reduceLeDiff, reduceSub, reducePow, reduceMul, reduceToNat, reduceLE, reduceEq, Int.reduceLT, Int.reduceBEq, Int.reduceBNe])
        refine ⟨q + 1, hltq, ?_, meas_lt hltq⟩
        simp only [LW, Nat.reduceMod, Nat.reduceDiv, fsn, List.map_append, List.map_cons, List.map_nil, RefS.pv, RefS.vals, AW, reduceAdd, reduceCtorEq, reduceEqDiff, ↓reduceIte, reduceLT, reduceLeDiff, reduceSub, reducePow, reduceMul, reduceToNat, reduceLE, reduceEq, Int.reduceLT, Int.reduceBEq, Int.reduceBNe]
    have dm : decide ((m : Int) < ((fs.length : Nat) : Int)) = true := by rw [decide_eq_true_eq]; exact Int.ofNat_lt.2 hltm
    have fsn := filter_snoc (mineB rs rider w) hltm
    have hmem : fs[m] ∈ fs := List.getElem_mem hltm
    have e1 := startM_get rs hmem
    have hit := hI fs[m] hmem
    have hml : (mineF rs rider w (fs.take m)).length ≤ 256 := by
      have := List.length_filter_le (mineB rs rider w) (fs.take m)
      rw [List.length_take] at this
      unfold mineF; omega
    change mineF rs rider w (fs.take (m + 1)) = mineF rs rider w (fs.take m) ++ _ at fsn
    obtain ⟨t, ht⟩ : ∃ t, startLo rs fs[m].ride = t := ⟨_, rfl⟩
    rw [ht] at e1
    have hmb : mineB rs rider w fs[m] = ((fs[m].rider == rider) && decide (w.from_ ≤ t) && decide (t < w.to_)) := by unfold mineB; rw [ht]
    have no : mineB rs rider w fs[m] = false → mineF rs rider w (fs.take (m + 1)) = mineF rs rider w (fs.take m) := fun h => by rw [fsn, h, if_neg (by simp), List.append_nil]
    simp only [dm, List.length_map, map_getD hltm, hltm, FareS.pv, isIntB, e1, AW, reduceAdd, reduceCtorEq, reduceEqDiff, ↓reduceIte, reduceLT, reduceLeDiff, reduceSub, reducePow, reduceMul, reduceToNat, reduceLE, reduceEq, Int.reduceLT, Int.reduceBEq, Int.reduceBNe]
    cases h1 : (fs[m].rider != rider)
    rotate_left
    · have hnb : mineB rs rider w fs[m] = false := by
        rw [hmb]
        rw [show (fs[m].rider == rider) = false by rw [beq_eq_false_iff_ne]; simpa using h1]; rfl
      simp only [AW, reduceAdd, reduceCtorEq, reduceEqDiff, ↓reduceIte, reduceLT, reduceLeDiff, reduceSub, reducePow, reduceMul, reduceToNat, reduceLE, reduceEq, Int.reduceLT, Int.reduceBEq, Int.reduceBNe]
      (try simp only [wrap_succ hltm hlen, AW, reduceAdd, reduceCtorEq, reduceEqDiff, ↓reduceIte, reduceLT, reduceLeDiff, reduceSub, reducePow, reduceMul, reduceToNat, reduceLE, reduceEq, Int.reduceLT, Int.reduceBEq, Int.reduceBNe])
      refine ⟨m + 1, ⟨hltm, by rw [no hnb]; exact im⟩, ?_, meas_lt hltm⟩
      simp only [LW, Nat.reduceMod, Nat.reduceDiv, no hnb, AW, reduceAdd, reduceCtorEq, reduceEqDiff, ↓reduceIte, reduceLT, reduceLeDiff, reduceSub, reducePow, reduceMul, reduceToNat, reduceLE, reduceEq, Int.reduceLT, Int.reduceBEq, Int.reduceBNe]
    cases h2 : decide (t < w.from_)
    rotate_left
    · have hnb : mineB rs rider w fs[m] = false := by
        rw [hmb]
        rw [decide_eq_false (by have := of_decide_eq_true h2; omega : ¬ w.from_ ≤ t)]; simp
      simp only [h2, AW, reduceAdd, reduceCtorEq, reduceEqDiff, ↓reduceIte, reduceLT, reduceLeDiff, reduceSub, reducePow, reduceMul, reduceToNat, reduceLE, reduceEq, Int.reduceLT, Int.reduceBEq, Int.reduceBNe]
      (try simp only [wrap_succ hltm hlen, AW, reduceAdd, reduceCtorEq, reduceEqDiff, ↓reduceIte, reduceLT, reduceLeDiff, reduceSub, reducePow, reduceMul, reduceToNat, reduceLE, reduceEq, Int.reduceLT, Int.reduceBEq, Int.reduceBNe])
      refine ⟨m + 1, ⟨hltm, by rw [no hnb]; exact im⟩, ?_, meas_lt hltm⟩
      simp only [LW, Nat.reduceMod, Nat.reduceDiv, no hnb, AW, reduceAdd, reduceCtorEq, reduceEqDiff, ↓reduceIte, reduceLT, reduceLeDiff, reduceSub, reducePow, reduceMul, reduceToNat, reduceLE, reduceEq, Int.reduceLT, Int.reduceBEq, Int.reduceBNe]
    cases h3 : decide (w.to_ ≤ t)
    rotate_left
    · have hnb : mineB rs rider w fs[m] = false := by
        rw [hmb]
        rw [decide_eq_false (by have := of_decide_eq_true h3; omega : ¬ t < w.to_)]; simp
      simp only [h2, h3, AW, reduceAdd, reduceCtorEq, reduceEqDiff, ↓reduceIte, reduceLT, reduceLeDiff, reduceSub, reducePow, reduceMul, reduceToNat, reduceLE, reduceEq, Int.reduceLT, Int.reduceBEq, Int.reduceBNe]
      (try simp only [wrap_succ hltm hlen, AW, reduceAdd, reduceCtorEq, reduceEqDiff, ↓reduceIte, reduceLT, reduceLeDiff, reduceSub, reducePow, reduceMul, reduceToNat, reduceLE, reduceEq, Int.reduceLT, Int.reduceBEq, Int.reduceBNe])
      refine ⟨m + 1, ⟨hltm, by rw [no hnb]; exact im⟩, ?_, meas_lt hltm⟩
      simp only [LW, Nat.reduceMod, Nat.reduceDiv, no hnb, AW, reduceAdd, reduceCtorEq, reduceEqDiff, ↓reduceIte, reduceLT, reduceLeDiff, reduceSub, reducePow, reduceMul, reduceToNat, reduceLE, reduceEq, Int.reduceLT, Int.reduceBEq, Int.reduceBNe]
    have hyes : mineB rs rider w fs[m] = true := by
      rw [hmb]
      have a1 := of_decide_eq_false h2
      have a2 := of_decide_eq_false h3
      have a0 : (fs[m].rider == rider) = true := by simpa using h1
      rw [a0, decide_eq_true (by omega : w.from_ ≤ t), decide_eq_true (by omega : t < w.to_)]; rfl
    rw [hyes, if_pos rfl] at fsn
    have bad : moneyB fs[m].total = false → makeX id rider w rs fs l = (zeroX, 2) := fun h => by
      have ha : (mineF rs rider w fs).all (fun f => moneyB f.total) = false := by
        rw [Bool.eq_false_iff]; intro h2
        have := List.all_eq_true.1 h2 fs[m] (List.mem_filter.2 ⟨hmem, hyes⟩)
        rw [h] at this; cases this
      unfold makeX; rw [if_neg hrn, if_neg h5n, if_neg halln, if_neg (by rw [h0]; simp), if_pos ha]
    simp only [h2, h3, AW, reduceAdd, reduceCtorEq, reduceEqDiff, ↓reduceIte, reduceLT, reduceLeDiff, reduceSub, reducePow, reduceMul, reduceToNat, reduceLE, reduceEq, Int.reduceLT, Int.reduceBEq, Int.reduceBNe]
    cases h4 : decide (fs[m].total < -1000000000000)
    rotate_left
    · rw [bad (by unfold moneyB; have := of_decide_eq_true h4; rw [decide_eq_false (by omega : ¬ -1000000000000 ≤ fs[m].total)]; rfl)]
      simp only [makeP, zeroX, InvS.pv, intP, List.map_nil, AW, reduceAdd, reduceCtorEq, reduceEqDiff, ↓reduceIte, reduceLT, reduceLeDiff, reduceSub, reducePow, reduceMul, reduceToNat, reduceLE, reduceEq, Int.reduceLT, Int.reduceBEq, Int.reduceBNe]
    cases h6 : decide ((1000000000000 : Int) < fs[m].total)
    rotate_left
    · rw [bad (by unfold moneyB; have := of_decide_eq_true h6; rw [decide_eq_false (by omega : ¬ fs[m].total ≤ 1000000000000)]; simp)]
      simp only [h6, makeP, zeroX, InvS.pv, intP, List.map_nil, AW, reduceAdd, reduceCtorEq, reduceEqDiff, ↓reduceIte, reduceLT, reduceLeDiff, reduceSub, reducePow, reduceMul, reduceToNat, reduceLE, reduceEq, Int.reduceLT, Int.reduceBEq, Int.reduceBNe]
    have hmo : moneyB fs[m].total = true := by
      have a1 := of_decide_eq_false h4
      have a2 := of_decide_eq_false h6
      unfold moneyB; rw [decide_eq_true (by omega), decide_eq_true (by omega)]; rfl
    have hall2 : (mineF rs rider w (fs.take (m + 1))).all (fun f => moneyB f.total) = true := by
      rw [fsn, List.all_append, im]; simp [hmo]
    have tb := totF_money hall2
    have tl : (mineF rs rider w (fs.take (m + 1))).length ≤ 257 := by rw [fsn, List.length_append]; simp only [List.length_cons, List.length_nil]; omega
    have ta := totF_app (mineF rs rider w (fs.take m)) fs[m]
    rw [← fsn] at ta
    have w1 : IntKind.i64.wrap (totF (mineF rs rider w (fs.take m)) + fs[m].total) = totF (mineF rs rider w (fs.take (m + 1))) := by rw [← ta]; exact wrap_id ⟨by omega, by omega⟩
    have b1 : (mineF rs rider w (fs.take m)).length + 1 ≤ maxLen := by unfold maxLen; omega
    have b2 : ((mineF rs rider w (fs.take m)).length + 1) * 48 ≤ 140737488355328 := by omega
    have b3 : fs[m].items.length ≤ maxLen := by unfold maxLen; omega
    have b4 : fs[m].items.length * 24 ≤ 140737488355328 := by omega
    simp only [h6, isIntB, w1, items_ok, List.length_map, b1, b2, b3, b4, AW, reduceAdd, reduceCtorEq, reduceEqDiff, ↓reduceIte, reduceLT, reduceLeDiff, reduceSub, reducePow, reduceMul, reduceToNat, reduceLE, reduceEq, Int.reduceLT, Int.reduceBEq, Int.reduceBNe]
    (try simp only [wrap_succ hltm hlen, AW, reduceAdd, reduceCtorEq, reduceEqDiff, ↓reduceIte, reduceLT, reduceLeDiff, reduceSub, reducePow, reduceMul, reduceToNat, reduceLE, reduceEq, Int.reduceLT, Int.reduceBEq, Int.reduceBNe])
    refine ⟨m + 1, ⟨hltm, hall2⟩, ?_, meas_lt hltm⟩
    simp only [LW, Nat.reduceMod, Nat.reduceDiv, fsn, rideM_snoc, List.map_append, List.map_cons, List.map_nil, FareS.pv, AW, reduceAdd, reduceCtorEq, reduceEqDiff, ↓reduceIte, reduceLT, reduceLeDiff, reduceSub, reducePow, reduceMul, reduceToNat, reduceLE, reduceEq, Int.reduceLT, Int.reduceBEq, Int.reduceBNe]
  have dk : decide ((k : Int) < ((fs.length : Nat) : Int)) = true := by rw [decide_eq_true_eq]; exact Int.ofNat_lt.2 hltk
  have gf := findRd_g rs fs[k].ride hR
  have es : fs.take (k + 1) = fs.take k ++ [fs[k]] := List.take_succ_eq_append_getElem hltk
  simp only [dk, List.length_map, map_getD hltk, hltk, FareS.pv, AW, reduceAdd, reduceCtorEq, reduceEqDiff, ↓reduceIte, reduceLT, reduceLeDiff, reduceSub, reducePow, reduceMul, reduceToNat, reduceLE, reduceEq, Int.reduceLT, Int.reduceBEq, Int.reduceBNe]
  cases hf : findRd rs fs[k].ride with
  | none =>
    rw [hf] at gf
    simp only [findRP, zeroR, RideS.pv, List.map_nil, AW, reduceAdd, reduceCtorEq, reduceEqDiff, ↓reduceIte, reduceLT, reduceLeDiff, reduceSub, reducePow, reduceMul, reduceToNat, reduceLE, reduceEq, Int.reduceLT, Int.reduceBEq, Int.reduceBNe] at gf
    refine ops_call (gf) (by simp only [intP, AW, reduceAdd, reduceCtorEq, reduceEqDiff, ↓reduceIte, reduceLT, reduceLeDiff, reduceSub, reducePow, reduceMul, reduceToNat, reduceLE, reduceEq, Int.reduceLT, Int.reduceBEq, Int.reduceBNe]) ?_; simp only [intP, AW, reduceAdd, reduceCtorEq, reduceEqDiff, ↓reduceIte, reduceLT, reduceLeDiff, reduceSub, reducePow, reduceMul, reduceToNat, reduceLE, reduceEq, Int.reduceLT, Int.reduceBEq, Int.reduceBNe]
    rw [show makeX id rider w rs fs l = (zeroX, 7) by unfold makeX; rw [if_neg hrn, if_neg h5n, if_pos (all_no hltk (by rw [hf]; rfl))]]
    simp only [makeP, zeroX, InvS.pv, intP, List.map_nil, AW, reduceAdd, reduceCtorEq, reduceEqDiff, ↓reduceIte, reduceLT, reduceLeDiff, reduceSub, reducePow, reduceMul, reduceToNat, reduceLE, reduceEq, Int.reduceLT, Int.reduceBEq, Int.reduceBNe]
  | some r =>
    have hst : startLo rs fs[k].ride = r.start.lo := by unfold startLo; rw [hf]
    rw [hf] at gf
    simp only [findRP, RideS.pv, AW, reduceAdd, reduceCtorEq, reduceEqDiff, ↓reduceIte, reduceLT, reduceLeDiff, reduceSub, reducePow, reduceMul, reduceToNat, reduceLE, reduceEq, Int.reduceLT, Int.reduceBEq, Int.reduceBNe] at gf
    refine ops_call (gf) (by simp only [intP, AW, reduceAdd, reduceCtorEq, reduceEqDiff, ↓reduceIte, reduceLT, reduceLeDiff, reduceSub, reducePow, reduceMul, reduceToNat, reduceLE, reduceEq, Int.reduceLT, Int.reduceBEq, Int.reduceBNe]) ?_; simp only [intP, AW, reduceAdd, reduceCtorEq, reduceEqDiff, ↓reduceIte, reduceLT, reduceLeDiff, reduceSub, reducePow, reduceMul, reduceToNat, reduceLE, reduceEq, Int.reduceLT, Int.reduceBEq, Int.reduceBNe]
    (try simp only [isIntB, AW, reduceAdd, reduceCtorEq, reduceEqDiff, ↓reduceIte, reduceLT, reduceLeDiff, reduceSub, reducePow, reduceMul, reduceToNat, reduceLE, reduceEq, Int.reduceLT, Int.reduceBEq, Int.reduceBNe])
    (try simp only [wrap_succ hltk hlen, AW, reduceAdd, reduceCtorEq, reduceEqDiff, ↓reduceIte, reduceLT, reduceLeDiff, reduceSub, reducePow, reduceMul, reduceToNat, reduceLE, reduceEq, Int.reduceLT, Int.reduceBEq, Int.reduceBNe])
    refine ⟨k + 1, ⟨hltk, fun j hj hjk => ?_⟩, ?_, meas_lt hltk⟩
    · by_cases e : j = k
      · subst e; rw [hf]; rfl
      · exact ik j hj (by omega)
    · simp only [LW, Nat.reduceMod, Nat.reduceDiv, es, startM_snoc, hst, AW, reduceAdd, reduceCtorEq, reduceEqDiff, ↓reduceIte, reduceLT, reduceLeDiff, reduceSub, reducePow, reduceMul, reduceToNat, reduceLE, reduceEq, Int.reduceLT, Int.reduceBEq, Int.reduceBNe]


end Go.Proofs.YtaejaogidkgalaaDoor
