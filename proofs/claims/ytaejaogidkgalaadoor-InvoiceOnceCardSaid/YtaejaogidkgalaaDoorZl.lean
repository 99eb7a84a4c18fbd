/-
  Invoices: the lines, in plain Lean.
-/
import Derived.Test.YtaejaogidkgalaaDoorZk
import Derived.Test.YtaejaogidkgalaaDoorZi
namespace Go.Proofs.YtaejaogidkgalaaDoor
open Go.RowKit
open Nat (reduceAdd reduceEqDiff reduceLT reduceLeDiff reduceSub reducePow reduceMul)
open Int (reduceToNat reduceLE reduceEq)
set_option linter.unusedVariables false
set_option linter.unusedSimpArgs false
set_option linter.unnecessarySimpa false

def tInv : List UInt8 := [105, 110, 118, 111, 105, 99, 101, 32]
def tRid : List UInt8 := [32, 114, 105, 100, 101, 114, 32]
def tFrom : List UInt8 := [32, 102, 114, 111, 109, 32]
def tTo : List UInt8 := [32, 116, 111, 32]
def tRide : List UInt8 := [114, 105, 100, 101, 32]
def tTot : List UInt8 := [32, 116, 111, 116, 97, 108, 32]
def tItem : List UInt8 := [105, 116, 101, 109, 32]
def tKind : List UInt8 := [32, 107, 105, 110, 100, 32]
def tRef : List UInt8 := [32, 114, 101, 102, 32]
def tAmt : List UInt8 := [32, 97, 109, 111, 117, 110, 116, 32]
def tRefd : List UInt8 := [114, 101, 102, 117, 110, 100, 32]
def tRide2 : List UInt8 := [32, 114, 105, 100, 101, 32]
def tItem2 : List UInt8 := [32, 105, 116, 101, 109, 32]
def tTot0 : List UInt8 := [116, 111, 116, 97, 108, 32]
def lHead (x : InvS) : List UInt8 := tInv ++ Lib.itoa x.id ++ tRid ++ Lib.itoa x.rider ++ tFrom ++ Lib.itoa x.when_.from_ ++ tTo ++ Lib.itoa x.when_.to_
def lFare (f : FareS) : List UInt8 := tRide ++ Lib.itoa f.ride ++ tTot ++ moneyL f.total
def lItem (k : Nat) (y : ItemS) : List UInt8 := tItem ++ Lib.itoa (k : Int) ++ tKind ++ Lib.itoa y.kind ++ tRef ++ Lib.itoa y.ref_ ++ tAmt ++ moneyL y.amount
def lRef (r : RefS) : List UInt8 := tRefd ++ Lib.itoa r.id ++ tRide2 ++ Lib.itoa r.ride ++ tItem2 ++ Lib.itoa r.item ++ tAmt ++ moneyL r.amount
def lTot (n : Int) : List UInt8 := tTot0 ++ moneyL n
def linesI (l : List ItemS) : List (List UInt8) := l.mapIdx lItem
def linesF (l : List FareS) : List (List UInt8) := l.flatMap fun f => lFare f :: linesI f.items
def linesX (x : InvS) : List (List UInt8) := [lHead x] ++ linesF x.fares ++ x.refunds.map lRef ++ [lTot x.total]
def linesP (x : InvS) : PV := if checkX x ≠ 0 then .tup [.sl [], intP (checkX x)] else .tup [.sl ((linesX x).map txP), intP 0]
theorem linesI_len (l : List ItemS) : (linesI l).length = l.length := by unfold linesI; rw [List.length_mapIdx]
theorem linesI_snoc {l : List ItemS} {k : Nat} (h : k < l.length) : linesI (l.take (k + 1)) = linesI (l.take k) ++ [lItem k l[k]] := by
  unfold linesI
  rw [List.take_succ_eq_append_getElem h, List.mapIdx_append, List.length_take, Nat.min_eq_left (by omega)]; simp
theorem linesF_snoc {l : List FareS} {k : Nat} (h : k < l.length) : linesF (l.take (k + 1)) = linesF (l.take k) ++ ([lFare l[k]] ++ linesI l[k].items) := by
  unfold linesF
  rw [List.take_succ_eq_append_getElem h, List.flatMap_append]; simp
theorem linesF_len {l : List FareS} (h : ∀ f ∈ l, f.items.length ≤ 16) : (linesF l).length ≤ 17 * l.length := by
  induction l with
  | nil => simp [linesF]
  | cons f l ih =>
    have ih := ih (fun g hg => h g (List.mem_cons_of_mem _ hg))
    have hf := h f List.mem_cons_self
    unfold linesF at *
    rw [List.flatMap_cons, List.length_append, List.length_cons, linesI_len, List.length_cons]; omega
structure InvOk (x : InvS) : Prop where
  id : I64 x.id
  rider : I64 x.rider
  from_ : I64 x.when_.from_
  to_ : I64 x.when_.to_
  ride : ∀ f ∈ x.fares, I64 f.ride
  kind : ∀ f ∈ x.fares, ∀ y ∈ f.items, I64 y.kind
  ref_ : ∀ f ∈ x.fares, ∀ y ∈ f.items, I64 y.ref_
  rid : ∀ r ∈ x.refunds, I64 r.id
  rride : ∀ r ∈ x.refunds, I64 r.ride
  ritem : ∀ r ∈ x.refunds, I64 r.item
theorem inv_rng {M : Nat → Prop} {w : World} {x : InvS} {v : Value} (h : RepI M w x.pv v) : InvOk x := by
  obtain ⟨us, rfl, hu⟩ := agg_pw.1 h
  obtain ⟨v0, us, rfl, h0, hu⟩ := pw_cons.1 hu
  obtain ⟨v1, us, rfl, h1, hu⟩ := pw_cons.1 hu
  obtain ⟨v2, us, rfl, h2, hu⟩ := pw_cons.1 hu
  obtain ⟨v3, us, rfl, h3, hu⟩ := pw_cons.1 hu
  obtain ⟨v4, us, rfl, h4, hu⟩ := pw_cons.1 hu
  obtain ⟨v5, us, rfl, h5, hu⟩ := pw_cons.1 hu
  obtain ⟨_, _, _, -, -, -, vf, gf, -⟩ := of_sl FareS.pv (n := 4) (fun x _ => rfl) h4
  obtain ⟨_, _, _, -, -, -, vr, gr, -⟩ := of_sl RefS.pv (n := 4) (fun x _ => rfl) h5
  have hf : ∀ f ∈ x.fares, I64 f.ride ∧ ∀ y ∈ f.items, I64 y.kind ∧ I64 y.ref_ := by
    intro f hf
    obtain ⟨j, hj, rfl⟩ := List.getElem_of_mem hf
    have hv := gf j hj
    generalize vf j = zs at hv
    obtain ⟨w0, zs, rfl, k0, hv⟩ := pw_cons.1 hv
    obtain ⟨w1, zs, rfl, k1, hv⟩ := pw_cons.1 hv
    obtain ⟨w2, zs, rfl, k2, hv⟩ := pw_cons.1 hv
    refine ⟨rng_i64.1 k0.sc_rng, ?_⟩
    obtain ⟨_, _, _, -, -, -, vi, gi, -⟩ := of_sl ItemS.pv (n := 3) (fun x _ => rfl) k2
    intro y hy
    obtain ⟨i, hi, rfl⟩ := List.getElem_of_mem hy
    have hw := gi i hi
    generalize vi i = zz at hw
    obtain ⟨y0, zz, rfl, m0, hw⟩ := pw_cons.1 hw
    obtain ⟨y1, zz, rfl, m1, hw⟩ := pw_cons.1 hw
    exact ⟨rng_i64.1 m0.sc_rng, rng_i64.1 m1.sc_rng⟩
  have hr : ∀ r ∈ x.refunds, I64 r.id ∧ I64 r.ride ∧ I64 r.item := by
    intro r hr
    obtain ⟨j, hj, rfl⟩ := List.getElem_of_mem hr
    have hv := gr j hj
    generalize vr j = zs at hv
    obtain ⟨w0, zs, rfl, k0, hv⟩ := pw_cons.1 hv
    obtain ⟨w1, zs, rfl, k1, hv⟩ := pw_cons.1 hv
    obtain ⟨w2, zs, rfl, k2, hv⟩ := pw_cons.1 hv
    exact ⟨rng_i64.1 k0.sc_rng, rng_i64.1 k1.sc_rng, rng_i64.1 k2.sc_rng⟩
  exact ⟨rng_i64.1 h0.sc_rng, rng_i64.1 h1.sc_rng, rng_i64.1 h2.sc_rng, rng_i64.1 h3.sc_rng, fun f h => (hf f h).1, fun f h y hy => ((hf f h).2 y hy).1, fun f h y hy => ((hf f h).2 y hy).2, fun r h => (hr r h).1, fun r h => (hr r h).2.1, fun r h => (hr r h).2.2⟩
/-- What holds of an invoice that is accepted. -/
structure ChkOk (x : InvS) : Prop where
  fl : x.fares.length ≤ 256
  rl : x.refunds.length ≤ 512
  add : ∀ f ∈ x.fares, addedB f = true
  amt : amtOk x.refunds
  tot : x.total.natAbs ≤ 100000000000000000
theorem chk_ok {x : InvS} (h : checkX x = 0) : ChkOk x := by
  unfold checkX at h
  by_cases h1 : rgB x.id x.rider x.when_ = false
  · rw [if_pos h1] at h; cases h
  rw [if_neg h1] at h
  by_cases h2 : 256 < x.fares.length
  · rw [if_pos h2] at h; cases h
  rw [if_neg h2] at h
  by_cases h3 : ¬ (x.fares.map (·.ride)).Nodup
  · rw [if_pos h3] at h; cases h
  rw [if_neg h3] at h
  by_cases h4 : x.fares.all (formB x) = false
  · rw [if_pos h4] at h; cases h
  rw [if_neg h4] at h
  by_cases h5 : checkR x.fares x.refunds ≠ 0
  · rw [if_pos h5] at h; exact absurd h h5
  rw [if_neg h5] at h
  have h5' : checkR x.fares x.refunds = 0 := by simpa using h5
  by_cases h6 : totF x.fares - amtR x.refunds ≠ x.total
  · rw [if_pos h6] at h; cases h
  have h6' : totF x.fares - amtR x.refunds = x.total := by simpa using h6
  have hadd : ∀ f ∈ x.fares, addedB f = true := by
    intro f hf
    have h4' : x.fares.all (formB x) = true := by simpa using h4
    have := List.all_eq_true.1 h4' f hf
    unfold formB at this; simp only [Bool.and_eq_true] at this; exact this.2
  obtain ⟨a1, a2⟩ := check_amt h5'
  have b1 := totF_bnd (fs := x.fares) x.fares.length (Nat.le_refl _) (fun j hj _ => hadd _ (List.getElem_mem hj))
  rw [List.take_length] at b1
  have b2 := amtR_bnd a2
  exact ⟨by omega, a1, hadd, a2, by omega⟩
theorem added_items {f : FareS} (h : addedB f = true) : f.items.length ≤ 16 ∧ (∀ y ∈ f.items, y.amount.natAbs ≤ 1000000000000) ∧ f.total.natAbs ≤ 16000000000000 := by
  have hb := added_bnd h
  simp only [addedB, Bool.and_eq_true, decide_eq_true_eq] at h
  refine ⟨h.1.1, fun y hy => ?_, by omega⟩
  have := amtIn_iff.1 (List.all_eq_true.1 h.1.2 y hy); omega
theorem money_len {n : Int} (h : n.natAbs ≤ 9223372036854775807) : (moneyL n).length ≤ 23 := moneyL_len ⟨by omega, by omega⟩
theorem txs_all (l : List (List UInt8)) : ((l.map txP).all fun p => p.flat.length == 1 && p.flat.all PV.cellOk) = true := List.all_eq_true.2 (fun p hp => by obtain ⟨x, _, rfl⟩ := List.mem_map.1 hp; rfl)
/-- The row's version at the inner loop's head. -/
def vr : Nat → Nat
  | 0 => 1
  | _ + 1 => 0
def row1 (x : InvS) (k : Nat) : List (List UInt8) := [lHead x] ++ linesF (x.fares.take k)
def row2 (x : InvS) (k : Nat) (f : FareS) (m : Nat) : List (List UInt8) := row1 x k ++ [lFare f] ++ linesI (f.items.take m)
def row3 (x : InvS) (q : Nat) : List (List UInt8) := [lHead x] ++ linesF x.fares ++ (x.refunds.take q).map lRef
theorem row1_zero (x : InvS) : row1 x 0 = [lHead x] := rfl
theorem row2_zero (x : InvS) (k : Nat) (f : FareS) : row2 x k f 0 = row1 x k ++ [lFare f] := by
  unfold row2; rw [List.take_zero]; exact List.append_nil _
theorem row2_succ (x : InvS) (k : Nat) (f : FareS) {m : Nat} (h : m < f.items.length) : row2 x k f (m + 1) = row2 x k f m ++ [lItem m f.items[m]] := by
  unfold row2; rw [linesI_snoc h, ← List.append_assoc]
theorem row2_end {x : InvS} {k : Nat} (h : k < x.fares.length) : row2 x k x.fares[k] x.fares[k].items.length = row1 x (k + 1) := by
  unfold row2 row1; rw [List.take_length, linesF_snoc h]; simp only [List.append_assoc]
theorem row3_zero (x : InvS) : row3 x 0 = row1 x x.fares.length := by
  unfold row3 row1; rw [List.take_length]; exact List.append_nil _
theorem row3_succ {x : InvS} {q : Nat} (h : q < x.refunds.length) : row3 x (q + 1) = row3 x q ++ [lRef x.refunds[q]] := by
  unfold row3; rw [List.take_succ_eq_append_getElem h, List.map_append, ← List.append_assoc]; rfl
theorem row3_end (x : InvS) : linesX x = row3 x x.refunds.length ++ [lTot x.total] := by
  unfold row3; rw [List.take_length]; rfl
theorem row1_len {x : InvS} (h : ChkOk x) (k : Nat) : (row1 x k).length ≤ 4400 := by
  have hf := linesF_len (l := x.fares.take k) (fun f hf => (added_items (h.add f (List.mem_of_mem_take hf))).1)
  rw [List.length_take] at hf
  have := h.fl
  unfold row1; rw [List.length_append, List.length_cons, List.length_nil]; omega
theorem row2_len {x : InvS} (h : ChkOk x) (k : Nat) {f : FareS} (hf : f.items.length ≤ 16) (m : Nat) : (row2 x k f m).length ≤ 4420 := by
  have := row1_len h k
  unfold row2; rw [List.length_append, List.length_append, linesI_len, List.length_take, List.length_cons, List.length_nil]; omega
theorem row3_len {x : InvS} (h : ChkOk x) (q : Nat) : (row3 x q).length ≤ 5000 := by
  have h1 := row1_len h x.fares.length
  have := h.rl
  rw [← row3_zero] at h1
  unfold row3 at *
  simp only [List.length_append, List.length_map, List.length_take] at *; omega
theorem room1 {n : Nat} (h : n ≤ 5000) : n + 1 ≤ maxLen := by unfold maxLen; omega
theorem room2 {n : Nat} (h : n ≤ 5000) : (n + 1) * 16 ≤ 140737488355328 := by omega


end Go.Proofs.YtaejaogidkgalaaDoor
