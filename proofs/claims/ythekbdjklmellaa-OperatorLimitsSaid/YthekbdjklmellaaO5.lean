/-
  Operators: shares add up; what the accounts get (plain laws).
-/
import Derived.Test.YthekbdjklmellaaO4
namespace Go.Proofs.Ythekbdjklmellaa
open Go.RowKit
open Nat (reduceAdd reduceEqDiff reduceLT reduceLeDiff reduceSub reducePow reduceMul)
open Int (reduceToNat reduceLE reduceEq)
set_option linter.unusedVariables false
set_option linter.unusedSimpArgs false
set_option linter.unnecessarySimpa false

theorem shareN_zero {T : Nat} {ws : List Nat} (hT : T = 0) : shareN T ws = List.replicate ws.length 0 := by
  subst hT
  unfold shareN
  rw [← tab_zero]
  refine tab_congr (fun i _ => ?_)
  rw [if_neg (by unfold leftN; omega)]
  simp [qN]
theorem sum_set_el {l : List Int} {i : Nat} {v : Int} : i < l.length → (l.set i v).sum = l.sum - el l i + v := by
  induction l generalizing i with
  | nil => intro h; simp at h
  | cons x l ih =>
    intro h
    cases i with
    | zero => simp [el]; omega
    | succ i =>
      have := ih (i := i) (by simpa using h)
      have e : el (x :: l) (i + 1) = el l i := by unfold el; simp
      rw [List.set_cons_succ, List.sum_cons, List.sum_cons, this, e]; omega
theorem tab_sumQ (T S : Nat) (ws : List Nat) : ∀ k, k ≤ ws.length → (tabI k fun i => (qN T S ws i : Int)).sum = (sumQ T S ws k : Int)
  | 0, _ => rfl
  | k + 1, h => by
    rw [tab_succ, List.sum_append, tab_sumQ T S ws k (by omega), sumQ_succ (by omega)]; simp
theorem rank_sum {T S : Nat} {ws : List Nat} : ∀ k, k ≤ ws.length → (tabI ws.length fun i => (qN T S ws i : Int) + if rankR (rN T S ws) ws.length i < k then 1 else 0).sum = (sumQ T S ws ws.length : Int) + k
  | 0, _ => by
    rw [← tab_sumQ T S ws ws.length (Nat.le_refl _)]
    rw [tab_congr (g := fun i => (qN T S ws i : Int)) (fun i _ => by rw [if_neg (Nat.not_lt_zero _)]; omega)]; simp
  | k + 1, hk => by
    have ih := rank_sum (T := T) (S := S) (ws := ws) k (by omega)
    obtain ⟨l2, h2⟩ := order_exists (rN T S ws) ws.length
    have hkn : k < ws.length := by omega
    obtain ⟨e, he, ee⟩ := order_nat h2 hkn
    have re := order_rank h2 hkn ee
    have s1 : (tabI ws.length fun i => (qN T S ws i : Int) + if rankR (rN T S ws) ws.length i < k + 1 then 1 else 0) = (tabI ws.length fun i => (qN T S ws i : Int) + if rankR (rN T S ws) ws.length i < k then 1 else 0).set e ((qN T S ws e : Int) + 1) := by
      rw [tab_set]
      refine tab_congr (fun i hi => ?_)
      by_cases hie : i = e
      · subst hie; rw [if_pos rfl, re, if_pos (Nat.lt_succ_self k)]
      · rw [if_neg hie]
        have : rankR (rN T S ws) ws.length i ≠ k := fun h => hie (rank_inj h2 hi hkn ee h)
        by_cases hlt : rankR (rN T S ws) ws.length i < k
        · rw [if_pos hlt, if_pos (by omega)]
        · rw [if_neg hlt, if_neg (by omega)]
    rw [s1, sum_set_el (by rw [tab_len]; exact he), ih, tab_el he, re, if_neg (Nat.lt_irrefl k)]
    omega
/-- The parts add up to the total. -/
theorem shareN_sum {T : Nat} {ws : List Nat} (hn : 0 < ws.length) (hz : ¬(ws.sum = 0 ∧ 0 < T)) : (shareN T ws).sum = T ∧ (shareN T ws).length = ws.length ∧ ∀ x ∈ shareN T ws, 0 ≤ x := by
  refine ⟨?_, tab_len _ _, fun x hx => ?_⟩
  · have e : sumQ T ws.sum ws ws.length = ((ws.map fun w => T * w / ws.sum).sum) := by unfold sumQ; rw [List.take_length]
    by_cases hS : 0 < ws.sum
    · obtain ⟨h1, h2⟩ := left_bound (T := T) hS hn
      unfold shareN
      rw [rank_sum (leftN T ws) (by unfold leftN; rw [e]; omega)]
      unfold leftN
      rw [e]; omega
    · have h0 : ws.sum = 0 := by omega
      have hT : T = 0 := by
        by_cases h : 0 < T
        · exact absurd ⟨h0, h⟩ hz
        · omega
      rw [shareN_zero hT, hT, ← tab_zero]
      clear e hz h0 hS hn
      induction ws.length with
      | zero => rfl
      | succ n ih => rw [tab_succ, List.sum_append, ih]; rfl
  · unfold shareN tabI at hx
    obtain ⟨i, _, rfl⟩ := List.mem_map.1 hx
    split <;> omega
theorem share_fact {total : Int} {ws : List Int} (h : (shareL total ws).2 = 0) : (shareL total ws).1.length = ws.length ∧ (shareL total ws).1.sum = total ∧ ∀ x ∈ (shareL total ws).1, 0 ≤ x := by
  unfold shareL at h ⊢
  split at h
  · cases h
  split at h
  · cases h
  split at h
  · cases h
  rename_i h1 h2 h3
  rw [if_neg h1, if_neg h2, if_neg h3]
  have hh : (inB total && decide (1 ≤ ws.length) && decide (ws.length ≤ 512) && ws.all inB) = true := by simpa only [Bool.not_eq_false] using h1
  obtain ⟨a1, a2, a3, a4⟩ := cut_bool hh
  have a1 := inB_iff.1 a1
  simp only [decide_eq_true_eq] at a2
  obtain ⟨b1, b2, b3⟩ := shareN_sum (T := total.toNat) (ws := natsL ws) (by rw [natsL_len]; omega) (fun h => h3 ⟨h.1, by omega⟩)
  exact ⟨by rw [b2, natsL_len], by rw [b1]; omega, b3⟩
theorem mem_le_sum {l : List Int} (h : ∀ x ∈ l, 0 ≤ x) {x : Int} (hx : x ∈ l) : x ≤ l.sum := by
  induction l with
  | nil => cases hx
  | cons y l ih =>
    have h0 : 0 ≤ l.sum := by
      clear ih hx
      induction l with
      | nil => simp
      | cons z l ih =>
        have := ih (fun w hw => h w (by simp only [List.mem_cons] at hw ⊢; rcases hw with rfl | hw <;> simp [*]))
        have := h z (by simp)
        simp only [List.sum_cons]; omega
    rcases List.mem_cons.1 hx with rfl | hx
    · simp only [List.sum_cons]; omega
    · have := ih (fun w hw => h w (List.mem_cons_of_mem _ hw)) hx
      have := h y List.mem_cons_self
      simp only [List.sum_cons]; omega
theorem two_ok {p s : Int} (hp : 0 ≤ p) (hp2 : p ≤ 1000000000000) (hs : 0 ≤ s) (hs2 : s ≤ 1000) : (shareL p [s, 1000 - s]).2 = 0 := by
  have h1 : (inB p && decide (1 ≤ [s, 1000 - s].length) && decide ([s, 1000 - s].length ≤ 512) && [s, 1000 - s].all inB) = true := by
    have b1 := inB_iff.2 ⟨hp, show p ≤ 1125899906842624 by omega⟩
    have b2 := inB_iff.2 ⟨hs, show s ≤ 1125899906842624 by omega⟩
    have b3 := inB_iff.2 ⟨show 0 ≤ 1000 - s by omega, show 1000 - s ≤ 1125899906842624 by omega⟩
    simp [b1, b2, b3]
  have hsum : (natsL [s, 1000 - s]).sum = 1000 := by simp only [natsL, List.map_cons, List.map_nil, List.sum_cons, List.sum_nil]; omega
  rw [share_ok h1 (by rw [hsum]; decide) (by rw [hsum]; simp)]
def acc0 : List Int := [0, 0, 0, 0, 0, 0, 0, 0, 0]
def stepA (l : List ContrS) (g : LegS) (p : Int) (acc : List Int) : List Int := match l.find? (holdB g.bike g.from_.lo) with
  | none => acc.set 0 (el acc 0 + p)
  | some c => (acc.set (1 + c.op).toNat (el acc (1 + c.op).toNat + el (shareL p [c.share, 1000 - c.share]).1 0)).set 0 (el (acc.set (1 + c.op).toNat (el acc (1 + c.op).toNat + el (shareL p [c.share, 1000 - c.share]).1 0)) 0 + el (shareL p [c.share, 1000 - c.share]).1 1)
def accK (l : List ContrS) (legs : List LegS) (ps : List Int) : Nat → List Int
  | 0 => acc0
  | k + 1 => match legs[k]? with
    | some g => stepA l g (el ps k) (accK l legs ps k)
    | none => accK l legs ps k
theorem accK_succ {l : List ContrS} {legs : List LegS} {ps : List Int} {k : Nat} (hk : k < legs.length) : accK l legs ps (k + 1) = stepA l legs[k] (el ps k) (accK l legs ps k) := by
  rw [accK, List.getElem?_eq_getElem hk]
structure AccOk (acc : List Int) (s : Int) : Prop where
  len : acc.length = 9
  pos : ∀ x ∈ acc, 0 ≤ x
  sum : acc.sum = s
theorem AccOk.el_b {acc : List Int} {s : Int} (h : AccOk acc s) {i : Nat} (hi : i < 9) : 0 ≤ el acc i ∧ el acc i ≤ s := by
  have hm := el_mem (l := acc) (i := i) (by rw [h.len]; exact hi)
  exact ⟨h.pos _ hm, by rw [← h.sum]; exact mem_le_sum h.pos hm⟩
theorem AccOk.set {acc : List Int} {s v : Int} (h : AccOk acc s) {i : Nat} (hi : i < 9) (hv : 0 ≤ v) : AccOk (acc.set i (el acc i + v)) (s + v) := by
  have hb := h.el_b hi
  refine ⟨by rw [List.length_set, h.len], fun x hx => ?_, ?_⟩
  · rcases List.mem_or_eq_of_mem_set hx with hx | rfl
    · exact h.pos x hx
    · omega
  · rw [sum_set_el (by rw [h.len]; exact hi), h.sum]; omega
theorem two_fact {p s : Int} (hp : 0 ≤ p) (hp2 : p ≤ 1000000000000) (hs : 0 ≤ s) (hs2 : s ≤ 1000) : (shareL p [s, 1000 - s]).1.length = 2 ∧ 0 ≤ el (shareL p [s, 1000 - s]).1 0 ∧ 0 ≤ el (shareL p [s, 1000 - s]).1 1 ∧ el (shareL p [s, 1000 - s]).1 0 + el (shareL p [s, 1000 - s]).1 1 = p := by
  obtain ⟨h1, h2, h3⟩ := share_fact (two_ok hp hp2 hs hs2)
  match hm : (shareL p [s, 1000 - s]).1, h1 with
  | [a, b], _ =>
    rw [hm] at h2 h3
    have := h3 a (by simp)
    have := h3 b (by simp)
    simp at h2
    refine ⟨rfl, ?_, ?_, ?_⟩ <;> simp [el] <;> omega
def contrsOk (l : List ContrS) : Prop := ∀ c ∈ l, contrB c = true
theorem contrs_ok {l : List ContrS} (h : checkC l = 0) : contrsOk l := by
  intro c hc
  obtain ⟨k, hk, rfl⟩ := List.mem_iff_getElem.1 hc
  have hl := check_len h
  unfold checkC at h
  rw [if_neg (by omega)] at h
  have := firstR_zero h k hk
  rw [errC_at hk] at this
  cases hb : contrB l[k]
  · rw [if_pos hb] at this; cases this
  · rfl
theorem contr_op {c : ContrS} (h : contrB c = true) : 0 ≤ c.op ∧ c.op < 8 ∧ 0 ≤ c.share ∧ c.share ≤ 1000 := by
  simp only [contrB, Bool.and_eq_true, decide_eq_true_eq] at h; omega
theorem AccOk.step {l : List ContrS} {acc : List Int} {s p : Int} (h : AccOk acc s) (hl : contrsOk l) (g : LegS) (hp : 0 ≤ p) (hp2 : p ≤ 1000000000000) : AccOk (stepA l g p acc) (s + p) := by
  unfold stepA
  split
  · exact h.set (by omega) hp
  · rename_i c hf
    obtain ⟨b1, b2, b3, b4⟩ := contr_op (hl c (List.mem_of_find?_eq_some hf))
    obtain ⟨t1, t2, t3, t4⟩ := two_fact hp hp2 b3 b4
    have h1 := h.set (i := (1 + c.op).toNat) (by omega) t2
    have h2 := h1.set (i := 0) (by omega) t3
    rw [show s + el (shareL p [c.share, 1000 - c.share]).1 0 + el (shareL p [c.share, 1000 - c.share]).1 1 = s + p by omega] at h2
    exact h2
theorem accK_ok {l : List ContrS} {legs : List LegS} {ps : List Int} (hl : contrsOk l) (hlen : ps.length = legs.length) (hp : ∀ x ∈ ps, 0 ≤ x) (hs : ps.sum ≤ 1000000000000) : ∀ k, k ≤ legs.length → AccOk (accK l legs ps k) (ps.take k).sum
  | 0, _ => ⟨rfl, by simp [accK, acc0], rfl⟩
  | k + 1, h => by
    have hk : k < legs.length := h
    have ih := accK_ok hl hlen hp hs k (by omega)
    have hm := el_mem (l := ps) (i := k) (by omega)
    rw [accK_succ hk, sum_take_el (by omega)]
    exact ih.step hl _ (hp _ hm) (Int.le_trans (mem_le_sum hp hm) hs)
def linesK (acc : List Int) (k : Nat) : List LineS := ((List.range k).filter fun i => el acc i != 0).map fun (i : Nat) => (⟨(i : Int), el acc i⟩ : LineS)
theorem linesK_succ (acc : List Int) (k : Nat) : linesK acc (k + 1) = linesK acc k ++ if el acc k = 0 then [] else [⟨(k : Int), el acc k⟩] := by
  unfold linesK
  rw [List.range_succ, List.filter_append, List.map_append]
  by_cases h : el acc k = 0
  · simp [h]
  · simp [h]
theorem linesK_len (acc : List Int) (k : Nat) : (linesK acc k).length ≤ k := by
  unfold linesK
  rw [List.length_map]
  exact Nat.le_trans (List.length_filter_le _ _) (by simp)
noncomputable def sharesC (l : List ContrS) (r : RideS) (amount : Int) : List LineS × Int :=
  if checkC l ≠ 0 then ([], checkC l) else if checkL r ≠ 0 then ([], checkL r) else if r.open_ = true then ([], 26) else if amount < 0 ∨ 1000000000000 < amount then ([], 1)
  else if (shareL amount (weightsL r)).2 ≠ 0 then ([], ((shareL amount (weightsL r)).2 : Int)) else (linesK (accK l r.legs (shareL amount (weightsL r)).1 r.legs.length) 9, 0)
def lnP (l : List LineS) : PV := .sl (l.map LineS.pv)
noncomputable def sharesP (l : List ContrS) (r : RideS) (amount : Int) : PV := .tup [lnP (sharesC l r amount).1, intP (sharesC l r amount).2]
theorem weights_len (r : RideS) : (weightsL r).length = r.legs.length := by
  unfold weightsL; split
  · simp
  · exact secs_len r
theorem ride_legs {r : RideS} (h : checkL r = 0) : legsOk r ∧ 1 ≤ r.legs.length ∧ r.legs.length ≤ 512 := by
  unfold checkL at h
  cases h1 : rangedL r
  · rw [if_pos h1] at h; cases h
  rw [if_neg (by rw [h1]; simp)] at h
  cases h2 : joinedL r
  · rw [if_pos h2] at h; cases h
  have hj := h2
  simp only [joinedL, lensL, Bool.and_eq_true, decide_eq_true_eq] at hj
  refine ⟨fun g hg => ?_, hj.1.1.1.1, hj.1.1.1.2⟩
  simp only [rangedL, Bool.and_eq_true] at h1
  have := List.all_eq_true.1 h1.1.2 g hg
  simp only [legV, validL, Bool.and_eq_true, decide_eq_true_eq] at this
  omega


end Go.Proofs.Ythekbdjklmellaa
