/-
  The reference's Share, walked.
-/
import Derived.Test.YtjlhnlfalomenaaDoorNr
import Derived.Test.YtjlhnlfalomenaaDoorNs
namespace Go.Proofs.YtjlhnlfalomenaaDoor
open Go.RowKit
open Nat (reduceAdd reduceEqDiff reduceLT reduceLeDiff reduceSub reducePow reduceMul)
open Int (reduceToNat reduceLE reduceEq)
set_option linter.unusedVariables false
set_option linter.unusedSimpArgs false
set_option linter.unnecessarySimpa false

theorem share_zero {T : Nat} {ws : List Nat} (hT : T = 0) : shareN T ws = List.replicate ws.length 0 := by
  subst hT
  unfold shareN
  rw [← tab_zero]
  refine tab_congr (fun i _ => ?_)
  rw [if_neg (by unfold leftN; omega)]
  simp [qN]
set_option maxHeartbeats 8000000 in
theorem rshare_g (total : Int) (ws : List Int) (hlen : ws.length ≤ 1000000) : Good Tryd.prog 27 [intP total, intsP ws] (shareP total ws) := by
  have z1 : ((1 : Nat) : Int) = 1 := rfl
  have n1 : ((1 : Nat) : Int) = 1 := rfl
  have z2 : ((2 : Nat) : Int) = 2 := rfl
  have z10 : ((10 : Nat) : Int) = 10 := rfl
  have hlen2 : ws.length ≤ maxLen := by unfold maxLen; omega
  refine good27 (by simp) ?_
  simp only [ac27, intsP, intP, AW, reduceAdd, reduceCtorEq, reduceEqDiff, ↓reduceIte, reduceLT, reduceLeDiff, reduceSub, reducePow, reduceMul, reduceToNat, reduceLE, reduceEq, Int.reduceLT, Int.reduceBEq, Int.reduceBNe]
  cases c1 : decide (total < 0)
  rotate_left
  · have e : shareL total ws = ([], 1) := share_1 (by
      have : inB total = false := by simp only [decide_eq_true_eq] at c1; simp [inB]; omega
      rw [this]; rfl)
    simp only [shareP, e, intsP, intP, List.map_nil, z1, AW, reduceAdd, reduceCtorEq, reduceEqDiff, ↓reduceIte, reduceLT, reduceLeDiff, reduceSub, reducePow, reduceMul, reduceToNat, reduceLE, reduceEq, Int.reduceLT, Int.reduceBEq, Int.reduceBNe]
  simp only [AW, reduceAdd, reduceCtorEq, reduceEqDiff, ↓reduceIte, reduceLT, reduceLeDiff, reduceSub, reducePow, reduceMul, reduceToNat, reduceLE, reduceEq, Int.reduceLT, Int.reduceBEq, Int.reduceBNe]
  cases c2 : decide ((1125899906842624 : Int) < total)
  rotate_left
  · have e : shareL total ws = ([], 1) := share_1 (by
      have : inB total = false := by simp only [decide_eq_true_eq] at c2; simp [inB]; omega
      rw [this]; rfl)
    simp only [shareP, e, intsP, intP, List.map_nil, z1, AW, reduceAdd, reduceCtorEq, reduceEqDiff, ↓reduceIte, reduceLT, reduceLeDiff, reduceSub, reducePow, reduceMul, reduceToNat, reduceLE, reduceEq, Int.reduceLT, Int.reduceBEq, Int.reduceBNe]
  have hit : inB total = true := by simp only [decide_eq_false_iff_not] at c1 c2; exact inB_iff.2 (by omega)
  simp only [List.length_map, AW, reduceAdd, reduceCtorEq, reduceEqDiff, ↓reduceIte, reduceLT, reduceLeDiff, reduceSub, reducePow, reduceMul, reduceToNat, reduceLE, reduceEq, Int.reduceLT, Int.reduceBEq, Int.reduceBNe]
  cases c3 : decide ((ws.length : Int) < 1)
  rotate_left
  · have e : shareL total ws = ([], 1) := share_1 (by
      have : decide (1 ≤ ws.length) = false := by simp only [decide_eq_true_eq] at c3; rw [decide_eq_false_iff_not]; omega
      rw [this, Bool.and_false]; rfl)
    simp only [shareP, e, intsP, intP, List.map_nil, z1, AW, reduceAdd, reduceCtorEq, reduceEqDiff, ↓reduceIte, reduceLT, reduceLeDiff, reduceSub, reducePow, reduceMul, reduceToNat, reduceLE, reduceEq, Int.reduceLT, Int.reduceBEq, Int.reduceBNe]
  simp only [List.length_map, AW, reduceAdd, reduceCtorEq, reduceEqDiff, ↓reduceIte, reduceLT, reduceLeDiff, reduceSub, reducePow, reduceMul, reduceToNat, reduceLE, reduceEq, Int.reduceLT, Int.reduceBEq, Int.reduceBNe]
  cases c4 : decide ((512 : Int) < (ws.length : Int))
  rotate_left
  · have e : shareL total ws = ([], 1) := share_1 (by
      have : decide (ws.length ≤ 512) = false := by simp only [decide_eq_true_eq] at c4; rw [decide_eq_false_iff_not]; omega
      rw [this, Bool.and_false]; rfl)
    simp only [shareP, e, intsP, intP, List.map_nil, z1, AW, reduceAdd, reduceCtorEq, reduceEqDiff, ↓reduceIte, reduceLT, reduceLeDiff, reduceSub, reducePow, reduceMul, reduceToNat, reduceLE, reduceEq, Int.reduceLT, Int.reduceBEq, Int.reduceBNe]
  have hl1 : 1 ≤ ws.length := by simp only [decide_eq_false_iff_not] at c3; omega
  have hl2 : ws.length ≤ 512 := by simp only [decide_eq_false_iff_not] at c4; omega
  simp only [AW, reduceAdd, reduceCtorEq, reduceEqDiff, ↓reduceIte, reduceLT, reduceLeDiff, reduceSub, reducePow, reduceMul, reduceToNat, reduceLE, reduceEq, Int.reduceLT, Int.reduceBEq, Int.reduceBNe]
  refine run_loop (ι := Nat) (fun k => ⟨[(0, .sc (.int .i64 total)), (1, .sl (ws.map intP)), (6, .sc (.int .i64 ((natsL (ws.take k)).sum : Int))), (7, .sc (.int .i64 (k : Int)))], [], 20, 129⟩) (fun k => k ≤ ws.length ∧ ((ws.take k).all inB = true)) (fun k => ws.length - k) 20 (fun _ => rfl) 0 (by simp only [LW, Nat.reduceMod, Nat.reduceDiv, Int.natCast_zero, List.take_zero, natsL, List.map_nil, List.sum_nil, Int.natCast_zero, AW, reduceAdd, reduceCtorEq, reduceEqDiff, ↓reduceIte, reduceLT, reduceLeDiff, reduceSub, reducePow, reduceMul, reduceToNat, reduceLE, reduceEq, Int.reduceLT, Int.reduceBEq, Int.reduceBNe]) ⟨Nat.zero_le _, rfl⟩ (fun k hk => ?_)
  obtain ⟨gk, ik⟩ := hk
  by_cases hltk : k < ws.length
  rotate_left
  · have dk : decide ((k : Int) < ((ws.length : Nat) : Int)) = false := by rw [decide_eq_false_iff_not]; exact fun h => hltk (Int.ofNat_lt.1 h)
    have ek : k = ws.length := Nat.le_antisymm gk (Nat.le_of_not_lt hltk)
    subst ek
    rw [List.take_length] at ik ⊢
    have hh : (inB total && decide (1 ≤ ws.length) && decide (ws.length ≤ 512) && ws.all inB) = true := by rw [hit, decide_eq_true hl1, decide_eq_true hl2, ik]; rfl
    simp only [dk, List.length_map, AW, reduceAdd, reduceCtorEq, reduceEqDiff, ↓reduceIte, reduceLT, reduceLeDiff, reduceSub, reducePow, reduceMul, reduceToNat, reduceLE, reduceEq, Int.reduceLT, Int.reduceBEq, Int.reduceBNe]
    by_cases hS : 1125899906842624 < (natsL ws).sum
    · have d1 : decide ((1125899906842624 : Int) < ((natsL ws).sum : Int)) = true := by rw [decide_eq_true_eq]; omega
      simp only [d1, shareP, share_2 hh hS, intsP, intP, List.map_nil, z2, AW, reduceAdd, reduceCtorEq, reduceEqDiff, ↓reduceIte, reduceLT, reduceLeDiff, reduceSub, reducePow, reduceMul, reduceToNat, reduceLE, reduceEq, Int.reduceLT, Int.reduceBEq, Int.reduceBNe]
    have d1 : decide ((1125899906842624 : Int) < ((natsL ws).sum : Int)) = false := by rw [decide_eq_false_iff_not]; omega
    have hT := inB_iff.1 hit
    by_cases h0 : (natsL ws).sum = 0
    · have d2 : (((natsL ws).sum : Int) == 0) = true := by rw [h0]; rfl
      by_cases ht : 0 < total
      · have d3 : decide ((0 : Int) < total) = true := decide_eq_true ht
        simp only [d1, d2, d3, shareP, share_10 hh hS ⟨h0, ht⟩, intsP, intP, List.map_nil, z10, AW, reduceAdd, reduceCtorEq, reduceEqDiff, ↓reduceIte, reduceLT, reduceLeDiff, reduceSub, reducePow, reduceMul, reduceToNat, reduceLE, reduceEq, Int.reduceLT, Int.reduceBEq, Int.reduceBNe]
      · have d3 : decide ((0 : Int) < total) = false := decide_eq_false ht
        have f0 : (0 : Int) ≤ (ws.length : Int) := by omega
        have f2 : ((8 : Nat) : Int) * (ws.length : Int) ≤ 281474976710656 := by omega
        have f3 : (ws.length : Int) ≤ 9223372036854775807 := by omega
        simp only [d1, d2, d3, List.length_map, f0, f2, f3, AW, reduceAdd, reduceCtorEq, reduceEqDiff, ↓reduceIte, reduceLT, reduceLeDiff, reduceSub, reducePow, reduceMul, reduceToNat, reduceLE, reduceEq, Int.reduceLT, Int.reduceBEq, Int.reduceBNe]
        have hz := share_ok hh hS (fun h => ht h.2)
        rw [share_zero (by omega), natsL_len] at hz
        simp only [shareP, hz, intsP, intP, List.map_replicate, Int.natCast_zero, AW, reduceAdd, reduceCtorEq, reduceEqDiff, ↓reduceIte, reduceLT, reduceLeDiff, reduceSub, reducePow, reduceMul, reduceToNat, reduceLE, reduceEq, Int.reduceLT, Int.reduceBEq, Int.reduceBNe]
    have d2 : (((natsL ws).sum : Int) == 0) = false := by simp; omega
    have hok := share_ok hh hS (fun h => h0 h.1)
    unfold shareP
    rw [hok]
    obtain ⟨S, hS'⟩ : ∃ S, S = (natsL ws).sum := ⟨_, rfl⟩
    obtain ⟨T, hT'⟩ : ∃ T : Nat, (T : Int) = total := ⟨total.toNat, by omega⟩
    have hTn : total.toNat = T := by omega
    rw [hTn]
    rw [← hS'] at d1 d2 hS h0 ⊢
    have hS := hS'
    subst hT'
    have hS0 : 0 < S := by omega
    have hs2 : S ≤ 1125899906842624 := by omega
    have hTm : T ≤ 1125899906842624 := by omega
    have qle : ∀ i, i < ws.length → qN T S (natsL ws) i ≤ T := by
      intro i hi
      unfold qN
      have hw : (natsL ws).getD i 0 ≤ S := by rw [hS]; exact le_sum (by rw [natsL_len]; exact hi)
      refine Nat.div_le_of_le_mul ?_
      rw [Nat.mul_comm]; exact Nat.mul_le_mul_right _ hw
    have sq0 : sumQ T S (natsL ws) 0 = 0 := rfl
    have hqs : sumQ T S (natsL ws) ws.length ≤ T ∧ T - sumQ T S (natsL ws) ws.length < ws.length := by
      have e : sumQ T S (natsL ws) ws.length = ((natsL ws).map fun w => T * w / S).sum := by unfold sumQ; rw [← natsL_len ws, List.take_length]
      rw [e, hS]
      have := left_bound (T := T) (ws := natsL ws) (by omega) (by rw [natsL_len]; omega)
      rw [natsL_len] at this
      exact this
    have tz : ∀ f, tabI 0 f = [] := fun f => rfl
    simp only [d1, d2, AW, reduceAdd, reduceCtorEq, reduceEqDiff, ↓reduceIte, reduceLT, reduceLeDiff, reduceSub, reducePow, reduceMul, reduceToNat, reduceLE, reduceEq, Int.reduceLT, Int.reduceBEq, Int.reduceBNe]
    refine run_loop (ι := Nat) (fun k => ⟨[(0, .sc (.int .i64 (T : Int))), (1, .sl (ws.map intP)), (6, .sc (.int .i64 (S : Int))), (8, .own 39 0), (9, .own 40 0), (10, .sc (.int .i64 ((T - sumQ T S (natsL ws) k : Nat) : Int))), (11, .sc (.int .i64 (k : Int)))], [(39, .row 3 1 0 ((tabI k fun i => (qN T S (natsL ws) i : Int)).map intP)), (40, .row 3 1 0 ((tabI k fun i => (rN T S (natsL ws) i : Int)).map intP))], 41, 129⟩) (fun k => k ≤ ws.length) (fun k => ws.length - k) 41 (fun _ => rfl) 0 (by simp only [LW, Nat.reduceMod, Nat.reduceDiv, Int.natCast_zero, tz, List.map_nil, sq0, Nat.sub_zero, Int.natCast_zero, AW, reduceAdd, reduceCtorEq, reduceEqDiff, ↓reduceIte, reduceLT, reduceLeDiff, reduceSub, reducePow, reduceMul, reduceToNat, reduceLE, reduceEq, Int.reduceLT, Int.reduceBEq, Int.reduceBNe]) (Nat.zero_le _) (fun k hk => ?_)
    have gk := hk
    by_cases hltk : k < ws.length
    rotate_left
    · have dk : decide ((k : Int) < ((ws.length : Nat) : Int)) = false := by rw [decide_eq_false_iff_not]; exact fun h => hltk (Int.ofNat_lt.1 h)
      have ek : k = ws.length := Nat.le_antisymm gk (Nat.le_of_not_lt hltk)
      subst ek
      have e5 : (tabI ws.length fun i => (qN T S (natsL ws) i : Int)) = (tabI ws.length fun i => (qN T S (natsL ws) i : Int) + if rankR (rN T S (natsL ws)) ws.length i < 0 then 1 else 0) := tab_congr (fun i hi => by rw [if_neg (Nat.not_lt_zero _)]; omega)
      have e6 : (tabI ws.length fun i => (rN T S (natsL ws) i : Int)) = (tabI ws.length fun i => if rankR (rN T S (natsL ws)) ws.length i < 0 then -1 else (rN T S (natsL ws) i : Int)) := tab_congr (fun i hi => by rw [if_neg (Nat.not_lt_zero _)])
      obtain ⟨l2, h2⟩ := order_exists (rN T S (natsL ws)) ws.length
      obtain ⟨L, hL⟩ : ∃ L, L = T - sumQ T S (natsL ws) ws.length := ⟨_, rfl⟩
      rw [← hL] at hqs ⊢
      simp only [dk, List.length_map, e5, e6, AW, reduceAdd, reduceCtorEq, reduceEqDiff, ↓reduceIte, reduceLT, reduceLeDiff, reduceSub, reducePow, reduceMul, reduceToNat, reduceLE, reduceEq, Int.reduceLT, Int.reduceBEq, Int.reduceBNe]
      refine run_loop (ι := Nat) (fun k => ⟨[(8, .own 39 0), (9, .own 40 0), (10, .sc (.int .i64 ((L - k : Nat) : Int)))], [(39, .row 3 1 0 ((tabI ws.length fun i => (qN T S (natsL ws) i : Int) + if rankR (rN T S (natsL ws)) ws.length i < k then 1 else 0).map intP)), (40, .row 3 1 0 ((tabI ws.length fun i => if rankR (rN T S (natsL ws)) ws.length i < k then -1 else (rN T S (natsL ws) i : Int)).map intP))], 45, 129⟩) (fun k => k ≤ L) (fun k => L - k) 45 (fun _ => rfl) 0 (by simp only [LW, Nat.reduceMod, Nat.reduceDiv, Nat.sub_zero, AW, reduceAdd, reduceCtorEq, reduceEqDiff, ↓reduceIte, reduceLT, reduceLeDiff, reduceSub, reducePow, reduceMul, reduceToNat, reduceLE, reduceEq, Int.reduceLT, Int.reduceBEq, Int.reduceBNe]) (Nat.zero_le _) (fun k gk => ?_)
      by_cases hkL : k < L
      rotate_left
      · have dk : decide ((0 : Int) < ((L - k : Nat) : Int)) = false := by rw [decide_eq_false_iff_not]; omega
        have ek : k = L := by omega
        subst ek
        have fin : (tabI ws.length fun i => (qN T S (natsL ws) i : Int) + if rankR (rN T S (natsL ws)) ws.length i < k then 1 else 0) = shareN T (natsL ws) := by unfold shareN leftN; rw [natsL_len, ← hS, ← hL]
        simp only [dk, fin, intsP, intP, Int.natCast_zero, AW, reduceAdd, reduceCtorEq, reduceEqDiff, ↓reduceIte, reduceLT, reduceLeDiff, reduceSub, reducePow, reduceMul, reduceToNat, reduceLE, reduceEq, Int.reduceLT, Int.reduceBEq, Int.reduceBNe]
      have dk : decide ((0 : Int) < ((L - k : Nat) : Int)) = true := by rw [decide_eq_true_eq]; omega
      have hkn : k < ws.length := by omega
      simp only [dk, AW, reduceAdd, reduceCtorEq, reduceEqDiff, ↓reduceIte, reduceLT, reduceLeDiff, reduceSub, reducePow, reduceMul, reduceToNat, reduceLE, reduceEq, Int.reduceLT, Int.reduceBEq, Int.reduceBNe]
      refine run_loop (ι := Nat × Nat) (fun x => ⟨[(8, .own 39 0), (9, .own 40 0), (10, .sc (.int .i64 ((L - k : Nat) : Int))), (14, .sc (.int .i64 (x.1 : Int))), (15, .sc (.int .i64 (x.2 : Int)))], [(39, .row 3 1 0 ((tabI ws.length fun i => (qN T S (natsL ws) i : Int) + if rankR (rN T S (natsL ws)) ws.length i < k then 1 else 0).map intP)), (40, .row 3 1 0 ((tabI ws.length fun i => if rankR (rN T S (natsL ws)) ws.length i < k then -1 else (rN T S (natsL ws) i : Int)).map intP))], 49, 129⟩) (fun x => x.1 < x.2 ∧ x.2 ≤ ws.length ∧ (∀ j, j < x.2 → el (tabI ws.length fun i => if rankR (rN T S (natsL ws)) ws.length i < k then -1 else (rN T S (natsL ws) i : Int)) j ≤ el (tabI ws.length fun i => if rankR (rN T S (natsL ws)) ws.length i < k then -1 else (rN T S (natsL ws) i : Int)) x.1) ∧ (∀ j, j < x.1 → el (tabI ws.length fun i => if rankR (rN T S (natsL ws)) ws.length i < k then -1 else (rN T S (natsL ws) i : Int)) j < el (tabI ws.length fun i => if rankR (rN T S (natsL ws)) ws.length i < k then -1 else (rN T S (natsL ws) i : Int)) x.1)) (fun x => ws.length - x.2) 49 (fun _ => rfl) (0, 1) (by simp only [LW, Nat.reduceMod, Nat.reduceDiv, Int.natCast_zero, n1, AW, reduceAdd, reduceCtorEq, reduceEqDiff, ↓reduceIte, reduceLT, reduceLeDiff, reduceSub, reducePow, reduceMul, reduceToNat, reduceLE, reduceEq, Int.reduceLT, Int.reduceBEq, Int.reduceBNe]) ⟨Nat.zero_lt_one, hl1, fun j hj => by have : j = 0 := (by simp only at hj; omega); subst this; exact Int.le_refl _, fun j hj => absurd hj (Nat.not_lt_zero _)⟩ ?_
      rintro ⟨b, i⟩ ⟨i1, i2, i3, i4⟩
      simp only at i1 i2 i3 i4
      have fl : (tabI ws.length fun i => if rankR (rN T S (natsL ws)) ws.length i < k then -1 else (rN T S (natsL ws) i : Int)).length = ws.length := tab_len _ _
      have pl : (tabI ws.length fun i => (qN T S (natsL ws) i : Int) + if rankR (rN T S (natsL ws)) ws.length i < k then 1 else 0).length = ws.length := tab_len _ _
      have bb : b < (tabI ws.length fun i => if rankR (rN T S (natsL ws)) ws.length i < k then -1 else (rN T S (natsL ws) i : Int)).length := by rw [fl]; omega
      by_cases hi : i < ws.length
      · have d1 : decide ((i : Int) < (ws.length : Int)) = true := by rw [dlt, decide_eq_true_eq]; exact hi
        have bi : i < (tabI ws.length fun i => if rankR (rN T S (natsL ws)) ws.length i < k then -1 else (rN T S (natsL ws) i : Int)).length := by rw [fl]; exact hi
        simp only [List.length_map, fl, d1, AW, reduceAdd, reduceCtorEq, reduceEqDiff, ↓reduceIte, reduceLT, reduceLeDiff, reduceSub, reducePow, reduceMul, reduceToNat, reduceLE, reduceEq, Int.reduceLT, Int.reduceBEq, Int.reduceBNe]
        have hbw : b < ws.length := by omega
        (try simp only [List.length_map, fl, hi, hbw, map_el bb, map_el bi, AW, reduceAdd, reduceCtorEq, reduceEqDiff, ↓reduceIte, reduceLT, reduceLeDiff, reduceSub, reducePow, reduceMul, reduceToNat, reduceLE, reduceEq, Int.reduceLT, Int.reduceBEq, Int.reduceBNe])
        refine drawnK rfl ?_
        by_cases hg : el (tabI ws.length fun i => if rankR (rN T S (natsL ws)) ws.length i < k then -1 else (rN T S (natsL ws) i : Int)) b < el (tabI ws.length fun i => if rankR (rN T S (natsL ws)) ws.length i < k then -1 else (rN T S (natsL ws) i : Int)) i
        · have d2 : decide (el (tabI ws.length fun i => if rankR (rN T S (natsL ws)) ws.length i < k then -1 else (rN T S (natsL ws) i : Int)) b < el (tabI ws.length fun i => if rankR (rN T S (natsL ws)) ws.length i < k then -1 else (rN T S (natsL ws) i : Int)) i) = true := decide_eq_true hg
          simp only [d2, wrap_succ hi hlen2, AW, reduceAdd, reduceCtorEq, reduceEqDiff, ↓reduceIte, reduceLT, reduceLeDiff, reduceSub, reducePow, reduceMul, reduceToNat, reduceLE, reduceEq, Int.reduceLT, Int.reduceBEq, Int.reduceBNe]
          refine ⟨(i, i + 1), ⟨Nat.lt_succ_self _, hi, fun j hj => ?_, fun j hj => ?_⟩, ?_, by simp only; omega⟩
          · simp only at hj ⊢
            by_cases hji : j = i
            · subst hji; exact Int.le_refl _
            · have := i3 j (by omega); omega
          · simp only at hj ⊢
            have := i3 j hj; omega
          · simp only [LW, Nat.reduceMod, Nat.reduceDiv, AW, reduceAdd, reduceCtorEq, reduceEqDiff, ↓reduceIte, reduceLT, reduceLeDiff, reduceSub, reducePow, reduceMul, reduceToNat, reduceLE, reduceEq, Int.reduceLT, Int.reduceBEq, Int.reduceBNe]
        · have d2 : decide (el (tabI ws.length fun i => if rankR (rN T S (natsL ws)) ws.length i < k then -1 else (rN T S (natsL ws) i : Int)) b < el (tabI ws.length fun i => if rankR (rN T S (natsL ws)) ws.length i < k then -1 else (rN T S (natsL ws) i : Int)) i) = false := decide_eq_false hg
          simp only [d2, wrap_succ hi hlen2, AW, reduceAdd, reduceCtorEq, reduceEqDiff, ↓reduceIte, reduceLT, reduceLeDiff, reduceSub, reducePow, reduceMul, reduceToNat, reduceLE, reduceEq, Int.reduceLT, Int.reduceBEq, Int.reduceBNe]
          refine ⟨(b, i + 1), ⟨by simp only; omega, hi, fun j hj => ?_, i4⟩, ?_, by simp only; omega⟩
          · simp only at hj ⊢
            by_cases hji : j = i
            · subst hji; omega
            · exact i3 j (by omega)
          · simp only [LW, Nat.reduceMod, Nat.reduceDiv, AW, reduceAdd, reduceCtorEq, reduceEqDiff, ↓reduceIte, reduceLT, reduceLeDiff, reduceSub, reducePow, reduceMul, reduceToNat, reduceLE, reduceEq, Int.reduceLT, Int.reduceBEq, Int.reduceBNe]
      have d1 : decide ((i : Int) < (ws.length : Int)) = false := by rw [dlt, decide_eq_false_iff_not]; exact hi
      have hin : i = ws.length := by omega
      subst hin
      have hbn : b < ws.length := by omega
      have ee := best_next h2 (f := fun i => if rankR (rN T S (natsL ws)) ws.length i < k then -1 else (rN T S (natsL ws) i : Int)) hkn hbn (fun i hi => rfl) (fun j hj => by
        have := i3 j hj
        rw [tab_el hj, tab_el hbn] at this; exact this) (fun j hj => by
        have := i4 j hj
        rw [tab_el (by omega), tab_el hbn] at this; exact this)
      have re := order_rank h2 hkn ee
      have bp : b < (tabI ws.length fun i => (qN T S (natsL ws) i : Int) + if rankR (rN T S (natsL ws)) ws.length i < k then 1 else 0).length := by rw [pl]; exact hbn
      have e1 : el (tabI ws.length fun i => (qN T S (natsL ws) i : Int) + if rankR (rN T S (natsL ws)) ws.length i < k then 1 else 0) b = (qN T S (natsL ws) b : Int) := by rw [tab_el hbn, re, if_neg (Nat.lt_irrefl k)]; omega
      have hq := qle b hbn
      have w3 : IntKind.i64.wrap ((qN T S (natsL ws) b : Int) + 1) = (qN T S (natsL ws) b : Int) + 1 := wrap_id (by unfold I64; omega)
      have key : ∀ i, i < ws.length → i ≠ b → (rankR (rN T S (natsL ws)) ws.length i < k ↔ rankR (rN T S (natsL ws)) ws.length i < k + 1) := by
        intro i hi hib
        have : rankR (rN T S (natsL ws)) ws.length i ≠ k := fun h => hib (rank_inj h2 hi hkn ee h)
        omega
      have s1 : ((tabI ws.length fun i => (qN T S (natsL ws) i : Int) + if rankR (rN T S (natsL ws)) ws.length i < k then 1 else 0).map intP).set b (.sc (.int .i64 ((qN T S (natsL ws) b : Int) + 1))) = (tabI ws.length fun i => (qN T S (natsL ws) i : Int) + if rankR (rN T S (natsL ws)) ws.length i < (k + 1) then 1 else 0).map intP := by
        show ((tabI ws.length fun i => (qN T S (natsL ws) i : Int) + if rankR (rN T S (natsL ws)) ws.length i < k then 1 else 0).map intP).set b (intP ((qN T S (natsL ws) b : Int) + 1)) = _
        rw [← List.map_set, tab_set]
        congr 1
        refine tab_congr (fun i hi => ?_)
        by_cases hib : i = b
        · subst hib; rw [if_pos rfl, re, if_pos (Nat.lt_succ_self k)]
        · rw [if_neg hib]; simp only [key i hi hib]
      have s2 : ((tabI ws.length fun i => if rankR (rN T S (natsL ws)) ws.length i < k then -1 else (rN T S (natsL ws) i : Int)).map intP).set b (.sc (.int .i64 (-1))) = (tabI ws.length fun i => if rankR (rN T S (natsL ws)) ws.length i < (k + 1) then -1 else (rN T S (natsL ws) i : Int)).map intP := by
        show ((tabI ws.length fun i => if rankR (rN T S (natsL ws)) ws.length i < k then -1 else (rN T S (natsL ws) i : Int)).map intP).set b (intP (-1)) = _
        rw [← List.map_set, tab_set]
        congr 1
        refine tab_congr (fun i hi => ?_)
        by_cases hib : i = b
        · subst hib; rw [if_pos rfl, re, if_pos (Nat.lt_succ_self k)]
        · rw [if_neg hib]; simp only [key i hi hib]
      have w4 : IntKind.i64.wrap (((L - k : Nat) : Int) - 1) = ((L - (k + 1) : Nat) : Int) := by rw [wrap_id (by unfold I64; omega)]; omega
      simp only [List.length_map, fl, d1, AW, reduceAdd, reduceCtorEq, reduceEqDiff, ↓reduceIte, reduceLT, reduceLeDiff, reduceSub, reducePow, reduceMul, reduceToNat, reduceLE, reduceEq, Int.reduceLT, Int.reduceBEq, Int.reduceBNe]
      (try simp only [List.length_map, List.length_set, pl, fl, hbn, map_el bp, e1, w3, s1, s2, w4, AW, reduceAdd, reduceCtorEq, reduceEqDiff, ↓reduceIte, reduceLT, reduceLeDiff, reduceSub, reducePow, reduceMul, reduceToNat, reduceLE, reduceEq, Int.reduceLT, Int.reduceBEq, Int.reduceBNe])
      refine ⟨k + 1, hkL, ?_, by omega⟩
      simp only [LW, Nat.reduceMod, Nat.reduceDiv, AW, reduceAdd, reduceCtorEq, reduceEqDiff, ↓reduceIte, reduceLT, reduceLeDiff, reduceSub, reducePow, reduceMul, reduceToNat, reduceLE, reduceEq, Int.reduceLT, Int.reduceBEq, Int.reduceBNe]
    have dk : decide ((k : Int) < ((ws.length : Nat) : Int)) = true := by rw [decide_eq_true_eq]; exact Int.ofNat_lt.2 hltk
    have wk := natsL_get ik hltk
    have hwk : (natsL ws).getD k 0 ≤ S := by rw [hS]; exact le_sum (by rw [natsL_len]; exact hltk)
    have hsq : sumQ T S (natsL ws) (k + 1) ≤ sumQ T S (natsL ws) ws.length := by rw [← natsL_len ws]; exact sumQ_le (ws.length - (k + 1)) (k + 1) (by rw [natsL_len]; omega)
    have hsk := sumQ_succ (T := T) (S := S) (ws := natsL ws) (k := k) (by rw [natsL_len]; exact hltk)
    have w2 : IntKind.i64.wrap (((T - sumQ T S (natsL ws) k : Nat) : Int) - (qN T S (natsL ws) k : Int)) = ((T - sumQ T S (natsL ws) (k + 1) : Nat) : Int) := by
      rw [wrap_id (by unfold I64; omega)]; omega
    have hd := divide_g T ((natsL ws).getD k 0) S hTm (by omega) hS0 hs2
    have hqk : T * (natsL ws).getD k 0 / S ≤ 1125899906842625 := Nat.le_trans (qle k hltk) (by omega)
    rw [divP, Nat.min_eq_left hqk, ← wk] at hd
    change Good Tryd.prog _ _ (.tup [intP (qN T S (natsL ws) k : Int), intP (rN T S (natsL ws) k : Int)]) at hd
    have a1 : k + 1 ≤ maxLen := by unfold maxLen; omega
    have a2 : (k + 1) * 8 ≤ 140737488355328 := by omega
    simp only [dk, List.length_map, map_getD hltk, hltk, intP, AW, reduceAdd, reduceCtorEq, reduceEqDiff, ↓reduceIte, reduceLT, reduceLeDiff, reduceSub, reducePow, reduceMul, reduceToNat, reduceLE, reduceEq, Int.reduceLT, Int.reduceBEq, Int.reduceBNe]
    refine ops_call (hd) (by simp only [intP, AW, reduceAdd, reduceCtorEq, reduceEqDiff, ↓reduceIte, reduceLT, reduceLeDiff, reduceSub, reducePow, reduceMul, reduceToNat, reduceLE, reduceEq, Int.reduceLT, Int.reduceBEq, Int.reduceBNe]) ?_; simp only [intP, AW, reduceAdd, reduceCtorEq, reduceEqDiff, ↓reduceIte, reduceLT, reduceLeDiff, reduceSub, reducePow, reduceMul, reduceToNat, reduceLE, reduceEq, Int.reduceLT, Int.reduceBEq, Int.reduceBNe]
    simp only [List.length_map, tab_len, a1, a2, w2, AW, reduceAdd, reduceCtorEq, reduceEqDiff, ↓reduceIte, reduceLT, reduceLeDiff, reduceSub, reducePow, reduceMul, reduceToNat, reduceLE, reduceEq, Int.reduceLT, Int.reduceBEq, Int.reduceBNe]
    (try simp only [wrap_succ hltk hlen2, AW, reduceAdd, reduceCtorEq, reduceEqDiff, ↓reduceIte, reduceLT, reduceLeDiff, reduceSub, reducePow, reduceMul, reduceToNat, reduceLE, reduceEq, Int.reduceLT, Int.reduceBEq, Int.reduceBNe])
    refine ⟨k + 1, hltk, ?_, meas_lt hltk⟩
    simp only [LW, Nat.reduceMod, Nat.reduceDiv, tab_succ, List.map_append, intP, AW, reduceAdd, reduceCtorEq, reduceEqDiff, ↓reduceIte, reduceLT, reduceLeDiff, reduceSub, reducePow, reduceMul, reduceToNat, reduceLE, reduceEq, Int.reduceLT, Int.reduceBEq, Int.reduceBNe]
  have dk : decide ((k : Int) < ((ws.length : Nat) : Int)) = true := by rw [decide_eq_true_eq]; exact Int.ofNat_lt.2 hltk
  simp only [dk, List.length_map, map_getD hltk, hltk, intP, AW, reduceAdd, reduceCtorEq, reduceEqDiff, ↓reduceIte, reduceLT, reduceLeDiff, reduceSub, reducePow, reduceMul, reduceToNat, reduceLE, reduceEq, Int.reduceLT, Int.reduceBEq, Int.reduceBNe]
  cases b1 : decide (ws[k] < 0)
  rotate_left
  · have e : shareL total ws = ([], 1) := share_1 (by
      have : ws.all inB = false := by
        rw [List.all_eq_false]
        exact ⟨_, List.getElem_mem hltk, by simp only [decide_eq_true_eq] at b1; simp [inB]; omega⟩
      rw [this, Bool.and_false])
    simp only [shareP, e, intsP, intP, List.map_nil, z1, AW, reduceAdd, reduceCtorEq, reduceEqDiff, ↓reduceIte, reduceLT, reduceLeDiff, reduceSub, reducePow, reduceMul, reduceToNat, reduceLE, reduceEq, Int.reduceLT, Int.reduceBEq, Int.reduceBNe]
  simp only [List.length_map, map_getD hltk, hltk, intP, AW, reduceAdd, reduceCtorEq, reduceEqDiff, ↓reduceIte, reduceLT, reduceLeDiff, reduceSub, reducePow, reduceMul, reduceToNat, reduceLE, reduceEq, Int.reduceLT, Int.reduceBEq, Int.reduceBNe]
  cases b2 : decide ((1125899906842624 : Int) < ws[k])
  rotate_left
  · have e : shareL total ws = ([], 1) := share_1 (by
      have : ws.all inB = false := by
        rw [List.all_eq_false]
        exact ⟨_, List.getElem_mem hltk, by simp only [decide_eq_true_eq] at b2; simp [inB]; omega⟩
      rw [this, Bool.and_false])
    simp only [shareP, e, intsP, intP, List.map_nil, z1, AW, reduceAdd, reduceCtorEq, reduceEqDiff, ↓reduceIte, reduceLT, reduceLeDiff, reduceSub, reducePow, reduceMul, reduceToNat, reduceLE, reduceEq, Int.reduceLT, Int.reduceBEq, Int.reduceBNe]
  have hb : inB ws[k] = true := by simp only [decide_eq_false_iff_not] at b1 b2; exact inB_iff.2 (by omega)
  have hb2 := inB_iff.1 hb
  have hsum : (natsL (ws.take k)).sum ≤ 576460752303423488 := by
    have h1 := nats_sum_le ik
    rw [List.length_take] at h1
    have h2 : min k ws.length ≤ 512 := by omega
    exact Nat.le_trans h1 (Nat.le_trans (Nat.mul_le_mul_right _ h2) (by decide))
  have w1 : IntKind.i64.wrap (((natsL (ws.take k)).sum : Int) + ws[k]) = (((natsL (ws.take (k + 1))).sum : Nat) : Int) := by
    rw [sum_take_succ hltk, wrap_id (by unfold I64; omega)]; omega
  simp only [List.length_map, map_getD hltk, hltk, intP, w1, AW, reduceAdd, reduceCtorEq, reduceEqDiff, ↓reduceIte, reduceLT, reduceLeDiff, reduceSub, reducePow, reduceMul, reduceToNat, reduceLE, reduceEq, Int.reduceLT, Int.reduceBEq, Int.reduceBNe]
  (try simp only [wrap_succ hltk hlen2, AW, reduceAdd, reduceCtorEq, reduceEqDiff, ↓reduceIte, reduceLT, reduceLeDiff, reduceSub, reducePow, reduceMul, reduceToNat, reduceLE, reduceEq, Int.reduceLT, Int.reduceBEq, Int.reduceBNe])
  refine ⟨k + 1, ⟨hltk, by rw [all_take_succ hltk, ik, hb]; rfl⟩, ?_, meas_lt hltk⟩
  simp only [LW, Nat.reduceMod, Nat.reduceDiv, AW, reduceAdd, reduceCtorEq, reduceEqDiff, ↓reduceIte, reduceLT, reduceLeDiff, reduceSub, reducePow, reduceMul, reduceToNat, reduceLE, reduceEq, Int.reduceLT, Int.reduceBEq, Int.reduceBNe]


end Go.Proofs.YtjlhnlfalomenaaDoor
