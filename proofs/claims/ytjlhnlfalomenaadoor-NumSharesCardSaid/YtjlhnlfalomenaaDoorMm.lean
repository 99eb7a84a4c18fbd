/-
  Numbers: the law of parts.
-/
import Derived.Test.YtjlhnlfalomenaaDoorMl
import Derived.Test.YtjlhnlfalomenaaDoorNd
namespace Go.Proofs.YtjlhnlfalomenaaDoor
open Go.RowKit
open Nat (reduceAdd reduceEqDiff reduceLT reduceLeDiff reduceSub reducePow reduceMul)
open Int (reduceToNat reduceLE reduceEq)
set_option linter.unusedVariables false
set_option linter.unusedSimpArgs false
set_option linter.unnecessarySimpa false

theorem inB_rg0 (n : Int) : inB n = rg0 n := rfl
theorem all_rg0 (l : List Int) : l.all inB = l.all rg0 := rfl
theorem mem_le_sumP {l : List Int} (h : ∀ x ∈ l, 0 ≤ x) {x : Int} (hx : x ∈ l) : x ≤ l.sum ∧ 0 ≤ l.sum := by
  induction l with
  | nil => cases hx
  | cons y l ih =>
    have hs : 0 ≤ l.sum := by
      clear ih hx
      induction l with
      | nil => exact Int.le_refl _
      | cons z l ih => rw [List.sum_cons]; have := ih (fun x hx => h x (by simp at hx ⊢; rcases hx with hx | hx <;> simp [hx])); have := h z (by simp); omega
    rw [List.sum_cons]
    have hy := h y (by simp)
    rcases List.mem_cons.1 hx with rfl | hx
    · omega
    · have := ih (fun z hz => h z (by simp [hz])) hx; omega
set_option maxRecDepth 20000 in
set_option maxHeartbeats 8000000 in
theorem shares_main (T : Nat) (ws : List Int) (hT : T ≤ 1125899906842624) (h1 : 1 ≤ ws.length) (h2 : ws.length ≤ 512) (hall : ws.all inB = true) (hS : (natsL ws).sum ≤ 1125899906842624) (hz : ¬((natsL ws).sum = 0 ∧ 0 < T)) : Good Tryd.prog 10 [intP (T : Int), intsP ws] (.sc (.bool true)) := by
  have hlen : ws.length ≤ maxLen := by unfold maxLen; omega
  have hc : (inB (T : Int) && decide (1 ≤ ws.length) && decide (ws.length ≤ 512) && ws.all inB) = true := by
    rw [hall, inB_iff.2 ⟨by omega, by omega⟩]; simp [h1, h2]
  have hsh : shareL (T : Int) ws = (shareN T (natsL ws), 0) := by
    rw [share_ok hc (by omega) (fun h => hz ⟨h.1, by omega⟩), Int.toNat_natCast]
  obtain ⟨f1, f2, f3⟩ := shareN_sum (T := T) (ws := natsL ws) (by rw [natsL_len]; omega) hz
  rw [natsL_len] at f2
  have gS : Good Tryd.prog 26 [intP (T : Int), intsP ws] (.tup [intsP (shareN T (natsL ws)), intP 0]) := by
    have g := share_g (T : Int) ws (by omega)
    rw [shareP, hsh] at g; exact g
  have gs := lsum_g ws (by omega)
  rw [sumP, if_pos (show ws.all rg0 = true from hall), nats_sum (show ws.all rg0 = true from hall)] at gs
  have fall : (shareN T (natsL ws)).all rg0 = true := List.all_eq_true.2 (fun x hx => rg0_iff.2 ⟨f3 x hx, by have := (mem_le_sumP f3 hx).1; omega⟩)
  have gl := lsum_g (shareN T (natsL ws)) (by omega)
  rw [sumP, if_pos fall, f1] at gl
  have gc := count_g (T : Int) 0
  rw [show (decide ((0 : Int) ≤ (T : Int)) && decide ((T : Int) ≤ 1125899906842624)) = true by simp; omega] at gc
  have mono : ∀ i k, i < ws.length → k < ws.length → (natsL ws).getD k 0 < (natsL ws).getD i 0 → el (shareN T (natsL ws)) k ≤ el (shareN T (natsL ws)) i := fun i k hi hk hw => share_mono hz (by rw [natsL_len]; exact hi) (by rw [natsL_len]; exact hk) hw
  have same : ∀ i k, i < ws.length → k < i → (natsL ws).getD k 0 = (natsL ws).getD i 0 → el (shareN T (natsL ws)) i ≤ el (shareN T (natsL ws)) k ∧ el (shareN T (natsL ws)) k ≤ el (shareN T (natsL ws)) i + 1 := fun i k hi hk hw => share_same (by rw [natsL_len]; exact hi) hk hw
  have parts : ∀ i, i < ws.length → el (shareN T (natsL ws)) i = (qN T (natsL ws).sum (natsL ws) i : Int) ∨ (el (shareN T (natsL ws)) i = (qN T (natsL ws).sum (natsL ws) i : Int) + 1 ∧ 0 < rN T (natsL ws).sum (natsL ws) i) := by
    intro i hi
    have hi' : i < (natsL ws).length := by rw [natsL_len]; exact hi
    rw [share_el hi']
    by_cases hb : rankR (rN T (natsL ws).sum (natsL ws)) (natsL ws).length i < leftN T (natsL ws)
    · right; exact ⟨by unfold bump; rw [if_pos hb], rest_pos hz hi' hb⟩
    · left; unfold bump; rw [if_neg hb]; omega
  have wget : ∀ i (hi : i < ws.length), ws[i] = (((natsL ws).getD i 0 : Nat) : Int) := fun i hi => natsL_get hall hi
  have wle : ∀ i, i < ws.length → (natsL ws).getD i 0 ≤ (natsL ws).sum := fun i hi => le_sum (by rw [natsL_len]; exact hi)
  have qle : ∀ i, i < ws.length → 0 < (natsL ws).sum → qN T (natsL ws).sum (natsL ws) i ≤ T := by
    intro i hi hs
    unfold qN
    have h3 : T * (natsL ws).getD i 0 ≤ T * (natsL ws).sum := Nat.mul_le_mul_left _ (wle i hi)
    have h4 := Nat.div_le_div_right (c := (natsL ws).sum) h3
    rw [Nat.mul_div_cancel _ hs] at h4; exact h4
  have zero : (natsL ws).sum = 0 → ∀ i, qN T (natsL ws).sum (natsL ws) i = 0 ∧ rN T (natsL ws).sum (natsL ws) i = 0 := fun h => (left_zero hz (.inl h)).2
  obtain ⟨L, hL⟩ : ∃ L, shareN T (natsL ws) = L := ⟨_, rfl⟩
  obtain ⟨S, hSe⟩ : ∃ S, (natsL ws).sum = S := ⟨_, rfl⟩
  have lget : ∀ i (hi : i < L.length), L[i] = el L i := fun i hi => el_get hi
  have lbnd : ∀ i (hi : i < L.length), 0 ≤ L[i] ∧ L[i] ≤ 1125899906842624 := fun i hi => by
    have hx : L[i] ∈ shareN T (natsL ws) := by rw [hL]; exact List.getElem_mem hi
    exact rg0_iff.1 (List.all_eq_true.1 fall _ hx)
  rw [hL] at f2 gl gS mono same parts
  rw [hSe] at gs parts qle zero hS wle
  have d600 : decide ((600 : Int) < (ws.length : Int)) = false := by rw [decide_eq_false_iff_not]; omega
  have d1 : decide ((ws.length : Int) < 1) = false := by rw [decide_eq_false_iff_not]; omega
  have d512 : decide ((512 : Int) < (ws.length : Int)) = false := by rw [decide_eq_false_iff_not]; omega
  have dS : decide ((1125899906842624 : Int) < (S : Int)) = false := by rw [decide_eq_false_iff_not]; omega
  have e0 : ((L.length : Int) != (ws.length : Int)) = false := by rw [f2]; simp
  refine good10 (by simp) ?_
  simp only [ac10, intP, intsP, List.length_map, d600, AW, reduceAdd, reduceCtorEq, reduceEqDiff, ↓reduceIte, reduceLT, reduceLeDiff, reduceSub, reducePow, reduceMul, reduceToNat, reduceLE, reduceEq, Int.reduceLT, Int.reduceBEq, Int.reduceBNe]
  refine ops_call (gS) (by simp only [intP, intsP, AW, reduceAdd, reduceCtorEq, reduceEqDiff, ↓reduceIte, reduceLT, reduceLeDiff, reduceSub, reducePow, reduceMul, reduceToNat, reduceLE, reduceEq, Int.reduceLT, Int.reduceBEq, Int.reduceBNe]) ?_; simp only [intP, intsP, AW, reduceAdd, reduceCtorEq, reduceEqDiff, ↓reduceIte, reduceLT, reduceLeDiff, reduceSub, reducePow, reduceMul, reduceToNat, reduceLE, reduceEq, Int.reduceLT, Int.reduceBEq, Int.reduceBNe]
  refine ops_call (gs) (by simp only [intP, intsP, AW, reduceAdd, reduceCtorEq, reduceEqDiff, ↓reduceIte, reduceLT, reduceLeDiff, reduceSub, reducePow, reduceMul, reduceToNat, reduceLE, reduceEq, Int.reduceLT, Int.reduceBEq, Int.reduceBNe]) ?_; simp only [intP, intsP, AW, reduceAdd, reduceCtorEq, reduceEqDiff, ↓reduceIte, reduceLT, reduceLeDiff, reduceSub, reducePow, reduceMul, reduceToNat, reduceLE, reduceEq, Int.reduceLT, Int.reduceBEq, Int.reduceBNe]
  refine ops_call (gc) (by simp only [intP, AW, reduceAdd, reduceCtorEq, reduceEqDiff, ↓reduceIte, reduceLT, reduceLeDiff, reduceSub, reducePow, reduceMul, reduceToNat, reduceLE, reduceEq, Int.reduceLT, Int.reduceBEq, Int.reduceBNe]) ?_; simp only [intP, AW, reduceAdd, reduceCtorEq, reduceEqDiff, ↓reduceIte, reduceLT, reduceLeDiff, reduceSub, reducePow, reduceMul, reduceToNat, reduceLE, reduceEq, Int.reduceLT, Int.reduceBEq, Int.reduceBNe]
  simp only [List.length_map, d1, d512, AW, reduceAdd, reduceCtorEq, reduceEqDiff, ↓reduceIte, reduceLT, reduceLeDiff, reduceSub, reducePow, reduceMul, reduceToNat, reduceLE, reduceEq, Int.reduceLT, Int.reduceBEq, Int.reduceBNe]
  refine ops_call (gl) (by simp only [intP, intsP, AW, reduceAdd, reduceCtorEq, reduceEqDiff, ↓reduceIte, reduceLT, reduceLeDiff, reduceSub, reducePow, reduceMul, reduceToNat, reduceLE, reduceEq, Int.reduceLT, Int.reduceBEq, Int.reduceBNe]) ?_; simp only [intP, intsP, AW, reduceAdd, reduceCtorEq, reduceEqDiff, ↓reduceIte, reduceLT, reduceLeDiff, reduceSub, reducePow, reduceMul, reduceToNat, reduceLE, reduceEq, Int.reduceLT, Int.reduceBEq, Int.reduceBNe]
  simp only [List.length_map, e0, dS, AW, reduceAdd, reduceCtorEq, reduceEqDiff, ↓reduceIte, reduceLT, reduceLeDiff, reduceSub, reducePow, reduceMul, reduceToNat, reduceLE, reduceEq, Int.reduceLT, Int.reduceBEq, Int.reduceBNe]
  refine run_loop (ι := Nat) (fun k => ⟨[(0, .sc (.int .i64 (T : Int))), (1, .sl (ws.map intP)), (5, .sl (L.map intP)), (7, .sc (.int .i64 (S : Int))), (11, .sc (.int .i64 (k : Int)))], [], 64, 227⟩) (fun k => k ≤ L.length) (fun k => L.length - k) 64 (fun _ => rfl) 0 (by simp only [LW, Nat.reduceMod, Nat.reduceDiv, Int.natCast_zero, AW, reduceAdd, reduceCtorEq, reduceEqDiff, ↓reduceIte, reduceLT, reduceLeDiff, reduceSub, reducePow, reduceMul, reduceToNat, reduceLE, reduceEq, Int.reduceLT, Int.reduceBEq, Int.reduceBNe]) (Nat.zero_le _) (fun k hk => ?_)
  have gk := hk
  by_cases hltk : k < L.length
  rotate_left
  · have dk : decide ((k : Int) < ((L.length : Nat) : Int)) = false := by rw [decide_eq_false_iff_not]; exact fun h => hltk (Int.ofNat_lt.1 h)
    have ek : k = L.length := Nat.le_antisymm gk (Nat.le_of_not_lt hltk)
    subst ek
    simp only [dk, List.length_map, AW, reduceAdd, reduceCtorEq, reduceEqDiff, ↓reduceIte, reduceLT, reduceLeDiff, reduceSub, reducePow, reduceMul, reduceToNat, reduceLE, reduceEq, Int.reduceLT, Int.reduceBEq, Int.reduceBNe]
    refine ops_call (awake_g) (by simp only [AW, reduceAdd, reduceCtorEq, reduceEqDiff, ↓reduceIte, reduceLT, reduceLeDiff, reduceSub, reducePow, reduceMul, reduceToNat, reduceLE, reduceEq, Int.reduceLT, Int.reduceBEq, Int.reduceBNe]) ?_; simp only [AW, reduceAdd, reduceCtorEq, reduceEqDiff, ↓reduceIte, reduceLT, reduceLeDiff, reduceSub, reducePow, reduceMul, reduceToNat, reduceLE, reduceEq, Int.reduceLT, Int.reduceBEq, Int.reduceBNe]
  have dk : decide ((k : Int) < ((L.length : Nat) : Int)) = true := by rw [decide_eq_true_eq]; exact Int.ofNat_lt.2 hltk
  have hkw : k < ws.length := by omega
  have hw := wget k hkw
  have pk := parts k hkw
  have lk := lget k hltk
  have lkm := lbnd k hltk
  rw [← lk] at pk
  simp only [dk, List.length_map, AW, reduceAdd, reduceCtorEq, reduceEqDiff, ↓reduceIte, reduceLT, reduceLeDiff, reduceSub, reducePow, reduceMul, reduceToNat, reduceLE, reduceEq, Int.reduceLT, Int.reduceBEq, Int.reduceBNe]
  by_cases hs0 : 0 < S
  · have dw : decide ((0 : Int) < (S : Int)) = true := by rw [decide_eq_true_eq]; omega
    have gd := divide_g T ((natsL ws).getD k 0) S hT (by have := wle k hkw; omega) hs0 hS
    have hq := qle k hkw hs0
    have hdv : divP T ((natsL ws).getD k 0) S = .tup [intP ((qN T S (natsL ws) k : Nat) : Int), intP ((rN T S (natsL ws) k : Nat) : Int)] := by
      unfold divP
      rw [show min (T * (natsL ws).getD k 0 / S) 1125899906842625 = qN T S (natsL ws) k from by unfold qN at hq ⊢; omega]; rfl
    rw [hdv, ← hw] at gd
    generalize qN T S (natsL ws) k = q at *
    generalize rN T S (natsL ws) k = r at *
    have wq : IntKind.i64.wrap ((q : Int) + 1) = (q : Int) + 1 := wrap_id ⟨by omega, by omega⟩
    simp only [dw, map_getD hkw, hkw, intP, AW, reduceAdd, reduceCtorEq, reduceEqDiff, ↓reduceIte, reduceLT, reduceLeDiff, reduceSub, reducePow, reduceMul, reduceToNat, reduceLE, reduceEq, Int.reduceLT, Int.reduceBEq, Int.reduceBNe]
    refine ops_call (gd) (by simp only [intP, AW, reduceAdd, reduceCtorEq, reduceEqDiff, ↓reduceIte, reduceLT, reduceLeDiff, reduceSub, reducePow, reduceMul, reduceToNat, reduceLE, reduceEq, Int.reduceLT, Int.reduceBEq, Int.reduceBNe]) ?_; simp only [intP, AW, reduceAdd, reduceCtorEq, reduceEqDiff, ↓reduceIte, reduceLT, reduceLeDiff, reduceSub, reducePow, reduceMul, reduceToNat, reduceLE, reduceEq, Int.reduceLT, Int.reduceBEq, Int.reduceBNe]
    rcases pk with pk | ⟨pk, pr⟩
    · have b0 : (L[k] != (q : Int)) = false := by rw [pk]; simp
      simp only [map_getD hltk, hltk, intP, b0, AW, reduceAdd, reduceCtorEq, reduceEqDiff, ↓reduceIte, reduceLT, reduceLeDiff, reduceSub, reducePow, reduceMul, reduceToNat, reduceLE, reduceEq, Int.reduceLT, Int.reduceBEq, Int.reduceBNe]
      refine run_loop (ι := Nat) (fun j => ⟨[(0, .sc (.int .i64 (T : Int))), (1, .sl (ws.map intP)), (5, .sl (L.map intP)), (7, .sc (.int .i64 (S : Int))), (11, .sc (.int .i64 (k : Int))), (14, .sc (.int .i64 (j : Int)))], [], 104, 227⟩) (fun j => j ≤ k) (fun j => k - j) 104 (fun _ => rfl) 0 (by simp only [LW, Nat.reduceMod, Nat.reduceDiv, Int.natCast_zero, AW, reduceAdd, reduceCtorEq, reduceEqDiff, ↓reduceIte, reduceLT, reduceLeDiff, reduceSub, reducePow, reduceMul, reduceToNat, reduceLE, reduceEq, Int.reduceLT, Int.reduceBEq, Int.reduceBNe]) (Nat.zero_le _) (fun j hj => ?_)
      have gj := hj
      by_cases hltj : j < k
      rotate_left
      · have dj : decide ((j : Int) < ((k : Nat) : Int)) = false := by rw [decide_eq_false_iff_not]; exact fun h => hltj (Int.ofNat_lt.1 h)
        have ej : j = k := Nat.le_antisymm gj (Nat.le_of_not_lt hltj)
        have dj2 : decide ((j : Int) < (k : Int)) = false := dj
        simp only [dj2, AW, reduceAdd, reduceCtorEq, reduceEqDiff, ↓reduceIte, reduceLT, reduceLeDiff, reduceSub, reducePow, reduceMul, reduceToNat, reduceLE, reduceEq, Int.reduceLT, Int.reduceBEq, Int.reduceBNe]
        (try simp only [wrap_succ hltk (show L.length ≤ maxLen by omega), AW, reduceAdd, reduceCtorEq, reduceEqDiff, ↓reduceIte, reduceLT, reduceLeDiff, reduceSub, reducePow, reduceMul, reduceToNat, reduceLE, reduceEq, Int.reduceLT, Int.reduceBEq, Int.reduceBNe])
        refine ⟨k + 1, hltk, ?_, meas_lt hltk⟩
        simp only [LW, Nat.reduceMod, Nat.reduceDiv, AW, reduceAdd, reduceCtorEq, reduceEqDiff, ↓reduceIte, reduceLT, reduceLeDiff, reduceSub, reducePow, reduceMul, reduceToNat, reduceLE, reduceEq, Int.reduceLT, Int.reduceBEq, Int.reduceBNe]
      have dj : decide ((j : Int) < ((k : Nat) : Int)) = true := by rw [decide_eq_true_eq]; exact Int.ofNat_lt.2 hltj
      have hjw : j < ws.length := by omega
      have hjl : j < L.length := by omega
      have hwj := wget j hjw
      have lj := lget j hjl
      have m1 := mono k j hkw hjw
      have m2 := mono j k hjw hkw
      have m3 := same k j hkw hltj
      rw [← lj, ← lk] at m1 m2 m3
      have w1 : IntKind.i64.wrap (L[k] + 1) = L[k] + 1 := wrap_id ⟨by omega, by omega⟩
      rcases Nat.lt_trichotomy ((natsL ws).getD j 0) ((natsL ws).getD k 0) with hc | hc | hc
      · have e1 : decide (ws[j] < ws[k]) = true := by rw [hwj, hw, decide_eq_true_eq]; omega
        have e2 : decide (L[k] < L[j]) = false := by rw [decide_eq_false_iff_not]; have := m1 hc; omega
        have e3 : decide (ws[k] < ws[j]) = false := by rw [hwj, hw, decide_eq_false_iff_not]; omega
        have e4 : (ws[j] == ws[k]) = false := by rw [hwj, hw, beq_eq_false_iff_ne]; omega
        simp only [dj, map_getD hkw, hkw, map_getD hjw, hjw, map_getD hltk, hltk, map_getD hjl, hjl, intP, e1, e2, e3, e4, AW, reduceAdd, reduceCtorEq, reduceEqDiff, ↓reduceIte, reduceLT, reduceLeDiff, reduceSub, reducePow, reduceMul, reduceToNat, reduceLE, reduceEq, Int.reduceLT, Int.reduceBEq, Int.reduceBNe]
        (try refine drawnK rfl ?_); (try simp only [wrap_succ hltj (show k ≤ maxLen by omega), AW, reduceAdd, reduceCtorEq, reduceEqDiff, ↓reduceIte, reduceLT, reduceLeDiff, reduceSub, reducePow, reduceMul, reduceToNat, reduceLE, reduceEq, Int.reduceLT, Int.reduceBEq, Int.reduceBNe])
        refine ⟨j + 1, hltj, ?_, by omega⟩
        simp only [LW, Nat.reduceMod, Nat.reduceDiv, AW, reduceAdd, reduceCtorEq, reduceEqDiff, ↓reduceIte, reduceLT, reduceLeDiff, reduceSub, reducePow, reduceMul, reduceToNat, reduceLE, reduceEq, Int.reduceLT, Int.reduceBEq, Int.reduceBNe]
      · have e1 : decide (ws[j] < ws[k]) = false := by rw [hwj, hw, decide_eq_false_iff_not]; omega
        have e3 : decide (ws[k] < ws[j]) = false := by rw [hwj, hw, decide_eq_false_iff_not]; omega
        have e4 : (ws[j] == ws[k]) = true := by rw [hwj, hw, beq_iff_eq]; omega
        have e5 : decide (L[j] < L[k]) = false := by rw [decide_eq_false_iff_not]; have := m3 hc; omega
        have e6 : decide (L[k] + 1 < L[j]) = false := by rw [decide_eq_false_iff_not]; have := m3 hc; omega
        simp only [dj, map_getD hkw, hkw, map_getD hjw, hjw, map_getD hltk, hltk, map_getD hjl, hjl, intP, e1, e3, e4, e5, w1, e6, AW, reduceAdd, reduceCtorEq, reduceEqDiff, ↓reduceIte, reduceLT, reduceLeDiff, reduceSub, reducePow, reduceMul, reduceToNat, reduceLE, reduceEq, Int.reduceLT, Int.reduceBEq, Int.reduceBNe]
        (try refine drawnK rfl ?_); (try simp only [wrap_succ hltj (show k ≤ maxLen by omega), AW, reduceAdd, reduceCtorEq, reduceEqDiff, ↓reduceIte, reduceLT, reduceLeDiff, reduceSub, reducePow, reduceMul, reduceToNat, reduceLE, reduceEq, Int.reduceLT, Int.reduceBEq, Int.reduceBNe])
        refine ⟨j + 1, hltj, ?_, by omega⟩
        simp only [LW, Nat.reduceMod, Nat.reduceDiv, AW, reduceAdd, reduceCtorEq, reduceEqDiff, ↓reduceIte, reduceLT, reduceLeDiff, reduceSub, reducePow, reduceMul, reduceToNat, reduceLE, reduceEq, Int.reduceLT, Int.reduceBEq, Int.reduceBNe]
      · have e1 : decide (ws[j] < ws[k]) = false := by rw [hwj, hw, decide_eq_false_iff_not]; omega
        have e3 : decide (ws[k] < ws[j]) = true := by rw [hwj, hw, decide_eq_true_eq]; omega
        have e4 : (ws[j] == ws[k]) = false := by rw [hwj, hw, beq_eq_false_iff_ne]; omega
        have e5 : decide (L[j] < L[k]) = false := by rw [decide_eq_false_iff_not]; have := m2 hc; omega
        simp only [dj, map_getD hkw, hkw, map_getD hjw, hjw, map_getD hltk, hltk, map_getD hjl, hjl, intP, e1, e3, e4, e5, AW, reduceAdd, reduceCtorEq, reduceEqDiff, ↓reduceIte, reduceLT, reduceLeDiff, reduceSub, reducePow, reduceMul, reduceToNat, reduceLE, reduceEq, Int.reduceLT, Int.reduceBEq, Int.reduceBNe]
        (try refine drawnK rfl ?_); (try simp only [wrap_succ hltj (show k ≤ maxLen by omega), AW, reduceAdd, reduceCtorEq, reduceEqDiff, ↓reduceIte, reduceLT, reduceLeDiff, reduceSub, reducePow, reduceMul, reduceToNat, reduceLE, reduceEq, Int.reduceLT, Int.reduceBEq, Int.reduceBNe])
        refine ⟨j + 1, hltj, ?_, by omega⟩
        simp only [LW, Nat.reduceMod, Nat.reduceDiv, AW, reduceAdd, reduceCtorEq, reduceEqDiff, ↓reduceIte, reduceLT, reduceLeDiff, reduceSub, reducePow, reduceMul, reduceToNat, reduceLE, reduceEq, Int.reduceLT, Int.reduceBEq, Int.reduceBNe]
    · have b0 : (L[k] != (q : Int)) = true := by rw [pk, bne_iff_ne]; omega
      have b1 : (L[k] != (q : Int) + 1) = false := by rw [pk]; simp
      have b2 : ((r : Int) == 0) = false := by rw [beq_eq_false_iff_ne]; omega
      simp only [map_getD hltk, hltk, intP, b0, wq, b1, b2, AW, reduceAdd, reduceCtorEq, reduceEqDiff, ↓reduceIte, reduceLT, reduceLeDiff, reduceSub, reducePow, reduceMul, reduceToNat, reduceLE, reduceEq, Int.reduceLT, Int.reduceBEq, Int.reduceBNe]
      refine run_loop (ι := Nat) (fun j => ⟨[(0, .sc (.int .i64 (T : Int))), (1, .sl (ws.map intP)), (5, .sl (L.map intP)), (7, .sc (.int .i64 (S : Int))), (11, .sc (.int .i64 (k : Int))), (14, .sc (.int .i64 (j : Int)))], [], 104, 227⟩) (fun j => j ≤ k) (fun j => k - j) 104 (fun _ => rfl) 0 (by simp only [LW, Nat.reduceMod, Nat.reduceDiv, Int.natCast_zero, AW, reduceAdd, reduceCtorEq, reduceEqDiff, ↓reduceIte, reduceLT, reduceLeDiff, reduceSub, reducePow, reduceMul, reduceToNat, reduceLE, reduceEq, Int.reduceLT, Int.reduceBEq, Int.reduceBNe]) (Nat.zero_le _) (fun j hj => ?_)
      have gj := hj
      by_cases hltj : j < k
      rotate_left
      · have dj : decide ((j : Int) < ((k : Nat) : Int)) = false := by rw [decide_eq_false_iff_not]; exact fun h => hltj (Int.ofNat_lt.1 h)
        have ej : j = k := Nat.le_antisymm gj (Nat.le_of_not_lt hltj)
        have dj2 : decide ((j : Int) < (k : Int)) = false := dj
        simp only [dj2, AW, reduceAdd, reduceCtorEq, reduceEqDiff, ↓reduceIte, reduceLT, reduceLeDiff, reduceSub, reducePow, reduceMul, reduceToNat, reduceLE, reduceEq, Int.reduceLT, Int.reduceBEq, Int.reduceBNe]
        (try simp only [wrap_succ hltk (show L.length ≤ maxLen by omega), AW, reduceAdd, reduceCtorEq, reduceEqDiff, ↓reduceIte, reduceLT, reduceLeDiff, reduceSub, reducePow, reduceMul, reduceToNat, reduceLE, reduceEq, Int.reduceLT, Int.reduceBEq, Int.reduceBNe])
        refine ⟨k + 1, hltk, ?_, meas_lt hltk⟩
        simp only [LW, Nat.reduceMod, Nat.reduceDiv, AW, reduceAdd, reduceCtorEq, reduceEqDiff, ↓reduceIte, reduceLT, reduceLeDiff, reduceSub, reducePow, reduceMul, reduceToNat, reduceLE, reduceEq, Int.reduceLT, Int.reduceBEq, Int.reduceBNe]
      have dj : decide ((j : Int) < ((k : Nat) : Int)) = true := by rw [decide_eq_true_eq]; exact Int.ofNat_lt.2 hltj
      have hjw : j < ws.length := by omega
      have hjl : j < L.length := by omega
      have hwj := wget j hjw
      have lj := lget j hjl
      have m1 := mono k j hkw hjw
      have m2 := mono j k hjw hkw
      have m3 := same k j hkw hltj
      rw [← lj, ← lk] at m1 m2 m3
      have w1 : IntKind.i64.wrap (L[k] + 1) = L[k] + 1 := wrap_id ⟨by omega, by omega⟩
      rcases Nat.lt_trichotomy ((natsL ws).getD j 0) ((natsL ws).getD k 0) with hc | hc | hc
      · have e1 : decide (ws[j] < ws[k]) = true := by rw [hwj, hw, decide_eq_true_eq]; omega
        have e2 : decide (L[k] < L[j]) = false := by rw [decide_eq_false_iff_not]; have := m1 hc; omega
        have e3 : decide (ws[k] < ws[j]) = false := by rw [hwj, hw, decide_eq_false_iff_not]; omega
        have e4 : (ws[j] == ws[k]) = false := by rw [hwj, hw, beq_eq_false_iff_ne]; omega
        simp only [dj, map_getD hkw, hkw, map_getD hjw, hjw, map_getD hltk, hltk, map_getD hjl, hjl, intP, e1, e2, e3, e4, AW, reduceAdd, reduceCtorEq, reduceEqDiff, ↓reduceIte, reduceLT, reduceLeDiff, reduceSub, reducePow, reduceMul, reduceToNat, reduceLE, reduceEq, Int.reduceLT, Int.reduceBEq, Int.reduceBNe]
        (try refine drawnK rfl ?_); (try simp only [wrap_succ hltj (show k ≤ maxLen by omega), AW, reduceAdd, reduceCtorEq, reduceEqDiff, ↓reduceIte, reduceLT, reduceLeDiff, reduceSub, reducePow, reduceMul, reduceToNat, reduceLE, reduceEq, Int.reduceLT, Int.reduceBEq, Int.reduceBNe])
        refine ⟨j + 1, hltj, ?_, by omega⟩
        simp only [LW, Nat.reduceMod, Nat.reduceDiv, AW, reduceAdd, reduceCtorEq, reduceEqDiff, ↓reduceIte, reduceLT, reduceLeDiff, reduceSub, reducePow, reduceMul, reduceToNat, reduceLE, reduceEq, Int.reduceLT, Int.reduceBEq, Int.reduceBNe]
      · have e1 : decide (ws[j] < ws[k]) = false := by rw [hwj, hw, decide_eq_false_iff_not]; omega
        have e3 : decide (ws[k] < ws[j]) = false := by rw [hwj, hw, decide_eq_false_iff_not]; omega
        have e4 : (ws[j] == ws[k]) = true := by rw [hwj, hw, beq_iff_eq]; omega
        have e5 : decide (L[j] < L[k]) = false := by rw [decide_eq_false_iff_not]; have := m3 hc; omega
        have e6 : decide (L[k] + 1 < L[j]) = false := by rw [decide_eq_false_iff_not]; have := m3 hc; omega
        simp only [dj, map_getD hkw, hkw, map_getD hjw, hjw, map_getD hltk, hltk, map_getD hjl, hjl, intP, e1, e3, e4, e5, w1, e6, AW, reduceAdd, reduceCtorEq, reduceEqDiff, ↓reduceIte, reduceLT, reduceLeDiff, reduceSub, reducePow, reduceMul, reduceToNat, reduceLE, reduceEq, Int.reduceLT, Int.reduceBEq, Int.reduceBNe]
        (try refine drawnK rfl ?_); (try simp only [wrap_succ hltj (show k ≤ maxLen by omega), AW, reduceAdd, reduceCtorEq, reduceEqDiff, ↓reduceIte, reduceLT, reduceLeDiff, reduceSub, reducePow, reduceMul, reduceToNat, reduceLE, reduceEq, Int.reduceLT, Int.reduceBEq, Int.reduceBNe])
        refine ⟨j + 1, hltj, ?_, by omega⟩
        simp only [LW, Nat.reduceMod, Nat.reduceDiv, AW, reduceAdd, reduceCtorEq, reduceEqDiff, ↓reduceIte, reduceLT, reduceLeDiff, reduceSub, reducePow, reduceMul, reduceToNat, reduceLE, reduceEq, Int.reduceLT, Int.reduceBEq, Int.reduceBNe]
      · have e1 : decide (ws[j] < ws[k]) = false := by rw [hwj, hw, decide_eq_false_iff_not]; omega
        have e3 : decide (ws[k] < ws[j]) = true := by rw [hwj, hw, decide_eq_true_eq]; omega
        have e4 : (ws[j] == ws[k]) = false := by rw [hwj, hw, beq_eq_false_iff_ne]; omega
        have e5 : decide (L[j] < L[k]) = false := by rw [decide_eq_false_iff_not]; have := m2 hc; omega
        simp only [dj, map_getD hkw, hkw, map_getD hjw, hjw, map_getD hltk, hltk, map_getD hjl, hjl, intP, e1, e3, e4, e5, AW, reduceAdd, reduceCtorEq, reduceEqDiff, ↓reduceIte, reduceLT, reduceLeDiff, reduceSub, reducePow, reduceMul, reduceToNat, reduceLE, reduceEq, Int.reduceLT, Int.reduceBEq, Int.reduceBNe]
        (try refine drawnK rfl ?_); (try simp only [wrap_succ hltj (show k ≤ maxLen by omega), AW, reduceAdd, reduceCtorEq, reduceEqDiff, ↓reduceIte, reduceLT, reduceLeDiff, reduceSub, reducePow, reduceMul, reduceToNat, reduceLE, reduceEq, Int.reduceLT, Int.reduceBEq, Int.reduceBNe])
        refine ⟨j + 1, hltj, ?_, by omega⟩
        simp only [LW, Nat.reduceMod, Nat.reduceDiv, AW, reduceAdd, reduceCtorEq, reduceEqDiff, ↓reduceIte, reduceLT, reduceLeDiff, reduceSub, reducePow, reduceMul, reduceToNat, reduceLE, reduceEq, Int.reduceLT, Int.reduceBEq, Int.reduceBNe]
  · have dw : decide ((0 : Int) < (S : Int)) = false := by rw [decide_eq_false_iff_not]; omega
    obtain ⟨z1, z2⟩ := zero (by omega) k
    rw [z1, z2] at pk
    have pk0 : L[k] = 0 := by rcases pk with h | ⟨_, h⟩ <;> omega
    have b0 : (L[k] != 0) = false := by rw [pk0]; rfl
    simp only [dw, map_getD hltk, hltk, intP, b0, AW, reduceAdd, reduceCtorEq, reduceEqDiff, ↓reduceIte, reduceLT, reduceLeDiff, reduceSub, reducePow, reduceMul, reduceToNat, reduceLE, reduceEq, Int.reduceLT, Int.reduceBEq, Int.reduceBNe]
    refine run_loop (ι := Nat) (fun j => ⟨[(0, .sc (.int .i64 (T : Int))), (1, .sl (ws.map intP)), (5, .sl (L.map intP)), (7, .sc (.int .i64 (S : Int))), (11, .sc (.int .i64 (k : Int))), (14, .sc (.int .i64 (j : Int)))], [], 92, 227⟩) (fun j => j ≤ k) (fun j => k - j) 92 (fun _ => rfl) 0 (by simp only [LW, Nat.reduceMod, Nat.reduceDiv, Int.natCast_zero, AW, reduceAdd, reduceCtorEq, reduceEqDiff, ↓reduceIte, reduceLT, reduceLeDiff, reduceSub, reducePow, reduceMul, reduceToNat, reduceLE, reduceEq, Int.reduceLT, Int.reduceBEq, Int.reduceBNe]) (Nat.zero_le _) (fun j hj => ?_)
    have gj := hj
    by_cases hltj : j < k
    rotate_left
    · have dj : decide ((j : Int) < ((k : Nat) : Int)) = false := by rw [decide_eq_false_iff_not]; exact fun h => hltj (Int.ofNat_lt.1 h)
      have ej : j = k := Nat.le_antisymm gj (Nat.le_of_not_lt hltj)
      have dj2 : decide ((j : Int) < (k : Int)) = false := dj
      simp only [dj2, AW, reduceAdd, reduceCtorEq, reduceEqDiff, ↓reduceIte, reduceLT, reduceLeDiff, reduceSub, reducePow, reduceMul, reduceToNat, reduceLE, reduceEq, Int.reduceLT, Int.reduceBEq, Int.reduceBNe]
      (try simp only [wrap_succ hltk (show L.length ≤ maxLen by omega), AW, reduceAdd, reduceCtorEq, reduceEqDiff, ↓reduceIte, reduceLT, reduceLeDiff, reduceSub, reducePow, reduceMul, reduceToNat, reduceLE, reduceEq, Int.reduceLT, Int.reduceBEq, Int.reduceBNe])
      refine ⟨k + 1, hltk, ?_, meas_lt hltk⟩
      simp only [LW, Nat.reduceMod, Nat.reduceDiv, AW, reduceAdd, reduceCtorEq, reduceEqDiff, ↓reduceIte, reduceLT, reduceLeDiff, reduceSub, reducePow, reduceMul, reduceToNat, reduceLE, reduceEq, Int.reduceLT, Int.reduceBEq, Int.reduceBNe]
    have dj : decide ((j : Int) < ((k : Nat) : Int)) = true := by rw [decide_eq_true_eq]; exact Int.ofNat_lt.2 hltj
    have hjw : j < ws.length := by omega
    have hjl : j < L.length := by omega
    have hwj := wget j hjw
    have lj := lget j hjl
    have m1 := mono k j hkw hjw
    have m2 := mono j k hjw hkw
    have m3 := same k j hkw hltj
    rw [← lj, ← lk] at m1 m2 m3
    have w1 : IntKind.i64.wrap (L[k] + 1) = L[k] + 1 := wrap_id ⟨by omega, by omega⟩
    rcases Nat.lt_trichotomy ((natsL ws).getD j 0) ((natsL ws).getD k 0) with hc | hc | hc
    · have e1 : decide (ws[j] < ws[k]) = true := by rw [hwj, hw, decide_eq_true_eq]; omega
      have e2 : decide (L[k] < L[j]) = false := by rw [decide_eq_false_iff_not]; have := m1 hc; omega
      have e3 : decide (ws[k] < ws[j]) = false := by rw [hwj, hw, decide_eq_false_iff_not]; omega
      have e4 : (ws[j] == ws[k]) = false := by rw [hwj, hw, beq_eq_false_iff_ne]; omega
      simp only [dj, map_getD hkw, hkw, map_getD hjw, hjw, map_getD hltk, hltk, map_getD hjl, hjl, intP, e1, e2, e3, e4, AW, reduceAdd, reduceCtorEq, reduceEqDiff, ↓reduceIte, reduceLT, reduceLeDiff, reduceSub, reducePow, reduceMul, reduceToNat, reduceLE, reduceEq, Int.reduceLT, Int.reduceBEq, Int.reduceBNe]
      (try refine drawnK rfl ?_); (try simp only [wrap_succ hltj (show k ≤ maxLen by omega), AW, reduceAdd, reduceCtorEq, reduceEqDiff, ↓reduceIte, reduceLT, reduceLeDiff, reduceSub, reducePow, reduceMul, reduceToNat, reduceLE, reduceEq, Int.reduceLT, Int.reduceBEq, Int.reduceBNe])
      refine ⟨j + 1, hltj, ?_, by omega⟩
      simp only [LW, Nat.reduceMod, Nat.reduceDiv, AW, reduceAdd, reduceCtorEq, reduceEqDiff, ↓reduceIte, reduceLT, reduceLeDiff, reduceSub, reducePow, reduceMul, reduceToNat, reduceLE, reduceEq, Int.reduceLT, Int.reduceBEq, Int.reduceBNe]
    · have e1 : decide (ws[j] < ws[k]) = false := by rw [hwj, hw, decide_eq_false_iff_not]; omega
      have e3 : decide (ws[k] < ws[j]) = false := by rw [hwj, hw, decide_eq_false_iff_not]; omega
      have e4 : (ws[j] == ws[k]) = true := by rw [hwj, hw, beq_iff_eq]; omega
      have e5 : decide (L[j] < L[k]) = false := by rw [decide_eq_false_iff_not]; have := m3 hc; omega
      have e6 : decide (L[k] + 1 < L[j]) = false := by rw [decide_eq_false_iff_not]; have := m3 hc; omega
      simp only [dj, map_getD hkw, hkw, map_getD hjw, hjw, map_getD hltk, hltk, map_getD hjl, hjl, intP, e1, e3, e4, e5, w1, e6, AW, reduceAdd, reduceCtorEq, reduceEqDiff, ↓reduceIte, reduceLT, reduceLeDiff, reduceSub, reducePow, reduceMul, reduceToNat, reduceLE, reduceEq, Int.reduceLT, Int.reduceBEq, Int.reduceBNe]
      (try refine drawnK rfl ?_); (try simp only [wrap_succ hltj (show k ≤ maxLen by omega), AW, reduceAdd, reduceCtorEq, reduceEqDiff, ↓reduceIte, reduceLT, reduceLeDiff, reduceSub, reducePow, reduceMul, reduceToNat, reduceLE, reduceEq, Int.reduceLT, Int.reduceBEq, Int.reduceBNe])
      refine ⟨j + 1, hltj, ?_, by omega⟩
      simp only [LW, Nat.reduceMod, Nat.reduceDiv, AW, reduceAdd, reduceCtorEq, reduceEqDiff, ↓reduceIte, reduceLT, reduceLeDiff, reduceSub, reducePow, reduceMul, reduceToNat, reduceLE, reduceEq, Int.reduceLT, Int.reduceBEq, Int.reduceBNe]
    · have e1 : decide (ws[j] < ws[k]) = false := by rw [hwj, hw, decide_eq_false_iff_not]; omega
      have e3 : decide (ws[k] < ws[j]) = true := by rw [hwj, hw, decide_eq_true_eq]; omega
      have e4 : (ws[j] == ws[k]) = false := by rw [hwj, hw, beq_eq_false_iff_ne]; omega
      have e5 : decide (L[j] < L[k]) = false := by rw [decide_eq_false_iff_not]; have := m2 hc; omega
      simp only [dj, map_getD hkw, hkw, map_getD hjw, hjw, map_getD hltk, hltk, map_getD hjl, hjl, intP, e1, e3, e4, e5, AW, reduceAdd, reduceCtorEq, reduceEqDiff, ↓reduceIte, reduceLT, reduceLeDiff, reduceSub, reducePow, reduceMul, reduceToNat, reduceLE, reduceEq, Int.reduceLT, Int.reduceBEq, Int.reduceBNe]
      (try refine drawnK rfl ?_); (try simp only [wrap_succ hltj (show k ≤ maxLen by omega), AW, reduceAdd, reduceCtorEq, reduceEqDiff, ↓reduceIte, reduceLT, reduceLeDiff, reduceSub, reducePow, reduceMul, reduceToNat, reduceLE, reduceEq, Int.reduceLT, Int.reduceBEq, Int.reduceBNe])
      refine ⟨j + 1, hltj, ?_, by omega⟩
      simp only [LW, Nat.reduceMod, Nat.reduceDiv, AW, reduceAdd, reduceCtorEq, reduceEqDiff, ↓reduceIte, reduceLT, reduceLeDiff, reduceSub, reducePow, reduceMul, reduceToNat, reduceLE, reduceEq, Int.reduceLT, Int.reduceBEq, Int.reduceBNe]
set_option maxHeartbeats 8000000 in
theorem numShares_good (total : Int) (ws : List Int) : Good Tryd.prog 10 [intP total, intsP ws] (.sc (.bool true)) := by
  by_cases h6 : 600 < ws.length
  · have d600 : decide ((600 : Int) < (ws.length : Int)) = true := by rw [decide_eq_true_eq]; omega
    refine good10 (by simp) ?_
    simp only [ac10, intP, intsP, List.length_map, d600, AW, reduceAdd, reduceCtorEq, reduceEqDiff, ↓reduceIte, reduceLT, reduceLeDiff, reduceSub, reducePow, reduceMul, reduceToNat, reduceLE, reduceEq, Int.reduceLT, Int.reduceBEq, Int.reduceBNe]
    refine ops_call (awake_g) (by simp only [AW, reduceAdd, reduceCtorEq, reduceEqDiff, ↓reduceIte, reduceLT, reduceLeDiff, reduceSub, reducePow, reduceMul, reduceToNat, reduceLE, reduceEq, Int.reduceLT, Int.reduceBEq, Int.reduceBNe]) ?_; simp only [AW, reduceAdd, reduceCtorEq, reduceEqDiff, ↓reduceIte, reduceLT, reduceLeDiff, reduceSub, reducePow, reduceMul, reduceToNat, reduceLE, reduceEq, Int.reduceLT, Int.reduceBEq, Int.reduceBNe]
  have d600 : decide ((600 : Int) < (ws.length : Int)) = false := by rw [decide_eq_false_iff_not]; omega
  have gs := lsum_g ws (by omega)
  have gc := count_g total 0
  rw [show (decide (0 ≤ total) && decide (total ≤ 1125899906842624)) = rg0 total from rfl] at gc
  have g := share_g total ws (by omega)
  by_cases hc : (inB total && decide (1 ≤ ws.length) && decide (ws.length ≤ 512) && ws.all inB) = true
  rotate_left
  · have hc : (inB total && decide (1 ≤ ws.length) && decide (ws.length ≤ 512) && ws.all inB) = false := by
      cases h : (inB total && decide (1 ≤ ws.length) && decide (ws.length ≤ 512) && ws.all inB); rfl; exact absurd h hc
    have gS : Good Tryd.prog 26 [intP total, intsP ws] (.tup [intsP [], intP 1]) := by rw [shareP, share_1 hc] at g; exact g
    have z0 : (((0 : Nat) : Int) == 0) = true := rfl
    refine good10 (by simp) ?_
    simp only [ac10, intP, intsP, List.length_map, d600, AW, reduceAdd, reduceCtorEq, reduceEqDiff, ↓reduceIte, reduceLT, reduceLeDiff, reduceSub, reducePow, reduceMul, reduceToNat, reduceLE, reduceEq, Int.reduceLT, Int.reduceBEq, Int.reduceBNe]
    refine ops_call (gS) (by simp only [intP, intsP, List.map_nil, AW, reduceAdd, reduceCtorEq, reduceEqDiff, ↓reduceIte, reduceLT, reduceLeDiff, reduceSub, reducePow, reduceMul, reduceToNat, reduceLE, reduceEq, Int.reduceLT, Int.reduceBEq, Int.reduceBNe]) ?_; simp only [intP, intsP, List.map_nil, AW, reduceAdd, reduceCtorEq, reduceEqDiff, ↓reduceIte, reduceLT, reduceLeDiff, reduceSub, reducePow, reduceMul, reduceToNat, reduceLE, reduceEq, Int.reduceLT, Int.reduceBEq, Int.reduceBNe]
    cases hall : ws.all rg0
    · rw [sumP, if_neg (by rw [hall]; simp)] at gs
      refine ops_call (gs) (by simp only [intP, intsP, AW, reduceAdd, reduceCtorEq, reduceEqDiff, ↓reduceIte, reduceLT, reduceLeDiff, reduceSub, reducePow, reduceMul, reduceToNat, reduceLE, reduceEq, Int.reduceLT, Int.reduceBEq, Int.reduceBNe]) ?_; simp only [intP, intsP, AW, reduceAdd, reduceCtorEq, reduceEqDiff, ↓reduceIte, reduceLT, reduceLeDiff, reduceSub, reducePow, reduceMul, reduceToNat, reduceLE, reduceEq, Int.reduceLT, Int.reduceBEq, Int.reduceBNe]
      simp only [List.map_nil, z0, AW, reduceAdd, reduceCtorEq, reduceEqDiff, ↓reduceIte, reduceLT, reduceLeDiff, reduceSub, reducePow, reduceMul, reduceToNat, reduceLE, reduceEq, Int.reduceLT, Int.reduceBEq, Int.reduceBNe]
      refine ops_call (awake_g) (by simp only [AW, reduceAdd, reduceCtorEq, reduceEqDiff, ↓reduceIte, reduceLT, reduceLeDiff, reduceSub, reducePow, reduceMul, reduceToNat, reduceLE, reduceEq, Int.reduceLT, Int.reduceBEq, Int.reduceBNe]) ?_; simp only [AW, reduceAdd, reduceCtorEq, reduceEqDiff, ↓reduceIte, reduceLT, reduceLeDiff, reduceSub, reducePow, reduceMul, reduceToNat, reduceLE, reduceEq, Int.reduceLT, Int.reduceBEq, Int.reduceBNe]
    · rw [sumP, if_pos hall] at gs
      refine ops_call (gs) (by simp only [intP, intsP, AW, reduceAdd, reduceCtorEq, reduceEqDiff, ↓reduceIte, reduceLT, reduceLeDiff, reduceSub, reducePow, reduceMul, reduceToNat, reduceLE, reduceEq, Int.reduceLT, Int.reduceBEq, Int.reduceBNe]) ?_; simp only [intP, intsP, AW, reduceAdd, reduceCtorEq, reduceEqDiff, ↓reduceIte, reduceLT, reduceLeDiff, reduceSub, reducePow, reduceMul, reduceToNat, reduceLE, reduceEq, Int.reduceLT, Int.reduceBEq, Int.reduceBNe]
      refine ops_call (gc) (by simp only [intP, AW, reduceAdd, reduceCtorEq, reduceEqDiff, ↓reduceIte, reduceLT, reduceLeDiff, reduceSub, reducePow, reduceMul, reduceToNat, reduceLE, reduceEq, Int.reduceLT, Int.reduceBEq, Int.reduceBNe]) ?_; simp only [intP, AW, reduceAdd, reduceCtorEq, reduceEqDiff, ↓reduceIte, reduceLT, reduceLeDiff, reduceSub, reducePow, reduceMul, reduceToNat, reduceLE, reduceEq, Int.reduceLT, Int.reduceBEq, Int.reduceBNe]
      cases ht : rg0 total
      · simp only [List.map_nil, z0, AW, reduceAdd, reduceCtorEq, reduceEqDiff, ↓reduceIte, reduceLT, reduceLeDiff, reduceSub, reducePow, reduceMul, reduceToNat, reduceLE, reduceEq, Int.reduceLT, Int.reduceBEq, Int.reduceBNe]
        refine ops_call (awake_g) (by simp only [AW, reduceAdd, reduceCtorEq, reduceEqDiff, ↓reduceIte, reduceLT, reduceLeDiff, reduceSub, reducePow, reduceMul, reduceToNat, reduceLE, reduceEq, Int.reduceLT, Int.reduceBEq, Int.reduceBNe]) ?_; simp only [AW, reduceAdd, reduceCtorEq, reduceEqDiff, ↓reduceIte, reduceLT, reduceLeDiff, reduceSub, reducePow, reduceMul, reduceToNat, reduceLE, reduceEq, Int.reduceLT, Int.reduceBEq, Int.reduceBNe]
      · cases h1 : decide ((ws.length : Int) < 1)
        · have h512 : decide ((512 : Int) < (ws.length : Int)) = true := by
            rw [decide_eq_true_eq]
            have h1' := of_decide_eq_false h1
            rcases Int.lt_or_le 512 (ws.length : Int) with h | h
            · exact h
            · exfalso
              rw [inB_rg0, ht, all_rg0, hall] at hc
              simp only [Bool.true_and, Bool.and_true, Bool.and_eq_false_iff, decide_eq_false_iff_not] at hc
              omega
          simp only [List.length_map, h1, h512, List.map_nil, z0, AW, reduceAdd, reduceCtorEq, reduceEqDiff, ↓reduceIte, reduceLT, reduceLeDiff, reduceSub, reducePow, reduceMul, reduceToNat, reduceLE, reduceEq, Int.reduceLT, Int.reduceBEq, Int.reduceBNe]
          refine ops_call (awake_g) (by simp only [AW, reduceAdd, reduceCtorEq, reduceEqDiff, ↓reduceIte, reduceLT, reduceLeDiff, reduceSub, reducePow, reduceMul, reduceToNat, reduceLE, reduceEq, Int.reduceLT, Int.reduceBEq, Int.reduceBNe]) ?_; simp only [AW, reduceAdd, reduceCtorEq, reduceEqDiff, ↓reduceIte, reduceLT, reduceLeDiff, reduceSub, reducePow, reduceMul, reduceToNat, reduceLE, reduceEq, Int.reduceLT, Int.reduceBEq, Int.reduceBNe]
        · simp only [List.length_map, h1, List.map_nil, z0, AW, reduceAdd, reduceCtorEq, reduceEqDiff, ↓reduceIte, reduceLT, reduceLeDiff, reduceSub, reducePow, reduceMul, reduceToNat, reduceLE, reduceEq, Int.reduceLT, Int.reduceBEq, Int.reduceBNe]
          refine ops_call (awake_g) (by simp only [AW, reduceAdd, reduceCtorEq, reduceEqDiff, ↓reduceIte, reduceLT, reduceLeDiff, reduceSub, reducePow, reduceMul, reduceToNat, reduceLE, reduceEq, Int.reduceLT, Int.reduceBEq, Int.reduceBNe]) ?_; simp only [AW, reduceAdd, reduceCtorEq, reduceEqDiff, ↓reduceIte, reduceLT, reduceLeDiff, reduceSub, reducePow, reduceMul, reduceToNat, reduceLE, reduceEq, Int.reduceLT, Int.reduceBEq, Int.reduceBNe]
  have hc2 := hc
  simp only [Bool.and_eq_true, decide_eq_true_eq] at hc2
  obtain ⟨⟨⟨ht, h1⟩, h2⟩, hall⟩ := hc2
  have ht2 := inB_iff.1 ht
  obtain ⟨T, rfl⟩ : ∃ T : Nat, total = (T : Int) := ⟨total.toNat, by omega⟩
  have d1 : decide ((ws.length : Int) < 1) = false := by rw [decide_eq_false_iff_not]; omega
  have d512 : decide ((512 : Int) < (ws.length : Int)) = false := by rw [decide_eq_false_iff_not]; omega
  have z0 : (((0 : Nat) : Int) == 0) = true := rfl
  by_cases hS : 1125899906842624 < (natsL ws).sum
  · have gS : Good Tryd.prog 26 [intP (T : Int), intsP ws] (.tup [intsP [], intP 2]) := by
      have e : shareL (T : Int) ws = ([], 2) := by unfold shareL; rw [if_neg (by rw [hc]; simp), if_pos hS]
      rw [shareP, e] at g; exact g
    rw [sumP, if_pos (show ws.all rg0 = true from hall), nats_sum (show ws.all rg0 = true from hall)] at gs
    rw [show rg0 (T : Int) = true from ht] at gc
    have dS : decide ((1125899906842624 : Int) < ((natsL ws).sum : Int)) = true := by rw [decide_eq_true_eq]; omega
    refine good10 (by simp) ?_
    simp only [ac10, intP, intsP, List.length_map, d600, AW, reduceAdd, reduceCtorEq, reduceEqDiff, ↓reduceIte, reduceLT, reduceLeDiff, reduceSub, reducePow, reduceMul, reduceToNat, reduceLE, reduceEq, Int.reduceLT, Int.reduceBEq, Int.reduceBNe]
    refine ops_call (gS) (by simp only [intP, intsP, List.map_nil, AW, reduceAdd, reduceCtorEq, reduceEqDiff, ↓reduceIte, reduceLT, reduceLeDiff, reduceSub, reducePow, reduceMul, reduceToNat, reduceLE, reduceEq, Int.reduceLT, Int.reduceBEq, Int.reduceBNe]) ?_; simp only [intP, intsP, List.map_nil, AW, reduceAdd, reduceCtorEq, reduceEqDiff, ↓reduceIte, reduceLT, reduceLeDiff, reduceSub, reducePow, reduceMul, reduceToNat, reduceLE, reduceEq, Int.reduceLT, Int.reduceBEq, Int.reduceBNe]
    refine ops_call (gs) (by simp only [intP, intsP, AW, reduceAdd, reduceCtorEq, reduceEqDiff, ↓reduceIte, reduceLT, reduceLeDiff, reduceSub, reducePow, reduceMul, reduceToNat, reduceLE, reduceEq, Int.reduceLT, Int.reduceBEq, Int.reduceBNe]) ?_; simp only [intP, intsP, AW, reduceAdd, reduceCtorEq, reduceEqDiff, ↓reduceIte, reduceLT, reduceLeDiff, reduceSub, reducePow, reduceMul, reduceToNat, reduceLE, reduceEq, Int.reduceLT, Int.reduceBEq, Int.reduceBNe]
    refine ops_call (gc) (by simp only [intP, AW, reduceAdd, reduceCtorEq, reduceEqDiff, ↓reduceIte, reduceLT, reduceLeDiff, reduceSub, reducePow, reduceMul, reduceToNat, reduceLE, reduceEq, Int.reduceLT, Int.reduceBEq, Int.reduceBNe]) ?_; simp only [intP, AW, reduceAdd, reduceCtorEq, reduceEqDiff, ↓reduceIte, reduceLT, reduceLeDiff, reduceSub, reducePow, reduceMul, reduceToNat, reduceLE, reduceEq, Int.reduceLT, Int.reduceBEq, Int.reduceBNe]
    simp only [List.length_map, d1, d512, List.map_nil, z0, dS, AW, reduceAdd, reduceCtorEq, reduceEqDiff, ↓reduceIte, reduceLT, reduceLeDiff, reduceSub, reducePow, reduceMul, reduceToNat, reduceLE, reduceEq, Int.reduceLT, Int.reduceBEq, Int.reduceBNe]
    refine ops_call (awake_g) (by simp only [AW, reduceAdd, reduceCtorEq, reduceEqDiff, ↓reduceIte, reduceLT, reduceLeDiff, reduceSub, reducePow, reduceMul, reduceToNat, reduceLE, reduceEq, Int.reduceLT, Int.reduceBEq, Int.reduceBNe]) ?_; simp only [AW, reduceAdd, reduceCtorEq, reduceEqDiff, ↓reduceIte, reduceLT, reduceLeDiff, reduceSub, reducePow, reduceMul, reduceToNat, reduceLE, reduceEq, Int.reduceLT, Int.reduceBEq, Int.reduceBNe]
  by_cases hz : (natsL ws).sum = 0 ∧ 0 < T
  · have gS : Good Tryd.prog 26 [intP (T : Int), intsP ws] (.tup [intsP [], intP 10]) := by
      have e : shareL (T : Int) ws = ([], 10) := by unfold shareL; rw [if_neg (by rw [hc]; simp), if_neg hS, if_pos ⟨hz.1, by omega⟩]
      rw [shareP, e] at g; exact g
    rw [sumP, if_pos (show ws.all rg0 = true from hall), nats_sum (show ws.all rg0 = true from hall), hz.1] at gs
    rw [show rg0 (T : Int) = true from ht] at gc
    have dT : decide ((0 : Int) < (T : Int)) = true := by rw [decide_eq_true_eq]; omega
    refine good10 (by simp) ?_
    simp only [ac10, intP, intsP, List.length_map, d600, AW, reduceAdd, reduceCtorEq, reduceEqDiff, ↓reduceIte, reduceLT, reduceLeDiff, reduceSub, reducePow, reduceMul, reduceToNat, reduceLE, reduceEq, Int.reduceLT, Int.reduceBEq, Int.reduceBNe]
    refine ops_call (gS) (by simp only [intP, intsP, List.map_nil, AW, reduceAdd, reduceCtorEq, reduceEqDiff, ↓reduceIte, reduceLT, reduceLeDiff, reduceSub, reducePow, reduceMul, reduceToNat, reduceLE, reduceEq, Int.reduceLT, Int.reduceBEq, Int.reduceBNe]) ?_; simp only [intP, intsP, List.map_nil, AW, reduceAdd, reduceCtorEq, reduceEqDiff, ↓reduceIte, reduceLT, reduceLeDiff, reduceSub, reducePow, reduceMul, reduceToNat, reduceLE, reduceEq, Int.reduceLT, Int.reduceBEq, Int.reduceBNe]
    refine ops_call (gs) (by simp only [intP, intsP, AW, reduceAdd, reduceCtorEq, reduceEqDiff, ↓reduceIte, reduceLT, reduceLeDiff, reduceSub, reducePow, reduceMul, reduceToNat, reduceLE, reduceEq, Int.reduceLT, Int.reduceBEq, Int.reduceBNe]) ?_; simp only [intP, intsP, AW, reduceAdd, reduceCtorEq, reduceEqDiff, ↓reduceIte, reduceLT, reduceLeDiff, reduceSub, reducePow, reduceMul, reduceToNat, reduceLE, reduceEq, Int.reduceLT, Int.reduceBEq, Int.reduceBNe]
    refine ops_call (gc) (by simp only [intP, AW, reduceAdd, reduceCtorEq, reduceEqDiff, ↓reduceIte, reduceLT, reduceLeDiff, reduceSub, reducePow, reduceMul, reduceToNat, reduceLE, reduceEq, Int.reduceLT, Int.reduceBEq, Int.reduceBNe]) ?_; simp only [intP, AW, reduceAdd, reduceCtorEq, reduceEqDiff, ↓reduceIte, reduceLT, reduceLeDiff, reduceSub, reducePow, reduceMul, reduceToNat, reduceLE, reduceEq, Int.reduceLT, Int.reduceBEq, Int.reduceBNe]
    simp only [List.length_map, d1, d512, List.map_nil, z0, dT, AW, reduceAdd, reduceCtorEq, reduceEqDiff, ↓reduceIte, reduceLT, reduceLeDiff, reduceSub, reducePow, reduceMul, reduceToNat, reduceLE, reduceEq, Int.reduceLT, Int.reduceBEq, Int.reduceBNe]
    refine ops_call (awake_g) (by simp only [AW, reduceAdd, reduceCtorEq, reduceEqDiff, ↓reduceIte, reduceLT, reduceLeDiff, reduceSub, reducePow, reduceMul, reduceToNat, reduceLE, reduceEq, Int.reduceLT, Int.reduceBEq, Int.reduceBNe]) ?_; simp only [AW, reduceAdd, reduceCtorEq, reduceEqDiff, ↓reduceIte, reduceLT, reduceLeDiff, reduceSub, reducePow, reduceMul, reduceToNat, reduceLE, reduceEq, Int.reduceLT, Int.reduceBEq, Int.reduceBNe]
  exact shares_main T ws (by omega) h1 h2 hall (by omega) hz


end Go.Proofs.YtjlhnlfalomenaaDoor
