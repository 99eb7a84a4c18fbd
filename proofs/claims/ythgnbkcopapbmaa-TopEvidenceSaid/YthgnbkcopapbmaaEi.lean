/-
  Tariffs: Time.
-/
import Derived.Test.YthgnbkcopapbmaaEh
namespace Go.Proofs.Ythgnbkcopapbmaa
open Go.RowKit
open Nat (reduceAdd reduceEqDiff reduceLT reduceLeDiff reduceSub reducePow reduceMul)
open Int (reduceToNat reduceLE reduceEq)
set_option linter.unusedVariables false
set_option linter.unusedSimpArgs false
set_option linter.unnecessarySimpa false

theorem dlt_irr3 (n : Nat) : decide ((n : Int) < (n : Int)) = false := by simp
set_option maxHeartbeats 2000000 in
theorem tcheck_g (t : TariffS) (h0 : t.from_ = 0) : Good Try.prog 72 [.sl [t.pv]] (intP (if tarB t = true then 0 else 1)) := by
  refine good72 (by simp) ?_
  have z1 : (((1 : Nat) : Int) == 0) = false := by decide
  have z2 : decide ((8 : Int) < ((1 : Nat) : Int)) = false := by decide
  simp only [ac72, TariffS.pv, TariffS.vals, List.map_cons, List.map_nil, List.length_cons, List.length_nil, Nat.zero_add, z1, z2, AW, reduceAdd, reduceCtorEq, reduceEqDiff, ↓reduceIte, reduceLT, reduceLeDiff, reduceSub, reducePow, reduceMul, reduceToNat, reduceLE, reduceEq, Int.reduceLT, Int.reduceBEq, Int.reduceBNe]
  refine run_loop (ι := Nat) (fun k => ⟨[(0, .sl [.agg [.sc (.int .i64 t.from_), .sc (.int .i64 t.unlock), .sc (.int .i64 t.step), .sc (.int .i64 t.free), .sc (.int .i64 t.price), .sc (.int .i64 t.pause)]]), (13, .sl [.agg [.sc (.int .i64 t.from_), .sc (.int .i64 t.unlock), .sc (.int .i64 t.step), .sc (.int .i64 t.free), .sc (.int .i64 t.price), .sc (.int .i64 t.pause)]]), (14, .sc (.int .i64 ((1 : Nat) : Int))), (15, .sc (.int .i64 (k : Int)))], [], 12, 46⟩) (fun k => k ≤ 1 ∧ (k = 1 → tarB t = true)) (fun k => 1 - k) 12 (fun _ => rfl) 0 (by simp only [LW, Nat.reduceMod, Nat.reduceDiv, Int.natCast_zero, List.length_cons, List.length_nil, Nat.zero_add, AW, reduceAdd, reduceCtorEq, reduceEqDiff, ↓reduceIte, reduceLT, reduceLeDiff, reduceSub, reducePow, reduceMul, reduceToNat, reduceLE, reduceEq, Int.reduceLT, Int.reduceBEq, Int.reduceBNe]) ⟨Nat.zero_le _, nofun⟩ (fun k hk => ?_)
  obtain ⟨gk, ik⟩ := hk
  by_cases hltk : k < 1
  rotate_left
  · have dk : decide ((k : Int) < ((1 : Nat) : Int)) = false := by rw [decide_eq_false_iff_not]; exact fun h => hltk (Int.ofNat_lt.1 h)
    have ek : k = 1 := Nat.le_antisymm gk (Nat.le_of_not_lt hltk)
    rw [ek]
    rw [if_pos (ik ek)]
    simp only [dlt_irr3, intP, AW, reduceAdd, reduceCtorEq, reduceEqDiff, ↓reduceIte, reduceLT, reduceLeDiff, reduceSub, reducePow, reduceMul, reduceToNat, reduceLE, reduceEq, Int.reduceLT, Int.reduceBEq, Int.reduceBNe]
  have dk : decide ((k : Int) < ((1 : Nat) : Int)) = true := by rw [decide_eq_true_eq]; exact Int.ofNat_lt.2 hltk
  obtain rfl : k = 0 := by omega
  have gt := tarB_g t
  have d01 : decide ((0 : Int) < ((1 : Nat) : Int)) = true := by decide
  simp only [d01, Int.natCast_zero, Int.toNat_zero, List.getD_cons_zero, List.length_cons, List.length_nil, Nat.zero_add, AW, reduceAdd, reduceCtorEq, reduceEqDiff, ↓reduceIte, reduceLT, reduceLeDiff, reduceSub, reducePow, reduceMul, reduceToNat, reduceLE, reduceEq, Int.reduceLT, Int.reduceBEq, Int.reduceBNe]
  refine ops_call (gt) (by simp only [TariffS.pv, TariffS.vals, List.map_cons, List.map_nil, AW, reduceAdd, reduceCtorEq, reduceEqDiff, ↓reduceIte, reduceLT, reduceLeDiff, reduceSub, reducePow, reduceMul, reduceToNat, reduceLE, reduceEq, Int.reduceLT, Int.reduceBEq, Int.reduceBNe]) ?_; simp only [TariffS.pv, TariffS.vals, List.map_cons, List.map_nil, AW, reduceAdd, reduceCtorEq, reduceEqDiff, ↓reduceIte, reduceLT, reduceLeDiff, reduceSub, reducePow, reduceMul, reduceToNat, reduceLE, reduceEq, Int.reduceLT, Int.reduceBEq, Int.reduceBNe]
  cases ht : tarB t
  · simp only [intP, AW, reduceAdd, reduceCtorEq, reduceEqDiff, ↓reduceIte, reduceLT, reduceLeDiff, reduceSub, reducePow, reduceMul, reduceToNat, reduceLE, reduceEq, Int.reduceLT, Int.reduceBEq, Int.reduceBNe]
  have w01 : IntKind.i64.wrap ((0 : Int) + 1) = ((1 : Nat) : Int) := by decide
  simp only [h0, Int.natCast_zero, w01, AW, reduceAdd, reduceCtorEq, reduceEqDiff, ↓reduceIte, reduceLT, reduceLeDiff, reduceSub, reducePow, reduceMul, reduceToNat, reduceLE, reduceEq, Int.reduceLT, Int.reduceBEq, Int.reduceBNe]
  (first | (refine drawnK rfl ?_; (try simp only [AW, reduceAdd, reduceCtorEq, reduceEqDiff, ↓reduceIte, reduceLT, reduceLeDiff, reduceSub, reducePow, reduceMul, reduceToNat, reduceLE, reduceEq, Int.reduceLT, Int.reduceBEq, Int.reduceBNe])) | rfl | skip)
  (try simp only [h0, Int.natCast_zero, w01, AW, reduceAdd, reduceCtorEq, reduceEqDiff, ↓reduceIte, reduceLT, reduceLeDiff, reduceSub, reducePow, reduceMul, reduceToNat, reduceLE, reduceEq, Int.reduceLT, Int.reduceBEq, Int.reduceBNe])
  refine ⟨1, Nat.le_refl _, ?_, by omega⟩
  simp only [LW, Nat.reduceMod, Nat.reduceDiv, h0, AW, reduceAdd, reduceCtorEq, reduceEqDiff, ↓reduceIte, reduceLT, reduceLeDiff, reduceSub, reducePow, reduceMul, reduceToNat, reduceLE, reduceEq, Int.reduceLT, Int.reduceBEq, Int.reduceBNe]
set_option maxHeartbeats 2000000 in
theorem alone_g (t : TariffS) : Good Try.prog 49 [t.pv] (.tup [(t0 t).pv, intP (if tarB (t0 t) = true then 0 else 1)]) := by
  have gc := tcheck_g (t0 t) rfl
  refine good49 (by simp) ?_
  simp only [ac49, TariffS.pv, TariffS.vals, List.map_cons, List.map_nil, t0, AW, reduceAdd, reduceCtorEq, reduceEqDiff, ↓reduceIte, reduceLT, reduceLeDiff, reduceSub, reducePow, reduceMul, reduceToNat, reduceLE, reduceEq, Int.reduceLT, Int.reduceBEq, Int.reduceBNe]
  refine ops_call (gc) (by simp only [TariffS.pv, TariffS.vals, List.map_cons, List.map_nil, t0, intP, AW, reduceAdd, reduceCtorEq, reduceEqDiff, ↓reduceIte, reduceLT, reduceLeDiff, reduceSub, reducePow, reduceMul, reduceToNat, reduceLE, reduceEq, Int.reduceLT, Int.reduceBEq, Int.reduceBNe]) ?_; simp only [TariffS.pv, TariffS.vals, List.map_cons, List.map_nil, t0, intP, AW, reduceAdd, reduceCtorEq, reduceEqDiff, ↓reduceIte, reduceLT, reduceLeDiff, reduceSub, reducePow, reduceMul, reduceToNat, reduceLE, reduceEq, Int.reduceLT, Int.reduceBEq, Int.reduceBNe]
  (first | (refine drawnK rfl ?_; (try simp only [AW, reduceAdd, reduceCtorEq, reduceEqDiff, ↓reduceIte, reduceLT, reduceLeDiff, reduceSub, reducePow, reduceMul, reduceToNat, reduceLE, reduceEq, Int.reduceLT, Int.reduceBEq, Int.reduceBNe])) | rfl | skip)
set_option maxHeartbeats 2000000 in
theorem price_g (t : TariffS) (n : Int) : Good Try.prog 29 [.sc (.func (.func 30) #[] #[]), t.pv, intP n] (timeP t n) := by
  have ga := alone_g t
  have hk : (timeP t n) = (if tarB (t0 t) = true then (if n < 0 ∨ 4294944000 < n then .tup [intP 0, intP 1] else if 1000000000000 < ridingT (t0 t) n then .tup [intP 0, intP 2] else .tup [intP (ridingT (t0 t) n), intP 0]) else .tup [intP 0, intP 1]) := by
    unfold timeP timeE
    cases tarB (t0 t)
    · rfl
    · simp only [Bool.true_eq_false, if_false, if_true]
      by_cases h1 : n < 0 ∨ 4294944000 < n
      · rw [if_pos h1, if_pos h1]; rfl
      · rw [if_neg h1, if_neg h1]
        by_cases h2 : 1000000000000 < ridingT (t0 t) n
        · rw [if_pos h2, if_pos h2]; rfl
        · rw [if_neg h2, if_neg h2]; rfl
  rw [hk]
  clear hk
  cases ht : tarB (t0 t)
  · rw [ht, if_neg (by decide)] at ga
    rw [if_neg (by decide)]
    refine good29 (by simp) ?_
    simp only [ac29, TariffS.pv, TariffS.vals, List.map_cons, List.map_nil, intP, AW, reduceAdd, reduceCtorEq, reduceEqDiff, ↓reduceIte, reduceLT, reduceLeDiff, reduceSub, reducePow, reduceMul, reduceToNat, reduceLE, reduceEq, Int.reduceLT, Int.reduceBEq, Int.reduceBNe]
    refine ops_call (ga) (by simp only [TariffS.pv, TariffS.vals, List.map_cons, List.map_nil, t0, intP, AW, reduceAdd, reduceCtorEq, reduceEqDiff, ↓reduceIte, reduceLT, reduceLeDiff, reduceSub, reducePow, reduceMul, reduceToNat, reduceLE, reduceEq, Int.reduceLT, Int.reduceBEq, Int.reduceBNe]) ?_; simp only [TariffS.pv, TariffS.vals, List.map_cons, List.map_nil, t0, intP, AW, reduceAdd, reduceCtorEq, reduceEqDiff, ↓reduceIte, reduceLT, reduceLeDiff, reduceSub, reducePow, reduceMul, reduceToNat, reduceLE, reduceEq, Int.reduceLT, Int.reduceBEq, Int.reduceBNe]
  rw [ht, if_pos rfl] at ga
  rw [if_pos rfl]
  refine good29 (by simp) ?_
  simp only [ac29, TariffS.pv, TariffS.vals, List.map_cons, List.map_nil, intP, AW, reduceAdd, reduceCtorEq, reduceEqDiff, ↓reduceIte, reduceLT, reduceLeDiff, reduceSub, reducePow, reduceMul, reduceToNat, reduceLE, reduceEq, Int.reduceLT, Int.reduceBEq, Int.reduceBNe]
  refine ops_call (ga) (by simp only [TariffS.pv, TariffS.vals, List.map_cons, List.map_nil, t0, intP, AW, reduceAdd, reduceCtorEq, reduceEqDiff, ↓reduceIte, reduceLT, reduceLeDiff, reduceSub, reducePow, reduceMul, reduceToNat, reduceLE, reduceEq, Int.reduceLT, Int.reduceBEq, Int.reduceBNe]) ?_; simp only [TariffS.pv, TariffS.vals, List.map_cons, List.map_nil, t0, intP, AW, reduceAdd, reduceCtorEq, reduceEqDiff, ↓reduceIte, reduceLT, reduceLeDiff, reduceSub, reducePow, reduceMul, reduceToNat, reduceLE, reduceEq, Int.reduceLT, Int.reduceBEq, Int.reduceBNe]
  cases h1 : decide (n < 0)
  rotate_left
  · have h1' := of_decide_eq_true h1
    rw [if_pos (Or.inl h1')]
    simp only [intP, AW, reduceAdd, reduceCtorEq, reduceEqDiff, ↓reduceIte, reduceLT, reduceLeDiff, reduceSub, reducePow, reduceMul, reduceToNat, reduceLE, reduceEq, Int.reduceLT, Int.reduceBEq, Int.reduceBNe]
  simp only [AW, reduceAdd, reduceCtorEq, reduceEqDiff, ↓reduceIte, reduceLT, reduceLeDiff, reduceSub, reducePow, reduceMul, reduceToNat, reduceLE, reduceEq, Int.reduceLT, Int.reduceBEq, Int.reduceBNe]
  cases h2 : decide (4294944000 < n)
  rotate_left
  · have h2' := of_decide_eq_true h2
    rw [if_pos (Or.inr h2')]
    simp only [intP, AW, reduceAdd, reduceCtorEq, reduceEqDiff, ↓reduceIte, reduceLT, reduceLeDiff, reduceSub, reducePow, reduceMul, reduceToNat, reduceLE, reduceEq, Int.reduceLT, Int.reduceBEq, Int.reduceBNe]
  have h1' := of_decide_eq_false h1
  have h2' := of_decide_eq_false h2
  rw [if_neg (by omega)]
  have gr := riding_g (t0 t) n ht (by omega) (by omega)
  simp only [AW, reduceAdd, reduceCtorEq, reduceEqDiff, ↓reduceIte, reduceLT, reduceLeDiff, reduceSub, reducePow, reduceMul, reduceToNat, reduceLE, reduceEq, Int.reduceLT, Int.reduceBEq, Int.reduceBNe]
  refine ops_callV hfr hnr hbr (by simp only [AW, reduceAdd, reduceCtorEq, reduceEqDiff, ↓reduceIte, reduceLT, reduceLeDiff, reduceSub, reducePow, reduceMul, reduceToNat, reduceLE, reduceEq, Int.reduceLT, Int.reduceBEq, Int.reduceBNe]) (gr) (by simp only [TariffS.pv, TariffS.vals, List.map_cons, List.map_nil, t0, intP, AW, reduceAdd, reduceCtorEq, reduceEqDiff, ↓reduceIte, reduceLT, reduceLeDiff, reduceSub, reducePow, reduceMul, reduceToNat, reduceLE, reduceEq, Int.reduceLT, Int.reduceBEq, Int.reduceBNe]) ?_; simp only [intP, AW, reduceAdd, reduceCtorEq, reduceEqDiff, ↓reduceIte, reduceLT, reduceLeDiff, reduceSub, reducePow, reduceMul, reduceToNat, reduceLE, reduceEq, Int.reduceLT, Int.reduceBEq, Int.reduceBNe]
  by_cases h3 : 1000000000000 < ridingT (t0 t) n
  · have d3 : decide (1000000000000 < ridingT (t0 t) n) = true := decide_eq_true h3
    simp only [d3, intP, AW, reduceAdd, reduceCtorEq, reduceEqDiff, ↓reduceIte, reduceLT, reduceLeDiff, reduceSub, reducePow, reduceMul, reduceToNat, reduceLE, reduceEq, Int.reduceLT, Int.reduceBEq, Int.reduceBNe]
    exact (if_pos h3).symm
  · have d3 : decide (1000000000000 < ridingT (t0 t) n) = false := decide_eq_false h3
    simp only [d3, intP, AW, reduceAdd, reduceCtorEq, reduceEqDiff, ↓reduceIte, reduceLT, reduceLeDiff, reduceSub, reducePow, reduceMul, reduceToNat, reduceLE, reduceEq, Int.reduceLT, Int.reduceBEq, Int.reduceBNe]
    exact (if_neg h3).symm
theorem time_g (t : TariffS) (n : Int) : Good Try.prog 13 [t.pv, intP n] (timeP t n) := by
  have gp := price_g t n
  unfold timeP at gp ⊢
  refine good13 (by simp) ?_
  simp only [ac13, TariffS.pv, TariffS.vals, List.map_cons, List.map_nil, intP, AW, reduceAdd, reduceCtorEq, reduceEqDiff, ↓reduceIte, reduceLT, reduceLeDiff, reduceSub, reducePow, reduceMul, reduceToNat, reduceLE, reduceEq, Int.reduceLT, Int.reduceBEq, Int.reduceBNe]
  split at gp
  · rename_i h
    rw [if_pos h]
    refine ops_call (gp) (by simp only [TariffS.pv, TariffS.vals, List.map_cons, List.map_nil, intP, AW, reduceAdd, reduceCtorEq, reduceEqDiff, ↓reduceIte, reduceLT, reduceLeDiff, reduceSub, reducePow, reduceMul, reduceToNat, reduceLE, reduceEq, Int.reduceLT, Int.reduceBEq, Int.reduceBNe]) ?_; simp only [TariffS.pv, TariffS.vals, List.map_cons, List.map_nil, intP, AW, reduceAdd, reduceCtorEq, reduceEqDiff, ↓reduceIte, reduceLT, reduceLeDiff, reduceSub, reducePow, reduceMul, reduceToNat, reduceLE, reduceEq, Int.reduceLT, Int.reduceBEq, Int.reduceBNe]
  · rename_i h
    rw [if_neg h]
    refine ops_call (gp) (by simp only [TariffS.pv, TariffS.vals, List.map_cons, List.map_nil, intP, AW, reduceAdd, reduceCtorEq, reduceEqDiff, ↓reduceIte, reduceLT, reduceLeDiff, reduceSub, reducePow, reduceMul, reduceToNat, reduceLE, reduceEq, Int.reduceLT, Int.reduceBEq, Int.reduceBNe]) ?_; simp only [TariffS.pv, TariffS.vals, List.map_cons, List.map_nil, intP, AW, reduceAdd, reduceCtorEq, reduceEqDiff, ↓reduceIte, reduceLT, reduceLeDiff, reduceSub, reducePow, reduceMul, reduceToNat, reduceLE, reduceEq, Int.reduceLT, Int.reduceBEq, Int.reduceBNe]


end Go.Proofs.Ythgnbkcopapbmaa
