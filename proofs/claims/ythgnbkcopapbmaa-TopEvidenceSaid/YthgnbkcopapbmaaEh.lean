/-
  Tariffs: the price of some seconds of riding.
-/
import Derived.Test.YthgnbkcopapbmaaEa
import Derived.Test.YthgnbkcopapbmaaR3
namespace Go.Proofs.Ythgnbkcopapbmaa
open Go.RowKit
open Nat (reduceAdd reduceEqDiff reduceLT reduceLeDiff reduceSub reducePow reduceMul)
open Int (reduceToNat reduceLE reduceEq)
set_option linter.unusedVariables false
set_option linter.unusedSimpArgs false
set_option linter.unnecessarySimpa false

def inT (n lo hi : Int) : Bool := decide (lo ≤ n) && decide (n ≤ hi)
theorem inT_iff {n lo hi : Int} : inT n lo hi = true ↔ lo ≤ n ∧ n ≤ hi := by simp [inT]
def tarB (t : TariffS) : Bool := inT t.from_ 0 4294943999 && inT t.unlock 0 1000000 && inT t.price 0 1000000 && inT t.pause 0 1000000 && inT t.step 1 86400 && inT t.free 0 86400
def stepsT (t : TariffS) (n : Int) : Int := (max n 0 + t.step - 1).tdiv t.step
def ridingT (t : TariffS) (n : Int) : Int := t.price * stepsT t (n - t.free)
def t0 (t : TariffS) : TariffS := { t with from_ := 0 }
def timeE (t : TariffS) (n : Int) : Int := if tarB (t0 t) = false then 1 else if n < 0 ∨ 4294944000 < n then 1 else if 1000000000000 < ridingT (t0 t) n then 2 else 0
def timeP (t : TariffS) (n : Int) : PV := if timeE t n = 0 then .tup [intP (ridingT (t0 t) n), intP 0] else .tup [intP 0, intP (timeE t n)]
theorem mx_eq (a b : Int) : (if b > a then b else a) = max a b := by
  rw [Int.max_def]; split <;> split <;> omega
theorem steps_bnd {t : TariffS} {n : Int} (h1 : 1 ≤ t.step) (h2 : t.step ≤ 86400) (hn : n ≤ 4294944000) : 0 ≤ stepsT t n ∧ stepsT t n ≤ 4294944000 := by
  unfold stepsT
  rw [Int.tdiv_eq_ediv_of_nonneg (by omega)]
  constructor
  · exact Int.ediv_nonneg (by omega) (by omega)
  · have h3 : (max n 0 + t.step - 1) / t.step ≤ max n 0 := by
      rw [← Int.lt_add_one_iff]
      rw [Int.ediv_lt_iff_lt_mul (by omega)]
      have h4 : max n 0 ≤ max n 0 * t.step := by
        have := Int.mul_le_mul_of_nonneg_left h1 (show 0 ≤ max n 0 by omega)
        rw [Int.mul_one] at this; exact this
      rw [Int.add_mul, Int.one_mul]
      omega
    omega
theorem steps_mono {t : TariffS} {n m : Int} (h1 : 1 ≤ t.step) (h : n ≤ m) : stepsT t n ≤ stepsT t m := by
  unfold stepsT
  rw [Int.tdiv_eq_ediv_of_nonneg (by omega), Int.tdiv_eq_ediv_of_nonneg (by omega)]
  exact Int.ediv_le_ediv (by omega) (by omega)
theorem riding_mono {t : TariffS} {n m : Int} (h1 : 1 ≤ t.step) (h0 : 0 ≤ t.price) (h : n ≤ m) : ridingT t n ≤ ridingT t m :=
  Int.mul_le_mul_of_nonneg_left (steps_mono h1 (by omega)) h0
theorem tar_parts {t : TariffS} (h : tarB t = true) : (0 ≤ t.price ∧ t.price ≤ 1000000) ∧ (1 ≤ t.step ∧ t.step ≤ 86400) ∧ (0 ≤ t.free ∧ t.free ≤ 86400) := by
  unfold tarB at h
  simp only [Bool.and_eq_true] at h
  exact ⟨inT_iff.1 h.1.1.1.2, inT_iff.1 h.1.2, inT_iff.1 h.2⟩
theorem inT_g (n lo hi : Int) : Good Try.prog 92 [intP n, intP lo, intP hi] (.sc (.bool (inT n lo hi))) := by
  refine good92 (by simp) ?_
  simp only [ac92, intP, inT, AW, reduceAdd, reduceCtorEq, reduceEqDiff, ↓reduceIte, reduceLT, reduceLeDiff, reduceSub, reducePow, reduceMul, reduceToNat, reduceLE, reduceEq, Int.reduceLT, Int.reduceBEq, Int.reduceBNe]
  cases h1 : decide (lo ≤ n)
  · simp only [AW, reduceAdd, reduceCtorEq, reduceEqDiff, ↓reduceIte, reduceLT, reduceLeDiff, reduceSub, reducePow, reduceMul, reduceToNat, reduceLE, reduceEq, Int.reduceLT, Int.reduceBEq, Int.reduceBNe]
  simp only [AW, reduceAdd, reduceCtorEq, reduceEqDiff, ↓reduceIte, reduceLT, reduceLeDiff, reduceSub, reducePow, reduceMul, reduceToNat, reduceLE, reduceEq, Int.reduceLT, Int.reduceBEq, Int.reduceBNe]
theorem hfi : Try.prog.funcs[92]? = some Try.f92 := Try.func92
theorem hni : (Try.f92.name == "runtime.NumGoroutine") = false := by kernel_rfl
theorem hbi : Try.f92.body.isNone = false := by kernel_rfl
theorem hfr : Try.prog.funcs[30]? = some Try.f30 := Try.func30
theorem hnr : (Try.f30.name == "runtime.NumGoroutine") = false := by kernel_rfl
theorem hbr : Try.f30.body.isNone = false := by kernel_rfl
set_option maxHeartbeats 2000000 in
theorem tarB_g (t : TariffS) : Good Try.prog 82 [t.pv] (.sc (.bool (tarB t))) := by
  refine good82 (by simp) ?_
  simp only [ac82, TariffS.pv, TariffS.vals, List.map_cons, List.map_nil, AW, reduceAdd, reduceCtorEq, reduceEqDiff, ↓reduceIte, reduceLT, reduceLeDiff, reduceSub, reducePow, reduceMul, reduceToNat, reduceLE, reduceEq, Int.reduceLT, Int.reduceBEq, Int.reduceBNe]
  refine ops_callV hfi hni hbi (by simp only [AW, reduceAdd, reduceCtorEq, reduceEqDiff, ↓reduceIte, reduceLT, reduceLeDiff, reduceSub, reducePow, reduceMul, reduceToNat, reduceLE, reduceEq, Int.reduceLT, Int.reduceBEq, Int.reduceBNe]) (inT_g t.from_ 0 4294943999) (by simp only [intP, AW, reduceAdd, reduceCtorEq, reduceEqDiff, ↓reduceIte, reduceLT, reduceLeDiff, reduceSub, reducePow, reduceMul, reduceToNat, reduceLE, reduceEq, Int.reduceLT, Int.reduceBEq, Int.reduceBNe]) ?_; simp only [intP, AW, reduceAdd, reduceCtorEq, reduceEqDiff, ↓reduceIte, reduceLT, reduceLeDiff, reduceSub, reducePow, reduceMul, reduceToNat, reduceLE, reduceEq, Int.reduceLT, Int.reduceBEq, Int.reduceBNe]
  cases h0 : inT t.from_ 0 4294943999
  · simp only [tarB, h0, Bool.false_and, Bool.and_false, AW, reduceAdd, reduceCtorEq, reduceEqDiff, ↓reduceIte, reduceLT, reduceLeDiff, reduceSub, reducePow, reduceMul, reduceToNat, reduceLE, reduceEq, Int.reduceLT, Int.reduceBEq, Int.reduceBNe]
    try rfl
  simp only [AW, reduceAdd, reduceCtorEq, reduceEqDiff, ↓reduceIte, reduceLT, reduceLeDiff, reduceSub, reducePow, reduceMul, reduceToNat, reduceLE, reduceEq, Int.reduceLT, Int.reduceBEq, Int.reduceBNe]
  refine ops_callV hfi hni hbi (by simp only [AW, reduceAdd, reduceCtorEq, reduceEqDiff, ↓reduceIte, reduceLT, reduceLeDiff, reduceSub, reducePow, reduceMul, reduceToNat, reduceLE, reduceEq, Int.reduceLT, Int.reduceBEq, Int.reduceBNe]) (inT_g t.unlock 0 1000000) (by simp only [intP, AW, reduceAdd, reduceCtorEq, reduceEqDiff, ↓reduceIte, reduceLT, reduceLeDiff, reduceSub, reducePow, reduceMul, reduceToNat, reduceLE, reduceEq, Int.reduceLT, Int.reduceBEq, Int.reduceBNe]) ?_; simp only [intP, AW, reduceAdd, reduceCtorEq, reduceEqDiff, ↓reduceIte, reduceLT, reduceLeDiff, reduceSub, reducePow, reduceMul, reduceToNat, reduceLE, reduceEq, Int.reduceLT, Int.reduceBEq, Int.reduceBNe]
  cases h1 : inT t.unlock 0 1000000
  · simp only [tarB, h1, h0, Bool.false_and, Bool.and_false, AW, reduceAdd, reduceCtorEq, reduceEqDiff, ↓reduceIte, reduceLT, reduceLeDiff, reduceSub, reducePow, reduceMul, reduceToNat, reduceLE, reduceEq, Int.reduceLT, Int.reduceBEq, Int.reduceBNe]
    try rfl
  simp only [AW, reduceAdd, reduceCtorEq, reduceEqDiff, ↓reduceIte, reduceLT, reduceLeDiff, reduceSub, reducePow, reduceMul, reduceToNat, reduceLE, reduceEq, Int.reduceLT, Int.reduceBEq, Int.reduceBNe]
  refine ops_callV hfi hni hbi (by simp only [AW, reduceAdd, reduceCtorEq, reduceEqDiff, ↓reduceIte, reduceLT, reduceLeDiff, reduceSub, reducePow, reduceMul, reduceToNat, reduceLE, reduceEq, Int.reduceLT, Int.reduceBEq, Int.reduceBNe]) (inT_g t.price 0 1000000) (by simp only [intP, AW, reduceAdd, reduceCtorEq, reduceEqDiff, ↓reduceIte, reduceLT, reduceLeDiff, reduceSub, reducePow, reduceMul, reduceToNat, reduceLE, reduceEq, Int.reduceLT, Int.reduceBEq, Int.reduceBNe]) ?_; simp only [intP, AW, reduceAdd, reduceCtorEq, reduceEqDiff, ↓reduceIte, reduceLT, reduceLeDiff, reduceSub, reducePow, reduceMul, reduceToNat, reduceLE, reduceEq, Int.reduceLT, Int.reduceBEq, Int.reduceBNe]
  cases h2 : inT t.price 0 1000000
  · simp only [tarB, h2, h0, h1, Bool.false_and, Bool.and_false, AW, reduceAdd, reduceCtorEq, reduceEqDiff, ↓reduceIte, reduceLT, reduceLeDiff, reduceSub, reducePow, reduceMul, reduceToNat, reduceLE, reduceEq, Int.reduceLT, Int.reduceBEq, Int.reduceBNe]
    try rfl
  simp only [AW, reduceAdd, reduceCtorEq, reduceEqDiff, ↓reduceIte, reduceLT, reduceLeDiff, reduceSub, reducePow, reduceMul, reduceToNat, reduceLE, reduceEq, Int.reduceLT, Int.reduceBEq, Int.reduceBNe]
  refine ops_callV hfi hni hbi (by simp only [AW, reduceAdd, reduceCtorEq, reduceEqDiff, ↓reduceIte, reduceLT, reduceLeDiff, reduceSub, reducePow, reduceMul, reduceToNat, reduceLE, reduceEq, Int.reduceLT, Int.reduceBEq, Int.reduceBNe]) (inT_g t.pause 0 1000000) (by simp only [intP, AW, reduceAdd, reduceCtorEq, reduceEqDiff, ↓reduceIte, reduceLT, reduceLeDiff, reduceSub, reducePow, reduceMul, reduceToNat, reduceLE, reduceEq, Int.reduceLT, Int.reduceBEq, Int.reduceBNe]) ?_; simp only [intP, AW, reduceAdd, reduceCtorEq, reduceEqDiff, ↓reduceIte, reduceLT, reduceLeDiff, reduceSub, reducePow, reduceMul, reduceToNat, reduceLE, reduceEq, Int.reduceLT, Int.reduceBEq, Int.reduceBNe]
  cases h3 : inT t.pause 0 1000000
  · simp only [tarB, h3, h0, h1, h2, Bool.false_and, Bool.and_false, AW, reduceAdd, reduceCtorEq, reduceEqDiff, ↓reduceIte, reduceLT, reduceLeDiff, reduceSub, reducePow, reduceMul, reduceToNat, reduceLE, reduceEq, Int.reduceLT, Int.reduceBEq, Int.reduceBNe]
    try rfl
  simp only [AW, reduceAdd, reduceCtorEq, reduceEqDiff, ↓reduceIte, reduceLT, reduceLeDiff, reduceSub, reducePow, reduceMul, reduceToNat, reduceLE, reduceEq, Int.reduceLT, Int.reduceBEq, Int.reduceBNe]
  refine ops_callV hfi hni hbi (by simp only [AW, reduceAdd, reduceCtorEq, reduceEqDiff, ↓reduceIte, reduceLT, reduceLeDiff, reduceSub, reducePow, reduceMul, reduceToNat, reduceLE, reduceEq, Int.reduceLT, Int.reduceBEq, Int.reduceBNe]) (inT_g t.step 1 86400) (by simp only [intP, AW, reduceAdd, reduceCtorEq, reduceEqDiff, ↓reduceIte, reduceLT, reduceLeDiff, reduceSub, reducePow, reduceMul, reduceToNat, reduceLE, reduceEq, Int.reduceLT, Int.reduceBEq, Int.reduceBNe]) ?_; simp only [intP, AW, reduceAdd, reduceCtorEq, reduceEqDiff, ↓reduceIte, reduceLT, reduceLeDiff, reduceSub, reducePow, reduceMul, reduceToNat, reduceLE, reduceEq, Int.reduceLT, Int.reduceBEq, Int.reduceBNe]
  cases h4 : inT t.step 1 86400
  · simp only [tarB, h4, h0, h1, h2, h3, Bool.false_and, Bool.and_false, AW, reduceAdd, reduceCtorEq, reduceEqDiff, ↓reduceIte, reduceLT, reduceLeDiff, reduceSub, reducePow, reduceMul, reduceToNat, reduceLE, reduceEq, Int.reduceLT, Int.reduceBEq, Int.reduceBNe]
    try rfl
  simp only [AW, reduceAdd, reduceCtorEq, reduceEqDiff, ↓reduceIte, reduceLT, reduceLeDiff, reduceSub, reducePow, reduceMul, reduceToNat, reduceLE, reduceEq, Int.reduceLT, Int.reduceBEq, Int.reduceBNe]
  refine ops_callV hfi hni hbi (by simp only [AW, reduceAdd, reduceCtorEq, reduceEqDiff, ↓reduceIte, reduceLT, reduceLeDiff, reduceSub, reducePow, reduceMul, reduceToNat, reduceLE, reduceEq, Int.reduceLT, Int.reduceBEq, Int.reduceBNe]) (inT_g t.free 0 86400) (by simp only [intP, AW, reduceAdd, reduceCtorEq, reduceEqDiff, ↓reduceIte, reduceLT, reduceLeDiff, reduceSub, reducePow, reduceMul, reduceToNat, reduceLE, reduceEq, Int.reduceLT, Int.reduceBEq, Int.reduceBNe]) ?_; simp only [intP, AW, reduceAdd, reduceCtorEq, reduceEqDiff, ↓reduceIte, reduceLT, reduceLeDiff, reduceSub, reducePow, reduceMul, reduceToNat, reduceLE, reduceEq, Int.reduceLT, Int.reduceBEq, Int.reduceBNe]
  unfold tarB
  rw [h0, h1, h2, h3, h4]
  simp only [Bool.true_and]
set_option maxHeartbeats 2000000 in
theorem steps_g (t : TariffS) (n : Int) (h1 : 1 ≤ t.step) (h2 : t.step ≤ 86400) (hn : n ≤ 4294944000) (hn2 : -10000000000 ≤ n) : Good Try.prog 50 [t.pv, intP n] (intP (stepsT t n)) := by
  have hb := steps_bnd h1 h2 hn
  have hz : ¬ t.step = 0 := by omega
  refine good50 (by simp) ?_
  have e1 : IntKind.i64.wrap (max n 0 + t.step) = max n 0 + t.step := wrap_id ⟨by omega, by omega⟩
  have e2 : IntKind.i64.wrap (max n 0 + t.step - 1) = max n 0 + t.step - 1 := wrap_id ⟨by omega, by omega⟩
  have e3 : IntKind.i64.wrap ((max n 0 + t.step - 1).tdiv t.step) = (max n 0 + t.step - 1).tdiv t.step := wrap_id (by unfold stepsT at hb; exact ⟨by omega, by omega⟩)
  simp only [ac50, TariffS.pv, TariffS.vals, List.map_cons, List.map_nil, intP, stepsT, mx_eq, e1, e2, e3, hz, AW, reduceAdd, reduceCtorEq, reduceEqDiff, ↓reduceIte, reduceLT, reduceLeDiff, reduceSub, reducePow, reduceMul, reduceToNat, reduceLE, reduceEq, Int.reduceLT, Int.reduceBEq, Int.reduceBNe]
set_option maxHeartbeats 2000000 in
theorem riding_g (t : TariffS) (n : Int) (ht : tarB t = true) (h0 : 0 ≤ n) (hn : n ≤ 4294944000) : Good Try.prog 30 [t.pv, intP n] (intP (ridingT t n)) := by
  obtain ⟨⟨p1, p2⟩, ⟨s1, s2⟩, f1, f2⟩ := tar_parts ht
  have gs := steps_g t (n - t.free) s1 s2 (by omega) (by omega)
  have hb := steps_bnd (n := n - t.free) s1 s2 (by omega)
  have hm : 0 ≤ t.price * stepsT t (n - t.free) := Int.mul_nonneg p1 hb.1
  have hm2 : t.price * stepsT t (n - t.free) ≤ 1000000 * 4294944000 := Int.mul_le_mul p2 hb.2 hb.1 (by decide)
  have e1 : IntKind.i64.wrap (n - t.free) = n - t.free := wrap_id ⟨by omega, by omega⟩
  have e2 : IntKind.i64.wrap (t.price * stepsT t (n - t.free)) = t.price * stepsT t (n - t.free) := wrap_id ⟨by omega, by omega⟩
  refine good30 (by simp) ?_
  simp only [ac30, TariffS.pv, TariffS.vals, List.map_cons, List.map_nil, intP, ridingT, e1, AW, reduceAdd, reduceCtorEq, reduceEqDiff, ↓reduceIte, reduceLT, reduceLeDiff, reduceSub, reducePow, reduceMul, reduceToNat, reduceLE, reduceEq, Int.reduceLT, Int.reduceBEq, Int.reduceBNe]
  refine ops_call (gs) (by simp only [TariffS.pv, TariffS.vals, List.map_cons, List.map_nil, intP, AW, reduceAdd, reduceCtorEq, reduceEqDiff, ↓reduceIte, reduceLT, reduceLeDiff, reduceSub, reducePow, reduceMul, reduceToNat, reduceLE, reduceEq, Int.reduceLT, Int.reduceBEq, Int.reduceBNe]) ?_; simp only [TariffS.pv, TariffS.vals, List.map_cons, List.map_nil, intP, AW, reduceAdd, reduceCtorEq, reduceEqDiff, ↓reduceIte, reduceLT, reduceLeDiff, reduceSub, reducePow, reduceMul, reduceToNat, reduceLE, reduceEq, Int.reduceLT, Int.reduceBEq, Int.reduceBNe]
  simp only [e2, AW, reduceAdd, reduceCtorEq, reduceEqDiff, ↓reduceIte, reduceLT, reduceLeDiff, reduceSub, reducePow, reduceMul, reduceToNat, reduceLE, reduceEq, Int.reduceLT, Int.reduceBEq, Int.reduceBNe]
  rfl


end Go.Proofs.Ythgnbkcopapbmaa
