/-
  Numbers: the parts of a total, in plain Lean.
-/
import Derived.Test.YtjlhnlfalomenaaDoorMg
namespace Go.Proofs.YtjlhnlfalomenaaDoor
open Go.RowKit
open Nat (reduceAdd reduceEqDiff reduceLT reduceLeDiff reduceSub reducePow reduceMul)
open Int (reduceToNat reduceLE reduceEq)
set_option linter.unusedVariables false
set_option linter.unusedSimpArgs false
set_option linter.unnecessarySimpa false

theorem shareN_zero {T : Nat} {ws : List Nat} (hT : T = 0) : shareN T ws = List.replicate ws.length 0 := by
  subst hT
  unfold shareN
  rw [← tab_zero]
  refine tab_congr (fun i _ => ?_)
  rw [if_neg (by unfold leftN; omega)]
  simp [qN]
theorem sum_set_el {l : List Int} {i : Nat} {v : Int} : i < l.length → (l.set i v).sum = l.sum - el l i + v := by
  induction l generalizing i with
  | nil => intro h; simp at h
  | cons x l ih =>
    intro h
    cases i with
    | zero => simp [el]; omega
    | succ i =>
      have := ih (i := i) (by simpa using h)
      have e : el (x :: l) (i + 1) = el l i := by unfold el; simp
      rw [List.set_cons_succ, List.sum_cons, List.sum_cons, this, e]; omega
theorem tab_sumQ (T S : Nat) (ws : List Nat) : ∀ k, k ≤ ws.length → (tabI k fun i => (qN T S ws i : Int)).sum = (sumQ T S ws k : Int)
  | 0, _ => rfl
  | k + 1, h => by
    rw [tab_succ, List.sum_append, tab_sumQ T S ws k (by omega), sumQ_succ (by omega)]; simp
theorem rank_sum {T S : Nat} {ws : List Nat} : ∀ k, k ≤ ws.length → (tabI ws.length fun i => (qN T S ws i : Int) + if rankR (rN T S ws) ws.length i < k then 1 else 0).sum = (sumQ T S ws ws.length : Int) + k
  | 0, _ => by
    rw [← tab_sumQ T S ws ws.length (Nat.le_refl _)]
    rw [tab_congr (g := fun i => (qN T S ws i : Int)) (fun i _ => by rw [if_neg (Nat.not_lt_zero _)]; omega)]; simp
  | k + 1, hk => by
    have ih := rank_sum (T := T) (S := S) (ws := ws) k (by omega)
    obtain ⟨l2, h2⟩ := order_exists (rN T S ws) ws.length
    have hkn : k < ws.length := by omega
    obtain ⟨e, he, ee⟩ := order_nat h2 hkn
    have re := order_rank h2 hkn ee
    have s1 : (tabI ws.length fun i => (qN T S ws i : Int) + if rankR (rN T S ws) ws.length i < k + 1 then 1 else 0) = (tabI ws.length fun i => (qN T S ws i : Int) + if rankR (rN T S ws) ws.length i < k then 1 else 0).set e ((qN T S ws e : Int) + 1) := by
      rw [tab_set]
      refine tab_congr (fun i hi => ?_)
      by_cases hie : i = e
      · subst hie; rw [if_pos rfl, re, if_pos (Nat.lt_succ_self k)]
      · rw [if_neg hie]
        have : rankR (rN T S ws) ws.length i ≠ k := fun h => hie (rank_inj h2 hi hkn ee h)
        by_cases hlt : rankR (rN T S ws) ws.length i < k
        · rw [if_pos hlt, if_pos (by omega)]
        · rw [if_neg hlt, if_neg (by omega)]
    rw [s1, sum_set_el (by rw [tab_len]; exact he), ih, tab_el he, re, if_neg (Nat.lt_irrefl k)]
    omega
/-- The parts add up to the total. -/
theorem shareN_sum {T : Nat} {ws : List Nat} (hn : 0 < ws.length) (hz : ¬(ws.sum = 0 ∧ 0 < T)) : (shareN T ws).sum = T ∧ (shareN T ws).length = ws.length ∧ ∀ x ∈ shareN T ws, 0 ≤ x := by
  refine ⟨?_, tab_len _ _, fun x hx => ?_⟩
  · have e : sumQ T ws.sum ws ws.length = ((ws.map fun w => T * w / ws.sum).sum) := by unfold sumQ; rw [List.take_length]
    by_cases hS : 0 < ws.sum
    · obtain ⟨h1, h2⟩ := left_bound (T := T) hS hn
      unfold shareN
      rw [rank_sum (leftN T ws) (by unfold leftN; rw [e]; omega)]
      unfold leftN
      rw [e]; omega
    · have h0 : ws.sum = 0 := by omega
      have hT : T = 0 := by
        by_cases h : 0 < T
        · exact absurd ⟨h0, h⟩ hz
        · omega
      rw [shareN_zero hT, hT, ← tab_zero]
      clear e hz h0 hS hn
      induction ws.length with
      | zero => rfl
      | succ n ih => rw [tab_succ, List.sum_append, ih]; rfl
  · unfold shareN tabI at hx
    obtain ⟨i, _, rfl⟩ := List.mem_map.1 hx
    split <;> omega
section
variable {T : Nat} {ws : List Nat}
theorem sum_le_count (S : Nat) (r : Nat → Nat) : ∀ l : List Nat, (∀ i ∈ l, r i ≤ S) → (l.map r).sum ≤ S * l.countP (fun i => decide (0 < r i))
  | [], _ => by simp
  | i :: l, h => by
    have ih := sum_le_count S r l (fun j hj => h j (by simp [hj]))
    rw [List.map_cons, List.sum_cons, List.countP_cons]
    by_cases h0 : 0 < r i
    · rw [if_pos (by simpa using h0), Nat.mul_add, Nat.mul_one]
      have := h i (by simp); omega
    · rw [if_neg (by simpa using h0), Nat.add_zero]; omega
theorem list_range (ws : List Nat) (f : Nat → Nat) : ws.map f = (List.range ws.length).map fun i => f (ws.getD i 0) := by
  apply List.ext_getElem
  · simp
  · intro i h1 h2
    rw [List.length_map] at h1
    simp [List.getD_eq_getElem?_getD, List.getElem?_eq_getElem h1]
theorem left_eq (hS : 0 < ws.sum) (hn : 0 < ws.length) : ws.sum * leftN T ws = ((List.range ws.length).map (rN T ws.sum ws)).sum := by
  have h1 := sum_qr T ws.sum ws
  have h2 := (left_bound (T := T) hS hn).1
  have e : sumQ T ws.sum ws ws.length = (ws.map fun w => T * w / ws.sum).sum := by unfold sumQ; rw [List.take_length]
  have e2 : (ws.map fun w => T * w % ws.sum).sum = ((List.range ws.length).map (rN T ws.sum ws)).sum := by
    rw [list_range ws (fun w => T * w % ws.sum)]; rfl
  unfold leftN
  rw [e, ← e2, Nat.mul_sub, Nat.mul_comm ws.sum T]
  omega
theorem left_zero (h : ¬(ws.sum = 0 ∧ 0 < T)) (hS : ws.sum = 0 ∨ T = 0) : leftN T ws = 0 ∧ ∀ i, qN T ws.sum ws i = 0 ∧ rN T ws.sum ws i = 0 := by
  have hT : T = 0 := by
    rcases hS with hS | hS
    · by_cases h0 : 0 < T
      · exact absurd ⟨hS, h0⟩ h
      · omega
    · exact hS
  subst hT
  refine ⟨by unfold leftN; omega, fun i => ⟨by unfold qN; rw [Nat.zero_mul, Nat.zero_div], by unfold rN; rw [Nat.zero_mul, Nat.zero_mod]⟩⟩
/-- Only a part with a rest is rounded up. -/
theorem rest_pos (hz : ¬(ws.sum = 0 ∧ 0 < T)) {i : Nat} (hi : i < ws.length) (hr : rankR (rN T ws.sum ws) ws.length i < leftN T ws) : 0 < rN T ws.sum ws i := by
  rcases Nat.eq_zero_or_pos (rN T ws.sum ws i) with h0 | h0
  · exfalso
    by_cases hS : 0 < ws.sum
    · have h1 := left_eq (T := T) hS (by omega)
      have h2 := sum_le_count ws.sum (rN T ws.sum ws) (List.range ws.length) (fun j _ => Nat.le_of_lt (Nat.mod_lt _ hS))
      rw [← h1] at h2
      have h3 := Nat.le_of_mul_le_mul_left h2 hS
      have h4 : (List.range ws.length).countP (fun j => decide (0 < rN T ws.sum ws j)) ≤ rankR (rN T ws.sum ws) ws.length i := by
        unfold rankR
        apply List.countP_mono_left
        intro j _ hj
        rw [h0]
        simp only [decide_eq_true_eq] at hj
        simp [hj]
      omega
    · have := (left_zero hz (.inl (by omega))).1
      omega
  · exact h0
theorem rank_gt {r : Nat → Nat} {n i k : Nat} (h : r k < r i) : rankR r n i ≤ rankR r n k := by
  unfold rankR
  apply List.countP_mono_left
  intro j _ hj
  simp only [Bool.or_eq_true, Bool.and_eq_true, decide_eq_true_eq] at hj ⊢
  rcases hj with hj | ⟨hj, _⟩ <;> omega
theorem rank_eq {r : Nat → Nat} {n i k : Nat} (h : r k = r i) (hk : k < i) : rankR r n k ≤ rankR r n i := by
  unfold rankR
  apply List.countP_mono_left
  intro j _ hj
  simp only [Bool.or_eq_true, Bool.and_eq_true, decide_eq_true_eq] at hj ⊢
  omega
def bump (T : Nat) (ws : List Nat) (i : Nat) : Int := if rankR (rN T ws.sum ws) ws.length i < leftN T ws then 1 else 0
theorem bump_rng (T : Nat) (ws : List Nat) (i : Nat) : 0 ≤ bump T ws i ∧ bump T ws i ≤ 1 := by unfold bump; split <;> omega
theorem share_el {i : Nat} (hi : i < ws.length) : el (shareN T ws) i = (qN T ws.sum ws i : Int) + bump T ws i := by
  unfold shareN; rw [tab_el hi]; rfl
/-- A greater weight has no smaller part. -/
theorem share_mono (hz : ¬(ws.sum = 0 ∧ 0 < T)) {i k : Nat} (hi : i < ws.length) (hk : k < ws.length) (hw : ws.getD k 0 < ws.getD i 0) : el (shareN T ws) k ≤ el (shareN T ws) i := by
  rw [share_el hi, share_el hk]
  have b1 := bump_rng T ws i
  have b2 := bump_rng T ws k
  by_cases h0 : ws.sum = 0 ∨ T = 0
  · obtain ⟨l0, z⟩ := left_zero hz h0
    rw [(z i).1, (z k).1]
    unfold bump; rw [l0, if_neg (Nat.not_lt_zero _), if_neg (Nat.not_lt_zero _)]; omega
  have hS : 0 < ws.sum := by omega
  have hT : 0 < T := by omega
  have hm : T * ws.getD k 0 < T * ws.getD i 0 := Nat.mul_lt_mul_of_pos_left hw hT
  have dk := Nat.div_add_mod (T * ws.getD k 0) ws.sum
  have di := Nat.div_add_mod (T * ws.getD i 0) ws.sum
  have hq : qN T ws.sum ws k ≤ qN T ws.sum ws i := Nat.div_le_div_right (Nat.le_of_lt hm)
  by_cases he : qN T ws.sum ws k = qN T ws.sum ws i
  · have hr : rN T ws.sum ws k < rN T ws.sum ws i := by
      unfold rN; unfold qN at he
      rw [he] at dk; omega
    have hrk := rank_gt (n := ws.length) hr
    rw [he]
    unfold bump
    by_cases hb : rankR (rN T ws.sum ws) ws.length k < leftN T ws
    · rw [if_pos hb, if_pos (by omega)]; omega
    · rw [if_neg hb]; split <;> omega
  · omega
/-- Equal weights: the one ahead has no smaller part, and at most one more. -/
theorem share_same {i k : Nat} (hi : i < ws.length) (hki : k < i) (hw : ws.getD k 0 = ws.getD i 0) : el (shareN T ws) i ≤ el (shareN T ws) k ∧ el (shareN T ws) k ≤ el (shareN T ws) i + 1 := by
  rw [share_el hi, share_el (by omega)]
  have b1 := bump_rng T ws i
  have b2 := bump_rng T ws k
  have hq : qN T ws.sum ws k = qN T ws.sum ws i := by unfold qN; rw [hw]
  have hr : rN T ws.sum ws k = rN T ws.sum ws i := by unfold rN; rw [hw]
  have hrk := rank_eq (n := ws.length) hr hki
  rw [hq]
  unfold bump at *
  refine ⟨?_, by omega⟩
  by_cases hb : rankR (rN T ws.sum ws) ws.length i < leftN T ws
  · rw [if_pos hb, if_pos (by omega)]; omega
  · rw [if_neg hb]; split <;> omega
end
theorem nats_sum {l : List Int} (h : l.all rg0 = true) : l.sum = ((natsL l).sum : Int) := by
  induction l with
  | nil => rfl
  | cons x l ih =>
    rw [List.all_cons, Bool.and_eq_true] at h
    have hx := rg0_iff.1 h.1
    have := ih h.2
    simp only [natsL, List.map_cons, List.sum_cons] at this ⊢
    rw [this]; omega
theorem el_get {l : List Int} {i : Nat} (h : i < l.length) : l[i] = el l i := by
  unfold el; rw [List.getD_eq_getElem?_getD, List.getElem?_eq_getElem h]; rfl


end Go.Proofs.YtjlhnlfalomenaaDoor
