/-
  Shares by the method of the largest remainder: plain laws.
-/
import Derived.Test.YtjlhnlfalomenaaDoorSp
namespace Go.Proofs.YtjlhnlfalomenaaDoor
open Go.RowKit
open Nat (reduceAdd reduceEqDiff reduceLT reduceLeDiff reduceSub reducePow reduceMul)
open Int (reduceToNat reduceLE reduceEq)
set_option linter.unusedVariables false
set_option linter.unusedSimpArgs false
set_option linter.unnecessarySimpa false

def tabI (n : Nat) (f : Nat → Int) : List Int := (List.range n).map f
theorem tab_len (n : Nat) (f : Nat → Int) : (tabI n f).length = n := by simp [tabI]
theorem tab_el {n : Nat} {f : Nat → Int} {i : Nat} (h : i < n) : el (tabI n f) i = f i := by
  unfold el tabI
  rw [List.getD_eq_getElem?_getD, List.getElem?_map, List.getElem?_range h]; rfl
theorem tab_congr {n : Nat} {f g : Nat → Int} (h : ∀ i, i < n → f i = g i) : tabI n f = tabI n g :=
  List.map_congr_left fun i hi => h i (List.mem_range.1 hi)
theorem tab_set {n : Nat} {f : Nat → Int} {k : Nat} {v : Int} : (tabI n f).set k v = tabI n (fun i => if i = k then v else f i) := by
  refine el_ext (by simp [tab_len]) (fun i hi => ?_)
  rw [List.length_set, tab_len] at hi
  rw [tab_el hi]
  unfold el
  rw [List.getD_eq_getElem?_getD, List.getElem?_set]
  by_cases h : k = i
  · subst h; simp [tab_len, hi]
  · rw [if_neg h, if_neg (fun e => h e.symm)]
    have := tab_el (f := f) hi
    unfold el at this
    rw [List.getD_eq_getElem?_getD] at this; exact this
theorem tab_succ (n : Nat) (f : Nat → Int) : tabI (n + 1) f = tabI n f ++ [f n] := by
  unfold tabI; rw [List.range_succ, List.map_append]; rfl
theorem tab_zero (n : Nat) : tabI n (fun _ => 0) = List.replicate n 0 := by
  unfold tabI; rw [List.map_const']; simp
section
variable (r : Nat → Nat)
def ltR (x y : Int) : Prop := r y.toNat < r x.toNat ∨ (r x.toNat = r y.toNat ∧ x < y)
theorem sto_ltR : Sto (ltR r) where
  irr := fun x h => by unfold ltR at h; omega
  trans := fun {x y z} h1 h2 => by unfold ltR at *; omega
  tri := fun {x y} h => by unfold ltR; omega
def rankR (n i : Nat) : Nat := (List.range n).countP fun j => decide (r i < r j) || (decide (r j = r i) && decide (j < i))
theorem order_exists (n : Nat) : ∃ l', Srt (ltR r) 0 n (tabI n fun i => (i : Int)) l' := by
  refine Srt.exists (sto_ltR r) ?_ (Nat.zero_le _) (by rw [tab_len]; exact Nat.le_refl _)
  unfold tabI
  rw [List.nodup_iff_pairwise_ne, List.pairwise_map]
  exact (List.nodup_iff_pairwise_ne.1 List.nodup_range).imp (fun h => by omega)
variable {r} {n : Nat} {l : List Int} (h : Srt (ltR r) 0 n (tabI n fun i => (i : Int)) l)
include h
theorem order_len : l.length = n := by rw [h.len, tab_len]
theorem order_nat {k : Nat} (hk : k < n) : ∃ e, e < n ∧ el l k = (e : Int) := by
  have h1 := el_mem (l := l) (i := k) (by rw [order_len h]; exact hk)
  have h2 := h.perm.mem_iff.1 h1
  unfold tabI at h2
  obtain ⟨e, he, e2⟩ := List.mem_map.1 h2
  exact ⟨e, List.mem_range.1 he, e2.symm⟩
theorem order_all {i : Nat} (hi : i < n) : ∃ k, k < n ∧ el l k = (i : Int) := by
  have h1 : (i : Int) ∈ tabI n fun i => (i : Int) := by unfold tabI; exact List.mem_map.2 ⟨i, List.mem_range.2 hi, rfl⟩
  obtain ⟨k, hk, e⟩ := List.mem_iff_getElem.1 (h.perm.mem_iff.2 h1)
  exact ⟨k, by rw [order_len h] at hk; exact hk, by rw [← el_eq hk]; exact e⟩
theorem order_rank {k e : Nat} (hk : k < n) (he : el l k = (e : Int)) : rankR r n e = k := by
  have hl := order_len h
  let p : Int → Bool := fun x => decide (r e < r x.toNat) || (decide (r x.toNat = r e) && decide (x < (e : Int)))
  have hp : ∀ x, p x = true ↔ ltR r x (e : Int) := by
    intro x
    simp only [p, Bool.or_eq_true, Bool.and_eq_true, decide_eq_true_eq]
    unfold ltR
    rw [Int.toNat_natCast]
  have e1 : rankR r n e = (tabI n fun i => (i : Int)).countP p := by
    unfold rankR tabI
    rw [List.countP_map]
    refine List.countP_congr (fun j _ => ?_)
    simp only [p, Function.comp, Int.toNat_natCast, Int.ofNat_lt]
  rw [e1, ← h.perm.countP_eq p, ← List.take_append_drop k l, List.countP_append]
  have c1 : (l.take k).countP p = k := by
    have : (l.take k).countP p = (l.take k).length := by
      rw [List.countP_eq_length]
      intro x hx
      obtain ⟨j, hj, rfl⟩ := List.mem_iff_getElem.1 hx
      rw [List.length_take] at hj
      rw [hp, el_eq, el_take, if_pos (by omega), ← he]
      exact h.sorted j k (Nat.zero_le _) (by omega) hk
    rw [this, List.length_take]; omega
  have c2 : (l.drop k).countP p = 0 := by
    rw [List.countP_eq_zero]
    intro x hx
    obtain ⟨j, hj, rfl⟩ := List.mem_iff_getElem.1 hx
    rw [List.length_drop] at hj
    rw [hp, el_eq, el_drop, ← he]
    by_cases hj0 : j = 0
    · subst hj0; exact (sto_ltR r).irr _
    · exact (sto_ltR r).asymm (h.sorted k (k + j) (Nat.zero_le _) (by omega) (by omega))
  rw [c1, c2, Nat.add_zero]
theorem rank_inj {i e k : Nat} (hi : i < n) (hk : k < n) (he : el l k = (e : Int)) (hr : rankR r n i = k) : i = e := by
  obtain ⟨j, hj, ej⟩ := order_all h hi
  have := order_rank h hj ej
  have hjk : j = k := by omega
  subst hjk
  rw [ej] at he; omega
/-- The first of the greatest among those left is the next in order. -/
theorem best_next {k b : Nat} {f : Nat → Int} (hk : k < n) (hb : b < n) (hf : ∀ i, i < n → f i = if rankR r n i < k then -1 else (r i : Int)) (h1 : ∀ j, j < n → f j ≤ f b) (h2 : ∀ j, j < b → f j < f b) : el l k = (b : Int) := by
  obtain ⟨e, he, ee⟩ := order_nat h hk
  have re := order_rank h hk ee
  have fe := hf e he
  rw [re, if_neg (Nat.lt_irrefl k)] at fe
  have g1 := h1 e he
  have fb := hf b hb
  by_cases hbe : b = e
  · rw [hbe]; exact ee
  obtain ⟨j, hj, ej⟩ := order_all h hb
  have rb := order_rank h hj ej
  rw [rb] at fb
  by_cases hjk : j < k
  · rw [if_pos hjk] at fb; omega
  rw [if_neg hjk] at fb
  have hjk2 : k ≠ j := by intro e2; subst e2; rw [ee] at ej; omega
  have hlt := h.sorted k j (Nat.zero_le _) (by omega) hj
  rw [ee, ej] at hlt
  unfold ltR at hlt
  rw [Int.toNat_natCast, Int.toNat_natCast] at hlt
  rcases hlt with hlt | ⟨hlt, hlt2⟩
  · omega
  · have := h2 e (by omega); omega
end
/-- The exact shares' integer parts, what is left of each, and how many units are left. -/
def qN (T S : Nat) (ws : List Nat) (i : Nat) : Nat := T * ws.getD i 0 / S
def rN (T S : Nat) (ws : List Nat) (i : Nat) : Nat := T * ws.getD i 0 % S
theorem sum_qr (T S : Nat) : ∀ ws : List Nat, T * ws.sum = S * (ws.map fun w => T * w / S).sum + (ws.map fun w => T * w % S).sum
  | [] => by simp
  | w :: ws => by
    have ih := sum_qr T S ws
    have h := Nat.div_add_mod (T * w) S
    simp only [List.sum_cons, List.map_cons, Nat.mul_add]
    omega
theorem sum_r_lt {T S : Nat} (hS : 0 < S) : ∀ ws : List Nat, (ws.map fun w => T * w % S).sum + ws.length ≤ ws.length * S
  | [] => by simp
  | w :: ws => by
    have ih := sum_r_lt (T := T) hS ws
    have h := Nat.mod_lt (T * w) hS
    simp only [List.sum_cons, List.map_cons, List.length_cons, Nat.succ_mul]
    omega
theorem left_bound {T : Nat} {ws : List Nat} (hS : 0 < ws.sum) (hn : 0 < ws.length) : (ws.map fun w => T * w / ws.sum).sum ≤ T ∧ T - (ws.map fun w => T * w / ws.sum).sum < ws.length := by
  have h1 := sum_qr T ws.sum ws
  have h2 := sum_r_lt (T := T) hS ws
  generalize (ws.map fun w => T * w / ws.sum).sum = q at *
  generalize (ws.map fun w => T * w % ws.sum).sum = r at *
  generalize ws.sum = S at *
  have h3 : S * q ≤ S * T := by rw [Nat.mul_comm S T]; omega
  have h4 : q ≤ T := Nat.le_of_mul_le_mul_left h3 hS
  refine ⟨h4, ?_⟩
  obtain ⟨d, rfl⟩ : ∃ d, T = q + d := ⟨T - q, by omega⟩
  rw [Nat.add_sub_cancel_left]
  have h5 : S * d < S * ws.length := by
    rw [Nat.mul_comm S ws.length]
    rw [Nat.add_mul, Nat.mul_comm q S] at h1
    rw [Nat.mul_comm S d]
    omega
  exact Nat.lt_of_mul_lt_mul_left h5
def sumQ (T S : Nat) (ws : List Nat) (k : Nat) : Nat := ((ws.take k).map fun w => T * w / S).sum
theorem sumQ_succ {T S : Nat} {ws : List Nat} {k : Nat} (hk : k < ws.length) : sumQ T S ws (k + 1) = sumQ T S ws k + qN T S ws k := by
  unfold sumQ qN
  rw [List.take_succ_eq_append_getElem hk, List.map_append, List.sum_append, List.getD_eq_getElem?_getD, List.getElem?_eq_getElem hk]
  simp
theorem sumQ_le {T S : Nat} {ws : List Nat} : ∀ (d k : Nat), k + d = ws.length → sumQ T S ws k ≤ sumQ T S ws ws.length
  | 0, k, h => by rw [show k = ws.length by omega]; exact Nat.le_refl _
  | d + 1, k, h => by
    have := sumQ_le (T := T) (S := S) (ws := ws) d (k + 1) (by omega)
    rw [sumQ_succ (by omega)] at this; omega
def leftN (T : Nat) (ws : List Nat) : Nat := T - sumQ T ws.sum ws ws.length
def shareN (T : Nat) (ws : List Nat) : List Int := tabI ws.length fun i => (qN T ws.sum ws i : Int) + if rankR (rN T ws.sum ws) ws.length i < leftN T ws then 1 else 0
def inB (n : Int) : Bool := decide (0 ≤ n) && decide (n ≤ 1125899906842624)
def natsL (ws : List Int) : List Nat := ws.map Int.toNat
/-- The parts, and the error's number. -/
def shareL (total : Int) (ws : List Int) : List Int × Nat :=
  if (inB total && decide (1 ≤ ws.length) && decide (ws.length ≤ 512) && ws.all inB) = false then ([], 1)
  else if 1125899906842624 < (natsL ws).sum then ([], 2)
  else if (natsL ws).sum = 0 ∧ 0 < total then ([], 10)
  else (shareN total.toNat (natsL ws), 0)


end Go.Proofs.YtjlhnlfalomenaaDoor
