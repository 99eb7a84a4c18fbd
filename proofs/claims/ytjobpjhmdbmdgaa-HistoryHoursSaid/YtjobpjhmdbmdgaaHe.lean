/-
  The history of a city: plain laws of counts.
-/
import Derived.Test.YtjobpjhmdbmdgaaHd
namespace Go.Proofs.Ytjobpjhmdbmdgaa
open Go.RowKit
set_option linter.unusedVariables false
set_option linter.unusedSimpArgs false
set_option linter.unnecessarySimpa false

/-! Hours. -/
theorem sumW_add (w : List Int) (s p : Nat) : ∀ q, sumW w s (p + q) = sumW w s p + sumW w ((s + p) % 168) q
  | 0 => by simp [sumW]
  | q + 1 => by
    have ih := sumW_add w s p q
    have e : ((s + p) % 168 + q) % 168 = (s + (p + q)) % 168 := by omega
    rw [show p + (q + 1) = (p + q) + 1 by omega]
    simp only [sumW]
    rw [ih, e]; omega
theorem sumW_zero (w : List Int) : ∀ q, q ≤ 168 → q ≤ w.length → sumW w 0 q = sumL (w.take q)
  | 0, _, _ => by simp [sumW, sumL]
  | q + 1, h, h2 => by
    simp only [sumW]
    rw [sumW_zero w q (by omega) (by omega), sumL_take w q (by omega)]
    congr 1
    rw [Nat.zero_add, Nat.mod_eq_of_lt (by omega), List.getD_eq_getElem?_getD, List.getElem?_eq_getElem (by omega)]; rfl
theorem sumW_full {w : List Int} {s : Nat} (hs : s ≤ 168) : sumW w s 168 = sumW w 0 168 := by
  have h1 := sumW_add w s (168 - s) s
  have h2 := sumW_add w 0 s (168 - s)
  rw [show 168 - s + s = 168 by omega, show (s + (168 - s)) % 168 = 0 by omega] at h1
  rw [show s + (168 - s) = 168 by omega, Nat.zero_add] at h2
  have e : sumW w (s % 168) (168 - s) = sumW w s (168 - s) := by
    by_cases h : s = 168
    · subst h; rfl
    · rw [Nat.mod_eq_of_lt (by omega)]
  rw [h1, h2, e]; omega
theorem sumW_week {w : List Int} (h : w.length = 168) : sumW w 0 168 = sumL w := by
  rw [sumW_zero w 168 (by omega) (by omega), List.take_of_length_le (by omega)]
/-! Totals. -/
theorem sumL_eq (l : List Int) : sumL l = l.sum := by
  unfold sumL
  have : ∀ (l : List Int) (a : Int), l.foldl (· + ·) a = a + l.sum := by
    intro l
    induction l with
    | nil => intro a; simp
    | cons x l ih => intro a; rw [List.foldl_cons, ih, List.sum_cons]; omega
  rw [this]; omega
theorem sum_set : ∀ (l : List Int) (k : Nat) (h : k < l.length) (x : Int), (l.set k x).sum = l.sum - l[k] + x
  | [], k, h, _ => by simp at h
  | y :: l, 0, _, x => by simp; omega
  | y :: l, k + 1, h, x => by
    simp only [List.set_cons_succ, List.sum_cons, List.getElem_cons_succ]
    rw [sum_set l k (by simpa using h) x]; omega
theorem bump_sum {w p t : Int} {l : List Int} (h : w = 1 → addK p t < l.length) : (bump w p t l).sum = l.sum + if w = 1 then 1 else 0 := by
  by_cases hw : w = 1
  · rw [bump_yes hw (h hw), sum_set _ _ (h hw), if_pos hw]; omega
  · rw [bump_no hw, if_neg hw]; omega
theorem fold_sum {f : RideS → List Int → List Int} {g : RideS → Int} {n : Nat} : ∀ (rs : List RideS) (l : List Int), l.length = n → (∀ r ∈ rs, ∀ l : List Int, l.length = n → (f r l).length = n ∧ (f r l).sum = l.sum + g r) → (rs.foldl (fun l r => f r l) l).sum = l.sum + (rs.map g).sum
  | [], l, _, _ => by simp
  | r :: rs, l, hl, h => by
    obtain ⟨h1, h2⟩ := h r (by simp) l hl
    rw [List.foldl_cons, fold_sum rs (f r l) h1 (fun x hx => h x (by simp [hx])), h2, List.map_cons, List.sum_cons]; omega
def isOne (n : Int) : Int := if n = 1 then 1 else 0
theorem dock_key {st : Int} {N : Nat} (hN : st * 168 = N) {place t : Int} (h : dockB st place = true) : addK place t < N := by
  have := (addK_lt (t := t) h).1; omega
theorem sum_rep (n : Nat) : (List.replicate n (0 : Int)).sum = 0 := by
  induction n with
  | zero => rfl
  | succ n ih => rw [List.replicate_succ, List.sum_cons, ih]; rfl
theorem outL_sum {st : Int} {N : Nat} (hN : st * 168 = N) {rs : List RideS} (hb : ∀ r ∈ rs, badR st r = false) : (outL N rs).sum = (rs.map fun r => isOne r.fromWhere).sum := by
  unfold outL
  rw [fold_sum (f := fun r l => bump r.fromWhere r.fromPlace r.start.lo l) (g := fun r => isOne r.fromWhere) (n := N) rs _ (by simp) (fun r hr l hl => ⟨by rw [bump_len, hl], ?_⟩), sum_rep]
  · omega
  · refine bump_sum (fun hw => ?_)
    rw [hl]
    refine dock_key hN ?_
    have := hb r hr
    simp only [badR, Bool.or_eq_false_iff, Bool.and_eq_false_iff] at this
    rcases this.1 with h | h
    · rw [hw] at h; simp at h
    · simpa using h
theorem inL_sum {st : Int} {N : Nat} (hN : st * 168 = N) {rs : List RideS} (hb : ∀ r ∈ rs, badR st r = false) : (inL N rs).sum = (rs.map fun r => isOne r.where_).sum := by
  unfold inL
  rw [fold_sum (f := fun r l => bump r.where_ r.place r.end_.lo l) (g := fun r => isOne r.where_) (n := N) rs _ (by simp) (fun r hr l hl => ⟨by rw [bump_len, hl], ?_⟩), sum_rep]
  · omega
  · refine bump_sum (fun hw => ?_)
    rw [hl]
    refine dock_key hN ?_
    have := hb r hr
    simp only [badR, Bool.or_eq_false_iff, Bool.and_eq_false_iff] at this
    rcases this.2 with h | h
    · rw [hw] at h; simp at h
    · simpa using h
/-! Where counts come from. -/
def cnt (f : RideS → Bool) (rs : List RideS) : Int := (rs.countP f : Int)
def keyO (i : Nat) (r : RideS) : Bool := decide (r.fromWhere = 1) && decide (addK r.fromPlace r.start.lo = i)
def keyI (i : Nat) (r : RideS) : Bool := decide (r.where_ = 1) && decide (addK r.place r.end_.lo = i)
theorem bump_at (w p t : Int) (l : List Int) (i : Nat) (hi : i < l.length) : (bump w p t l).getD i 0 = l.getD i 0 + if (decide (w = 1) && decide (addK p t = i)) = true then 1 else 0 := by
  unfold bump
  by_cases hw : w = 1
  · rw [if_pos hw]
    by_cases hk : addK p t = i
    · subst hk
      rw [if_pos (by simp [hw]), List.getD_eq_getElem?_getD, List.getElem?_set_self hi]; rfl
    · rw [if_neg (by simp [hk]), List.getD_eq_getElem?_getD, List.getElem?_set_ne hk, List.getD_eq_getElem?_getD]; omega
  · rw [if_neg hw, if_neg (by simp [hw])]; omega
theorem fold_at {f : RideS → List Int → List Int} {g : RideS → Bool} {i n : Nat} (hi : i < n) (h : ∀ r (l : List Int), l.length = n → (f r l).length = n ∧ (f r l).getD i 0 = l.getD i 0 + if g r = true then 1 else 0) : ∀ (rs : List RideS) (l : List Int), l.length = n → (rs.foldl (fun l r => f r l) l).getD i 0 = l.getD i 0 + cnt g rs
  | [], l, _ => by simp [cnt]
  | r :: rs, l, hl => by
    obtain ⟨h1, h2⟩ := h r l hl
    rw [List.foldl_cons, fold_at hi h rs (f r l) h1, h2]
    unfold cnt
    rw [List.countP_cons]
    cases g r <;> simp <;> omega
theorem rep_at (n i : Nat) : (List.replicate n (0 : Int)).getD i 0 = 0 := by
  rw [List.getD_eq_getElem?_getD, List.getElem?_replicate]; split <;> rfl
theorem outL_at {N i : Nat} (hi : i < N) (rs : List RideS) : (outL N rs).getD i 0 = cnt (keyO i) rs := by
  unfold outL
  rw [fold_at (f := fun r l => bump r.fromWhere r.fromPlace r.start.lo l) (g := keyO i) hi (fun r l hl => ⟨by rw [bump_len, hl], by rw [bump_at _ _ _ _ _ (by omega)]; rfl⟩) rs _ (by simp), rep_at]; omega
theorem inL_at {N i : Nat} (hi : i < N) (rs : List RideS) : (inL N rs).getD i 0 = cnt (keyI i) rs := by
  unfold inL
  rw [fold_at (f := fun r l => bump r.where_ r.place r.end_.lo l) (g := keyI i) hi (fun r l hl => ⟨by rw [bump_len, hl], by rw [bump_at _ _ _ _ _ (by omega)]; rfl⟩) rs _ (by simp), rep_at]; omega
theorem ext_at {l m : List Int} (h : l.length = m.length) (h2 : ∀ i, i < l.length → l.getD i 0 = m.getD i 0) : l = m := by
  refine List.ext_getElem h (fun i hi hj => ?_)
  have := h2 i hi
  rw [List.getD_eq_getElem?_getD, List.getD_eq_getElem?_getD, List.getElem?_eq_getElem hi, List.getElem?_eq_getElem hj] at this
  exact this
theorem outL_rev (N : Nat) (rs : List RideS) : outL N rs.reverse = outL N rs := by
  have l1 := (outL_ok N rs).1
  have l2 := (outL_ok N rs.reverse).1
  refine ext_at (by omega) (fun i hi => ?_)
  rw [outL_at (by omega), outL_at (by omega)]; unfold cnt; rw [List.countP_reverse]
theorem inL_rev (N : Nat) (rs : List RideS) : inL N rs.reverse = inL N rs := by
  have l1 := (inL_ok N rs).1
  have l2 := (inL_ok N rs.reverse).1
  refine ext_at (by omega) (fun i hi => ?_)
  rw [inL_at (by omega), inL_at (by omega)]; unfold cnt; rw [List.countP_reverse]
/-- The rides of one part. -/
def pick (ps : List Bool) (b : Bool) : Nat → List RideS → List RideS
  | _, [] => []
  | i, r :: rs => if ps.getD i false = b then r :: pick ps b (i + 1) rs else pick ps b (i + 1) rs
theorem pick_append (ps : List Bool) (b : Bool) : ∀ (i : Nat) (l m : List RideS), pick ps b i (l ++ m) = pick ps b i l ++ pick ps b (i + l.length) m
  | _, [], _ => rfl
  | i, r :: l, m => by
    have e : i + (r :: l).length = (i + 1) + l.length := by simp; omega
    simp only [List.cons_append, pick, e]
    rw [pick_append ps b (i + 1) l m]
    split <;> rfl
theorem pick_succ (ps : List Bool) (b : Bool) (rs : List RideS) (k : Nat) (h : k < rs.length) : pick ps b 0 (rs.take (k + 1)) = if ps.getD k false = b then pick ps b 0 (rs.take k) ++ [rs[k]] else pick ps b 0 (rs.take k) := by
  rw [List.take_succ_eq_append_getElem h, pick_append]
  simp only [pick, List.length_take, Nat.min_eq_left (Nat.le_of_lt h), Nat.zero_add]
  split <;> simp
theorem pick_count (ps : List Bool) (f : RideS → Bool) : ∀ (i : Nat) (rs : List RideS), (pick ps true i rs).countP f + (pick ps false i rs).countP f = rs.countP f
  | _, [] => rfl
  | i, r :: rs => by
    have ih := pick_count ps f (i + 1) rs
    simp only [pick]
    cases ps.getD i false
    · simp only [Bool.false_eq_true, if_false, if_true, List.countP_cons]; omega
    · simp only [Bool.true_eq_false, if_false, if_true, List.countP_cons]; omega
theorem pick_mem (ps : List Bool) : ∀ (i : Nat) (rs : List RideS) (r : RideS), r ∈ rs ↔ r ∈ pick ps true i rs ∨ r ∈ pick ps false i rs
  | _, [], r => by simp [pick]
  | i, x :: rs, r => by
    have ih := pick_mem ps (i + 1) rs r
    simp only [pick]
    cases ps.getD i false
    · simp only [Bool.false_eq_true, if_false, if_true, List.mem_cons, ih]
      exact or_left_comm
    · simp only [Bool.true_eq_false, if_false, if_true, List.mem_cons, ih]
      exact or_assoc.symm
theorem pick_len (ps : List Bool) (b : Bool) : ∀ (i : Nat) (rs : List RideS), (pick ps b i rs).length ≤ rs.length
  | _, [] => Nat.le_refl _
  | i, r :: rs => by
    have ih := pick_len ps b (i + 1) rs
    simp only [pick]; split <;> simp <;> omega
theorem outL_pick (N : Nat) (ps : List Bool) (rs : List RideS) : zipA (outL N (pick ps true 0 rs)) (outL N (pick ps false 0 rs)) = outL N rs := by
  have l1 := (outL_ok N rs).1
  have l2 := (outL_ok N (pick ps true 0 rs)).1
  have l3 := (outL_ok N (pick ps false 0 rs)).1
  have l4 := zipA_len (a := outL N (pick ps true 0 rs)) (b := outL N (pick ps false 0 rs)) (by omega)
  refine ext_at (by omega) (fun i hi => ?_)
  have hi2 : i < (outL N (pick ps true 0 rs)).length := by omega
  rw [List.getD_eq_getElem?_getD, List.getElem?_eq_getElem hi, Option.getD_some, zipA_get (by omega) hi2, outL_at (by omega), outL_at (by omega), outL_at (by omega)]
  unfold cnt; have := pick_count ps (keyO i) 0 rs; omega
theorem inL_pick (N : Nat) (ps : List Bool) (rs : List RideS) : zipA (inL N (pick ps true 0 rs)) (inL N (pick ps false 0 rs)) = inL N rs := by
  have l1 := (inL_ok N rs).1
  have l2 := (inL_ok N (pick ps true 0 rs)).1
  have l3 := (inL_ok N (pick ps false 0 rs)).1
  have l4 := zipA_len (a := inL N (pick ps true 0 rs)) (b := inL N (pick ps false 0 rs)) (by omega)
  refine ext_at (by omega) (fun i hi => ?_)
  have hi2 : i < (inL N (pick ps true 0 rs)).length := by omega
  rw [List.getD_eq_getElem?_getD, List.getElem?_eq_getElem hi, Option.getD_some, zipA_get (by omega) hi2, inL_at (by omega), inL_at (by omega), inL_at (by omega)]
  unfold cnt; have := pick_count ps (keyI i) 0 rs; omega
/-- When Count gives counts. -/
theorem countC_iff {st : Int} {rs : List RideS} (hl : rs.length ≤ 256) : ((countC st rs).2 = 0 ↔ stB st = true ∧ ∀ r ∈ rs, checkL r = 0 ∧ badR st r = false) ∧ ((countC st rs).2 = 0 → countC st rs = (⟨st, outL (st.toNat * 168) rs, inL (st.toNat * 168) rs⟩, 0)) ∧ ((countC st rs).2 ≠ 0 → (countC st rs).1 = zeroC) := by
  by_cases hst : stB st = true
  rotate_left
  · rw [countC_1 (by simpa using hst)]; simp [hst]
  by_cases hc : ∀ r ∈ rs, checkL r = 0
  rotate_left
  · have : ∃ r, rs.find? (fun r => checkL r != 0) = some r := by
      cases h : rs.find? (fun r => checkL r != 0) with
      | some r => exact ⟨r, rfl⟩
      | none =>
        exfalso; apply hc
        intro r hr
        have := List.find?_eq_none.1 h r hr
        simpa using this
    obtain ⟨r, hr⟩ := this
    have hne : checkL r ≠ 0 := by have := List.find?_some hr; simpa using this
    have e : countC st rs = (zeroC, checkL r) := by unfold countC; rw [if_neg (by simp [hst]), if_neg (by omega), hr]
    rw [e]
    refine ⟨⟨fun h => absurd h hne, fun h => absurd (fun r hr => (h.2 r hr).1) hc⟩, fun h => absurd h hne, fun _ => rfl⟩
  have hc2 : ∀ j (hj : j < rs.length), checkL rs[j] = 0 := fun j hj => hc _ (List.getElem_mem hj)
  by_cases hb : ∀ r ∈ rs, badR st r = false
  · rw [countC_5 hst (by omega) hc2 (fun j hj => hb _ (List.getElem_mem hj))]
    exact ⟨⟨fun _ => ⟨hst, fun r hr => ⟨hc r hr, hb r hr⟩⟩, fun _ => rfl⟩, fun _ => rfl, fun h => absurd rfl h⟩
  · have : ∃ r ∈ rs, badR st r = true := by
      simp only [Classical.not_forall] at hb
      obtain ⟨r, hr, h⟩ := hb
      exact ⟨r, hr, by simpa using h⟩
    obtain ⟨r, hr, hbr⟩ := this
    obtain ⟨j, hj, rfl⟩ := List.getElem_of_mem hr
    rw [countC_4 hst (by omega) hc2 hj hbr]
    refine ⟨⟨fun h => by simp at h, fun h => ?_⟩, fun h => by simp at h, fun _ => rfl⟩
    rw [(h.2 _ hr).2] at hbr; cases hbr
theorem numbers_of {l : List Int} (h : ∀ x ∈ l, 0 ≤ x ∧ x ≤ 1000000) : numbersL l = true := by
  unfold numbersL; rw [List.all_eq_true]; intro x hx; have := h x hx; simp; omega
/-- What Count gives is in order. -/
theorem count_check {st : Int} (hst : stB st = true) {rs : List RideS} (hl : rs.length ≤ 256) : checkC ⟨st, outL (st.toNat * 168) rs, inL (st.toNat * 168) rs⟩ = 0 := by
  have hb : 1 ≤ st ∧ st ≤ 32 := by simpa [stB] using hst
  obtain ⟨a1, a2⟩ := outL_ok (st.toNat * 168) rs
  obtain ⟨b1, b2⟩ := inL_ok (st.toNat * 168) rs
  have n1 := numbers_of (l := outL (st.toNat * 168) rs) (fun x hx => by have := a2 x hx; omega)
  have n2 := numbers_of (l := inL (st.toNat * 168) rs) (fun x hx => by have := b2 x hx; omega)
  unfold checkC
  rw [if_neg (by simp [hst]), if_neg, if_neg (by simp [n1, n2])]
  simp only [a1, b1]; omega


end Go.Proofs.Ytjobpjhmdbmdgaa
