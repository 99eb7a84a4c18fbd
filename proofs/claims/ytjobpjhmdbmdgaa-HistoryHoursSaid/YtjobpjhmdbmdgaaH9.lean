/-
  The history of a city: counting rides.
-/
import Derived.Test.YtjobpjhmdbmdgaaH8
namespace Go.Proofs.Ytjobpjhmdbmdgaa
open Go.RowKit
set_option linter.unusedVariables false
set_option linter.unusedSimpArgs false
set_option linter.unnecessarySimpa false

def bump (w place t : Int) (l : List Int) : List Int := if w = 1 then l.set (addK place t) (l.getD (addK place t) 0 + 1) else l
def outL (n : Nat) (rs : List RideS) : List Int := rs.foldl (fun l r => bump r.fromWhere r.fromPlace r.start.lo l) (List.replicate n 0)
def inL (n : Nat) (rs : List RideS) : List Int := rs.foldl (fun l r => bump r.where_ r.place r.end_.lo l) (List.replicate n 0)
def dockB (st place : Int) : Bool := decide (0 ≤ place) && decide (place / 32 < st)
def badR (st : Int) (r : RideS) : Bool := (r.fromWhere == 1 && !dockB st r.fromPlace) || (r.where_ == 1 && !dockB st r.place)
noncomputable def countC (st : Int) (rs : List RideS) : CountsS × Int :=
  if stB st = false then (zeroC, 1) else if 256 < rs.length then (zeroC, 8) else
  match rs.find? (fun r => checkL r != 0) with
  | some r => (zeroC, checkL r)
  | none => if rs.any (badR st) then (zeroC, 7) else (⟨st, outL (st.toNat * 168) rs, inL (st.toNat * 168) rs⟩, 0)
theorem bump_len (w p t : Int) (l : List Int) : (bump w p t l).length = l.length := by unfold bump; split <;> simp
theorem bump_b {w p t : Int} {l : List Int} {m : Int} (hm : 0 ≤ m) (h : ∀ x ∈ l, 0 ≤ x ∧ x ≤ m) : ∀ x ∈ bump w p t l, 0 ≤ x ∧ x ≤ m + 1 := by
  intro x hx
  unfold bump at hx
  split at hx
  · rcases List.mem_or_eq_of_mem_set hx with hx | rfl
    · have := h x hx; omega
    · rw [List.getD_eq_getElem?_getD]
      cases e : l[addK p t]? with
      | none => simp only [Option.getD_none]; omega
      | some y => have := h y (List.mem_of_getElem? e); simp only [Option.getD_some]; omega
  · have := h x hx; omega
theorem outL_succ (n : Nat) (rs : List RideS) (k : Nat) (h : k < rs.length) : outL n (rs.take (k + 1)) = bump rs[k].fromWhere rs[k].fromPlace rs[k].start.lo (outL n (rs.take k)) := by
  unfold outL; rw [List.take_succ_eq_append_getElem h, List.foldl_append]; rfl
theorem inL_succ (n : Nat) (rs : List RideS) (k : Nat) (h : k < rs.length) : inL n (rs.take (k + 1)) = bump rs[k].where_ rs[k].place rs[k].end_.lo (inL n (rs.take k)) := by
  unfold inL; rw [List.take_succ_eq_append_getElem h, List.foldl_append]; rfl
theorem foldB {f : RideS → List Int → List Int} (hf : ∀ r l m, 0 ≤ m → (∀ x ∈ l, 0 ≤ x ∧ x ≤ m) → ∀ x ∈ f r l, 0 ≤ x ∧ x ≤ m + 1) (hl : ∀ r l, (f r l).length = l.length) : ∀ (rs : List RideS) (l : List Int) (m : Int), 0 ≤ m → (∀ x ∈ l, 0 ≤ x ∧ x ≤ m) → (rs.foldl (fun l r => f r l) l).length = l.length ∧ ∀ x ∈ rs.foldl (fun l r => f r l) l, 0 ≤ x ∧ x ≤ m + rs.length
  | [], l, m, _, h => ⟨rfl, fun x hx => by have := h x hx; simp; omega⟩
  | r :: rs, l, m, hm, h => by
    obtain ⟨a1, a2⟩ := foldB hf hl rs (f r l) (m + 1) (by omega) (hf r l m hm h)
    rw [List.foldl_cons]
    refine ⟨a1.trans (hl r l), fun x hx => ?_⟩
    have := a2 x hx
    simp only [List.length_cons]; omega
theorem rep0 (n : Nat) : ∀ x ∈ List.replicate n (0 : Int), 0 ≤ x ∧ x ≤ 0 := by
  intro x hx; rw [List.eq_of_mem_replicate hx]; omega
theorem outL_ok (n : Nat) (rs : List RideS) : (outL n rs).length = n ∧ ∀ x ∈ outL n rs, 0 ≤ x ∧ x ≤ rs.length := by
  obtain ⟨a1, a2⟩ := foldB (f := fun r l => bump r.fromWhere r.fromPlace r.start.lo l) (fun r l m hm h => bump_b hm h) (fun r l => bump_len _ _ _ _) rs (List.replicate n 0) 0 (by omega) (rep0 n)
  refine ⟨by unfold outL; rw [a1, List.length_replicate], fun x hx => ?_⟩
  have := a2 x hx; omega
theorem inL_ok (n : Nat) (rs : List RideS) : (inL n rs).length = n ∧ ∀ x ∈ inL n rs, 0 ≤ x ∧ x ≤ rs.length := by
  obtain ⟨a1, a2⟩ := foldB (f := fun r l => bump r.where_ r.place r.end_.lo l) (fun r l m hm h => bump_b hm h) (fun r l => bump_len _ _ _ _) rs (List.replicate n 0) 0 (by omega) (rep0 n)
  refine ⟨by unfold inL; rw [a1, List.length_replicate], fun x hx => ?_⟩
  have := a2 x hx; omega
theorem countC_1 {st : Int} {rs : List RideS} (h : stB st = false) : countC st rs = (zeroC, 1) := by unfold countC; rw [if_pos h]
theorem countC_2 {st : Int} {rs : List RideS} (h : stB st = true) (h2 : 256 < rs.length) : countC st rs = (zeroC, 8) := by unfold countC; rw [if_neg (by simp [h]), if_pos h2]
theorem countC_3 {st : Int} {rs : List RideS} (h : stB st = true) (h2 : ¬ 256 < rs.length) {k : Nat} (hk : k < rs.length) (h3 : ∀ j (hj : j < rs.length), j < k → checkL rs[j] = 0) (h4 : checkL rs[k] ≠ 0) : countC st rs = (zeroC, checkL rs[k]) := by
  have e : rs.find? (fun r => checkL r != 0) = some rs[k] := by
    rw [List.find?_eq_some_iff_getElem]
    exact ⟨by simpa using h4, k, hk, rfl, fun j hj => by simpa using h3 j (by omega) hj⟩
  unfold countC; rw [if_neg (by simp [h]), if_neg h2, e]
theorem find_none {rs : List RideS} (h3 : ∀ j (hj : j < rs.length), checkL rs[j] = 0) : rs.find? (fun r => checkL r != 0) = none := by
  rw [List.find?_eq_none]
  intro x hx
  obtain ⟨j, hj, rfl⟩ := List.getElem_of_mem hx
  simp [h3 j hj]
theorem countC_4 {st : Int} {rs : List RideS} (h : stB st = true) (h2 : ¬ 256 < rs.length) (h3 : ∀ j (hj : j < rs.length), checkL rs[j] = 0) {k : Nat} (hk : k < rs.length) (h4 : badR st rs[k] = true) : countC st rs = (zeroC, 7) := by
  have e : rs.any (badR st) = true := List.any_eq_true.2 ⟨rs[k], List.getElem_mem hk, h4⟩
  unfold countC; rw [if_neg (by simp [h]), if_neg h2, find_none h3]; simp only []; rw [if_pos e]
theorem countC_5 {st : Int} {rs : List RideS} (h : stB st = true) (h2 : ¬ 256 < rs.length) (h3 : ∀ j (hj : j < rs.length), checkL rs[j] = 0) (h4 : ∀ j (hj : j < rs.length), badR st rs[j] = false) : countC st rs = (⟨st, outL (st.toNat * 168) rs, inL (st.toNat * 168) rs⟩, 0) := by
  have e : rs.any (badR st) = false := by
    rw [List.any_eq_false]; intro x hx
    obtain ⟨j, hj, rfl⟩ := List.getElem_of_mem hx
    simp [h4 j hj]
  unfold countC; rw [if_neg (by simp [h]), if_neg h2, find_none h3]; simp only []; rw [if_neg (by simp [e])]
theorem check_moments {r : RideS} (h : checkL r = 0) : momentB r.start.lo = true ∧ momentB r.end_.lo = true := by
  have hr : rangedL r = true := by
    unfold checkL at h; split at h
    · cases h
    · rename_i h1; simpa using h1
  simp only [rangedL, headL, validL, Bool.and_eq_true, decide_eq_true_eq] at hr
  simp only [momentB, Bool.and_eq_true, decide_eq_true_eq]
  omega
theorem addK_lt {st place t : Int} (hd : dockB st place = true) : ((addK place t : Nat) : Int) < st * 168 ∧ ((addK place t : Nat) : Int) = place / 32 * 168 + (t / 3600) % 168 := by
  simp only [dockB, Bool.and_eq_true, decide_eq_true_eq] at hd
  unfold addK
  omega
/-- What any values of a list of structs are: numbers in their range. -/
theorem Good.rngEl {f : FuncId} {args es : List PV} {r : PV} (hm : PV.sl es ∈ args) (h : (∀ cs, PV.agg cs ∈ es → ∀ n, PV.sc (.int .i64 n) ∈ cs → I64 n) → Good Try.prog f args r) : Good Try.prog f args r :=
  .fact _ (fun M w vs hp => by
    obtain ⟨v, hv⟩ := hp.mem hm
    intro cs hcs n hn
    cases hv with
    | slE => cases hcs
    | sl _ b o cap sz vals h0 h1 h2 h3 h4 h5 h6 h7 =>
      obtain ⟨i, hi, e⟩ := List.getElem_of_mem hcs
      obtain ⟨j, hj, e2⟩ := List.getElem_of_mem hn
      have := h6 i (.agg cs) j (.sc (.int .i64 n)) (by rw [List.getElem?_eq_getElem hi, e]) (by show cs[j]? = _; rw [List.getElem?_eq_getElem hj, e2])
      exact rng_i64.1 this.sc_rng) h


end Go.Proofs.Ytjobpjhmdbmdgaa
