/-
  Plain laws of evidence: an interval that is narrowed step by step.
-/
import Derived.Test.YthgnbkcopapbmaaVj
namespace Go.Proofs.Ythgnbkcopapbmaa
open Go.RowKit
open Nat (reduceAdd reduceEqDiff reduceLT reduceLeDiff reduceSub reducePow reduceMul)
open Int (reduceToNat reduceLE reduceEq)
set_option linter.unusedVariables false
set_option linter.unusedSimpArgs false
set_option linter.unnecessarySimpa false

/-- A ride with another end. -/
def setE (r : RideS) (c : SpanS) : RideS := { r.norm with end_ := c, legs := r.legs.modify (r.legs.length - 1) (fun x => { x with to_ := c }) }
def takes (r : RideS) (c : SpanS) (e : EvS) : Bool := decide (e.ride = r.id) && (!r.open_ && (validL e.end_ && decide ((commonL c e.end_).lo ≤ (commonL c e.end_).hi)))
def foldE (r : RideS) : SpanS → List EvS → SpanS
  | c, [] => c
  | c, e :: l => if takes r c e then foldE r (commonL c e.end_) l else foldE r c l
def refF (r : RideS) : SpanS → Nat → List EvS → List Int
  | _, _, [] => []
  | c, i, e :: l => if takes r c e then refF r (commonL c e.end_) (i + 1) l else (i : Int) :: refF r c (i + 1) l
theorem setE_setE (r : RideS) (c d : SpanS) : setE (setE r c) d = setE r d := by
  simp only [setE, RideS.norm, List.length_modify, RideS.mk.injEq, true_and, and_true]
  apply List.ext_getElem
  · simp
  · intro i h1 h2
    simp only [List.getElem_modify]
    split <;> rfl
theorem check_parts {r : RideS} (h : checkL r = 0) : rangedL r = true ∧ joinedL r = true ∧ orderedL r = true ∧ badL r = false := by
  unfold checkL at h
  split at h
  · simp at h
  · split at h
    · simp at h
    · split at h
      · simp at h
      · split at h
        · simp at h
        · simp_all
theorem check_of {r : RideS} (h1 : rangedL r = true) (h2 : joinedL r = true) (h3 : orderedL r = true) (h4 : badL r = false) : checkL r = 0 := by
  simp [checkL, h1, h2, h3, h4]
theorem joined_parts {r : RideS} (h : joinedL r = true) : lensL r = true ∧ (∀ k, joinK r k) ∧ prevS r r.legs.length = r.end_ := by
  simp only [joinedL, Bool.and_eq_true, decide_eq_true_eq] at h
  exact ⟨h.1.1, h.1.2, eqS_iff.1 h.2⟩
theorem legs_pos {r : RideS} (h : joinedL r = true) : 0 < r.legs.length := by
  have := (joined_parts h).1
  simp only [lensL, Bool.and_eq_true, decide_eq_true_eq] at this
  omega
theorem last_to {r : RideS} (h : joinedL r = true) : (r.legs[r.legs.length - 1]'(by have := legs_pos h; omega)).to_ = r.end_ := by
  have hp := legs_pos h
  rw [← (joined_parts h).2.2]
  have e := prevS_succ r (r.legs.length - 1) (by omega)
  rw [show r.legs.length - 1 + 1 = r.legs.length by omega] at e
  exact e.symm
theorem setE_self {r : RideS} (h : joinedL r = true) : setE r r.end_ = r.norm := by
  simp only [setE, RideS.norm, RideS.mk.injEq, true_and, and_true]
  apply List.ext_getElem
  · simp
  · intro i h1 h2
    simp only [List.getElem_modify]
    split
    · rename_i e
      subst e
      have e : ∀ x : LegS, x.to_ = r.end_ → { x with to_ := r.end_ } = x := by
        rintro ⟨x1, x2, x3⟩ hx; simp only at hx; subst hx; rfl
      exact e _ (last_to h)
    · rfl
theorem setE_len (r : RideS) (c : SpanS) : (setE r c).legs.length = r.legs.length := by simp [setE]
theorem setE_get {r : RideS} {c : SpanS} {k : Nat} (h : k < r.legs.length) : (setE r c).legs[k]'(by rw [setE_len]; exact h) = if r.legs.length - 1 = k then { r.legs[k] with to_ := c } else r.legs[k] := by
  simp only [setE, List.getElem_modify]
theorem check_setE {r : RideS} (h : checkL r = 0) (ho : r.open_ = false) {c : SpanS} (hc : validL c = true) (hlo : r.end_.lo ≤ c.lo) : checkL (setE r c) = 0 := by
  obtain ⟨h1, h2, h3, h4⟩ := check_parts h
  obtain ⟨j1, j2, j3⟩ := joined_parts h2
  have hp := legs_pos h2
  have hlast := last_to h2
  refine check_of ?_ ?_ ?_ ?_
  · simp only [rangedL, Bool.and_eq_true, List.all_eq_true] at h1 ⊢
    refine ⟨⟨?_, ?_⟩, h1.2⟩
    · have := h1.1.1
      simp only [headL, Bool.and_eq_true] at this ⊢
      exact ⟨this.1, hc⟩
    · intro x hx
      obtain ⟨k, hk, rfl⟩ := List.getElem_of_mem hx
      rw [setE_len] at hk
      rw [setE_get hk]
      have := h1.1.2 _ (List.getElem_mem hk)
      split
      · simp only [legV, Bool.and_eq_true] at this ⊢; exact ⟨this.1, hc⟩
      · exact this
  · have hpr : ∀ k, k < r.legs.length → prevS (setE r c) k = prevS r k := by
      intro k hk
      cases k with
      | zero => rfl
      | succ k =>
        rw [prevS_succ _ k (by rw [setE_len]; omega), prevS_succ r k (by omega), setE_get (by omega), if_neg (by omega)]
    simp only [joinedL, Bool.and_eq_true, decide_eq_true_eq]
    refine ⟨⟨?_, ?_⟩, ?_⟩
    · simp only [lensL, setE_len] at j1 ⊢; exact j1
    · intro k hk
      rw [setE_len] at hk
      rw [hpr k hk, ← j2 k hk, setE_get hk]
      split <;> rfl
    · rw [eqS_iff, setE_len]
      obtain ⟨n, hn⟩ : ∃ n, r.legs.length = n + 1 := ⟨r.legs.length - 1, by omega⟩
      rw [hn, prevS_succ _ n (by rw [setE_len]; omega), setE_get (by omega), if_pos (by omega)]; rfl
  · simp only [orderedL, Bool.and_eq_true, decide_eq_true_eq] at h3 ⊢
    obtain ⟨⟨o1, o2⟩, o3⟩ := h3
    have hl : ∀ k, lastS (setE r c) k = lastS r k := by intro k; cases k <;> rfl
    refine ⟨⟨?_, ?_⟩, ?_⟩
    · intro k hk
      rw [setE_len] at hk
      rw [setE_get hk]
      have := o1 k hk
      rcases this with this | ⟨h5, _⟩
      · left
        split
        · rename_i e
          have e2 : r.legs[k].to_ = r.end_ := by rw [← hlast]; congr 2; exact e.symm
          rw [e2] at this
          exact Int.le_trans this hlo
        · exact this
      · rw [ho] at h5; cases h5
    · intro k hk
      have := o2 k hk
      rw [hl]
      exact this
    · have : (setE r c).open_ = r.open_ := rfl
      have e2 : (setE r c).pauses = r.pauses := rfl
      rw [this, e2, hl, ho]
      rw [ho] at o3
      simp only [Bool.false_or, Bool.or_eq_true, decide_eq_true_eq] at o3 ⊢
      rcases o3 with o3 | o3
      · exact .inl o3
      · exact .inr (Int.le_trans o3 hlo)
  · simp only [badL] at h4 ⊢
    have : (setE r c).open_ = r.open_ := rfl
    have e2 : (setE r c).where_ = r.where_ := rfl
    rw [this, e2, ho] at *
    simpa using h4
theorem common_lo (a b : SpanS) : a.lo ≤ (commonL a b).lo ∧ b.lo ≤ (commonL a b).lo ∧ (commonL a b).hi ≤ a.hi ∧ (commonL a b).hi ≤ b.hi := by
  simp only [commonL]; omega
theorem common_valid {a b : SpanS} (ha : validL a = true) (hb : validL b = true) (h : (commonL a b).lo ≤ (commonL a b).hi) : validL (commonL a b) = true := by
  have := common_lo a b
  simp only [validL, Bool.and_eq_true, decide_eq_true_eq] at *
  omega
/-- A ride whose end has been narrowed from that of r. -/
def Nar (r : RideS) (c : SpanS) : Prop := checkL r = 0 ∧ r.open_ = false ∧ validL c = true ∧ r.end_.lo ≤ c.lo
theorem narrow_setE {r : RideS} {c : SpanS} (h : Nar r c) (e : EvS) : (takes r c e = true → narrowL (setE r c) e = (setE r (commonL c e.end_), 0) ∧ Nar r (commonL c e.end_)) ∧ (takes r c e = false → (narrowL (setE r c) e).2 ≠ 0) := by
  obtain ⟨h1, h2, h3, h4⟩ := h
  have hk := check_setE h1 h2 h3 h4
  have ei : (setE r c).id = r.id := rfl
  have eo : (setE r c).open_ = r.open_ := rfl
  have ee : (setE r c).end_ = c := rfl
  unfold narrowL takes
  rw [hk, ei, eo, ee, h2]
  constructor
  · intro ht
    simp only [Bool.and_eq_true, decide_eq_true_eq] at ht
    obtain ⟨t1, -, t3, t4⟩ := ht
    refine ⟨?_, h1, h2, common_valid h3 t3 t4, by have := common_lo c e.end_; omega⟩
    rw [if_neg (by simp), if_neg (by simp [t1]), if_neg (by simp), if_neg (by simp [t3]), if_neg (by omega)]
    congr 1
    exact setE_setE r c _
  · intro ht
    simp only [Bool.and_eq_false_iff, decide_eq_false_iff_not, Bool.not_false, Bool.true_eq_false, false_or] at ht
    rw [if_neg (by simp)]
    by_cases t1 : e.ride = r.id
    · rw [if_neg (by simp [t1]), if_neg (by simp)]
      by_cases t3 : validL e.end_ = false
      · rw [if_pos t3]; simp
      · rw [if_neg t3, if_pos (by rcases ht with ht | ht | ht; exact absurd t1 ht; exact absurd ht t3; omega)]; simp
    · rw [if_pos t1]; simp
theorem allF_setE {r : RideS} : ∀ {c : SpanS} (i : Nat) (l : List EvS) (acc : List Int), Nar r c → allF (setE r c) i l acc = (setE r (foldE r c l), acc ++ refF r c i l) ∧ Nar r (foldE r c l)
  | c, i, [], acc, h => by simp [allF, foldE, refF, h]
  | c, i, e :: l, acc, h => by
    obtain ⟨n1, n2⟩ := narrow_setE h e
    rw [allF]
    cases ht : takes r c e
    · have := n2 ht
      rw [if_neg this]
      obtain ⟨a1, a2⟩ := allF_setE (i + 1) l (acc ++ [(i : Int)]) h
      simp only [foldE, refF, ht, Bool.false_eq_true, if_false]
      exact ⟨by rw [a1]; simp, a2⟩
    · obtain ⟨m1, m2⟩ := n1 ht
      rw [m1]
      rw [if_pos rfl]
      obtain ⟨a1, a2⟩ := allF_setE (i + 1) l acc m2
      simp only [foldE, refF, ht, if_true]
      exact ⟨a1, a2⟩
theorem takes_open {r : RideS} (h : r.open_ = true) (c : SpanS) (e : EvS) : takes r c e = false := by simp [takes, h]
theorem nar_opened {r : RideS} (h : r.open_ = true) (hc : checkL r = 0) (e : EvS) : (narrowL r e).2 ≠ 0 := by
  unfold narrowL
  rw [hc, if_neg (by simp)]
  by_cases t1 : e.ride = r.id
  · rw [if_neg (by simp [t1]), if_pos h]; simp
  · rw [if_pos t1]; simp
theorem allF_open {r : RideS} (h : r.open_ = true) (hc : checkL r = 0) : ∀ (c : SpanS) (i : Nat) (l : List EvS) (acc : List Int), allF r i l acc = (r, acc ++ refF r c i l) ∧ foldE r c l = c
  | c, i, [], acc => by simp [allF, foldE, refF]
  | c, i, e :: l, acc => by
    rw [allF, if_neg (nar_opened h hc e)]
    obtain ⟨a1, a2⟩ := allF_open h hc c (i + 1) l (acc ++ [(i : Int)])
    simp only [foldE, refF, takes_open h, Bool.false_eq_true, if_false]
    exact ⟨by rw [a1]; simp, a2⟩
/-- What All gives for a ride that is accepted. -/
theorem allL_eq {r : RideS} (hc : checkL r = 0) {l : List EvS} (hl : l.length ≤ 512) : allL r l = (setE r (foldE r r.end_ l), refF r r.end_ 0 l, 0) := by
  have hj := (check_parts hc).2.1
  unfold allL
  rw [if_neg (by simp [hc]), if_neg (by omega)]
  cases ho : r.open_
  · have hv : validL r.end_ = true := by
      have := (check_parts hc).1
      simp only [rangedL, headL, Bool.and_eq_true] at this
      exact this.1.1.2
    obtain ⟨a1, a2⟩ := allF_setE (r := r) (c := r.end_) 0 l [] ⟨hc, ho, hv, Int.le_refl _⟩
    rw [← setE_self hj, a1]; rfl
  · obtain ⟨a1, a2⟩ := allF_open (r := r.norm) ho hc r.end_ 0 l []
    have e2 : foldE r r.end_ l = r.end_ := (allF_open (r := r) ho hc r.end_ 0 l []).2
    have e3 : refF r.norm r.end_ 0 l = refF r r.end_ 0 l := by
      have : ∀ (c : SpanS) (i : Nat) (l : List EvS), refF r.norm c i l = refF r c i l := by
        intro c i l
        induction l generalizing c i with
        | nil => rfl
        | cons e l ih => simp only [refF, takes_open (r := r.norm) ho, takes_open (r := r) ho, Bool.false_eq_true, if_false, ih]
      exact this _ _ _
    rw [a1, e2, setE_self hj, e3]; rfl
theorem allL_bad {r : RideS} (hc : checkL r ≠ 0) (l : List EvS) : allL r l = (zeroR, [], checkL r) := by unfold allL; rw [if_pos hc]
theorem foldE_filter (r : RideS) : ∀ (c : SpanS) (l : List EvS), foldE r c (l.filter (fun e => e.ride == r.id)) = foldE r c l
  | c, [] => rfl
  | c, e :: l => by
    by_cases h : e.ride = r.id
    · rw [List.filter_cons_of_pos (by simpa using h)]
      simp only [foldE]
      rw [foldE_filter r _ l, foldE_filter r _ l]
    · rw [List.filter_cons_of_neg (by simpa using h), foldE_filter r c l]
      have : takes r c e = false := by simp [takes, h]
      simp [foldE, this]


end Go.Proofs.Ythgnbkcopapbmaa
