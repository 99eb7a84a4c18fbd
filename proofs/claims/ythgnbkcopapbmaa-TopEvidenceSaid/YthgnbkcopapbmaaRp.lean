/-
  Rides that are in order: plain laws.
-/
import Derived.Test.YthgnbkcopapbmaaSh
namespace Go.Proofs.Ythgnbkcopapbmaa
open Go.RowKit
open Nat (reduceAdd reduceEqDiff reduceLT reduceLeDiff reduceSub reducePow reduceMul)
open Int (reduceToNat reduceLE reduceEq)
set_option linter.unusedVariables false
set_option linter.unusedSimpArgs false
set_option linter.unnecessarySimpa false


def validL (s : SpanS) : Bool := decide (0 ≤ s.lo) && decide (s.lo ≤ s.hi) && decide (s.hi ≤ 4294943999)
theorem valid_cases (s : SpanS) : (validL s = false ∧ s.lo < 0) ∨ (validL s = false ∧ 0 ≤ s.lo ∧ s.hi < s.lo) ∨ (validL s = false ∧ 0 ≤ s.lo ∧ s.lo ≤ s.hi ∧ 4294943999 < s.hi) ∨ (validL s = true ∧ 0 ≤ s.lo ∧ s.lo ≤ s.hi ∧ s.hi ≤ 4294943999) := by
  by_cases h1 : s.lo < 0
  · left; simp [validL]; omega
  · by_cases h2 : s.hi < s.lo
    · right; left; simp [validL]; omega
    · by_cases h3 : 4294943999 < s.hi
      · right; right; left; simp [validL]; omega
      · right; right; right; simp [validL]; omega
def headL (r : RideS) : Bool := !(decide (r.id < 1)) && !(decide (r.id > 1000000)) && !(decide (r.rider < 0)) && !(decide (r.rider ≥ 128)) && validL r.start && validL r.end_
def legV (x : LegS) : Bool := validL x.from_ && validL x.to_
def pauseV (x : PauseS) : Bool := validL x.from_ && validL x.to_
def rangedL (r : RideS) : Bool := headL r && r.legs.all legV && r.pauses.all pauseV
theorem all_false {α} (p : α → Bool) (l : List α) (k : Nat) (h : k < l.length) (hk : p l[k] = false) : l.all p = false := by
  rw [List.all_eq_false]
  exact ⟨l[k], List.getElem_mem h, by simp [hk]⟩
theorem all_true {α} (p : α → Bool) (l : List α) (hk : ∀ j (hj : j < l.length), p l[j] = true) : l.all p = true := by
  rw [List.all_eq_true]
  intro x hx
  obtain ⟨j, hj, rfl⟩ := List.getElem_of_mem hx
  exact hk j hj
theorem head_cases (r : RideS) : (headL r = false ∧ r.id < 1) ∨ (headL r = false ∧ 1 ≤ r.id ∧ 1000000 < r.id) ∨ (headL r = false ∧ 1 ≤ r.id ∧ r.id ≤ 1000000 ∧ r.rider < 0) ∨ (headL r = false ∧ 1 ≤ r.id ∧ r.id ≤ 1000000 ∧ 0 ≤ r.rider ∧ 128 ≤ r.rider) ∨ (1 ≤ r.id ∧ r.id ≤ 1000000 ∧ 0 ≤ r.rider ∧ r.rider < 128 ∧ ((validL r.start = false ∧ headL r = false) ∨ (validL r.start = true ∧ validL r.end_ = false ∧ headL r = false) ∨ (validL r.start = true ∧ validL r.end_ = true ∧ headL r = true))) := by
  by_cases h1 : r.id < 1
  · left; simp [headL]; omega
  by_cases h2 : 1000000 < r.id
  · right; left; simp [headL]; omega
  by_cases h3 : r.rider < 0
  · right; right; left; simp [headL]; omega
  by_cases h4 : 128 ≤ r.rider
  · right; right; right; left; simp [headL]; omega
  refine Or.inr (Or.inr (Or.inr (Or.inr ⟨by omega, by omega, by omega, by omega, ?_⟩)))
  have e1 : decide (r.id < 1) = false := by simp; omega
  have e2 : decide (r.id > 1000000) = false := by simp; omega
  have e3 : decide (r.rider < 0) = false := by simp; omega
  have e4 : decide (r.rider ≥ 128) = false := by simp; omega
  simp only [headL, e1, e2, e3, e4]
  cases validL r.start <;> cases validL r.end_ <;> simp
def prevS (r : RideS) : Nat → SpanS
  | 0 => r.start
  | k+1 => ((r.legs[k]?).map LegS.to_).getD r.start
theorem prevS_succ (r : RideS) (k : Nat) (h : k < r.legs.length) : prevS r (k+1) = r.legs[k].to_ := by simp [prevS, h]
def eqS (a b : SpanS) : Bool := a.lo == b.lo && a.hi == b.hi
theorem eqS_iff {a b : SpanS} : eqS a b = true ↔ a = b := by cases a; cases b; simp [eqS]
theorem eqS_false {a b : SpanS} : eqS a b = false ↔ a ≠ b := by rw [← Bool.not_eq_true, eqS_iff]
def lensL (r : RideS) : Bool := decide (1 ≤ r.legs.length) && decide (r.legs.length ≤ 512) && decide (r.pauses.length ≤ 512)
def joinK (r : RideS) (k : Nat) : Prop := ∀ h : k < r.legs.length, r.legs[k].from_ = prevS r k
open Classical in
noncomputable def joinedL (r : RideS) : Bool := lensL r && decide (∀ k, joinK r k) && eqS (prevS r r.legs.length) r.end_
theorem lens_cases (r : RideS) : (lensL r = false ∧ r.legs.length < 1) ∨ (lensL r = false ∧ 1 ≤ r.legs.length ∧ 512 < r.legs.length) ∨ (lensL r = false ∧ 1 ≤ r.legs.length ∧ r.legs.length ≤ 512 ∧ 512 < r.pauses.length) ∨ (lensL r = true ∧ 1 ≤ r.legs.length ∧ r.legs.length ≤ 512 ∧ r.pauses.length ≤ 512) := by
  simp only [lensL, Bool.and_eq_false_iff, decide_eq_false_iff_not, Bool.and_eq_true, decide_eq_true_eq]
  omega
theorem joined_of_lens {r : RideS} (h : lensL r = false) : joinedL r = false := by simp [joinedL, h]
theorem joined_no {r : RideS} (k : Nat) (hk : k < r.legs.length) (h : r.legs[k].from_ ≠ prevS r k) : joinedL r = false := by
  have : ¬ ∀ k, joinK r k := fun hh => h (hh k hk)
  simp [joinedL, this]
theorem joined_yes {r : RideS} (h0 : lensL r = true) (h : ∀ k (hk : k < r.legs.length), r.legs[k].from_ = prevS r k) : joinedL r = eqS (prevS r r.legs.length) r.end_ := by
  have : ∀ k, joinK r k := fun k hk => h k hk
  simp [joinedL, this, h0]
def lastS (r : RideS) : Nat → Int
  | 0 => r.start.lo
  | k+1 => ((r.pauses[k]?).map (fun p => p.to_.lo)).getD r.start.lo
theorem lastS_succ (r : RideS) (k : Nat) (h : k < r.pauses.length) : lastS r (k+1) = r.pauses[k].to_.lo := by simp [lastS, h]
def legOrd (r : RideS) (k : Nat) : Prop := ∀ h : k < r.legs.length, r.legs[k].from_.lo ≤ r.legs[k].to_.lo ∨ (r.open_ = true ∧ k + 1 = r.legs.length)
def pauseOrd (r : RideS) (k : Nat) : Prop := ∀ h : k < r.pauses.length, lastS r k ≤ r.pauses[k].from_.lo ∧ (r.pauses[k].from_.lo ≤ r.pauses[k].to_.lo ∨ (r.open_ = true ∧ k + 1 = r.pauses.length ∧ r.pauses[k].to_.lo = 0))
open Classical in
noncomputable def orderedL (r : RideS) : Bool := decide (∀ k, legOrd r k) && decide (∀ k, pauseOrd r k) && (r.open_ || decide (r.pauses.length = 0) || decide (lastS r r.pauses.length ≤ r.end_.lo))
theorem ordered_noleg {r : RideS} (k : Nat) (h : ¬ legOrd r k) : orderedL r = false := by
  have : ¬ ∀ k, legOrd r k := fun hh => h (hh k)
  simp [orderedL, this]
theorem ordered_nopause {r : RideS} (k : Nat) (h : ¬ pauseOrd r k) : orderedL r = false := by
  have : ¬ ∀ k, pauseOrd r k := fun hh => h (hh k)
  simp [orderedL, this]
theorem ordered_yes {r : RideS} (h0 : ∀ k, legOrd r k) (h : ∀ k, pauseOrd r k) : orderedL r = (r.open_ || decide (r.pauses.length = 0) || decide (lastS r r.pauses.length ≤ r.end_.lo)) := by
  simp [orderedL, h0, h]
def badL (r : RideS) : Bool := (r.open_ && !eqS r.end_ ⟨0, 0⟩) || (r.open_ != (r.where_ == 3))
noncomputable def checkL (r : RideS) : Int := if rangedL r = false then 1 else if joinedL r = false then 3 else if orderedL r = false then 9 else if badL r = true then 12 else 0
theorem joined_end {r : RideS} (n : Nat) (hn : n + 1 = r.legs.length) (h : (r.legs[n]'(by omega)).to_ ≠ r.end_) : joinedL r = false := by
  have : eqS (prevS r r.legs.length) r.end_ = false := by
    rw [eqS_false, ← hn, prevS_succ r n (by omega)]; exact h
  simp [joinedL, this]
theorem joined_all {r : RideS} (h0 : lensL r = true) (n : Nat) (hn : n + 1 = r.legs.length) (h1 : (r.legs[n]'(by omega)).to_ = r.end_) (h : ∀ k (hk : k < r.legs.length), r.legs[k].from_ = prevS r k) : joinedL r = true := by
  rw [joined_yes h0 h, eqS_iff, ← hn, prevS_succ r n (by omega)]; exact h1
def marksOf (l : List PauseS) : List Int := l.flatMap fun p => [p.from_.lo, p.to_.lo]
def intV (l : List Int) : List Value := l.map fun x => .int .i64 x
theorem marks_len (l : List PauseS) : (marksOf l).length = 2 * l.length := by
  induction l with
  | nil => rfl
  | cons p l ih => simp [marksOf] at ih ⊢; omega
theorem marks_snoc (l : List PauseS) (k : Nat) (h : k < l.length) : marksOf (l.take (k+1)) = marksOf (l.take k) ++ [l[k].from_.lo, l[k].to_.lo] := by
  rw [List.take_succ_eq_append_getElem h]; unfold marksOf; rw [List.flatMap_append]; rfl
theorem intV_append (l m : List Int) : intV (l ++ m) = intV l ++ intV m := by simp [intV]
def marksL (r : RideS) : List Int := if 0 < (marksOf r.pauses).length ∧ r.open_ = true ∧ (marksOf r.pauses).getLast? = some 0 then (marksOf r.pauses).dropLast else marksOf r.pauses
def commonL (a b : SpanS) : SpanS := ⟨max a.lo b.lo, min a.hi b.hi⟩
def withinL (a b : SpanS) : Bool := decide (b.lo ≤ a.lo) && decide (a.lo ≤ a.hi) && decide (a.hi ≤ b.hi)
theorem within_cases (a b : SpanS) : (withinL a b = false ∧ a.lo < b.lo) ∨ (withinL a b = false ∧ b.lo ≤ a.lo ∧ a.hi < a.lo) ∨ (withinL a b = false ∧ b.lo ≤ a.lo ∧ a.lo ≤ a.hi ∧ b.hi < a.hi) ∨ (withinL a b = true ∧ b.lo ≤ a.lo ∧ a.lo ≤ a.hi ∧ a.hi ≤ b.hi) := by
  simp only [withinL, Bool.and_eq_false_iff, decide_eq_false_iff_not, Bool.and_eq_true, decide_eq_true_eq]
  omega
deriving instance DecidableEq for SpanS, LegS, PauseS
def sameHead (a b : RideS) : Bool := a.id == b.id && (a.rider == b.rider && (eqS a.start b.start && (eqS a.end_ b.end_ && (a.open_ == b.open_ && (a.fromWhere == b.fromWhere && (a.fromPlace == b.fromPlace && (a.where_ == b.where_ && (a.place == b.place && (a.legs.length == b.legs.length && a.pauses.length == b.pauses.length)))))))))
def sameL (a b : RideS) : Bool := sameHead a b && (decide (a.legs = b.legs) && decide (a.pauses = b.pauses))
def fewRL (l : List RideS) (most : Int) : Bool := l.all (fun r => decide (r.legs.length ≤ 40) && decide (r.pauses.length ≤ 40)) && decide ((l.length : Int) ≤ most)
theorem fewRL_no (l : List RideS) (most : Int) (k : Nat) (h : k < l.length) (h2 : ¬ (l[k].legs.length ≤ 40 ∧ l[k].pauses.length ≤ 40)) : fewRL l most = false := by
  simp only [fewRL, Bool.and_eq_false_iff]; left
  rw [List.all_eq_false]
  exact ⟨l[k], List.getElem_mem h, by simp only [Bool.and_eq_true, decide_eq_true_eq]; exact h2⟩
theorem fewRL_yes (l : List RideS) (most : Int) (h : ∀ j (hj : j < l.length), l[j].legs.length ≤ 40 ∧ l[j].pauses.length ≤ 40) : fewRL l most = decide ((l.length : Int) ≤ most) := by
  have : l.all (fun r => decide (r.legs.length ≤ 40) && decide (r.pauses.length ≤ 40)) = true := by
    rw [List.all_eq_true]; intro x hx
    obtain ⟨j, hj, rfl⟩ := List.getElem_of_mem hx
    simp only [Bool.and_eq_true, decide_eq_true_eq]; exact h j hj
  simp only [fewRL, this, Bool.true_and]
def sameRL : List RideS → List RideS → Bool
  | [], [] => true
  | x :: xs, y :: ys => sameL x y && sameRL xs ys
  | _, _ => false
theorem sameRL_len : ∀ (l m : List RideS), l.length ≠ m.length → sameRL l m = false
  | [], [], h => absurd rfl h
  | [], _ :: _, _ => rfl
  | _ :: _, [], _ => rfl
  | x :: xs, y :: ys, h => by rw [sameRL, sameRL_len xs ys (by simpa using h), Bool.and_false]
def markOrd (r : RideS) (i : Nat) : Prop := ∀ h : i < (marksL r).length, (i = 0 → r.start.lo ≤ (marksL r)[i]) ∧ (∀ h2 : 0 < i, (marksL r)[i - 1] ≤ (marksL r)[i]) ∧ (r.open_ = false → (marksL r)[i] ≤ r.end_.lo)
open Classical in
noncomputable def qorderedL (r : RideS) : Bool := decide (∀ k, legOrd r k) && decide (∀ i, markOrd r i)
theorem qordered_noleg {r : RideS} (k : Nat) (h : ¬ legOrd r k) : qorderedL r = false := by
  have : ¬ ∀ k, legOrd r k := fun hh => h (hh k)
  simp [qorderedL, this]
theorem qordered_nomark {r : RideS} (k : Nat) (h : ¬ markOrd r k) : qorderedL r = false := by
  have : ¬ ∀ k, markOrd r k := fun hh => h (hh k)
  simp [qorderedL, this]
theorem qordered_yes {r : RideS} (h0 : ∀ k, legOrd r k) (h : ∀ k, markOrd r k) : qorderedL r = true := by
  simp [qorderedL, h0, h]
theorem marks_get : ∀ (l : List PauseS) (k : Nat) (h : k < l.length), (marksOf l).getD (2*k) 0 = l[k].from_.lo ∧ (marksOf l).getD (2*k+1) 0 = l[k].to_.lo
  | [], k, h => by simp at h
  | p :: l, 0, h => by simp [marksOf]
  | p :: l, k+1, h => by
    have := marks_get l k (by simpa using h)
    have e : marksOf (p :: l) = p.from_.lo :: p.to_.lo :: marksOf l := rfl
    rw [e, show 2 * (k + 1) = 2 * k + 1 + 1 by omega]
    simpa using this
theorem ord_core (n N : Nat) (op : Prop) (s e : Int) (F T L mk : Nat → Int) (hL0 : L 0 = s) (hL : ∀ k, k < n → L (k+1) = T k) (hF : ∀ k, k < n → mk (2*k) = F k) (hT : ∀ k, k < n → mk (2*k+1) = T k)
    (hN : (N = 2 * n ∧ ¬ (0 < n ∧ op ∧ T (n-1) = 0)) ∨ (N + 1 = 2 * n ∧ op ∧ 0 < n ∧ T (n-1) = 0)) :
    (∀ i, i < N → (i = 0 → s ≤ mk i) ∧ (0 < i → mk (i-1) ≤ mk i) ∧ (¬ op → mk i ≤ e)) ↔ (∀ k, k < n → L k ≤ F k ∧ (F k ≤ T k ∨ (op ∧ k + 1 = n ∧ T k = 0))) ∧ (op ∨ n = 0 ∨ L n ≤ e) := by
  constructor
  · intro h
    refine ⟨fun k hk => ⟨?_, ?_⟩, ?_⟩
    · have := h (2*k) (by omega)
      rw [hF k hk] at this
      cases k with
      | zero => rw [hL0]; exact this.1 rfl
      | succ k =>
        rw [hL k (by omega)]
        have h2 := this.2.1 (by omega)
        rw [show 2 * (k+1) - 1 = 2 * k + 1 by omega, hT k (by omega)] at h2; exact h2
    · by_cases hd : 2*k+1 < N
      · left
        have := (h (2*k+1) hd).2.1 (by omega)
        rw [Nat.add_sub_cancel, hF k hk, hT k hk] at this; exact this
      · right
        rcases hN with ⟨h1, _⟩ | ⟨h1, h2, h3, h4⟩
        · omega
        · obtain rfl : k = n - 1 := by omega
          exact ⟨h2, by omega, h4⟩
    · by_cases ho : op
      · exact .inl ho
      · by_cases h0 : n = 0
        · exact .inr (.inl h0)
        · right; right
          obtain ⟨m, rfl⟩ : ∃ m, n = m + 1 := ⟨n - 1, by omega⟩
          rcases hN with ⟨h1, _⟩ | ⟨_, h2, _⟩
          · have := (h (2*m+1) (by omega)).2.2 ho
            rw [hT m (by omega)] at this
            rw [hL m (by omega)]; exact this
          · exact absurd h2 ho
  · rintro ⟨h, he⟩ i hi
    have hadj : 0 < i → mk (i-1) ≤ mk i := by
      intro h0
      obtain ⟨k, rfl | rfl⟩ : ∃ k, i = 2 * k ∨ i = 2 * k + 1 := ⟨i / 2, by omega⟩
      · obtain ⟨k, rfl⟩ : ∃ j, k = j + 1 := ⟨k - 1, by omega⟩
        have := (h (k+1) (by omega)).1
        rw [hL k (by omega)] at this
        rw [show 2 * (k+1) - 1 = 2 * k + 1 by omega, hT k (by omega), hF (k+1) (by omega)]; exact this
      · rw [Nat.add_sub_cancel, hF k (by omega), hT k (by omega)]
        rcases (h k (by omega)).2 with h1 | ⟨h1, h2, h3⟩
        · exact h1
        · exfalso
          rcases hN with ⟨_, h5⟩ | ⟨h5, _⟩
          · exact h5 ⟨by omega, h1, by rw [show n - 1 = k by omega]; exact h3⟩
          · omega
    refine ⟨?_, hadj, ?_⟩
    · rintro rfl
      have := (h 0 (by omega)).1
      rw [hL0] at this
      have h2 := hF 0 (by omega)
      simp only [Nat.mul_zero] at h2
      rw [h2]; exact this
    · intro ho
      have hT' : ∀ d k, k + d + 1 = n → T k ≤ e := by
        intro d
        induction d with
        | zero =>
          intro k hk
          rcases he with h1 | h1 | h1
          · exact absurd h1 ho
          · omega
          · rw [← hk] at h1; simp only [Nat.add_zero] at h1; rw [hL k (by omega)] at h1; exact h1
        | succ d ih =>
          intro k hk
          have h1 := ih (k+1) (by omega)
          have h2 := h (k+1) (by omega)
          rw [hL k (by omega)] at h2
          rcases h2.2 with h3 | ⟨h3, _⟩
          · omega
          · exact absurd h3 ho
      obtain ⟨k, rfl | rfl⟩ : ∃ k, i = 2 * k ∨ i = 2 * k + 1 := ⟨i / 2, by omega⟩
      · rw [hF k (by omega)]
        have h1 := hT' (n - 1 - k) k (by omega)
        rcases (h k (by omega)).2 with h2 | ⟨h2, _⟩
        · omega
        · exact absurd h2 ho
      · rw [hT k (by omega)]
        exact hT' (n - 1 - k) k (by omega)
theorem marksL_cases (r : RideS) : (marksL r = marksOf r.pauses ∧ ¬ (0 < (marksOf r.pauses).length ∧ r.open_ = true ∧ (marksOf r.pauses).getLast? = some 0)) ∨ (marksL r = (marksOf r.pauses).dropLast ∧ 0 < (marksOf r.pauses).length ∧ r.open_ = true ∧ (marksOf r.pauses).getLast? = some 0) := by
  unfold marksL
  by_cases h : 0 < (marksOf r.pauses).length ∧ r.open_ = true ∧ (marksOf r.pauses).getLast? = some 0
  · right; rw [if_pos h]; exact ⟨rfl, h⟩
  · left; rw [if_neg h]; exact ⟨rfl, h⟩
theorem marks_last (l : List PauseS) (h : 0 < l.length) : (marksOf l).getLast? = some ((l.map fun p => p.to_.lo).getD (l.length - 1) 0) := by
  have e := (marks_get l (l.length - 1) (by omega)).2
  have hl := marks_len l
  rw [List.getLast?_eq_getElem?, hl, show 2 * l.length - 1 = 2 * (l.length - 1) + 1 by omega]
  rw [List.getD_eq_getElem?_getD, List.getElem?_eq_getElem (by omega)] at e
  rw [List.getElem?_eq_getElem (by omega), List.getD_eq_getElem?_getD, List.getElem?_map, List.getElem?_eq_getElem (by omega)]
  simp at e ⊢; exact e
theorem qordered_eq_L (r : RideS) : qorderedL r = orderedL r := by
  have key := ord_core r.pauses.length (marksL r).length (r.open_ = true) r.start.lo r.end_.lo (fun k => (r.pauses.map fun p => p.from_.lo).getD k 0) (fun k => (r.pauses.map fun p => p.to_.lo).getD k 0) (lastS r) (fun i => (marksOf r.pauses).getD i 0) rfl
    (fun k hk => by rw [lastS_succ r k hk]; simp [hk])
    (fun k hk => by rw [(marks_get r.pauses k hk).1]; simp [hk])
    (fun k hk => by rw [(marks_get r.pauses k hk).2]; simp [hk])
    (by
      have hl := marks_len r.pauses
      rcases marksL_cases r with ⟨h1, h2⟩ | ⟨h1, h2, h3, h4⟩
      · left
        rw [h1]
        refine ⟨hl, fun ⟨a, b, c⟩ => h2 ⟨by omega, b, ?_⟩⟩
        rw [marks_last _ a, c]
      · right
        rw [h1, List.length_dropLast]
        refine ⟨by omega, h3, by omega, ?_⟩
        rw [marks_last _ (by omega)] at h4
        exact Option.some.inj h4)
  have hM : ∀ i (h : i < (marksL r).length), (marksL r)[i] = (marksOf r.pauses).getD i 0 := by
    intro i h
    rcases marksL_cases r with ⟨h1, h2⟩ | ⟨h1, h2, h3, h4⟩
    · simp only [h1]
      rw [h1] at h
      simp [h]
    · simp only [h1]
      rw [h1, List.length_dropLast] at h
      rw [List.getElem_dropLast]
      simp [show i < (marksOf r.pauses).length by omega]
  have hmo : (∀ i, markOrd r i) ↔ (∀ i, i < (marksL r).length → (i = 0 → r.start.lo ≤ (marksOf r.pauses).getD i 0) ∧ (0 < i → (marksOf r.pauses).getD (i-1) 0 ≤ (marksOf r.pauses).getD i 0) ∧ (¬ r.open_ = true → (marksOf r.pauses).getD i 0 ≤ r.end_.lo)) := by
    constructor
    · intro h i hi
      have := h i hi
      refine ⟨fun e => by rw [← hM i hi]; exact this.1 e, fun e => by rw [← hM i hi, ← hM (i-1) (by omega)]; exact this.2.1 e, fun e => by rw [← hM i hi]; exact this.2.2 (by simpa using e)⟩
    · intro h i hi
      have := h i hi
      refine ⟨fun e => by rw [hM i hi]; exact this.1 e, fun e => by rw [hM i hi, hM (i-1) (by omega)]; exact this.2.1 e, fun e => by rw [hM i hi]; exact this.2.2 (by simpa using e)⟩
  have hpo : (∀ k, pauseOrd r k) ↔ (∀ k, k < r.pauses.length → lastS r k ≤ (r.pauses.map fun p => p.from_.lo).getD k 0 ∧ ((r.pauses.map fun p => p.from_.lo).getD k 0 ≤ (r.pauses.map fun p => p.to_.lo).getD k 0 ∨ (r.open_ = true ∧ k + 1 = r.pauses.length ∧ (r.pauses.map fun p => p.to_.lo).getD k 0 = 0))) := by
    constructor
    · intro h k hk
      have := h k hk
      simpa [hk] using this
    · intro h k hk
      have := h k hk
      simpa [hk] using this
  rw [Bool.eq_iff_iff]
  simp only [qorderedL, orderedL, Bool.and_eq_true, Bool.or_eq_true, decide_eq_true_eq, and_assoc]
  rw [hmo, hpo, or_assoc]
  exact and_congr_right fun _ => key


end Go.Proofs.Ythgnbkcopapbmaa
