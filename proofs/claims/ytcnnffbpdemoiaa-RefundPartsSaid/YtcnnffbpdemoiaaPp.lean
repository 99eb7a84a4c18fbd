import Derived.Test.YtcnnffbpdemoiaaPs
namespace Go.Proofs.Ytcnnffbpdemoiaa
open Go.RowKit
set_option linter.unusedVariables false

theorem amt_append (p : RefS → Bool) (l m : List RefS) : amt p (l ++ m) = amt p l + amt p m := by
  simp only [amt, List.filter_append, List.map_append, List.sum_append]
theorem amt_cons (p : RefS → Bool) (y : RefS) (l : List RefS) : amt p (y :: l) = (if p y then y.amount else 0) + amt p l := by
  simp only [amt, List.filter_cons]; split <;> simp

/-- A refund of the list parted in two. -/
def parted (l : List RefS) (k : Nat) (part id : Int) (y : RefS) : List RefS := l.set k { y with amount := part } ++ [⟨id, y.ride, y.item, y.amount - part⟩]

theorem parted_amt {l : List RefS} {k : Nat} (hk : k < l.length) (part id : Int) (p : RefS → Bool) (hp : ∀ a b, p ⟨a, l[k].ride, l[k].item, b⟩ = p l[k]) : amt p (parted l k part id l[k]) = amt p l := by
  unfold parted
  have e : l = l.take k ++ l[k] :: l.drop (k + 1) := by rw [← List.drop_eq_getElem_cons hk, List.take_append_drop]
  have e2 : amt p l = amt p (l.take k) + ((if p l[k] then l[k].amount else 0) + amt p (l.drop (k + 1))) := by
    conv => lhs; rw [e]
    rw [amt_append, amt_cons]
  rw [List.set_eq_take_append_cons_drop, if_pos hk, amt_append, amt_append, amt_cons, amt_cons, amt_nil, e2]
  have h1 := hp l[k].id part
  have h2 := hp id (l[k].amount - part)
  rw [h1, h2]
  cases p l[k]
  · simp
  · simp only [if_true]; omega

theorem parted_good {fs : List FareS} {l : List RefS} (g : Good fs l) {k : Nat} (hk : k < l.length) (hl : l.length ≤ 60) {part id : Int} (h1 : 1 ≤ part) (h2 : part < l[k].amount) (i1 : 1 ≤ id) (i2 : id ≤ 1000000) (hid : ∀ y ∈ l, y.id ≠ id) :
    Good fs (parted l k part id l[k]) ∧ (∀ r i, sumI (parted l k part id l[k]) r i = sumI l r i) ∧ (∀ r, sumR (parted l k part id l[k]) r = sumR l r) := by
  have hlen : (parted l k part id l[k]).length = l.length + 1 := by simp [parted]
  have hy := g.one l[k] (List.getElem_mem hk)
  obtain ⟨f, x, hit, a1, a2, b1, b2, hx⟩ := one_facts hy
  have hmem : ∀ z ∈ parted l k part id l[k], z ∈ l ∨ z = { l[k] with amount := part } ∨ z = ⟨id, l[k].ride, l[k].item, l[k].amount - part⟩ := by
    intro z hz
    rcases List.mem_append.1 hz with hz | hz
    · rcases List.mem_or_eq_of_mem_set hz with hz | hz
      · exact .inl hz
      · exact .inr (.inl hz)
    · simp at hz; exact .inr (.inr hz)
  have ham : ∀ z ∈ parted l k part id l[k], 1 ≤ z.amount ∧ z.amount ≤ 1000000000000 := by
    intro z hz
    rcases hmem z hz with hz | rfl | rfl
    · exact g.amounts z hz
    · dsimp only; omega
    · dsimp only; omega
  have eI : ∀ r i, sumI (parted l k part id l[k]) r i = sumI l r i := fun r i => by
    rw [sumI_amt (by omega) ham, g.sumI]; exact parted_amt hk part id _ (fun _ _ => rfl)
  have eR : ∀ r, sumR (parted l k part id l[k]) r = sumR l r := fun r => by
    rw [sumR_amt (by omega) ham, g.sumR]; exact parted_amt hk part id _ (fun _ _ => rfl)
  refine ⟨⟨by omega, ?_, ?_, ?_⟩, eI, eR⟩
  · intro z hz
    rcases hmem z hz with hz | rfl | rfl
    · exact g.one z hz
    · have hb : oneBad { l[k] with amount := part } = false := by simp [oneBad]; omega
      simp only [oneL, hb, hit]; simp; omega
    · have hb : oneBad ⟨id, l[k].ride, l[k].item, l[k].amount - part⟩ = false := by simp [oneBad]; omega
      simp only [oneL, hb, hit]; simp; omega
  · have e : (parted l k part id l[k]).map (·.id) = l.map (·.id) ++ [id] := by
      simp only [parted, List.map_append, List.map_set, List.map_cons, List.map_nil]
      congr 1
      apply List.ext_getElem (by simp)
      intro j h1 h2
      rw [List.getElem_set]
      split
      · rename_i hjk; subst hjk; simp
      · rfl
    rw [e]
    refine nodup_snoc g.ids (fun h => ?_)
    obtain ⟨y, hy, e⟩ := List.mem_map.1 h
    exact hid y hy e
  · have hbad : ∀ z, amtBad fs (parted l k part id l[k]) z = amtBad fs l z := fun z => by
      simp only [amtBad, eI, eR]
    intro z hz
    rw [hbad]
    rcases hmem z hz with hz | rfl | rfl
    · exact g.amts z hz
    · exact g.amts l[k] (List.getElem_mem hk)
    · exact g.amts l[k] (List.getElem_mem hk)

theorem parted_left {fs : List FareS} {l m : List RefS} (g : Good fs l) (g' : Good fs m) (eI : ∀ r i, sumI m r i = sumI l r i) (eR : ∀ r, sumR m r = sumR l r) (r i : Int) : leftL fs m r i = leftL fs l r i := by
  have h := check_good.2 g
  have h' := check_good.2 g'
  simp only [leftL, h, h', eI, eR]
theorem parted_net {fs : List FareS} {l m : List RefS} (g : Good fs l) (g' : Good fs m) (eR : ∀ r, sumR m r = sumR l r) (r : Int) : netL fs m r = netL fs l r := by
  have h := check_good.2 g
  have h' := check_good.2 g'
  simp only [netL, h, h', eR]

theorem flat_set {l : List RefS} {k : Nat} (hk : k < l.length) (y : RefS) (j : Nat) (u : Value) (h : (RefS.flat (l.set k y))[j]? = some u) : (j / 4 = k ∧ y.vals[j - 4 * k]? = some u) ∨ (j / 4 ≠ k ∧ (RefS.flat l)[j]? = some u) := by
  induction l generalizing k j with
  | nil => simp at hk
  | cons x l ih =>
    cases k with
    | zero =>
      rw [List.set_cons_zero, RefS.flat_cons] at h
      by_cases hj : j < 4
      · rw [List.getElem?_append_left (by simp only [RefS.vals, List.length_cons, List.length_nil]; omega)] at h
        exact .inl ⟨by omega, by simpa using h⟩
      · rw [List.getElem?_append_right (by simp only [RefS.vals, List.length_cons, List.length_nil]; omega)] at h
        refine .inr ⟨by omega, ?_⟩
        rw [RefS.flat_cons, List.getElem?_append_right (by simp only [RefS.vals, List.length_cons, List.length_nil]; omega)]
        exact h
    | succ k =>
      rw [List.set_cons_succ, RefS.flat_cons] at h
      by_cases hj : j < 4
      · rw [List.getElem?_append_left (by simp only [RefS.vals, List.length_cons, List.length_nil]; omega)] at h
        refine .inr ⟨by omega, ?_⟩
        rw [RefS.flat_cons, List.getElem?_append_left (by simp only [RefS.vals, List.length_cons, List.length_nil]; omega)]
        exact h
      · rw [List.getElem?_append_right (by simp only [RefS.vals, List.length_cons, List.length_nil]; omega)] at h
        have e4 : j - x.vals.length = j - 4 := rfl
        rw [e4] at h
        rcases ih (by simpa using hk) (j - 4) h with ⟨h1, h2⟩ | ⟨h1, h2⟩
        · exact .inl ⟨by omega, by rw [show j - 4 * (k + 1) = j - 4 - 4 * k by omega]; exact h2⟩
        · refine .inr ⟨by omega, ?_⟩
          rw [RefS.flat_cons, List.getElem?_append_right (by simp only [RefS.vals, List.length_cons, List.length_nil]; omega)]
          exact h2
end Go.Proofs.Ytcnnffbpdemoiaa
