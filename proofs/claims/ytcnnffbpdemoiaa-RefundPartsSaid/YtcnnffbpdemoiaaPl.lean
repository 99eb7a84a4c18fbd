import Derived.Test.YtcnnffbpdemoiaaW7
namespace Go.Proofs.Ytcnnffbpdemoiaa
open Go.RowKit
set_option linter.unusedVariables false

theorem wrap64_in {n : Int} (h : -9223372036854775808 ≤ n ∧ n ≤ 9223372036854775807) : wrap64 n = n := by
  unfold wrap64; omega

def amt (p : RefS → Bool) (l : List RefS) : Int := ((l.filter p).map (·.amount)).sum
def sumW (p : RefS → Bool) (l : List RefS) : Int := l.foldl (fun s x => if p x then wrap64 (s + x.amount) else s) 0
theorem amt_nil (p : RefS → Bool) : amt p [] = 0 := rfl
theorem amt_snoc (p : RefS → Bool) (l : List RefS) (x : RefS) : amt p (l ++ [x]) = amt p l + if p x then x.amount else 0 := by
  simp only [amt, List.filter_append, List.map_append, List.sum_append, List.filter_cons, List.filter_nil]
  split <;> simp
theorem amt_bound (p : RefS → Bool) (l : List RefS) (h : ∀ x ∈ l, 1 ≤ x.amount ∧ x.amount ≤ 1000000000000) : 0 ≤ amt p l ∧ amt p l ≤ l.length * 1000000000000 := by
  induction l with
  | nil => simp [amt]
  | cons y l ih =>
    have := ih (fun x hx => h x (by simp [hx]))
    have hy := h y (by simp)
    have e : amt p (y :: l) = (if p y then y.amount else 0) + amt p l := by
      simp only [amt, List.filter_cons]; split <;> simp
    rw [e, List.length_cons]
    split <;> omega
theorem sumW_eq (p : RefS → Bool) (l : List RefS) (hl : l.length ≤ 4000) (h : ∀ x ∈ l, 1 ≤ x.amount ∧ x.amount ≤ 1000000000000) : sumW p l = amt p l := by
  have gen : ∀ (l pre : List RefS), (pre ++ l).length ≤ 4000 → (∀ x ∈ pre ++ l, 1 ≤ x.amount ∧ x.amount ≤ 1000000000000) → l.foldl (fun s x => if p x then wrap64 (s + x.amount) else s) (amt p pre) = amt p (pre ++ l) := by
    intro l
    induction l with
    | nil => intro pre _ _; simp
    | cons y l ih =>
      intro pre hlen hb
      have hy := hb y (by simp)
      have b1 := amt_bound p pre (fun x hx => hb x (by simp [hx]))
      have hp : pre.length ≤ 4000 := by simp at hlen; omega
      have step : (if p y then wrap64 (amt p pre + y.amount) else amt p pre) = amt p (pre ++ [y]) := by
        rw [amt_snoc]
        split
        · rw [wrap64_in (by omega)]
        · simp
      rw [List.foldl_cons, step, ih (pre ++ [y]) (by simpa using hlen) (by simpa using hb)]
      simp
  simpa [sumW, amt] using gen l [] (by simpa using hl) (by simpa using h)
theorem sumI_eq (l : List RefS) (r i : Int) : sumI l r i = sumW (fun x => x.ride == r && x.item == i) l := rfl
theorem sumR_eq (l : List RefS) (r : Int) : sumR l r = sumW (fun x => x.ride == r) l := rfl

/-- An amount of the list is at most the sum in which it is counted. -/
theorem amt_mem (p : RefS → Bool) (l : List RefS) (h : ∀ x ∈ l, 1 ≤ x.amount ∧ x.amount ≤ 1000000000000) {x : RefS} (hx : x ∈ l) (hp : p x = true) : x.amount ≤ amt p l := by
  induction l with
  | nil => cases hx
  | cons y l ih =>
    have e : amt p (y :: l) = (if p y then y.amount else 0) + amt p l := by
      simp only [amt, List.filter_cons]; split <;> simp
    have b := amt_bound p l (fun x hx => h x (by simp [hx]))
    have hy := h y (by simp)
    rw [e]
    rcases List.mem_cons.1 hx with rfl | hx
    · rw [if_pos hp]; omega
    · have := ih (fun x hx => h x (by simp [hx])) hx
      split <;> omega
theorem amt_none (p : RefS → Bool) (l : List RefS) (h : ∀ x ∈ l, p x = false) : amt p l = 0 := by
  have : l.filter p = [] := by rw [List.filter_eq_nil_iff]; intro x hx; simp [h x hx]
  simp [amt, this]

theorem errL_iff {fs : List FareS} {l : List RefS} : errL fs l = 0 ↔ ∀ r ∈ l, oneL fs r = 0 := by
  constructor
  · intro h r hr
    unfold errL at h
    split at h
    · rename_i x hx
      have := List.find?_some hx
      simp [h] at this
    · rename_i hx
      have := List.find?_eq_none.1 hx r hr
      simpa using this
  · intro h
    exact errL_zero (fun j hj => h _ (List.getElem_mem hj))

structure Good (fs : List FareS) (l : List RefS) : Prop where
  len : l.length ≤ 512
  one : ∀ r ∈ l, oneL fs r = 0
  ids : (l.map (·.id)).Nodup
  amts : ∀ r ∈ l, amtBad fs l r = false

theorem check_good {fs : List FareS} {l : List RefS} : checkL fs l = 0 ↔ Good fs l := by
  constructor
  · intro h
    unfold checkL at h
    split at h
    · cases h
    · rename_i h1
      split at h
      · rename_i h2; exact absurd h h2
      · rename_i h2
        split at h
        · cases h
        · rename_i h3
          split at h
          · cases h
          · rename_i h4
            refine ⟨by omega, errL_iff.1 (by simpa using h2), by simpa using h3, fun r hr => ?_⟩
            cases hb : amtBad fs l r with
            | false => rfl
            | true => exact absurd (List.any_eq_true.2 ⟨r, hr, hb⟩) h4
  · intro ⟨h1, h2, h3, h4⟩
    have e := errL_iff.2 h2
    have : l.any (amtBad fs l) = false := by rw [List.any_eq_false]; intro x hx; simp [h4 x hx]
    have h5 : ¬ 512 < l.length := by omega
    simp [checkL, h5, e, h3, this]

theorem one_facts {fs : List FareS} {r : RefS} (h : oneL fs r = 0) : ∃ f x, itemL fs r.ride r.item = some (f, x) ∧ 1 ≤ r.amount ∧ r.amount ≤ 1000000000000 ∧ 1 ≤ r.id ∧ r.id ≤ 1000000 ∧ 1 ≤ x.amount := by
  unfold oneL at h
  split at h
  · simp at h
  · rename_i hb
    split at h
    · simp at h
    · rename_i f x hx
      split at h
      · simp at h
      · refine ⟨f, x, hx, ?_⟩
        simp only [oneBad, Bool.or_eq_true, decide_eq_true_eq] at hb
        omega

theorem Good.amounts {fs : List FareS} {l : List RefS} (g : Good fs l) : ∀ x ∈ l, 1 ≤ x.amount ∧ x.amount ≤ 1000000000000 := fun x hx => by
  obtain ⟨f, y, _, h1, h2, _⟩ := one_facts (g.one x hx); exact ⟨h1, h2⟩

/-- Of a list that is accepted: the sums, and that they do not pass what they are taken of. -/
theorem Good.sums {fs : List FareS} {l : List RefS} (g : Good fs l) {r i : Int} {f : FareS} {x : ItemS} (h : itemL fs r i = some (f, x)) :
    sumI l r i = amt (fun y => y.ride == r && y.item == i) l ∧ sumR l r = amt (fun y => y.ride == r) l ∧ 0 ≤ sumI l r i ∧ 0 ≤ sumR l r ∧ (sumI l r i = 0 ∨ sumI l r i ≤ x.amount) ∧ (sumR l r = 0 ∨ (1 ≤ sumR l r ∧ sumR l r ≤ f.total)) := by
  have hl : l.length ≤ 4000 := by have := g.len; omega
  have e1 : sumI l r i = amt (fun y => y.ride == r && y.item == i) l := by rw [sumI_eq]; exact sumW_eq _ l hl g.amounts
  have e2 : sumR l r = amt (fun y => y.ride == r) l := by rw [sumR_eq]; exact sumW_eq _ l hl g.amounts
  have b1 := amt_bound (fun y => y.ride == r && y.item == i) l g.amounts
  have b2 := amt_bound (fun y => y.ride == r) l g.amounts
  refine ⟨e1, e2, by omega, by omega, ?_, ?_⟩
  · by_cases hex : ∃ y ∈ l, (y.ride == r && y.item == i) = true
    · obtain ⟨y, hy, hp⟩ := hex
      have hb := g.amts y hy
      simp only [Bool.and_eq_true, beq_iff_eq] at hp
      obtain ⟨rfl, rfl⟩ := hp
      simp only [amtBad, h, Bool.or_eq_false_iff, decide_eq_false_iff_not] at hb
      exact .inr (by omega)
    · left; rw [e1]; exact amt_none _ _ (fun y hy => by cases hh : (y.ride == r && y.item == i); rfl; exact absurd ⟨y, hy, hh⟩ hex)
  · by_cases hex : ∃ y ∈ l, (y.ride == r) = true
    · obtain ⟨y, hy, hp⟩ := hex
      have hb := g.amts y hy
      obtain ⟨f', x', hi', _⟩ := one_facts (g.one y hy)
      have hm := amt_mem (fun y => y.ride == r) l g.amounts hy hp
      have ha := g.amounts y hy
      simp only [beq_iff_eq] at hp
      subst hp
      have hff : f' = f := by
        have a1 := (itemL_some h).1
        have a2 := (itemL_some hi').1
        rw [a1] at a2; exact (Option.some.inj a2).symm
      subst hff
      simp only [amtBad, hi', Bool.or_eq_false_iff, decide_eq_false_iff_not] at hb
      exact .inr ⟨by omega, by omega⟩
    · left; rw [e2]; exact amt_none _ _ (fun y hy => by cases hh : (y.ride == r); rfl; exact absurd ⟨y, hy, hh⟩ hex)

theorem left_eq {fs : List FareS} {l : List RefS} {r i : Int} {w : World} {a : Option Addr} {cap : Nat} (H : FareS.sl w a cap fs) : leftL fs l r i = rleftL fs l r i := by
  by_cases hc : checkL fs l ≠ 0
  · rw [leftL, rleftL, if_pos hc, if_pos hc]
  · rw [leftL, rleftL, if_neg hc, if_neg hc]
    cases hit : itemL fs r i with
    | none => rfl
    | some fx =>
      obtain ⟨f, x⟩ := fx
      have g := check_good.1 (by simpa using hc)
      obtain ⟨_, _, h1, h2, h3, h4⟩ := g.sums hit
      obtain ⟨hf, hi0, hi1, hx⟩ := itemL_some hit
      have hok := H.2.2.2.2 f (findL_mem hf)
      have ft : I64 f.total := hok.2.2.2
      have xa : I64 x.amount := (hok.2.2.1.2.2.2.2 x (hx ▸ List.getElem_mem hi1)).2.2
      unfold I64 at ft xa
      dsimp only
      by_cases c1 : x.amount ≤ 0
      · simp [c1]
      · by_cases c2 : f.total ≤ 0
        · have : f.total ≤ sumR l r := by omega
          simp [c2, this]
        · rw [wrap64_in (n := x.amount - sumI l r i) (by omega), wrap64_in (n := f.total - sumR l r) (by omega)]
          by_cases c3 : f.total ≤ sumR l r
          · rw [if_pos (.inr c3), if_neg (by omega)]
            congr 1
            omega
          · rw [if_neg (by omega), if_neg (by omega)]
            congr 1
            omega
end Go.Proofs.Ytcnnffbpdemoiaa
