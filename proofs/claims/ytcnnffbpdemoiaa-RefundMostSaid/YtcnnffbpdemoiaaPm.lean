import Derived.Test.YtcnnffbpdemoiaaPl
namespace Go.Proofs.Ytcnnffbpdemoiaa
open Go.RowKit
set_option linter.unusedVariables false

theorem Good.sumI {fs : List FareS} {l : List RefS} (g : Good fs l) (r i : Int) : sumI l r i = amt (fun y => y.ride == r && y.item == i) l := by
  rw [sumI_eq]; exact sumW_eq _ l (by have := g.len; omega) g.amounts
theorem Good.sumR {fs : List FareS} {l : List RefS} (g : Good fs l) (r : Int) : sumR l r = amt (fun y => y.ride == r) l := by
  rw [sumR_eq]; exact sumW_eq _ l (by have := g.len; omega) g.amounts

theorem sumI_amt {l : List RefS} (hl : l.length ≤ 4000) (h : ∀ x ∈ l, 1 ≤ x.amount ∧ x.amount ≤ 1000000000000) (r i : Int) : sumI l r i = amt (fun y => y.ride == r && y.item == i) l := by
  rw [sumI_eq]; exact sumW_eq _ l hl h
theorem sumR_amt {l : List RefS} (hl : l.length ≤ 4000) (h : ∀ x ∈ l, 1 ≤ x.amount ∧ x.amount ≤ 1000000000000) (r : Int) : sumR l r = amt (fun y => y.ride == r) l := by
  rw [sumR_eq]; exact sumW_eq _ l hl h

/-- What one more refund does to the check. -/
theorem check_snoc {fs : List FareS} {l : List RefS} {r : RefS} {f : FareS} {x : ItemS} (g : Good fs l) (hl : l.length ≤ 60) (hit : itemL fs r.ride r.item = some (f, x)) (hr : oneBad r = false) (hid : ∀ y ∈ l, y.id ≠ r.id) :
    (checkL fs (l ++ [r]) = 0 ∧ 1 ≤ x.amount ∧ sumI l r.ride r.item + r.amount ≤ x.amount ∧ sumR l r.ride + r.amount ≤ f.total) ∨
    (checkL fs (l ++ [r]) = 27 ∧ ¬ (1 ≤ x.amount ∧ sumI l r.ride r.item + r.amount ≤ x.amount ∧ sumR l r.ride + r.amount ≤ f.total)) := by
  have hrb := hr
  simp only [oneBad, Bool.or_eq_false_iff, decide_eq_false_iff_not] at hrb
  have ham : ∀ y ∈ l ++ [r], 1 ≤ y.amount ∧ y.amount ≤ 1000000000000 := by
    intro y hy
    rcases List.mem_append.1 hy with hy | hy
    · exact g.amounts y hy
    · simp at hy; subst hy; omega
  have hlen : (l ++ [r]).length ≤ 4000 := by simp; omega
  have hnd : ((l ++ [r]).map (·.id)).Nodup := by
    rw [List.map_append]
    refine nodup_snoc g.ids (fun h => ?_)
    obtain ⟨y, hy, e⟩ := List.mem_map.1 h
    exact hid y hy e
  have h512 : ¬ 512 < (l ++ [r]).length := by simp; omega
  have eI : sumI (l ++ [r]) r.ride r.item = sumI l r.ride r.item + r.amount := by
    rw [sumI_amt hlen ham, g.sumI, amt_snoc]; simp
  have eR : sumR (l ++ [r]) r.ride = sumR l r.ride + r.amount := by
    rw [sumR_amt hlen ham, g.sumR, amt_snoc]; simp
  have hone : oneL fs r = if x.amount ≤ 0 then 27 else 0 := by simp only [oneL, hr, hit]; simp
  by_cases hx : x.amount ≤ 0
  · right
    have h27 : oneL fs r = 27 := by rw [hone, if_pos hx]
    have e : errL fs (l ++ [r]) = 27 := by
      have h := errL_at (fs := fs) (l := l ++ [r]) (k := l.length) (by simp) (fun j hj hlt => by rw [List.getElem_append_left hlt]; exact g.one _ (List.getElem_mem _)) (by simp [h27])
      rw [h]; simpa using h27
    refine ⟨?_, by omega⟩
    simp only [checkL, if_neg h512, e]; simp
  · have h0 : oneL fs r = 0 := by rw [hone, if_neg hx]
    have e : errL fs (l ++ [r]) = 0 := errL_iff.2 (fun y hy => by
      rcases List.mem_append.1 hy with hy | hy
      · exact g.one y hy
      · simp at hy; subst hy; exact h0)
    have hbadr : amtBad fs (l ++ [r]) r = (decide (x.amount < sumI l r.ride r.item + r.amount) || decide (f.total < sumR l r.ride + r.amount)) := by
      simp only [amtBad, hit, eI, eR]
    by_cases hok : sumI l r.ride r.item + r.amount ≤ x.amount ∧ sumR l r.ride + r.amount ≤ f.total
    · left
      refine ⟨?_, by omega, hok.1, hok.2⟩
      apply check_good.2
      refine ⟨by simp; omega, errL_iff.1 e, hnd, ?_⟩
      intro y hy
      rcases List.mem_append.1 hy with hy | hy
      · obtain ⟨f', x', hit', _⟩ := one_facts (g.one y hy)
        have hb := g.amts y hy
        simp only [amtBad, hit', Bool.or_eq_false_iff, decide_eq_false_iff_not] at hb ⊢
        rw [sumI_amt hlen ham, sumR_amt hlen ham, amt_snoc, amt_snoc, ← g.sumI, ← g.sumR]
        by_cases e1 : r.ride = y.ride
        · have hff : f' = f := by
            have a1 := (itemL_some hit).1
            have a2 := (itemL_some hit').1
            rw [e1] at a1; rw [a1] at a2; exact (Option.some.inj a2).symm
          subst hff
          have b1 : (r.ride == y.ride) = true := by simpa using e1
          by_cases e2 : r.item = y.item
          · have : x' = x := by
              rw [e1, e2] at hit; rw [hit] at hit'; cases hit'; rfl
            subst this
            rw [e1, e2] at hok
            have b2 : (r.item == y.item) = true := by simpa using e2
            simp only [b1, b2, Bool.and_self, if_true]
            omega
          · have b2 : (r.item == y.item) = false := by simpa using e2
            rw [e1] at hok
            simp only [b1, b2, Bool.and_false, if_true, Bool.false_eq_true, if_false]
            omega
        · have b1 : (r.ride == y.ride) = false := by simpa using e1
          simp only [b1, Bool.false_and, Bool.false_eq_true, if_false]
          omega
      · simp at hy; subst hy
        rw [hbadr]; simp; omega
    · right
      refine ⟨?_, by omega⟩
      have hany : (l ++ [r]).any (amtBad fs (l ++ [r])) = true := by
        rw [List.any_eq_true]; exact ⟨r, by simp, by rw [hbadr]; simp; omega⟩
      rw [checkL, if_neg h512, if_neg (by rw [e]; simp), if_neg (not_not_intro hnd), if_pos hany]

theorem left_good {fs : List FareS} {l : List RefS} {r i : Int} {f : FareS} {x : ItemS} {w : World} {a : Option Addr} {cap : Nat} (H : FareS.sl w a cap fs) (g : Good fs l) (hit : itemL fs r i = some (f, x)) :
    leftL fs l r i = (if x.amount ≤ 0 ∨ f.total ≤ sumR l r then 0 else max 0 (min (x.amount - sumI l r i) (f.total - sumR l r)), 0) ∧ 0 ≤ (leftL fs l r i).1 ∧ (leftL fs l r i).1 ≤ 9223372036854775807 := by
  have hc0 : checkL fs l = 0 := check_good.2 g
  obtain ⟨_, _, h1, h2, h3, h4⟩ := g.sums hit
  obtain ⟨hf, hi0, hi1, hx⟩ := itemL_some hit
  have hok := H.2.2.2.2 f (findL_mem hf)
  have ft : I64 f.total := hok.2.2.2
  have xa : I64 x.amount := (hok.2.2.1.2.2.2.2 x (hx ▸ List.getElem_mem hi1)).2.2
  unfold I64 at ft xa
  have e : leftL fs l r i = (if x.amount ≤ 0 ∨ f.total ≤ sumR l r then 0 else max 0 (min (x.amount - sumI l r i) (f.total - sumR l r)), 0) := by
    simp only [leftL, hc0, hit, ne_eq, not_true_eq_false, if_false]
    split
    · rfl
    · rename_i hn
      rw [wrap64_in (n := x.amount - sumI l r i) (by omega), wrap64_in (n := f.total - sumR l r) (by omega)]
  refine ⟨e, ?_, ?_⟩
  · rw [e]; dsimp only; split <;> omega
  · rw [e]; dsimp only; split <;> omega

/-- The statement RefundMost, in plain words: A: no amount can be refunded where Left has an error. -/
theorem most_err {fs : List FareS} {l : List RefS} {r : RefS} (hr : oneBad r = false) (h : (leftL fs l r.ride r.item).2 ≠ 0) : addL fs l r ≠ 0 := by
  unfold addL
  split
  · assumption
  · rename_i hc
    have hc' : checkL fs l = 0 := by simpa using hc
    intro h0
    have g := check_good.1 h0
    obtain ⟨f, x, hit, _⟩ := one_facts (g.one r (by simp))
    simp only [leftL, hc', hit, ne_eq, not_true_eq_false, if_false] at h
    split at h <;> simp at h

theorem most_iff {fs : List FareS} {l : List RefS} {r : RefS} {w : World} {a : Option Addr} {cap : Nat} (H : FareS.sl w a cap fs) (hl : l.length ≤ 60) (hr : oneBad r = false) (hid : ∀ y ∈ l, y.id ≠ r.id) (h : (leftL fs l r.ride r.item).2 = 0) :
    0 ≤ (leftL fs l r.ride r.item).1 ∧ (leftL fs l r.ride r.item).1 ≤ 9223372036854775807 ∧ ((addL fs l r = 0 ∧ r.amount ≤ (leftL fs l r.ride r.item).1 ∧ leftL fs (l ++ [r]) r.ride r.item = ((leftL fs l r.ride r.item).1 - r.amount, 0) ∧ netL fs (l ++ [r]) r.ride = (wrap64 ((netL fs l r.ride).1 - r.amount), 0)) ∨
      (addL fs l r = 27 ∧ (leftL fs l r.ride r.item).1 < r.amount)) := by
  have hrb := hr
  simp only [oneBad, Bool.or_eq_false_iff, decide_eq_false_iff_not] at hrb
  by_cases hc : checkL fs l ≠ 0
  · simp only [leftL, if_pos hc] at h; exact absurd h hc
  · have hc' : checkL fs l = 0 := by simpa using hc
    have g := check_good.1 hc'
    cases hit : itemL fs r.ride r.item with
    | none => simp [leftL, hc', hit] at h
    | some fx =>
      obtain ⟨f, x⟩ := fx
      obtain ⟨e, b1, b2⟩ := left_good H g hit
      obtain ⟨_, _, h1, h2, h3, h4⟩ := g.sums hit
      obtain ⟨hf, hi0, hi1, hx⟩ := itemL_some hit
      have ft : I64 f.total := (H.2.2.2.2 f (findL_mem hf)).2.2.2
      unfold I64 at ft
      have ea : addL fs l r = checkL fs (l ++ [r]) := by simp [addL, hc']
      refine ⟨b1, b2, ?_⟩
      rw [ea]
      rcases check_snoc g hl hit hr hid with ⟨k0, k1, k2, k3⟩ | ⟨k0, k1⟩
      · left
        have g' := check_good.1 k0
        obtain ⟨e', -, -⟩ := left_good H g' hit
        have eI : sumI (l ++ [r]) r.ride r.item = sumI l r.ride r.item + r.amount := by
          rw [g'.sumI, g.sumI, amt_snoc]; simp
        have eR : sumR (l ++ [r]) r.ride = sumR l r.ride + r.amount := by
          rw [g'.sumR, g.sumR, amt_snoc]; simp
        refine ⟨k0, ?_, ?_, ?_⟩
        · rw [e]; dsimp only; rw [if_neg (by omega)]; omega
        · rw [e', e, eI, eR]
          dsimp only
          rw [if_neg (show ¬ (x.amount ≤ 0 ∨ f.total ≤ sumR l r.ride) by omega)]
          by_cases hz : f.total ≤ sumR l r.ride + r.amount
          · rw [if_pos (.inr hz)]; congr 1; omega
          · rw [if_neg (by omega)]; congr 1; omega
        · simp only [netL, k0, hc', hf, ne_eq, not_true_eq_false, if_false, eR]
          congr 1
          rw [wrap64_in (n := f.total - sumR l r.ride) (by omega), wrap64_in (n := f.total - sumR l r.ride - r.amount) (by omega), wrap64_in (by omega)]
          omega
      · right
        refine ⟨k0, ?_⟩
        rw [e]; dsimp only
        split
        · omega
        · omega
end Go.Proofs.Ytcnnffbpdemoiaa
