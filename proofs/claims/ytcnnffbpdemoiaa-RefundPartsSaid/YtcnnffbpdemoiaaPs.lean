import Derived.Test.YtcnnffbpdemoiaaPm
namespace Go.Proofs.Ytcnnffbpdemoiaa
open Go.RowKit
set_option linter.unusedVariables false

theorem amt_reverse (p : RefS → Bool) (l : List RefS) : amt p l.reverse = amt p l := by
  simp only [amt, List.filter_reverse, List.map_reverse, List.sum_reverse]
theorem good_reverse {fs : List FareS} {l : List RefS} (g : Good fs l) : Good fs l.reverse := by
  have hl : l.reverse.length ≤ 4000 := by have := g.len; simp; omega
  have ha : ∀ x ∈ l.reverse, 1 ≤ x.amount ∧ x.amount ≤ 1000000000000 := fun x hx => g.amounts x (List.mem_reverse.1 hx)
  refine ⟨by have := g.len; simpa using this, fun r hr => g.one r (List.mem_reverse.1 hr), ?_, ?_⟩
  · rw [List.map_reverse]; exact List.pairwise_reverse.2 (g.ids.imp fun h => h.symm)
  · intro r hr
    have hb := g.amts r (List.mem_reverse.1 hr)
    obtain ⟨f, x, hit, _⟩ := one_facts (g.one r (List.mem_reverse.1 hr))
    simp only [amtBad, hit] at hb ⊢
    rw [sumI_amt hl ha, sumR_amt hl ha, amt_reverse, amt_reverse, ← g.sumI, ← g.sumR]
    exact hb
theorem check_reverse (fs : List FareS) (l : List RefS) : checkL fs l.reverse = 0 ↔ checkL fs l = 0 := by
  rw [check_good, check_good]
  exact ⟨fun h => by have := good_reverse h; simpa using this, good_reverse⟩
theorem left_reverse (fs : List FareS) (l : List RefS) (r i : Int) : (leftL fs l.reverse r i).1 = (leftL fs l r i).1 := by
  by_cases h : checkL fs l = 0
  · have h' := (check_reverse fs l).2 h
    have g := check_good.1 h
    have g' := check_good.1 h'
    simp only [leftL, h, h', g.sumI, g.sumR, g'.sumI, g'.sumR, amt_reverse]
  · have h' : checkL fs l.reverse ≠ 0 := fun e => h ((check_reverse fs l).1 e)
    rw [leftL, if_pos h', leftL, if_pos h]
theorem net_reverse (fs : List FareS) (l : List RefS) (r : Int) : (netL fs l.reverse r).1 = (netL fs l r).1 := by
  by_cases h : checkL fs l = 0
  · have h' := (check_reverse fs l).2 h
    have g := check_good.1 h
    have g' := check_good.1 h'
    simp only [netL, h, h', g.sumR, g'.sumR, amt_reverse]
  · have h' : checkL fs l.reverse ≠ 0 := fun e => h ((check_reverse fs l).1 e)
    rw [netL, if_pos h', netL, if_pos h]

/-- A slice that the call owns, empty or not, reads as its list. -/
theorem RefS.sl_owns {w : World} {B : Nat} {e : TypeId} {v : Value} {l : List RefS} (h : w.ownsRow B e 4 v l.length (RefS.flat l)) (hok : ∀ x ∈ l, RefS.ok w x) : ∃ a cap, v = .slice a l.length cap ∧ RefS.sl w a cap l := by
  by_cases hp : 0 < l.length
  · obtain ⟨b, cap, hv, _, hs⟩ := RefS.sl_own h hp hok; exact ⟨_, cap, hv, hs⟩
  · have hl : l = [] := List.eq_nil_of_length_eq_zero (by omega)
    subst hl
    rcases h.2 with ⟨hv, _⟩ | ⟨g, cap, cur, hv, _, _, _, hm, _, _⟩
    · exact ⟨none, 0, hv, Nat.le_refl _, Nat.zero_le _, fun _ => rfl, fun h => absurd h (Nat.lt_irrefl 0), fun x hx => by cases hx⟩
    · exact ⟨some ⟨g, 0, none⟩, cap, hv, Nat.zero_le _, hm, fun h => (by cases h), fun h => absurd h (Nat.lt_irrefl 0), fun x hx => by cases hx⟩
end Go.Proofs.Ytcnnffbpdemoiaa
