import Derived.Test.YtfpdhalfkfffnaaVb
namespace Go.Proofs.Ytfpdhalfkfffnaa
open Go.RowKit
set_option linter.unusedVariables false
set_option linter.unusedSimpArgs false
set_option linter.unnecessarySimpa false

theorem ownsRow_below {w w1 : World} {base : Nat} {e : TypeId} {size : Nat} {v : Value} {n : Nat} {xs : List Value} (h : w.ownsRow base e size v n xs) (hb : Below w.heap.size w w1) : w1.ownsRow base e size v n xs := by
  refine ⟨h.1, ?_⟩
  rcases h.2 with h2 | ⟨g, cap, cur, hv, hg, hh, h3⟩
  · exact .inl h2
  · exact .inr ⟨g, cap, cur, hv, hg, by rw [hb.block g (Array.getElem?_eq_some_iff.1 hh).1]; exact hh, h3⟩
theorem ownsRow_mono {w : World} {base base' : Nat} {e : TypeId} {size : Nat} {v : Value} {n : Nat} {xs : List Value} (h : w.ownsRow base e size v n xs) (hb : base' ≤ base) : w.ownsRow base' e size v n xs := by
  refine ⟨h.1, ?_⟩
  rcases h.2 with h2 | ⟨g, cap, cur, hv, hg, h3⟩
  · exact .inl h2
  · exact .inr ⟨g, cap, cur, hv, Nat.le_trans hb hg, h3⟩
theorem ownsRow_setCell {w : World} {base : Nat} {e : TypeId} {size : Nat} {v : Value} {n : Nat} {xs : List Value} (h : w.ownsRow base e size v n xs) (a : Addr) (u : Value) (ha : a.block < base) : (w.setCell a u).ownsRow base e size v n xs := by
  refine ⟨h.1, ?_⟩
  rcases h.2 with h2 | ⟨g, cap, cur, hv, hg, hh, h3⟩
  · exact .inl h2
  · exact .inr ⟨g, cap, cur, hv, hg, by rw [heap_setCell_other w a g u (by omega)]; exact hh, h3⟩
theorem LegS.sl_of_own {w : World} {B : Nat} {e : TypeId} {a : Option Addr} {cap : Nat} {l : List LegS} (h : w.ownsRow B e 5 (.slice a l.length cap) l.length (LegS.flat l)) (hok : ∀ x ∈ l, LegS.ok w x) : LegS.sl w a cap l := by
  rcases h.2 with ⟨h1, h2⟩ | ⟨g, c, cur, hv, hg, hh, hle, hm, _, _⟩
  · simp only [Value.slice.injEq] at h1
    obtain ⟨rfl, h3, rfl⟩ := h1
    have : l = [] := List.eq_nil_of_length_eq_zero h3
    subst this
    exact ⟨Nat.le_refl _, Nat.zero_le _, fun _ => rfl, fun h => absurd h (Nat.lt_irrefl 0), fun x hx => by cases hx⟩
  · simp only [Value.slice.injEq, true_and] at hv
    obtain ⟨rfl, rfl⟩ := hv
    have hc := h.cells (g := g) rfl
    refine ⟨hle, hm, (fun e => by cases e), fun _ => ⟨g, 0, rfl, (Array.getElem?_eq_some_iff.1 hh).1, ?_⟩, hok⟩
    refine LegS.of_flat l 0 (fun j u hj => ?_)
    rw [← addr_add]; exact hc j u hj
theorem PauseS.sl_of_own {w : World} {B : Nat} {e : TypeId} {a : Option Addr} {cap : Nat} {l : List PauseS} (h : w.ownsRow B e 4 (.slice a l.length cap) l.length (PauseS.flat l)) (hok : ∀ x ∈ l, PauseS.ok w x) : PauseS.sl w a cap l := by
  rcases h.2 with ⟨h1, h2⟩ | ⟨g, c, cur, hv, hg, hh, hle, hm, _, _⟩
  · simp only [Value.slice.injEq] at h1
    obtain ⟨rfl, h3, rfl⟩ := h1
    have : l = [] := List.eq_nil_of_length_eq_zero h3
    subst this
    exact ⟨Nat.le_refl _, Nat.zero_le _, fun _ => rfl, fun h => absurd h (Nat.lt_irrefl 0), fun x hx => by cases hx⟩
  · simp only [Value.slice.injEq, true_and] at hv
    obtain ⟨rfl, rfl⟩ := hv
    have hc := h.cells (g := g) rfl
    refine ⟨hle, hm, (fun e => by cases e), fun _ => ⟨g, 0, rfl, (Array.getElem?_eq_some_iff.1 hh).1, ?_⟩, hok⟩
    refine PauseS.of_flat l 0 (fun j u hj => ?_)
    rw [← addr_add]; exact hc j u hj
theorem RideS.sl_of_own {w : World} {B : Nat} {e : TypeId} {a : Option Addr} {cap : Nat} {l : List RideS} (h : w.ownsRow B e 13 (.slice a l.length cap) l.length (RideS.flat l)) (hok : ∀ x ∈ l, RideS.ok w x) : RideS.sl w a cap l := by
  rcases h.2 with ⟨h1, h2⟩ | ⟨g, c, cur, hv, hg, hh, hle, hm, _, _⟩
  · simp only [Value.slice.injEq] at h1
    obtain ⟨rfl, h3, rfl⟩ := h1
    have : l = [] := List.eq_nil_of_length_eq_zero h3
    subst this
    exact ⟨Nat.le_refl _, Nat.zero_le _, fun _ => rfl, fun h => absurd h (Nat.lt_irrefl 0), fun x hx => by cases hx⟩
  · simp only [Value.slice.injEq, true_and] at hv
    obtain ⟨rfl, rfl⟩ := hv
    have hc := h.cells (g := g) rfl
    refine ⟨hle, hm, (fun e => by cases e), fun _ => ⟨g, 0, rfl, (Array.getElem?_eq_some_iff.1 hh).1, ?_⟩, hok⟩
    refine RideS.of_flat l 0 (fun j u hj => ?_)
    rw [← addr_add]; exact hc j u hj
theorem EvS.sl_of_own {w : World} {B : Nat} {e : TypeId} {a : Option Addr} {cap : Nat} {l : List EvS} (h : w.ownsRow B e 3 (.slice a l.length cap) l.length (EvS.flat l)) (hok : ∀ x ∈ l, EvS.ok w x) : EvS.sl w a cap l := by
  rcases h.2 with ⟨h1, h2⟩ | ⟨g, c, cur, hv, hg, hh, hle, hm, _, _⟩
  · simp only [Value.slice.injEq] at h1
    obtain ⟨rfl, h3, rfl⟩ := h1
    have : l = [] := List.eq_nil_of_length_eq_zero h3
    subst this
    exact ⟨Nat.le_refl _, Nat.zero_le _, fun _ => rfl, fun h => absurd h (Nat.lt_irrefl 0), fun x hx => by cases hx⟩
  · simp only [Value.slice.injEq, true_and] at hv
    obtain ⟨rfl, rfl⟩ := hv
    have hc := h.cells (g := g) rfl
    refine ⟨hle, hm, (fun e => by cases e), fun _ => ⟨g, 0, rfl, (Array.getElem?_eq_some_iff.1 hh).1, ?_⟩, hok⟩
    refine EvS.of_flat l 0 (fun j u hj => ?_)
    rw [← addr_add]; exact hc j u hj


end Go.Proofs.Ytfpdhalfkfffnaa
