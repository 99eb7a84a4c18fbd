import Derived.Test.YtfpdhalfkfffnaaVf
namespace Go.Proofs.Ytfpdhalfkfffnaa
open Go.RowKit
set_option linter.unusedVariables false
set_option linter.unusedSimpArgs false
set_option linter.unnecessarySimpa false

theorem LegS.sl_same {w w1 : World} {a : Option Addr} {cap : Nat} {xs : List LegS} (h : LegS.sl w a cap xs) (hsz : w.heap.size ≤ w1.heap.size) (hs : ∀ x, a = some x → x.block < w.heap.size → w1.heap[x.block]? = w.heap[x.block]?) : LegS.sl w1 a cap xs := by
  obtain ⟨h1, h2, h0, h3, h4⟩ := h
  refine ⟨h1, h2, h0, fun hp => ?_, h4⟩
  obtain ⟨b, o, ha, hlt, hat⟩ := h3 hp
  have hb : w1.heap[b]? = w.heap[b]? := hs _ ha hlt
  refine ⟨b, o, ha, Nat.lt_of_lt_of_le hlt hsz, fun i h => ?_⟩
  have := hat i h
  have hc : ∀ j, w1.cell? ⟨b, j, none⟩ = w.cell? ⟨b, j, none⟩ := fun j => World.cell?_of_block hb
  unfold LegS.at at *
  simp only [hc]; exact this
theorem PauseS.sl_same {w w1 : World} {a : Option Addr} {cap : Nat} {xs : List PauseS} (h : PauseS.sl w a cap xs) (hsz : w.heap.size ≤ w1.heap.size) (hs : ∀ x, a = some x → x.block < w.heap.size → w1.heap[x.block]? = w.heap[x.block]?) : PauseS.sl w1 a cap xs := by
  obtain ⟨h1, h2, h0, h3, h4⟩ := h
  refine ⟨h1, h2, h0, fun hp => ?_, h4⟩
  obtain ⟨b, o, ha, hlt, hat⟩ := h3 hp
  have hb : w1.heap[b]? = w.heap[b]? := hs _ ha hlt
  refine ⟨b, o, ha, Nat.lt_of_lt_of_le hlt hsz, fun i h => ?_⟩
  have := hat i h
  have hc : ∀ j, w1.cell? ⟨b, j, none⟩ = w.cell? ⟨b, j, none⟩ := fun j => World.cell?_of_block hb
  unfold PauseS.at at *
  simp only [hc]; exact this
theorem EvS.sl_same {w w1 : World} {a : Option Addr} {cap : Nat} {xs : List EvS} (h : EvS.sl w a cap xs) (hsz : w.heap.size ≤ w1.heap.size) (hs : ∀ x, a = some x → x.block < w.heap.size → w1.heap[x.block]? = w.heap[x.block]?) : EvS.sl w1 a cap xs := by
  obtain ⟨h1, h2, h0, h3, h4⟩ := h
  refine ⟨h1, h2, h0, fun hp => ?_, h4⟩
  obtain ⟨b, o, ha, hlt, hat⟩ := h3 hp
  have hb : w1.heap[b]? = w.heap[b]? := hs _ ha hlt
  refine ⟨b, o, ha, Nat.lt_of_lt_of_le hlt hsz, fun i h => ?_⟩
  have := hat i h
  have hc : ∀ j, w1.cell? ⟨b, j, none⟩ = w.cell? ⟨b, j, none⟩ := fun j => World.cell?_of_block hb
  unfold EvS.at at *
  simp only [hc]; exact this
theorem RideS.ok_same {w w1 : World} {x : RideS} (h : RideS.ok w x) (hsz : w.heap.size ≤ w1.heap.size) (hs : ∀ a, (x.legsA = some a ∨ x.pausesA = some a) → a.block < w.heap.size → w1.heap[a.block]? = w.heap[a.block]?) : RideS.ok w1 x := by
  obtain ⟨g1, g2, g3, g4, gL, gP, g5⟩ := h
  exact ⟨g1, g2, g3, g4, LegS.sl_same gL hsz (fun a ha => hs a (.inl ha)), PauseS.sl_same gP hsz (fun a ha => hs a (.inr ha)), g5⟩
/-- The lists of a ride lie in blocks from B on, and not in block p. -/
def RideS.off (B p : Nat) (x : RideS) : Prop := ∀ a, (x.legsA = some a ∨ x.pausesA = some a) → B ≤ a.block ∧ a.block ≠ p
theorem RideS.off_of_from {B p : Nat} {x : RideS} (h : RideS.from_ B x) (hp : p < B) : RideS.off B p x := by
  intro a ha
  have : B ≤ a.block := by rcases ha with ha | ha; exact h.1 a ha; exact h.2 a ha
  exact ⟨this, by omega⟩
theorem RideS.off_mono {B B' p : Nat} {x : RideS} (h : RideS.off B p x) (hb : B' ≤ B) : RideS.off B' p x := fun a ha => ⟨Nat.le_trans hb (h a ha).1, (h a ha).2⟩
theorem RideS.ok_setCell {w : World} {x : RideS} {B p : Nat} (h : RideS.ok w x) (hf : RideS.off B p x) (q : Addr) (u : Value) (hq : q.block = p ∨ q.block < B) : RideS.ok (w.setCell q u) x :=
  RideS.ok_same h (by simp) (fun a ha _ => heap_setCell_other w q a.block u (by have := hf a ha; omega))
theorem RideS.ok_alloc {w : World} {x : RideS} (h : RideS.ok w x) (ob : Obj) : RideS.ok (w.alloc ob) x :=
  RideS.ok_below ((Below.refl _ _).alloc (Nat.le_refl _) _) h
theorem grown_below {w w1 : World} (h : Below w.heap.size w w1) (p : Nat) : w.grownBy w1 (some p) := ⟨h.os, h.tape, h.output, h.size, fun k hk _ => h.block k hk⟩
theorem grown_setCell {w w1 : World} {p : Nat} (h : w.grownBy w1 (some p)) (a : Addr) (u : Value) (ha : a.block = p ∨ w.heap.size ≤ a.block) : w.grownBy (w1.setCell a u) (some p) :=
  ⟨h.os, h.tape, h.output, by have := h.size; simpa using this, fun k hk hne => by rw [heap_setCell_other w1 a k u (by intro e; subst e; rcases ha with ha | ha; exact hne (by rw [ha]); omega)]; exact h.block k hk hne⟩
theorem grown_alloc {w w1 : World} {p : Nat} (h : w.grownBy w1 (some p)) (ob : Obj) : w.grownBy (w1.alloc ob) (some p) :=
  ⟨h.os, h.tape, h.output, by have := h.size; simp; omega, fun k hk hne => by
    have h2 := ((Below.refl w1.heap.size w1).alloc (Nat.le_refl _) ob).block k (by have := h.size; omega)
    rw [h2]; exact h.block k hk hne⟩
theorem narrow_norm (r : RideS) (e : EvS) : narrowL r.norm e = narrowL r e := rfl


end Go.Proofs.Ytfpdhalfkfffnaa
