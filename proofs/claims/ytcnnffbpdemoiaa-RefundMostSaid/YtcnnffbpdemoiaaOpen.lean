/-
  What the reader says of an argument (a slice of structs, a struct) as the reading predicates of this seat.
-/
import Derived.Test.YtcnnffbpdemoiaaBase
import Derived.ProofKit
import Derived.OpenShut
import Derived.ShutString
import Derived.ChangeOld
import Derived.Deep.Slices
namespace Go.Proofs.Ytcnnffbpdemoiaa
open Go.ChangeShapes Go.WideShapes Go.RowKit
set_option linter.unusedVariables false
theorem cellsOf3 : Try.prog.cellsOf 3 = 1 := by kernel_rfl
theorem I64.of_wf {n : Int} (h : (Lit.int .i64 n).wf = true) : I64 n := by
  simp [Lit.wf, IntKind.min, IntKind.max, IntKind.signed, IntKind.bits] at h
  exact h
theorem cellsOf44 : Try.prog.cellsOf 44 = 3 := by kernel_rfl
instance : Inhabited ItemS := ⟨{ kind := 0, ref := 0, amount := 0 }⟩
theorem ItemS.read {H : Type} {enc : TypeId × Value → H} {W : World} {sp : Nat → Bool} {held : Bool} {fuel : Nat} {cs : List Value} {x : DataW H × List MemPlace} (h : DataW.trod enc Try.prog W 0 sp held fuel 44 cs = some x) : ∃ t : ItemS, cs = t.vals ∧ ItemS.ok W t := by
  obtain ⟨xs, n, _, _, hlen, hxs, hf⟩ := DataW.trod_struct Try.underlying44 h
  rw [cellsOf44] at hlen
  match cs, hlen with
  | [c0, c1, c2], _ =>
    match xs, hxs with
    | [y0, y1, y2], _ =>
      have g0 : DataW.trod enc Try.prog W 0 sp held n 3 [c0] = some y0 := by have := hf 0 _ rfl; simpa [cellsOf3] using this
      obtain ⟨n0, e0, _, w0⟩ := DataW.trod_int Try.underlying3 g0
      cases e0
      have g1 : DataW.trod enc Try.prog W 0 sp held n 3 [c1] = some y1 := by have := hf 1 _ rfl; simpa [cellsOf3] using this
      obtain ⟨n1, e1, _, w1⟩ := DataW.trod_int Try.underlying3 g1
      cases e1
      have g2 : DataW.trod enc Try.prog W 0 sp held n 3 [c2] = some y2 := by have := hf 2 _ rfl; simpa [cellsOf3] using this
      obtain ⟨n2, e2, _, w2⟩ := DataW.trod_int Try.underlying3 g2
      cases e2
      exact ⟨⟨n0, n1, n2⟩, rfl, ⟨I64.of_wf w0, I64.of_wf w1, I64.of_wf w2⟩⟩
theorem cellsOf40 : Try.prog.cellsOf 40 = 1 := by kernel_rfl
theorem ItemS.open_sl {H : Type} {enc : TypeId × Value → H} {W : World} {sp : Nat → Bool} {held : Bool} {fuel : Nat} {cs : List Value} {x : DataW H × List MemPlace} (h : DataW.trod enc Try.prog W 0 sp held fuel 40 cs = some x) : ∃ a cap xs, cs = [.slice a (List.length xs) cap] ∧ ItemS.sl W a cap xs := by
  rcases Go.Deep.open_slice Try.underlying40 h with ⟨rfl, _⟩ | ⟨a, len, cap, m, n, D, Pl, rfl, _, hl, hm, hmm, _, hi⟩
  · exact ⟨none, 0, [], rfl, Nat.le_refl _, Nat.zero_le _, fun _ => rfl, fun h => absurd h (Nat.lt_irrefl 0), fun x hx => by cases hx⟩
  · have hle : len ≤ m := by rw [hmm]; split <;> omega
    have key : ∀ i, i < len → ∃ t : ItemS, (∀ j u, t.vals[j]? = some u → W.cell? ((a.add (i * 3)).add j) = some u) ∧ ItemS.ok W t := by
      intro i hi'
      obtain ⟨cs', hc, ht⟩ := hi i (by omega)
      rw [cellsOf44] at hc
      obtain ⟨t, rfl, hok⟩ := ItemS.read ht
      obtain ⟨_, hlen, hat⟩ := World.cells?_some hc
      exact ⟨t, fun j u hj => by rw [hat j (by have := (List.getElem?_eq_some_iff.1 hj).1; omega)]; exact hj, hok⟩
    obtain ⟨F, hF⟩ := Go.Deep.choose_lt key
    refine ⟨some a, cap, (List.range len).map F, by simp, by simpa using hl, hm, fun e => (by cases e), fun hp => ?_, ?_⟩
    · have h0 : 0 < len := by simpa using hp
      obtain ⟨b, o, s⟩ := a
      have hcell := (hF 0 h0).1 0 _ rfl
      have hspot : s = none := by simpa [Addr.add] using World.cell?_spot hcell
      subst hspot
      refine ⟨b, o, rfl, by have := block_lt_of_cell hcell; simpa [Addr.add] using this, ?_⟩
      intro i hi'
      have := (hF i (by simpa using hi')).1
      simp only [addr_add] at this
      simp only [List.getElem_map, List.getElem_range]
      exact ⟨this 0 _ rfl, this 1 _ rfl, this 2 _ rfl⟩
    · intro x hx
      obtain ⟨i, hi', rfl⟩ := List.mem_map.1 hx
      exact (hF i (by simpa using hi')).2
theorem cellsOf42 : Try.prog.cellsOf 42 = 4 := by kernel_rfl
instance : Inhabited FareS := ⟨{ ride := 0, rider := 0, itemsA := none, itemsC := 0, items := [], total := 0 }⟩
theorem FareS.read {H : Type} {enc : TypeId × Value → H} {W : World} {sp : Nat → Bool} {held : Bool} {fuel : Nat} {cs : List Value} {x : DataW H × List MemPlace} (h : DataW.trod enc Try.prog W 0 sp held fuel 42 cs = some x) : ∃ t : FareS, cs = t.vals ∧ FareS.ok W t := by
  obtain ⟨xs, n, _, _, hlen, hxs, hf⟩ := DataW.trod_struct Try.underlying42 h
  rw [cellsOf42] at hlen
  match cs, hlen with
  | [c0, c1, c2, c3], _ =>
    match xs, hxs with
    | [y0, y1, y2, y3], _ =>
      have g0 : DataW.trod enc Try.prog W 0 sp held n 3 [c0] = some y0 := by have := hf 0 _ rfl; simpa [cellsOf3] using this
      obtain ⟨n0, e0, _, w0⟩ := DataW.trod_int Try.underlying3 g0
      cases e0
      have g1 : DataW.trod enc Try.prog W 0 sp held n 3 [c1] = some y1 := by have := hf 1 _ rfl; simpa [cellsOf3] using this
      obtain ⟨n1, e1, _, w1⟩ := DataW.trod_int Try.underlying3 g1
      cases e1
      have g2 : DataW.trod enc Try.prog W 0 sp held n 40 [c2] = some y2 := by have := hf 2 _ rfl; simpa [cellsOf40] using this
      obtain ⟨a2, p2, n2, e2, w2⟩ := ItemS.open_sl g2
      cases e2
      have g3 : DataW.trod enc Try.prog W 0 sp held n 3 [c3] = some y3 := by have := hf 3 _ rfl; simpa [cellsOf3] using this
      obtain ⟨n3, e3, _, w3⟩ := DataW.trod_int Try.underlying3 g3
      cases e3
      exact ⟨⟨n0, n1, a2, p2, n2, n3⟩, rfl, ⟨I64.of_wf w0, I64.of_wf w1, w2, I64.of_wf w3⟩⟩
theorem cellsOf22 : Try.prog.cellsOf 22 = 1 := by kernel_rfl
theorem FareS.open_sl {H : Type} {enc : TypeId × Value → H} {W : World} {sp : Nat → Bool} {held : Bool} {fuel : Nat} {cs : List Value} {x : DataW H × List MemPlace} (h : DataW.trod enc Try.prog W 0 sp held fuel 22 cs = some x) : ∃ a cap xs, cs = [.slice a (List.length xs) cap] ∧ FareS.sl W a cap xs := by
  rcases Go.Deep.open_slice Try.underlying22 h with ⟨rfl, _⟩ | ⟨a, len, cap, m, n, D, Pl, rfl, _, hl, hm, hmm, _, hi⟩
  · exact ⟨none, 0, [], rfl, Nat.le_refl _, Nat.zero_le _, fun _ => rfl, fun h => absurd h (Nat.lt_irrefl 0), fun x hx => by cases hx⟩
  · have hle : len ≤ m := by rw [hmm]; split <;> omega
    have key : ∀ i, i < len → ∃ t : FareS, (∀ j u, t.vals[j]? = some u → W.cell? ((a.add (i * 4)).add j) = some u) ∧ FareS.ok W t := by
      intro i hi'
      obtain ⟨cs', hc, ht⟩ := hi i (by omega)
      rw [cellsOf42] at hc
      obtain ⟨t, rfl, hok⟩ := FareS.read ht
      obtain ⟨_, hlen, hat⟩ := World.cells?_some hc
      exact ⟨t, fun j u hj => by rw [hat j (by have := (List.getElem?_eq_some_iff.1 hj).1; omega)]; exact hj, hok⟩
    obtain ⟨F, hF⟩ := Go.Deep.choose_lt key
    refine ⟨some a, cap, (List.range len).map F, by simp, by simpa using hl, hm, fun e => (by cases e), fun hp => ?_, ?_⟩
    · have h0 : 0 < len := by simpa using hp
      obtain ⟨b, o, s⟩ := a
      have hcell := (hF 0 h0).1 0 _ rfl
      have hspot : s = none := by simpa [Addr.add] using World.cell?_spot hcell
      subst hspot
      refine ⟨b, o, rfl, by have := block_lt_of_cell hcell; simpa [Addr.add] using this, ?_⟩
      intro i hi'
      have := (hF i (by simpa using hi')).1
      simp only [addr_add] at this
      simp only [List.getElem_map, List.getElem_range]
      exact ⟨this 0 _ rfl, this 1 _ rfl, this 2 _ rfl, this 3 _ rfl⟩
    · intro x hx
      obtain ⟨i, hi', rfl⟩ := List.mem_map.1 hx
      exact (hF i (by simpa using hi')).2
theorem cellsOf30 : Try.prog.cellsOf 30 = 4 := by kernel_rfl
instance : Inhabited RefS := ⟨{ id := 0, ride := 0, item := 0, amount := 0 }⟩
theorem RefS.read {H : Type} {enc : TypeId × Value → H} {W : World} {sp : Nat → Bool} {held : Bool} {fuel : Nat} {cs : List Value} {x : DataW H × List MemPlace} (h : DataW.trod enc Try.prog W 0 sp held fuel 30 cs = some x) : ∃ t : RefS, cs = t.vals ∧ RefS.ok W t := by
  obtain ⟨xs, n, _, _, hlen, hxs, hf⟩ := DataW.trod_struct Try.underlying30 h
  rw [cellsOf30] at hlen
  match cs, hlen with
  | [c0, c1, c2, c3], _ =>
    match xs, hxs with
    | [y0, y1, y2, y3], _ =>
      have g0 : DataW.trod enc Try.prog W 0 sp held n 3 [c0] = some y0 := by have := hf 0 _ rfl; simpa [cellsOf3] using this
      obtain ⟨n0, e0, _, w0⟩ := DataW.trod_int Try.underlying3 g0
      cases e0
      have g1 : DataW.trod enc Try.prog W 0 sp held n 3 [c1] = some y1 := by have := hf 1 _ rfl; simpa [cellsOf3] using this
      obtain ⟨n1, e1, _, w1⟩ := DataW.trod_int Try.underlying3 g1
      cases e1
      have g2 : DataW.trod enc Try.prog W 0 sp held n 3 [c2] = some y2 := by have := hf 2 _ rfl; simpa [cellsOf3] using this
      obtain ⟨n2, e2, _, w2⟩ := DataW.trod_int Try.underlying3 g2
      cases e2
      have g3 : DataW.trod enc Try.prog W 0 sp held n 3 [c3] = some y3 := by have := hf 3 _ rfl; simpa [cellsOf3] using this
      obtain ⟨n3, e3, _, w3⟩ := DataW.trod_int Try.underlying3 g3
      cases e3
      exact ⟨⟨n0, n1, n2, n3⟩, rfl, ⟨I64.of_wf w0, I64.of_wf w1, I64.of_wf w2, I64.of_wf w3⟩⟩
theorem cellsOf23 : Try.prog.cellsOf 23 = 1 := by kernel_rfl
theorem RefS.open_sl {H : Type} {enc : TypeId × Value → H} {W : World} {sp : Nat → Bool} {held : Bool} {fuel : Nat} {cs : List Value} {x : DataW H × List MemPlace} (h : DataW.trod enc Try.prog W 0 sp held fuel 23 cs = some x) : ∃ a cap xs, cs = [.slice a (List.length xs) cap] ∧ RefS.sl W a cap xs := by
  rcases Go.Deep.open_slice Try.underlying23 h with ⟨rfl, _⟩ | ⟨a, len, cap, m, n, D, Pl, rfl, _, hl, hm, hmm, _, hi⟩
  · exact ⟨none, 0, [], rfl, Nat.le_refl _, Nat.zero_le _, fun _ => rfl, fun h => absurd h (Nat.lt_irrefl 0), fun x hx => by cases hx⟩
  · have hle : len ≤ m := by rw [hmm]; split <;> omega
    have key : ∀ i, i < len → ∃ t : RefS, (∀ j u, t.vals[j]? = some u → W.cell? ((a.add (i * 4)).add j) = some u) ∧ RefS.ok W t := by
      intro i hi'
      obtain ⟨cs', hc, ht⟩ := hi i (by omega)
      rw [cellsOf30] at hc
      obtain ⟨t, rfl, hok⟩ := RefS.read ht
      obtain ⟨_, hlen, hat⟩ := World.cells?_some hc
      exact ⟨t, fun j u hj => by rw [hat j (by have := (List.getElem?_eq_some_iff.1 hj).1; omega)]; exact hj, hok⟩
    obtain ⟨F, hF⟩ := Go.Deep.choose_lt key
    refine ⟨some a, cap, (List.range len).map F, by simp, by simpa using hl, hm, fun e => (by cases e), fun hp => ?_, ?_⟩
    · have h0 : 0 < len := by simpa using hp
      obtain ⟨b, o, s⟩ := a
      have hcell := (hF 0 h0).1 0 _ rfl
      have hspot : s = none := by simpa [Addr.add] using World.cell?_spot hcell
      subst hspot
      refine ⟨b, o, rfl, by have := block_lt_of_cell hcell; simpa [Addr.add] using this, ?_⟩
      intro i hi'
      have := (hF i (by simpa using hi')).1
      simp only [addr_add] at this
      simp only [List.getElem_map, List.getElem_range]
      exact ⟨this 0 _ rfl, this 1 _ rfl, this 2 _ rfl, this 3 _ rfl⟩
    · intro x hx
      obtain ⟨i, hi', rfl⟩ := List.mem_map.1 hx
      exact (hF i (by simpa using hi')).2
end Go.Proofs.Ytcnnffbpdemoiaa
