/-
  What the reader says of an argument (a slice of structs, a struct) as the reading predicates of this seat.
-/
import Derived.Test.YtfpdhalfkfffnaaBase
import Derived.ProofKit
import Derived.OpenShut
import Derived.ShutString
import Derived.ChangeOld
import Derived.Deep.Slices
namespace Go.Proofs.Ytfpdhalfkfffnaa
open Go.ChangeShapes Go.WideShapes Go.RowKit
set_option linter.unusedVariables false
set_option linter.unusedSimpArgs false
set_option linter.unnecessarySimpa false
theorem cellsOf3 : Try.prog.cellsOf 3 = 1 := by kernel_rfl
theorem cellsOf4 : Try.prog.cellsOf 4 = 1 := by kernel_rfl
theorem I64.of_wf {n : Int} (h : (Lit.int .i64 n).wf = true) : I64 n := by
  simp [Lit.wf, IntKind.min, IntKind.max, IntKind.signed, IntKind.bits] at h
  exact h
theorem cellsOf39 : Try.prog.cellsOf 39 = 1 := by kernel_rfl
theorem SlI.open_sl {H : Type} {enc : TypeId × Value → H} {W : World} {sp : Nat → Bool} {held : Bool} {fuel : Nat} {cs : List Value} {x : DataW H × List MemPlace} (h : DataW.trod enc Try.prog W 0 sp held fuel 39 cs = some x) : ∃ a cap xs, cs = [.slice a (List.length xs) cap] ∧ SlI W a cap xs := by
  rcases Go.Deep.open_slice Try.underlying39 h with ⟨rfl, _⟩ | ⟨a, len, cap, m, n, D, Pl, rfl, _, hl, hm, hmm, _, hi⟩
  · exact ⟨none, 0, [], rfl, Nat.le_refl _, Nat.zero_le _, fun _ => rfl, fun h => absurd h (Nat.lt_irrefl 0), fun x hx => by cases hx⟩
  · have hle : len ≤ m := by rw [hmm]; split <;> omega
    have key : ∀ i, i < len → ∃ t : Int, W.cell? ((a.add i).add 0) = some (.int .i64 t) ∧ I64 t := by
      intro i hi'
      obtain ⟨cs', hc, ht⟩ := hi i (by omega)
      rw [cellsOf3, Nat.mul_one] at hc
      obtain ⟨t, rfl, _, hok⟩ := DataW.trod_int Try.underlying3 ht
      obtain ⟨_, hlen, hat⟩ := World.cells?_some hc
      exact ⟨t, by rw [hat 0 (by omega)]; rfl, I64.of_wf hok⟩
    obtain ⟨F, hF⟩ := Go.Deep.choose_lt key
    refine ⟨some a, cap, (List.range len).map F, by simp, by simpa using hl, hm, fun e => (by cases e), fun hp => ?_, ?_⟩
    · have h0 : 0 < len := by simpa using hp
      obtain ⟨b, o, s⟩ := a
      have hcell := (hF 0 h0).1
      have hspot : s = none := by simpa [Addr.add] using World.cell?_spot hcell
      subst hspot
      refine ⟨b, o, rfl, by have := block_lt_of_cell hcell; simpa [Addr.add] using this, ?_⟩
      intro i hi'
      have := (hF i (by simpa using hi')).1
      simp only [addr_add, Nat.add_zero] at this
      simp only [List.getElem_map, List.getElem_range]
      exact this
    · intro x hx
      obtain ⟨i, hi', rfl⟩ := List.mem_map.1 hx
      exact (hF i (by simpa using hi')).2
theorem cellsOf23 : Try.prog.cellsOf 23 = 2 := by kernel_rfl
instance : Inhabited SpanS := ⟨{ lo := 0, hi := 0 }⟩
theorem SpanS.read {H : Type} {enc : TypeId × Value → H} {W : World} {sp : Nat → Bool} {held : Bool} {fuel : Nat} {cs : List Value} {x : DataW H × List MemPlace} (h : DataW.trod enc Try.prog W 0 sp held fuel 23 cs = some x) : ∃ t : SpanS, cs = t.vals ∧ SpanS.ok W t := by
  obtain ⟨xs, n, _, _, hlen, hxs, hf⟩ := DataW.trod_struct Try.underlying23 h
  rw [cellsOf23] at hlen
  match cs, hlen with
  | [c0, c1], _ =>
    match xs, hxs with
    | [y0, y1], _ =>
      have g0 : DataW.trod enc Try.prog W 0 sp held n 3 [c0] = some y0 := by have := hf 0 _ rfl; simpa [cellsOf3] using this
      obtain ⟨n0, e0, _, w0⟩ := DataW.trod_int Try.underlying3 g0
      cases e0
      have g1 : DataW.trod enc Try.prog W 0 sp held n 3 [c1] = some y1 := by have := hf 1 _ rfl; simpa [cellsOf3] using this
      obtain ⟨n1, e1, _, w1⟩ := DataW.trod_int Try.underlying3 g1
      cases e1
      exact ⟨⟨n0, n1⟩, rfl, ⟨I64.of_wf w0, I64.of_wf w1⟩⟩
theorem cellsOf47 : Try.prog.cellsOf 47 = 5 := by kernel_rfl
instance : Inhabited LegS := ⟨{ bike := 0, from_ := default, to_ := default }⟩
theorem LegS.read {H : Type} {enc : TypeId × Value → H} {W : World} {sp : Nat → Bool} {held : Bool} {fuel : Nat} {cs : List Value} {x : DataW H × List MemPlace} (h : DataW.trod enc Try.prog W 0 sp held fuel 47 cs = some x) : ∃ t : LegS, cs = t.vals ∧ LegS.ok W t := by
  obtain ⟨xs, n, _, _, hlen, hxs, hf⟩ := DataW.trod_struct Try.underlying47 h
  rw [cellsOf47] at hlen
  match cs, hlen with
  | [c0, c1, c2, c3, c4], _ =>
    match xs, hxs with
    | [y0, y1, y2], _ =>
      have g0 : DataW.trod enc Try.prog W 0 sp held n 3 [c0] = some y0 := by have := hf 0 _ rfl; simpa [cellsOf3] using this
      obtain ⟨n0, e0, _, w0⟩ := DataW.trod_int Try.underlying3 g0
      cases e0
      have g1 : DataW.trod enc Try.prog W 0 sp held n 23 [c1, c2] = some y1 := by have := hf 1 _ rfl; simpa [cellsOf23] using this
      obtain ⟨n1, e1, w1⟩ := SpanS.read g1
      simp only [SpanS.vals, List.cons.injEq, and_true] at e1
      obtain ⟨rfl, rfl⟩ := e1
      have g2 : DataW.trod enc Try.prog W 0 sp held n 23 [c3, c4] = some y2 := by have := hf 2 _ rfl; simpa [cellsOf23] using this
      obtain ⟨n2, e2, w2⟩ := SpanS.read g2
      simp only [SpanS.vals, List.cons.injEq, and_true] at e2
      obtain ⟨rfl, rfl⟩ := e2
      exact ⟨⟨n0, n1, n2⟩, rfl, ⟨I64.of_wf w0, w1, w2⟩⟩
theorem cellsOf24 : Try.prog.cellsOf 24 = 1 := by kernel_rfl
theorem LegS.open_sl {H : Type} {enc : TypeId × Value → H} {W : World} {sp : Nat → Bool} {held : Bool} {fuel : Nat} {cs : List Value} {x : DataW H × List MemPlace} (h : DataW.trod enc Try.prog W 0 sp held fuel 24 cs = some x) : ∃ a cap xs, cs = [.slice a (List.length xs) cap] ∧ LegS.sl W a cap xs := by
  rcases Go.Deep.open_slice Try.underlying24 h with ⟨rfl, _⟩ | ⟨a, len, cap, m, n, D, Pl, rfl, _, hl, hm, hmm, _, hi⟩
  · exact ⟨none, 0, [], rfl, Nat.le_refl _, Nat.zero_le _, fun _ => rfl, fun h => absurd h (Nat.lt_irrefl 0), fun x hx => by cases hx⟩
  · have hle : len ≤ m := by rw [hmm]; split <;> omega
    have key : ∀ i, i < len → ∃ t : LegS, (∀ j u, t.vals[j]? = some u → W.cell? ((a.add (i * 5)).add j) = some u) ∧ LegS.ok W t := by
      intro i hi'
      obtain ⟨cs', hc, ht⟩ := hi i (by omega)
      rw [cellsOf47] at hc
      obtain ⟨t, rfl, hok⟩ := LegS.read ht
      obtain ⟨_, hlen, hat⟩ := World.cells?_some hc
      exact ⟨t, fun j u hj => by rw [hat j (by have := (List.getElem?_eq_some_iff.1 hj).1; omega)]; exact hj, hok⟩
    obtain ⟨F, hF⟩ := Go.Deep.choose_lt key
    refine ⟨some a, cap, (List.range len).map F, by simp, by simpa using hl, hm, fun e => (by cases e), fun hp => ?_, ?_⟩
    · have h0 : 0 < len := by simpa using hp
      obtain ⟨b, o, s⟩ := a
      have hcell := (hF 0 h0).1 0 _ rfl
      have hspot : s = none := by simpa [Addr.add] using World.cell?_spot hcell
      subst hspot
      refine ⟨b, o, rfl, by have := block_lt_of_cell hcell; simpa [Addr.add] using this, ?_⟩
      intro i hi'
      have := (hF i (by simpa using hi')).1
      simp only [addr_add] at this
      simp only [List.getElem_map, List.getElem_range]
      exact ⟨this 0 _ rfl, this 1 _ rfl, this 2 _ rfl, this 3 _ rfl, this 4 _ rfl⟩
    · intro x hx
      obtain ⟨i, hi', rfl⟩ := List.mem_map.1 hx
      exact (hF i (by simpa using hi')).2
theorem cellsOf62 : Try.prog.cellsOf 62 = 4 := by kernel_rfl
instance : Inhabited PauseS := ⟨{ from_ := default, to_ := default }⟩
theorem PauseS.read {H : Type} {enc : TypeId × Value → H} {W : World} {sp : Nat → Bool} {held : Bool} {fuel : Nat} {cs : List Value} {x : DataW H × List MemPlace} (h : DataW.trod enc Try.prog W 0 sp held fuel 62 cs = some x) : ∃ t : PauseS, cs = t.vals ∧ PauseS.ok W t := by
  obtain ⟨xs, n, _, _, hlen, hxs, hf⟩ := DataW.trod_struct Try.underlying62 h
  rw [cellsOf62] at hlen
  match cs, hlen with
  | [c0, c1, c2, c3], _ =>
    match xs, hxs with
    | [y0, y1], _ =>
      have g0 : DataW.trod enc Try.prog W 0 sp held n 23 [c0, c1] = some y0 := by have := hf 0 _ rfl; simpa [cellsOf23] using this
      obtain ⟨n0, e0, w0⟩ := SpanS.read g0
      simp only [SpanS.vals, List.cons.injEq, and_true] at e0
      obtain ⟨rfl, rfl⟩ := e0
      have g1 : DataW.trod enc Try.prog W 0 sp held n 23 [c2, c3] = some y1 := by have := hf 1 _ rfl; simpa [cellsOf23] using this
      obtain ⟨n1, e1, w1⟩ := SpanS.read g1
      simp only [SpanS.vals, List.cons.injEq, and_true] at e1
      obtain ⟨rfl, rfl⟩ := e1
      exact ⟨⟨n0, n1⟩, rfl, ⟨w0, w1⟩⟩
theorem cellsOf25 : Try.prog.cellsOf 25 = 1 := by kernel_rfl
theorem PauseS.open_sl {H : Type} {enc : TypeId × Value → H} {W : World} {sp : Nat → Bool} {held : Bool} {fuel : Nat} {cs : List Value} {x : DataW H × List MemPlace} (h : DataW.trod enc Try.prog W 0 sp held fuel 25 cs = some x) : ∃ a cap xs, cs = [.slice a (List.length xs) cap] ∧ PauseS.sl W a cap xs := by
  rcases Go.Deep.open_slice Try.underlying25 h with ⟨rfl, _⟩ | ⟨a, len, cap, m, n, D, Pl, rfl, _, hl, hm, hmm, _, hi⟩
  · exact ⟨none, 0, [], rfl, Nat.le_refl _, Nat.zero_le _, fun _ => rfl, fun h => absurd h (Nat.lt_irrefl 0), fun x hx => by cases hx⟩
  · have hle : len ≤ m := by rw [hmm]; split <;> omega
    have key : ∀ i, i < len → ∃ t : PauseS, (∀ j u, t.vals[j]? = some u → W.cell? ((a.add (i * 4)).add j) = some u) ∧ PauseS.ok W t := by
      intro i hi'
      obtain ⟨cs', hc, ht⟩ := hi i (by omega)
      rw [cellsOf62] at hc
      obtain ⟨t, rfl, hok⟩ := PauseS.read ht
      obtain ⟨_, hlen, hat⟩ := World.cells?_some hc
      exact ⟨t, fun j u hj => by rw [hat j (by have := (List.getElem?_eq_some_iff.1 hj).1; omega)]; exact hj, hok⟩
    obtain ⟨F, hF⟩ := Go.Deep.choose_lt key
    refine ⟨some a, cap, (List.range len).map F, by simp, by simpa using hl, hm, fun e => (by cases e), fun hp => ?_, ?_⟩
    · have h0 : 0 < len := by simpa using hp
      obtain ⟨b, o, s⟩ := a
      have hcell := (hF 0 h0).1 0 _ rfl
      have hspot : s = none := by simpa [Addr.add] using World.cell?_spot hcell
      subst hspot
      refine ⟨b, o, rfl, by have := block_lt_of_cell hcell; simpa [Addr.add] using this, ?_⟩
      intro i hi'
      have := (hF i (by simpa using hi')).1
      simp only [addr_add] at this
      simp only [List.getElem_map, List.getElem_range]
      exact ⟨this 0 _ rfl, this 1 _ rfl, this 2 _ rfl, this 3 _ rfl⟩
    · intro x hx
      obtain ⟨i, hi', rfl⟩ := List.mem_map.1 hx
      exact (hF i (by simpa using hi')).2
theorem cellsOf27 : Try.prog.cellsOf 27 = 13 := by kernel_rfl
instance : Inhabited RideS := ⟨{ id := 0, rider := 0, start := default, end_ := default, open_ := false, legsA := none, legsC := 0, legs := [], pausesA := none, pausesC := 0, pauses := [], fromWhere := 0, fromPlace := 0, where_ := 0, place := 0 }⟩
theorem RideS.read {H : Type} {enc : TypeId × Value → H} {W : World} {sp : Nat → Bool} {held : Bool} {fuel : Nat} {cs : List Value} {x : DataW H × List MemPlace} (h : DataW.trod enc Try.prog W 0 sp held fuel 27 cs = some x) : ∃ t : RideS, cs = t.vals ∧ RideS.ok W t := by
  obtain ⟨xs, n, _, _, hlen, hxs, hf⟩ := DataW.trod_struct Try.underlying27 h
  rw [cellsOf27] at hlen
  match cs, hlen with
  | [c0, c1, c2, c3, c4, c5, c6, c7, c8, c9, c10, c11, c12], _ =>
    match xs, hxs with
    | [y0, y1, y2, y3, y4, y5, y6, y7, y8, y9, y10], _ =>
      have g0 : DataW.trod enc Try.prog W 0 sp held n 3 [c0] = some y0 := by have := hf 0 _ rfl; simpa [cellsOf3] using this
      obtain ⟨n0, e0, _, w0⟩ := DataW.trod_int Try.underlying3 g0
      cases e0
      have g1 : DataW.trod enc Try.prog W 0 sp held n 3 [c1] = some y1 := by have := hf 1 _ rfl; simpa [cellsOf3] using this
      obtain ⟨n1, e1, _, w1⟩ := DataW.trod_int Try.underlying3 g1
      cases e1
      have g2 : DataW.trod enc Try.prog W 0 sp held n 23 [c2, c3] = some y2 := by have := hf 2 _ rfl; simpa [cellsOf23] using this
      obtain ⟨n2, e2, w2⟩ := SpanS.read g2
      simp only [SpanS.vals, List.cons.injEq, and_true] at e2
      obtain ⟨rfl, rfl⟩ := e2
      have g3 : DataW.trod enc Try.prog W 0 sp held n 23 [c4, c5] = some y3 := by have := hf 3 _ rfl; simpa [cellsOf23] using this
      obtain ⟨n3, e3, w3⟩ := SpanS.read g3
      simp only [SpanS.vals, List.cons.injEq, and_true] at e3
      obtain ⟨rfl, rfl⟩ := e3
      have g4 : DataW.trod enc Try.prog W 0 sp held n 4 [c6] = some y4 := by have := hf 4 _ rfl; simpa [cellsOf4] using this
      obtain ⟨n4, e4, _⟩ := DataW.trod_bool Try.underlying4 g4
      cases e4
      have g5 : DataW.trod enc Try.prog W 0 sp held n 24 [c7] = some y5 := by have := hf 5 _ rfl; simpa [cellsOf24] using this
      obtain ⟨a5, p5, n5, e5, w5⟩ := LegS.open_sl g5
      cases e5
      have g6 : DataW.trod enc Try.prog W 0 sp held n 25 [c8] = some y6 := by have := hf 6 _ rfl; simpa [cellsOf25] using this
      obtain ⟨a6, p6, n6, e6, w6⟩ := PauseS.open_sl g6
      cases e6
      have g7 : DataW.trod enc Try.prog W 0 sp held n 3 [c9] = some y7 := by have := hf 7 _ rfl; simpa [cellsOf3] using this
      obtain ⟨n7, e7, _, w7⟩ := DataW.trod_int Try.underlying3 g7
      cases e7
      have g8 : DataW.trod enc Try.prog W 0 sp held n 3 [c10] = some y8 := by have := hf 8 _ rfl; simpa [cellsOf3] using this
      obtain ⟨n8, e8, _, w8⟩ := DataW.trod_int Try.underlying3 g8
      cases e8
      have g9 : DataW.trod enc Try.prog W 0 sp held n 3 [c11] = some y9 := by have := hf 9 _ rfl; simpa [cellsOf3] using this
      obtain ⟨n9, e9, _, w9⟩ := DataW.trod_int Try.underlying3 g9
      cases e9
      have g10 : DataW.trod enc Try.prog W 0 sp held n 3 [c12] = some y10 := by have := hf 10 _ rfl; simpa [cellsOf3] using this
      obtain ⟨n10, e10, _, w10⟩ := DataW.trod_int Try.underlying3 g10
      cases e10
      exact ⟨⟨n0, n1, n2, n3, n4, a5, p5, n5, a6, p6, n6, n7, n8, n9, n10⟩, rfl, ⟨I64.of_wf w0, I64.of_wf w1, w2, w3, w5, w6, I64.of_wf w7, I64.of_wf w8, I64.of_wf w9, I64.of_wf w10⟩⟩
theorem cellsOf51 : Try.prog.cellsOf 51 = 1 := by kernel_rfl
theorem RideS.open_sl {H : Type} {enc : TypeId × Value → H} {W : World} {sp : Nat → Bool} {held : Bool} {fuel : Nat} {cs : List Value} {x : DataW H × List MemPlace} (h : DataW.trod enc Try.prog W 0 sp held fuel 51 cs = some x) : ∃ a cap xs, cs = [.slice a (List.length xs) cap] ∧ RideS.sl W a cap xs := by
  rcases Go.Deep.open_slice Try.underlying51 h with ⟨rfl, _⟩ | ⟨a, len, cap, m, n, D, Pl, rfl, _, hl, hm, hmm, _, hi⟩
  · exact ⟨none, 0, [], rfl, Nat.le_refl _, Nat.zero_le _, fun _ => rfl, fun h => absurd h (Nat.lt_irrefl 0), fun x hx => by cases hx⟩
  · have hle : len ≤ m := by rw [hmm]; split <;> omega
    have key : ∀ i, i < len → ∃ t : RideS, (∀ j u, t.vals[j]? = some u → W.cell? ((a.add (i * 13)).add j) = some u) ∧ RideS.ok W t := by
      intro i hi'
      obtain ⟨cs', hc, ht⟩ := hi i (by omega)
      rw [cellsOf27] at hc
      obtain ⟨t, rfl, hok⟩ := RideS.read ht
      obtain ⟨_, hlen, hat⟩ := World.cells?_some hc
      exact ⟨t, fun j u hj => by rw [hat j (by have := (List.getElem?_eq_some_iff.1 hj).1; omega)]; exact hj, hok⟩
    obtain ⟨F, hF⟩ := Go.Deep.choose_lt key
    refine ⟨some a, cap, (List.range len).map F, by simp, by simpa using hl, hm, fun e => (by cases e), fun hp => ?_, ?_⟩
    · have h0 : 0 < len := by simpa using hp
      obtain ⟨b, o, s⟩ := a
      have hcell := (hF 0 h0).1 0 _ rfl
      have hspot : s = none := by simpa [Addr.add] using World.cell?_spot hcell
      subst hspot
      refine ⟨b, o, rfl, by have := block_lt_of_cell hcell; simpa [Addr.add] using this, ?_⟩
      intro i hi'
      have := (hF i (by simpa using hi')).1
      simp only [addr_add] at this
      simp only [List.getElem_map, List.getElem_range]
      exact ⟨this 0 _ rfl, this 1 _ rfl, this 2 _ rfl, this 3 _ rfl, this 4 _ rfl, this 5 _ rfl, this 6 _ rfl, this 7 _ rfl, this 8 _ rfl, this 9 _ rfl, this 10 _ rfl, this 11 _ rfl, this 12 _ rfl⟩
    · intro x hx
      obtain ⟨i, hi', rfl⟩ := List.mem_map.1 hx
      exact (hF i (by simpa using hi')).2
theorem cellsOf29 : Try.prog.cellsOf 29 = 3 := by kernel_rfl
instance : Inhabited EvS := ⟨{ ride := 0, end_ := default }⟩
theorem EvS.read {H : Type} {enc : TypeId × Value → H} {W : World} {sp : Nat → Bool} {held : Bool} {fuel : Nat} {cs : List Value} {x : DataW H × List MemPlace} (h : DataW.trod enc Try.prog W 0 sp held fuel 29 cs = some x) : ∃ t : EvS, cs = t.vals ∧ EvS.ok W t := by
  obtain ⟨xs, n, _, _, hlen, hxs, hf⟩ := DataW.trod_struct Try.underlying29 h
  rw [cellsOf29] at hlen
  match cs, hlen with
  | [c0, c1, c2], _ =>
    match xs, hxs with
    | [y0, y1], _ =>
      have g0 : DataW.trod enc Try.prog W 0 sp held n 3 [c0] = some y0 := by have := hf 0 _ rfl; simpa [cellsOf3] using this
      obtain ⟨n0, e0, _, w0⟩ := DataW.trod_int Try.underlying3 g0
      cases e0
      have g1 : DataW.trod enc Try.prog W 0 sp held n 23 [c1, c2] = some y1 := by have := hf 1 _ rfl; simpa [cellsOf23] using this
      obtain ⟨n1, e1, w1⟩ := SpanS.read g1
      simp only [SpanS.vals, List.cons.injEq, and_true] at e1
      obtain ⟨rfl, rfl⟩ := e1
      exact ⟨⟨n0, n1⟩, rfl, ⟨I64.of_wf w0, w1⟩⟩
theorem cellsOf37 : Try.prog.cellsOf 37 = 1 := by kernel_rfl
theorem EvS.open_sl {H : Type} {enc : TypeId × Value → H} {W : World} {sp : Nat → Bool} {held : Bool} {fuel : Nat} {cs : List Value} {x : DataW H × List MemPlace} (h : DataW.trod enc Try.prog W 0 sp held fuel 37 cs = some x) : ∃ a cap xs, cs = [.slice a (List.length xs) cap] ∧ EvS.sl W a cap xs := by
  rcases Go.Deep.open_slice Try.underlying37 h with ⟨rfl, _⟩ | ⟨a, len, cap, m, n, D, Pl, rfl, _, hl, hm, hmm, _, hi⟩
  · exact ⟨none, 0, [], rfl, Nat.le_refl _, Nat.zero_le _, fun _ => rfl, fun h => absurd h (Nat.lt_irrefl 0), fun x hx => by cases hx⟩
  · have hle : len ≤ m := by rw [hmm]; split <;> omega
    have key : ∀ i, i < len → ∃ t : EvS, (∀ j u, t.vals[j]? = some u → W.cell? ((a.add (i * 3)).add j) = some u) ∧ EvS.ok W t := by
      intro i hi'
      obtain ⟨cs', hc, ht⟩ := hi i (by omega)
      rw [cellsOf29] at hc
      obtain ⟨t, rfl, hok⟩ := EvS.read ht
      obtain ⟨_, hlen, hat⟩ := World.cells?_some hc
      exact ⟨t, fun j u hj => by rw [hat j (by have := (List.getElem?_eq_some_iff.1 hj).1; omega)]; exact hj, hok⟩
    obtain ⟨F, hF⟩ := Go.Deep.choose_lt key
    refine ⟨some a, cap, (List.range len).map F, by simp, by simpa using hl, hm, fun e => (by cases e), fun hp => ?_, ?_⟩
    · have h0 : 0 < len := by simpa using hp
      obtain ⟨b, o, s⟩ := a
      have hcell := (hF 0 h0).1 0 _ rfl
      have hspot : s = none := by simpa [Addr.add] using World.cell?_spot hcell
      subst hspot
      refine ⟨b, o, rfl, by have := block_lt_of_cell hcell; simpa [Addr.add] using this, ?_⟩
      intro i hi'
      have := (hF i (by simpa using hi')).1
      simp only [addr_add] at this
      simp only [List.getElem_map, List.getElem_range]
      exact ⟨this 0 _ rfl, this 1 _ rfl, this 2 _ rfl⟩
    · intro x hx
      obtain ⟨i, hi', rfl⟩ := List.mem_map.1 hx
      exact (hF i (by simpa using hi')).2
end Go.Proofs.Ytfpdhalfkfffnaa
