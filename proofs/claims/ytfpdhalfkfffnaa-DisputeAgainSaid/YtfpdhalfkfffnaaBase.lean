/-
  Small lemmas that every walk of this seat uses: a call leaves old memory as it was; slices of numbers.
-/
import Derived.Test.YtfpdhalfkfffnaaProg
import Derived.WalkKit
import Derived.WalkSpells
import Derived.WalkLawsBesides
import Derived.Lib.Hide
import Derived.BigQuiet
import Derived.Deep.QuietTactic
import Derived.Maps.Own
import Derived.Maps.OwnOps
namespace Go.Proofs.Ytfpdhalfkfffnaa
open Go.RowKit
set_option linter.unusedVariables false

theorem hide {p : Prop} (h : p) : Hid p := h

/-- Old cells, and old marks, read as before. -/
theorem bcell {B : Nat} {W w1 : World} (hb : Below B W w1) : (∀ b o, b < B → w1.cell? ⟨b, o, none⟩ = W.cell? ⟨b, o, none⟩) ∧ (∀ b o, b < B → w1.frozen? ⟨b, o, none⟩ = W.frozen? ⟨b, o, none⟩) :=
  ⟨fun b o h => hb.cell (p := ⟨b, o, none⟩) h, fun b o h => hb.frozen (p := ⟨b, o, none⟩) h⟩

theorem below_drewN {B : Nat} {a w : World} (h : Below B a w) (n : Nat) : Below B a (w.drewN n) := ⟨h.os, h.tape, h.output, h.size, h.block⟩

/-- The call returns v, and nothing that was there has turned. -/
def Ret (w : World) (v : Value) (e : Ending) (w' : World) : Prop := e = .returned v ∧ Below w.heap.size w w'

theorem addr_add (b o j : Nat) : (⟨b, o, none⟩ : Addr).add j = ⟨b, o + j, none⟩ := by
  unfold Addr.add; split
  · subst_vars; rfl
  · rfl

def I64 (x : Int) : Prop := -9223372036854775808 ≤ x ∧ x ≤ 9223372036854775807

def SlI (w : World) (a : Option Addr) (cap : Nat) (xs : List Int) : Prop :=
  xs.length ≤ cap ∧ cap ≤ maxLen ∧ (a = none → cap = 0) ∧ (0 < xs.length → ∃ b o, a = some ⟨b, o, none⟩ ∧ b < w.heap.size ∧ ∀ i (h : i < xs.length), w.cell? ⟨b, o + i, none⟩ = some (.int .i64 xs[i])) ∧ ∀ x ∈ xs, I64 x
theorem SlI.below {w w1 : World} (hb : Below w.heap.size w w1) {a : Option Addr} {cap : Nat} {xs : List Int} (h : SlI w a cap xs) : SlI w1 a cap xs := by
  obtain ⟨h1, h2, h0, h3, h4⟩ := h
  refine ⟨h1, h2, h0, fun hp => ?_, h4⟩
  obtain ⟨b, o, ha, hlt, hat⟩ := h3 hp
  exact ⟨b, o, ha, Nat.lt_of_lt_of_le hlt hb.size, fun i h => by rw [(bcell hb).1 _ _ hlt]; exact hat i h⟩

structure SpanS where
  lo : Int
  hi : Int

@[reducible] def SpanS.vals (x : SpanS) : List Value := [.int .i64 x.lo, .int .i64 x.hi]
def SpanS.at (w : World) (b o : Nat) (x : SpanS) : Prop :=
  w.cell? ⟨b, o, none⟩ = some (.int .i64 x.lo) ∧ w.cell? ⟨b, o + 1, none⟩ = some (.int .i64 x.hi)
def SpanS.ok (w : World) (x : SpanS) : Prop := I64 x.lo ∧ I64 x.hi
def SpanS.sl (w : World) (a : Option Addr) (cap : Nat) (xs : List SpanS) : Prop :=
  xs.length ≤ cap ∧ cap ≤ maxLen ∧ (a = none → cap = 0) ∧ (0 < xs.length → ∃ b o, a = some ⟨b, o, none⟩ ∧ b < w.heap.size ∧ ∀ i (h : i < xs.length), SpanS.at w b (o + i * 2) xs[i]) ∧ ∀ x ∈ xs, SpanS.ok w x
theorem SpanS.at_below {B : Nat} {w w1 : World} (hb : Below B w w1) {b o : Nat} (hlt : b < B) {x : SpanS} (h : SpanS.at w b o x) : SpanS.at w1 b o x := by
  unfold SpanS.at at *; obtain ⟨hc, _⟩ := bcell hb; simp only [hc _ _ hlt]; exact h
theorem SpanS.ok_below {w w1 : World} (hb : Below w.heap.size w w1) {x : SpanS} (h : SpanS.ok w x) : SpanS.ok w1 x := by
  unfold SpanS.ok at *; obtain ⟨h0, h1⟩ := h; exact ⟨h0, h1⟩
theorem SpanS.sl_below {w w1 : World} (hb : Below w.heap.size w w1) {a : Option Addr} {cap : Nat} {xs : List SpanS} (h : SpanS.sl w a cap xs) : SpanS.sl w1 a cap xs := by
  obtain ⟨h1, h2, h0, h3, h4⟩ := h
  refine ⟨h1, h2, h0, fun hp => ?_, fun x hx => SpanS.ok_below hb (h4 x hx)⟩
  obtain ⟨b, o, ha, hlt, hat⟩ := h3 hp
  exact ⟨b, o, ha, Nat.lt_of_lt_of_le hlt hb.size, fun i h => SpanS.at_below hb hlt (hat i h)⟩
def SpanS.flat (l : List SpanS) : List Value := l.flatMap SpanS.vals
theorem SpanS.flat_nil : SpanS.flat [] = [] := rfl
theorem SpanS.flat_cons (x : SpanS) (l : List SpanS) : SpanS.flat (x :: l) = x.vals ++ SpanS.flat l := by simp [SpanS.flat]
theorem SpanS.flat_append (l m : List SpanS) : SpanS.flat (l ++ m) = SpanS.flat l ++ SpanS.flat m := by simp [SpanS.flat]
theorem SpanS.flat_one (x : SpanS) : SpanS.flat [x] = x.vals := by simp [SpanS.flat]
theorem SpanS.flat_len (l : List SpanS) : (SpanS.flat l).length = l.length * 2 := by
  induction l with
  | nil => rfl
  | cons x l ih => rw [SpanS.flat_cons, List.length_append, ih]; simp only [SpanS.vals, List.length_cons, List.length_nil]; omega
theorem SpanS.flat_cell (l : List SpanS) : ∀ u ∈ SpanS.flat l, u.oneCell' = true := by
  intro u hu; obtain ⟨x, _, hx⟩ := List.mem_flatMap.1 hu; simp only [SpanS.vals, List.mem_cons, List.not_mem_nil, or_false] at hx
  rcases hx with rfl | rfl <;> rfl
theorem SpanS.at_flat {w : World} {b : Nat} : ∀ (l : List SpanS) (o : Nat), (∀ i (h : i < l.length), SpanS.at w b (o + i * 2) l[i]) → ∀ j u, (SpanS.flat l)[j]? = some u → w.cell? ⟨b, o + j, none⟩ = some u
  | [], _, _, j, u, h => by simp [SpanS.flat_nil] at h
  | x :: l, o, hat, j, u, h => by
    rw [SpanS.flat_cons] at h
    by_cases hj : j < 2
    · rw [List.getElem?_append_left (by simp only [SpanS.vals, List.length_cons, List.length_nil]; omega)] at h
      have h0 := hat 0 (by simp)
      simp only [Nat.zero_mul, Nat.add_zero, List.getElem_cons_zero] at h0
      obtain ⟨g0, g1⟩ := h0
      match j, hj, h with
      | 0, _, h => cases h; exact g0
      | 1, _, h => cases h; exact g1
    · rw [List.getElem?_append_right (by simp only [SpanS.vals, List.length_cons, List.length_nil]; omega)] at h
      have := SpanS.at_flat l (o + 2) (fun i hi => by have := hat (i + 1) (by simp; omega); simp only [List.getElem_cons_succ] at this; rw [show o + 2 + i * 2 = o + (i + 1) * 2 by omega]; exact this) _ u h
      rw [show o + 2 + (j - x.vals.length) = o + j by simp only [SpanS.vals, List.length_cons, List.length_nil]; omega] at this
      exact this
theorem SpanS.of_flat {w : World} {b : Nat} : ∀ (l : List SpanS) (o : Nat), (∀ j u, (SpanS.flat l)[j]? = some u → w.cell? ⟨b, o + j, none⟩ = some u) → ∀ i (h : i < l.length), SpanS.at w b (o + i * 2) l[i]
  | [], _, _, i, h => by simp at h
  | x :: l, o, hc, 0, h => by
    simp only [Nat.zero_mul, Nat.add_zero, List.getElem_cons_zero]
    unfold SpanS.at
    rw [SpanS.flat_cons] at hc
    exact ⟨hc 0 _ rfl, hc 1 _ rfl⟩
  | x :: l, o, hc, i + 1, h => by
    simp only [List.getElem_cons_succ]
    rw [show o + (i + 1) * 2 = o + 2 + i * 2 by omega]
    refine SpanS.of_flat l (o + 2) (fun j u hj => ?_) i (by simp at h; omega)
    rw [show o + 2 + j = o + (j + 2) by omega]
    refine hc _ u ?_
    rw [SpanS.flat_cons, List.getElem?_append_right (by simp only [SpanS.vals, List.length_cons, List.length_nil]; omega)]
    simpa only [SpanS.vals, List.length_cons, List.length_nil, Nat.zero_add, Nat.reduceAdd, Nat.add_sub_cancel] using hj
theorem SpanS.sl_own {w : World} {B : Nat} {e : TypeId} {v : Value} {l : List SpanS} (h : w.ownsRow B e 2 v l.length (SpanS.flat l)) (hpos : 0 < l.length) (hok : ∀ x ∈ l, SpanS.ok w x) : ∃ b cap, v = .slice (some ⟨b, 0, none⟩) l.length cap ∧ B ≤ b ∧ SpanS.sl w (some ⟨b, 0, none⟩) cap l := by
  rcases h.2 with ⟨_, h2⟩ | ⟨g, cap, cur, hv, hg, hh, hle, hm, _, _⟩
  · omega
  · subst hv
    have hc := h.cells (g := g) rfl
    refine ⟨g, cap, rfl, hg, hle, hm, (fun e => by cases e), fun _ => ⟨g, 0, rfl, (Array.getElem?_eq_some_iff.1 hh).1, ?_⟩, hok⟩
    refine SpanS.of_flat l 0 (fun j u hj => ?_)
    rw [← addr_add]; exact hc j u hj

structure LegS where
  bike : Int
  from_ : SpanS
  to_ : SpanS

@[reducible] def LegS.vals (x : LegS) : List Value := [.int .i64 x.bike, .int .i64 x.from_.lo, .int .i64 x.from_.hi, .int .i64 x.to_.lo, .int .i64 x.to_.hi]
def LegS.at (w : World) (b o : Nat) (x : LegS) : Prop :=
  w.cell? ⟨b, o, none⟩ = some (.int .i64 x.bike) ∧ w.cell? ⟨b, o + 1, none⟩ = some (.int .i64 x.from_.lo) ∧ w.cell? ⟨b, o + 2, none⟩ = some (.int .i64 x.from_.hi) ∧ w.cell? ⟨b, o + 3, none⟩ = some (.int .i64 x.to_.lo) ∧ w.cell? ⟨b, o + 4, none⟩ = some (.int .i64 x.to_.hi)
def LegS.ok (w : World) (x : LegS) : Prop := I64 x.bike ∧ SpanS.ok w x.from_ ∧ SpanS.ok w x.to_
def LegS.sl (w : World) (a : Option Addr) (cap : Nat) (xs : List LegS) : Prop :=
  xs.length ≤ cap ∧ cap ≤ maxLen ∧ (a = none → cap = 0) ∧ (0 < xs.length → ∃ b o, a = some ⟨b, o, none⟩ ∧ b < w.heap.size ∧ ∀ i (h : i < xs.length), LegS.at w b (o + i * 5) xs[i]) ∧ ∀ x ∈ xs, LegS.ok w x
theorem LegS.at_below {B : Nat} {w w1 : World} (hb : Below B w w1) {b o : Nat} (hlt : b < B) {x : LegS} (h : LegS.at w b o x) : LegS.at w1 b o x := by
  unfold LegS.at at *; obtain ⟨hc, _⟩ := bcell hb; simp only [hc _ _ hlt]; exact h
theorem LegS.ok_below {w w1 : World} (hb : Below w.heap.size w w1) {x : LegS} (h : LegS.ok w x) : LegS.ok w1 x := by
  unfold LegS.ok at *; obtain ⟨h0, h1, h2⟩ := h; exact ⟨h0, SpanS.ok_below hb h1, SpanS.ok_below hb h2⟩
theorem LegS.sl_below {w w1 : World} (hb : Below w.heap.size w w1) {a : Option Addr} {cap : Nat} {xs : List LegS} (h : LegS.sl w a cap xs) : LegS.sl w1 a cap xs := by
  obtain ⟨h1, h2, h0, h3, h4⟩ := h
  refine ⟨h1, h2, h0, fun hp => ?_, fun x hx => LegS.ok_below hb (h4 x hx)⟩
  obtain ⟨b, o, ha, hlt, hat⟩ := h3 hp
  exact ⟨b, o, ha, Nat.lt_of_lt_of_le hlt hb.size, fun i h => LegS.at_below hb hlt (hat i h)⟩
def LegS.flat (l : List LegS) : List Value := l.flatMap LegS.vals
theorem LegS.flat_nil : LegS.flat [] = [] := rfl
theorem LegS.flat_cons (x : LegS) (l : List LegS) : LegS.flat (x :: l) = x.vals ++ LegS.flat l := by simp [LegS.flat]
theorem LegS.flat_append (l m : List LegS) : LegS.flat (l ++ m) = LegS.flat l ++ LegS.flat m := by simp [LegS.flat]
theorem LegS.flat_one (x : LegS) : LegS.flat [x] = x.vals := by simp [LegS.flat]
theorem LegS.flat_len (l : List LegS) : (LegS.flat l).length = l.length * 5 := by
  induction l with
  | nil => rfl
  | cons x l ih => rw [LegS.flat_cons, List.length_append, ih]; simp only [LegS.vals, List.length_cons, List.length_nil]; omega
theorem LegS.flat_cell (l : List LegS) : ∀ u ∈ LegS.flat l, u.oneCell' = true := by
  intro u hu; obtain ⟨x, _, hx⟩ := List.mem_flatMap.1 hu; simp only [LegS.vals, List.mem_cons, List.not_mem_nil, or_false] at hx
  rcases hx with rfl | rfl | rfl | rfl | rfl <;> rfl
theorem LegS.at_flat {w : World} {b : Nat} : ∀ (l : List LegS) (o : Nat), (∀ i (h : i < l.length), LegS.at w b (o + i * 5) l[i]) → ∀ j u, (LegS.flat l)[j]? = some u → w.cell? ⟨b, o + j, none⟩ = some u
  | [], _, _, j, u, h => by simp [LegS.flat_nil] at h
  | x :: l, o, hat, j, u, h => by
    rw [LegS.flat_cons] at h
    by_cases hj : j < 5
    · rw [List.getElem?_append_left (by simp only [LegS.vals, List.length_cons, List.length_nil]; omega)] at h
      have h0 := hat 0 (by simp)
      simp only [Nat.zero_mul, Nat.add_zero, List.getElem_cons_zero] at h0
      obtain ⟨g0, g1, g2, g3, g4⟩ := h0
      match j, hj, h with
      | 0, _, h => cases h; exact g0
      | 1, _, h => cases h; exact g1
      | 2, _, h => cases h; exact g2
      | 3, _, h => cases h; exact g3
      | 4, _, h => cases h; exact g4
    · rw [List.getElem?_append_right (by simp only [LegS.vals, List.length_cons, List.length_nil]; omega)] at h
      have := LegS.at_flat l (o + 5) (fun i hi => by have := hat (i + 1) (by simp; omega); simp only [List.getElem_cons_succ] at this; rw [show o + 5 + i * 5 = o + (i + 1) * 5 by omega]; exact this) _ u h
      rw [show o + 5 + (j - x.vals.length) = o + j by simp only [LegS.vals, List.length_cons, List.length_nil]; omega] at this
      exact this
theorem LegS.of_flat {w : World} {b : Nat} : ∀ (l : List LegS) (o : Nat), (∀ j u, (LegS.flat l)[j]? = some u → w.cell? ⟨b, o + j, none⟩ = some u) → ∀ i (h : i < l.length), LegS.at w b (o + i * 5) l[i]
  | [], _, _, i, h => by simp at h
  | x :: l, o, hc, 0, h => by
    simp only [Nat.zero_mul, Nat.add_zero, List.getElem_cons_zero]
    unfold LegS.at
    rw [LegS.flat_cons] at hc
    exact ⟨hc 0 _ rfl, hc 1 _ rfl, hc 2 _ rfl, hc 3 _ rfl, hc 4 _ rfl⟩
  | x :: l, o, hc, i + 1, h => by
    simp only [List.getElem_cons_succ]
    rw [show o + (i + 1) * 5 = o + 5 + i * 5 by omega]
    refine LegS.of_flat l (o + 5) (fun j u hj => ?_) i (by simp at h; omega)
    rw [show o + 5 + j = o + (j + 5) by omega]
    refine hc _ u ?_
    rw [LegS.flat_cons, List.getElem?_append_right (by simp only [LegS.vals, List.length_cons, List.length_nil]; omega)]
    simpa only [LegS.vals, List.length_cons, List.length_nil, Nat.zero_add, Nat.reduceAdd, Nat.add_sub_cancel] using hj
theorem LegS.sl_own {w : World} {B : Nat} {e : TypeId} {v : Value} {l : List LegS} (h : w.ownsRow B e 5 v l.length (LegS.flat l)) (hpos : 0 < l.length) (hok : ∀ x ∈ l, LegS.ok w x) : ∃ b cap, v = .slice (some ⟨b, 0, none⟩) l.length cap ∧ B ≤ b ∧ LegS.sl w (some ⟨b, 0, none⟩) cap l := by
  rcases h.2 with ⟨_, h2⟩ | ⟨g, cap, cur, hv, hg, hh, hle, hm, _, _⟩
  · omega
  · subst hv
    have hc := h.cells (g := g) rfl
    refine ⟨g, cap, rfl, hg, hle, hm, (fun e => by cases e), fun _ => ⟨g, 0, rfl, (Array.getElem?_eq_some_iff.1 hh).1, ?_⟩, hok⟩
    refine LegS.of_flat l 0 (fun j u hj => ?_)
    rw [← addr_add]; exact hc j u hj

structure PauseS where
  from_ : SpanS
  to_ : SpanS

@[reducible] def PauseS.vals (x : PauseS) : List Value := [.int .i64 x.from_.lo, .int .i64 x.from_.hi, .int .i64 x.to_.lo, .int .i64 x.to_.hi]
def PauseS.at (w : World) (b o : Nat) (x : PauseS) : Prop :=
  w.cell? ⟨b, o, none⟩ = some (.int .i64 x.from_.lo) ∧ w.cell? ⟨b, o + 1, none⟩ = some (.int .i64 x.from_.hi) ∧ w.cell? ⟨b, o + 2, none⟩ = some (.int .i64 x.to_.lo) ∧ w.cell? ⟨b, o + 3, none⟩ = some (.int .i64 x.to_.hi)
def PauseS.ok (w : World) (x : PauseS) : Prop := SpanS.ok w x.from_ ∧ SpanS.ok w x.to_
def PauseS.sl (w : World) (a : Option Addr) (cap : Nat) (xs : List PauseS) : Prop :=
  xs.length ≤ cap ∧ cap ≤ maxLen ∧ (a = none → cap = 0) ∧ (0 < xs.length → ∃ b o, a = some ⟨b, o, none⟩ ∧ b < w.heap.size ∧ ∀ i (h : i < xs.length), PauseS.at w b (o + i * 4) xs[i]) ∧ ∀ x ∈ xs, PauseS.ok w x
theorem PauseS.at_below {B : Nat} {w w1 : World} (hb : Below B w w1) {b o : Nat} (hlt : b < B) {x : PauseS} (h : PauseS.at w b o x) : PauseS.at w1 b o x := by
  unfold PauseS.at at *; obtain ⟨hc, _⟩ := bcell hb; simp only [hc _ _ hlt]; exact h
theorem PauseS.ok_below {w w1 : World} (hb : Below w.heap.size w w1) {x : PauseS} (h : PauseS.ok w x) : PauseS.ok w1 x := by
  unfold PauseS.ok at *; obtain ⟨h0, h1⟩ := h; exact ⟨SpanS.ok_below hb h0, SpanS.ok_below hb h1⟩
theorem PauseS.sl_below {w w1 : World} (hb : Below w.heap.size w w1) {a : Option Addr} {cap : Nat} {xs : List PauseS} (h : PauseS.sl w a cap xs) : PauseS.sl w1 a cap xs := by
  obtain ⟨h1, h2, h0, h3, h4⟩ := h
  refine ⟨h1, h2, h0, fun hp => ?_, fun x hx => PauseS.ok_below hb (h4 x hx)⟩
  obtain ⟨b, o, ha, hlt, hat⟩ := h3 hp
  exact ⟨b, o, ha, Nat.lt_of_lt_of_le hlt hb.size, fun i h => PauseS.at_below hb hlt (hat i h)⟩
def PauseS.flat (l : List PauseS) : List Value := l.flatMap PauseS.vals
theorem PauseS.flat_nil : PauseS.flat [] = [] := rfl
theorem PauseS.flat_cons (x : PauseS) (l : List PauseS) : PauseS.flat (x :: l) = x.vals ++ PauseS.flat l := by simp [PauseS.flat]
theorem PauseS.flat_append (l m : List PauseS) : PauseS.flat (l ++ m) = PauseS.flat l ++ PauseS.flat m := by simp [PauseS.flat]
theorem PauseS.flat_one (x : PauseS) : PauseS.flat [x] = x.vals := by simp [PauseS.flat]
theorem PauseS.flat_len (l : List PauseS) : (PauseS.flat l).length = l.length * 4 := by
  induction l with
  | nil => rfl
  | cons x l ih => rw [PauseS.flat_cons, List.length_append, ih]; simp only [PauseS.vals, List.length_cons, List.length_nil]; omega
theorem PauseS.flat_cell (l : List PauseS) : ∀ u ∈ PauseS.flat l, u.oneCell' = true := by
  intro u hu; obtain ⟨x, _, hx⟩ := List.mem_flatMap.1 hu; simp only [PauseS.vals, List.mem_cons, List.not_mem_nil, or_false] at hx
  rcases hx with rfl | rfl | rfl | rfl <;> rfl
theorem PauseS.at_flat {w : World} {b : Nat} : ∀ (l : List PauseS) (o : Nat), (∀ i (h : i < l.length), PauseS.at w b (o + i * 4) l[i]) → ∀ j u, (PauseS.flat l)[j]? = some u → w.cell? ⟨b, o + j, none⟩ = some u
  | [], _, _, j, u, h => by simp [PauseS.flat_nil] at h
  | x :: l, o, hat, j, u, h => by
    rw [PauseS.flat_cons] at h
    by_cases hj : j < 4
    · rw [List.getElem?_append_left (by simp only [PauseS.vals, List.length_cons, List.length_nil]; omega)] at h
      have h0 := hat 0 (by simp)
      simp only [Nat.zero_mul, Nat.add_zero, List.getElem_cons_zero] at h0
      obtain ⟨g0, g1, g2, g3⟩ := h0
      match j, hj, h with
      | 0, _, h => cases h; exact g0
      | 1, _, h => cases h; exact g1
      | 2, _, h => cases h; exact g2
      | 3, _, h => cases h; exact g3
    · rw [List.getElem?_append_right (by simp only [PauseS.vals, List.length_cons, List.length_nil]; omega)] at h
      have := PauseS.at_flat l (o + 4) (fun i hi => by have := hat (i + 1) (by simp; omega); simp only [List.getElem_cons_succ] at this; rw [show o + 4 + i * 4 = o + (i + 1) * 4 by omega]; exact this) _ u h
      rw [show o + 4 + (j - x.vals.length) = o + j by simp only [PauseS.vals, List.length_cons, List.length_nil]; omega] at this
      exact this
theorem PauseS.of_flat {w : World} {b : Nat} : ∀ (l : List PauseS) (o : Nat), (∀ j u, (PauseS.flat l)[j]? = some u → w.cell? ⟨b, o + j, none⟩ = some u) → ∀ i (h : i < l.length), PauseS.at w b (o + i * 4) l[i]
  | [], _, _, i, h => by simp at h
  | x :: l, o, hc, 0, h => by
    simp only [Nat.zero_mul, Nat.add_zero, List.getElem_cons_zero]
    unfold PauseS.at
    rw [PauseS.flat_cons] at hc
    exact ⟨hc 0 _ rfl, hc 1 _ rfl, hc 2 _ rfl, hc 3 _ rfl⟩
  | x :: l, o, hc, i + 1, h => by
    simp only [List.getElem_cons_succ]
    rw [show o + (i + 1) * 4 = o + 4 + i * 4 by omega]
    refine PauseS.of_flat l (o + 4) (fun j u hj => ?_) i (by simp at h; omega)
    rw [show o + 4 + j = o + (j + 4) by omega]
    refine hc _ u ?_
    rw [PauseS.flat_cons, List.getElem?_append_right (by simp only [PauseS.vals, List.length_cons, List.length_nil]; omega)]
    simpa only [PauseS.vals, List.length_cons, List.length_nil, Nat.zero_add, Nat.reduceAdd, Nat.add_sub_cancel] using hj
theorem PauseS.sl_own {w : World} {B : Nat} {e : TypeId} {v : Value} {l : List PauseS} (h : w.ownsRow B e 4 v l.length (PauseS.flat l)) (hpos : 0 < l.length) (hok : ∀ x ∈ l, PauseS.ok w x) : ∃ b cap, v = .slice (some ⟨b, 0, none⟩) l.length cap ∧ B ≤ b ∧ PauseS.sl w (some ⟨b, 0, none⟩) cap l := by
  rcases h.2 with ⟨_, h2⟩ | ⟨g, cap, cur, hv, hg, hh, hle, hm, _, _⟩
  · omega
  · subst hv
    have hc := h.cells (g := g) rfl
    refine ⟨g, cap, rfl, hg, hle, hm, (fun e => by cases e), fun _ => ⟨g, 0, rfl, (Array.getElem?_eq_some_iff.1 hh).1, ?_⟩, hok⟩
    refine PauseS.of_flat l 0 (fun j u hj => ?_)
    rw [← addr_add]; exact hc j u hj

structure RideS where
  id : Int
  rider : Int
  start : SpanS
  end_ : SpanS
  open_ : Bool
  legsA : Option Addr
  legsC : Nat
  legs : List LegS
  pausesA : Option Addr
  pausesC : Nat
  pauses : List PauseS
  fromWhere : Int
  fromPlace : Int
  where_ : Int
  place : Int

@[reducible] def RideS.vals (x : RideS) : List Value := [.int .i64 x.id, .int .i64 x.rider, .int .i64 x.start.lo, .int .i64 x.start.hi, .int .i64 x.end_.lo, .int .i64 x.end_.hi, .bool x.open_, .slice x.legsA x.legs.length x.legsC, .slice x.pausesA x.pauses.length x.pausesC, .int .i64 x.fromWhere, .int .i64 x.fromPlace, .int .i64 x.where_, .int .i64 x.place]
def RideS.at (w : World) (b o : Nat) (x : RideS) : Prop :=
  w.cell? ⟨b, o, none⟩ = some (.int .i64 x.id) ∧ w.cell? ⟨b, o + 1, none⟩ = some (.int .i64 x.rider) ∧ w.cell? ⟨b, o + 2, none⟩ = some (.int .i64 x.start.lo) ∧ w.cell? ⟨b, o + 3, none⟩ = some (.int .i64 x.start.hi) ∧ w.cell? ⟨b, o + 4, none⟩ = some (.int .i64 x.end_.lo) ∧ w.cell? ⟨b, o + 5, none⟩ = some (.int .i64 x.end_.hi) ∧ w.cell? ⟨b, o + 6, none⟩ = some (.bool x.open_) ∧ w.cell? ⟨b, o + 7, none⟩ = some (.slice x.legsA x.legs.length x.legsC) ∧ w.cell? ⟨b, o + 8, none⟩ = some (.slice x.pausesA x.pauses.length x.pausesC) ∧ w.cell? ⟨b, o + 9, none⟩ = some (.int .i64 x.fromWhere) ∧ w.cell? ⟨b, o + 10, none⟩ = some (.int .i64 x.fromPlace) ∧ w.cell? ⟨b, o + 11, none⟩ = some (.int .i64 x.where_) ∧ w.cell? ⟨b, o + 12, none⟩ = some (.int .i64 x.place)
def RideS.ok (w : World) (x : RideS) : Prop := I64 x.id ∧ I64 x.rider ∧ SpanS.ok w x.start ∧ SpanS.ok w x.end_ ∧ LegS.sl w x.legsA x.legsC x.legs ∧ PauseS.sl w x.pausesA x.pausesC x.pauses ∧ I64 x.fromWhere ∧ I64 x.fromPlace ∧ I64 x.where_ ∧ I64 x.place
def RideS.sl (w : World) (a : Option Addr) (cap : Nat) (xs : List RideS) : Prop :=
  xs.length ≤ cap ∧ cap ≤ maxLen ∧ (a = none → cap = 0) ∧ (0 < xs.length → ∃ b o, a = some ⟨b, o, none⟩ ∧ b < w.heap.size ∧ ∀ i (h : i < xs.length), RideS.at w b (o + i * 13) xs[i]) ∧ ∀ x ∈ xs, RideS.ok w x
theorem RideS.at_below {B : Nat} {w w1 : World} (hb : Below B w w1) {b o : Nat} (hlt : b < B) {x : RideS} (h : RideS.at w b o x) : RideS.at w1 b o x := by
  unfold RideS.at at *; obtain ⟨hc, _⟩ := bcell hb; simp only [hc _ _ hlt]; exact h
theorem RideS.ok_below {w w1 : World} (hb : Below w.heap.size w w1) {x : RideS} (h : RideS.ok w x) : RideS.ok w1 x := by
  unfold RideS.ok at *; obtain ⟨h0, h1, h2, h3, h4, h5, h6, h7, h8, h9⟩ := h; exact ⟨h0, h1, SpanS.ok_below hb h2, SpanS.ok_below hb h3, LegS.sl_below hb h4, PauseS.sl_below hb h5, h6, h7, h8, h9⟩
theorem RideS.sl_below {w w1 : World} (hb : Below w.heap.size w w1) {a : Option Addr} {cap : Nat} {xs : List RideS} (h : RideS.sl w a cap xs) : RideS.sl w1 a cap xs := by
  obtain ⟨h1, h2, h0, h3, h4⟩ := h
  refine ⟨h1, h2, h0, fun hp => ?_, fun x hx => RideS.ok_below hb (h4 x hx)⟩
  obtain ⟨b, o, ha, hlt, hat⟩ := h3 hp
  exact ⟨b, o, ha, Nat.lt_of_lt_of_le hlt hb.size, fun i h => RideS.at_below hb hlt (hat i h)⟩
def RideS.flat (l : List RideS) : List Value := l.flatMap RideS.vals
theorem RideS.flat_nil : RideS.flat [] = [] := rfl
theorem RideS.flat_cons (x : RideS) (l : List RideS) : RideS.flat (x :: l) = x.vals ++ RideS.flat l := by simp [RideS.flat]
theorem RideS.flat_append (l m : List RideS) : RideS.flat (l ++ m) = RideS.flat l ++ RideS.flat m := by simp [RideS.flat]
theorem RideS.flat_one (x : RideS) : RideS.flat [x] = x.vals := by simp [RideS.flat]
theorem RideS.flat_len (l : List RideS) : (RideS.flat l).length = l.length * 13 := by
  induction l with
  | nil => rfl
  | cons x l ih => rw [RideS.flat_cons, List.length_append, ih]; simp only [RideS.vals, List.length_cons, List.length_nil]; omega
theorem RideS.flat_cell (l : List RideS) : ∀ u ∈ RideS.flat l, u.oneCell' = true := by
  intro u hu; obtain ⟨x, _, hx⟩ := List.mem_flatMap.1 hu; simp only [RideS.vals, List.mem_cons, List.not_mem_nil, or_false] at hx
  rcases hx with rfl | rfl | rfl | rfl | rfl | rfl | rfl | rfl | rfl | rfl | rfl | rfl | rfl <;> rfl
theorem RideS.at_flat {w : World} {b : Nat} : ∀ (l : List RideS) (o : Nat), (∀ i (h : i < l.length), RideS.at w b (o + i * 13) l[i]) → ∀ j u, (RideS.flat l)[j]? = some u → w.cell? ⟨b, o + j, none⟩ = some u
  | [], _, _, j, u, h => by simp [RideS.flat_nil] at h
  | x :: l, o, hat, j, u, h => by
    rw [RideS.flat_cons] at h
    by_cases hj : j < 13
    · rw [List.getElem?_append_left (by simp only [RideS.vals, List.length_cons, List.length_nil]; omega)] at h
      have h0 := hat 0 (by simp)
      simp only [Nat.zero_mul, Nat.add_zero, List.getElem_cons_zero] at h0
      obtain ⟨g0, g1, g2, g3, g4, g5, g6, g7, g8, g9, g10, g11, g12⟩ := h0
      match j, hj, h with
      | 0, _, h => cases h; exact g0
      | 1, _, h => cases h; exact g1
      | 2, _, h => cases h; exact g2
      | 3, _, h => cases h; exact g3
      | 4, _, h => cases h; exact g4
      | 5, _, h => cases h; exact g5
      | 6, _, h => cases h; exact g6
      | 7, _, h => cases h; exact g7
      | 8, _, h => cases h; exact g8
      | 9, _, h => cases h; exact g9
      | 10, _, h => cases h; exact g10
      | 11, _, h => cases h; exact g11
      | 12, _, h => cases h; exact g12
    · rw [List.getElem?_append_right (by simp only [RideS.vals, List.length_cons, List.length_nil]; omega)] at h
      have := RideS.at_flat l (o + 13) (fun i hi => by have := hat (i + 1) (by simp; omega); simp only [List.getElem_cons_succ] at this; rw [show o + 13 + i * 13 = o + (i + 1) * 13 by omega]; exact this) _ u h
      rw [show o + 13 + (j - x.vals.length) = o + j by simp only [RideS.vals, List.length_cons, List.length_nil]; omega] at this
      exact this
theorem RideS.of_flat {w : World} {b : Nat} : ∀ (l : List RideS) (o : Nat), (∀ j u, (RideS.flat l)[j]? = some u → w.cell? ⟨b, o + j, none⟩ = some u) → ∀ i (h : i < l.length), RideS.at w b (o + i * 13) l[i]
  | [], _, _, i, h => by simp at h
  | x :: l, o, hc, 0, h => by
    simp only [Nat.zero_mul, Nat.add_zero, List.getElem_cons_zero]
    unfold RideS.at
    rw [RideS.flat_cons] at hc
    exact ⟨hc 0 _ rfl, hc 1 _ rfl, hc 2 _ rfl, hc 3 _ rfl, hc 4 _ rfl, hc 5 _ rfl, hc 6 _ rfl, hc 7 _ rfl, hc 8 _ rfl, hc 9 _ rfl, hc 10 _ rfl, hc 11 _ rfl, hc 12 _ rfl⟩
  | x :: l, o, hc, i + 1, h => by
    simp only [List.getElem_cons_succ]
    rw [show o + (i + 1) * 13 = o + 13 + i * 13 by omega]
    refine RideS.of_flat l (o + 13) (fun j u hj => ?_) i (by simp at h; omega)
    rw [show o + 13 + j = o + (j + 13) by omega]
    refine hc _ u ?_
    rw [RideS.flat_cons, List.getElem?_append_right (by simp only [RideS.vals, List.length_cons, List.length_nil]; omega)]
    simpa only [RideS.vals, List.length_cons, List.length_nil, Nat.zero_add, Nat.reduceAdd, Nat.add_sub_cancel] using hj
theorem RideS.sl_own {w : World} {B : Nat} {e : TypeId} {v : Value} {l : List RideS} (h : w.ownsRow B e 13 v l.length (RideS.flat l)) (hpos : 0 < l.length) (hok : ∀ x ∈ l, RideS.ok w x) : ∃ b cap, v = .slice (some ⟨b, 0, none⟩) l.length cap ∧ B ≤ b ∧ RideS.sl w (some ⟨b, 0, none⟩) cap l := by
  rcases h.2 with ⟨_, h2⟩ | ⟨g, cap, cur, hv, hg, hh, hle, hm, _, _⟩
  · omega
  · subst hv
    have hc := h.cells (g := g) rfl
    refine ⟨g, cap, rfl, hg, hle, hm, (fun e => by cases e), fun _ => ⟨g, 0, rfl, (Array.getElem?_eq_some_iff.1 hh).1, ?_⟩, hok⟩
    refine RideS.of_flat l 0 (fun j u hj => ?_)
    rw [← addr_add]; exact hc j u hj

structure EvS where
  ride : Int
  end_ : SpanS

@[reducible] def EvS.vals (x : EvS) : List Value := [.int .i64 x.ride, .int .i64 x.end_.lo, .int .i64 x.end_.hi]
def EvS.at (w : World) (b o : Nat) (x : EvS) : Prop :=
  w.cell? ⟨b, o, none⟩ = some (.int .i64 x.ride) ∧ w.cell? ⟨b, o + 1, none⟩ = some (.int .i64 x.end_.lo) ∧ w.cell? ⟨b, o + 2, none⟩ = some (.int .i64 x.end_.hi)
def EvS.ok (w : World) (x : EvS) : Prop := I64 x.ride ∧ SpanS.ok w x.end_
def EvS.sl (w : World) (a : Option Addr) (cap : Nat) (xs : List EvS) : Prop :=
  xs.length ≤ cap ∧ cap ≤ maxLen ∧ (a = none → cap = 0) ∧ (0 < xs.length → ∃ b o, a = some ⟨b, o, none⟩ ∧ b < w.heap.size ∧ ∀ i (h : i < xs.length), EvS.at w b (o + i * 3) xs[i]) ∧ ∀ x ∈ xs, EvS.ok w x
theorem EvS.at_below {B : Nat} {w w1 : World} (hb : Below B w w1) {b o : Nat} (hlt : b < B) {x : EvS} (h : EvS.at w b o x) : EvS.at w1 b o x := by
  unfold EvS.at at *; obtain ⟨hc, _⟩ := bcell hb; simp only [hc _ _ hlt]; exact h
theorem EvS.ok_below {w w1 : World} (hb : Below w.heap.size w w1) {x : EvS} (h : EvS.ok w x) : EvS.ok w1 x := by
  unfold EvS.ok at *; obtain ⟨h0, h1⟩ := h; exact ⟨h0, SpanS.ok_below hb h1⟩
theorem EvS.sl_below {w w1 : World} (hb : Below w.heap.size w w1) {a : Option Addr} {cap : Nat} {xs : List EvS} (h : EvS.sl w a cap xs) : EvS.sl w1 a cap xs := by
  obtain ⟨h1, h2, h0, h3, h4⟩ := h
  refine ⟨h1, h2, h0, fun hp => ?_, fun x hx => EvS.ok_below hb (h4 x hx)⟩
  obtain ⟨b, o, ha, hlt, hat⟩ := h3 hp
  exact ⟨b, o, ha, Nat.lt_of_lt_of_le hlt hb.size, fun i h => EvS.at_below hb hlt (hat i h)⟩
def EvS.flat (l : List EvS) : List Value := l.flatMap EvS.vals
theorem EvS.flat_nil : EvS.flat [] = [] := rfl
theorem EvS.flat_cons (x : EvS) (l : List EvS) : EvS.flat (x :: l) = x.vals ++ EvS.flat l := by simp [EvS.flat]
theorem EvS.flat_append (l m : List EvS) : EvS.flat (l ++ m) = EvS.flat l ++ EvS.flat m := by simp [EvS.flat]
theorem EvS.flat_one (x : EvS) : EvS.flat [x] = x.vals := by simp [EvS.flat]
theorem EvS.flat_len (l : List EvS) : (EvS.flat l).length = l.length * 3 := by
  induction l with
  | nil => rfl
  | cons x l ih => rw [EvS.flat_cons, List.length_append, ih]; simp only [EvS.vals, List.length_cons, List.length_nil]; omega
theorem EvS.flat_cell (l : List EvS) : ∀ u ∈ EvS.flat l, u.oneCell' = true := by
  intro u hu; obtain ⟨x, _, hx⟩ := List.mem_flatMap.1 hu; simp only [EvS.vals, List.mem_cons, List.not_mem_nil, or_false] at hx
  rcases hx with rfl | rfl | rfl <;> rfl
theorem EvS.at_flat {w : World} {b : Nat} : ∀ (l : List EvS) (o : Nat), (∀ i (h : i < l.length), EvS.at w b (o + i * 3) l[i]) → ∀ j u, (EvS.flat l)[j]? = some u → w.cell? ⟨b, o + j, none⟩ = some u
  | [], _, _, j, u, h => by simp [EvS.flat_nil] at h
  | x :: l, o, hat, j, u, h => by
    rw [EvS.flat_cons] at h
    by_cases hj : j < 3
    · rw [List.getElem?_append_left (by simp only [EvS.vals, List.length_cons, List.length_nil]; omega)] at h
      have h0 := hat 0 (by simp)
      simp only [Nat.zero_mul, Nat.add_zero, List.getElem_cons_zero] at h0
      obtain ⟨g0, g1, g2⟩ := h0
      match j, hj, h with
      | 0, _, h => cases h; exact g0
      | 1, _, h => cases h; exact g1
      | 2, _, h => cases h; exact g2
    · rw [List.getElem?_append_right (by simp only [EvS.vals, List.length_cons, List.length_nil]; omega)] at h
      have := EvS.at_flat l (o + 3) (fun i hi => by have := hat (i + 1) (by simp; omega); simp only [List.getElem_cons_succ] at this; rw [show o + 3 + i * 3 = o + (i + 1) * 3 by omega]; exact this) _ u h
      rw [show o + 3 + (j - x.vals.length) = o + j by simp only [EvS.vals, List.length_cons, List.length_nil]; omega] at this
      exact this
theorem EvS.of_flat {w : World} {b : Nat} : ∀ (l : List EvS) (o : Nat), (∀ j u, (EvS.flat l)[j]? = some u → w.cell? ⟨b, o + j, none⟩ = some u) → ∀ i (h : i < l.length), EvS.at w b (o + i * 3) l[i]
  | [], _, _, i, h => by simp at h
  | x :: l, o, hc, 0, h => by
    simp only [Nat.zero_mul, Nat.add_zero, List.getElem_cons_zero]
    unfold EvS.at
    rw [EvS.flat_cons] at hc
    exact ⟨hc 0 _ rfl, hc 1 _ rfl, hc 2 _ rfl⟩
  | x :: l, o, hc, i + 1, h => by
    simp only [List.getElem_cons_succ]
    rw [show o + (i + 1) * 3 = o + 3 + i * 3 by omega]
    refine EvS.of_flat l (o + 3) (fun j u hj => ?_) i (by simp at h; omega)
    rw [show o + 3 + j = o + (j + 3) by omega]
    refine hc _ u ?_
    rw [EvS.flat_cons, List.getElem?_append_right (by simp only [EvS.vals, List.length_cons, List.length_nil]; omega)]
    simpa only [EvS.vals, List.length_cons, List.length_nil, Nat.zero_add, Nat.reduceAdd, Nat.add_sub_cancel] using hj
theorem EvS.sl_own {w : World} {B : Nat} {e : TypeId} {v : Value} {l : List EvS} (h : w.ownsRow B e 3 v l.length (EvS.flat l)) (hpos : 0 < l.length) (hok : ∀ x ∈ l, EvS.ok w x) : ∃ b cap, v = .slice (some ⟨b, 0, none⟩) l.length cap ∧ B ≤ b ∧ EvS.sl w (some ⟨b, 0, none⟩) cap l := by
  rcases h.2 with ⟨_, h2⟩ | ⟨g, cap, cur, hv, hg, hh, hle, hm, _, _⟩
  · omega
  · subst hv
    have hc := h.cells (g := g) rfl
    refine ⟨g, cap, rfl, hg, hle, hm, (fun e => by cases e), fun _ => ⟨g, 0, rfl, (Array.getElem?_eq_some_iff.1 hh).1, ?_⟩, hok⟩
    refine EvS.of_flat l 0 (fun j u hj => ?_)
    rw [← addr_add]; exact hc j u hj

end Go.Proofs.Ytfpdhalfkfffnaa
