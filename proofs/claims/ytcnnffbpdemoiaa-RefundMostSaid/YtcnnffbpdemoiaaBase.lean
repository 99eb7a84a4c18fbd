/-
  Small lemmas that every walk of this seat uses: a call leaves old memory as it was; slices of numbers.
-/
import Derived.Test.YtcnnffbpdemoiaaProg
import Derived.WalkKit
import Derived.WalkSpells
import Derived.WalkLawsBesides
import Derived.Lib.Hide
import Derived.BigQuiet
import Derived.Deep.QuietTactic
import Derived.Maps.Own
import Derived.Maps.OwnOps
namespace Go.Proofs.Ytcnnffbpdemoiaa
open Go.RowKit
set_option linter.unusedVariables false

theorem hide {p : Prop} (h : p) : Hid p := h

/-- Old cells, and old marks, read as before. -/
theorem bcell {B : Nat} {W w1 : World} (hb : Below B W w1) : (∀ b o, b < B → w1.cell? ⟨b, o, none⟩ = W.cell? ⟨b, o, none⟩) ∧ (∀ b o, b < B → w1.frozen? ⟨b, o, none⟩ = W.frozen? ⟨b, o, none⟩) :=
  ⟨fun b o h => hb.cell (p := ⟨b, o, none⟩) h, fun b o h => hb.frozen (p := ⟨b, o, none⟩) h⟩

theorem below_drewN {B : Nat} {a w : World} (h : Below B a w) (n : Nat) : Below B a (w.drewN n) := ⟨h.os, h.tape, h.output, h.size, h.block⟩

/-- The call returns v, and nothing that was there has turned. -/
def Ret (w : World) (v : Value) (e : Ending) (w' : World) : Prop := e = .returned v ∧ Below w.heap.size w w'

theorem addr_add (b o j : Nat) : (⟨b, o, none⟩ : Addr).add j = ⟨b, o + j, none⟩ := by
  unfold Addr.add; split
  · subst_vars; rfl
  · rfl

def I64 (x : Int) : Prop := -9223372036854775808 ≤ x ∧ x ≤ 9223372036854775807

def SlI (w : World) (a : Option Addr) (cap : Nat) (xs : List Int) : Prop :=
  xs.length ≤ cap ∧ cap ≤ maxLen ∧ (a = none → cap = 0) ∧ (0 < xs.length → ∃ b o, a = some ⟨b, o, none⟩ ∧ b < w.heap.size ∧ ∀ i (h : i < xs.length), w.cell? ⟨b, o + i, none⟩ = some (.int .i64 xs[i])) ∧ ∀ x ∈ xs, I64 x
theorem SlI.below {w w1 : World} (hb : Below w.heap.size w w1) {a : Option Addr} {cap : Nat} {xs : List Int} (h : SlI w a cap xs) : SlI w1 a cap xs := by
  obtain ⟨h1, h2, h0, h3, h4⟩ := h
  refine ⟨h1, h2, h0, fun hp => ?_, h4⟩
  obtain ⟨b, o, ha, hlt, hat⟩ := h3 hp
  exact ⟨b, o, ha, Nat.lt_of_lt_of_le hlt hb.size, fun i h => by rw [(bcell hb).1 _ _ hlt]; exact hat i h⟩

structure ItemS where
  kind : Int
  ref : Int
  amount : Int

@[reducible] def ItemS.vals (x : ItemS) : List Value := [.int .i64 x.kind, .int .i64 x.ref, .int .i64 x.amount]
def ItemS.at (w : World) (b o : Nat) (x : ItemS) : Prop :=
  w.cell? ⟨b, o, none⟩ = some (.int .i64 x.kind) ∧ w.cell? ⟨b, o + 1, none⟩ = some (.int .i64 x.ref) ∧ w.cell? ⟨b, o + 2, none⟩ = some (.int .i64 x.amount)
def ItemS.ok (w : World) (x : ItemS) : Prop := I64 x.kind ∧ I64 x.ref ∧ I64 x.amount
def ItemS.sl (w : World) (a : Option Addr) (cap : Nat) (xs : List ItemS) : Prop :=
  xs.length ≤ cap ∧ cap ≤ maxLen ∧ (a = none → cap = 0) ∧ (0 < xs.length → ∃ b o, a = some ⟨b, o, none⟩ ∧ b < w.heap.size ∧ ∀ i (h : i < xs.length), ItemS.at w b (o + i * 3) xs[i]) ∧ ∀ x ∈ xs, ItemS.ok w x
theorem ItemS.at_below {B : Nat} {w w1 : World} (hb : Below B w w1) {b o : Nat} (hlt : b < B) {x : ItemS} (h : ItemS.at w b o x) : ItemS.at w1 b o x := by
  unfold ItemS.at at *; obtain ⟨hc, _⟩ := bcell hb; simp only [hc _ _ hlt]; exact h
theorem ItemS.ok_below {w w1 : World} (hb : Below w.heap.size w w1) {x : ItemS} (h : ItemS.ok w x) : ItemS.ok w1 x := by
  unfold ItemS.ok at *; obtain ⟨h0, h1, h2⟩ := h; exact ⟨h0, h1, h2⟩
theorem ItemS.sl_below {w w1 : World} (hb : Below w.heap.size w w1) {a : Option Addr} {cap : Nat} {xs : List ItemS} (h : ItemS.sl w a cap xs) : ItemS.sl w1 a cap xs := by
  obtain ⟨h1, h2, h0, h3, h4⟩ := h
  refine ⟨h1, h2, h0, fun hp => ?_, fun x hx => ItemS.ok_below hb (h4 x hx)⟩
  obtain ⟨b, o, ha, hlt, hat⟩ := h3 hp
  exact ⟨b, o, ha, Nat.lt_of_lt_of_le hlt hb.size, fun i h => ItemS.at_below hb hlt (hat i h)⟩
def ItemS.flat (l : List ItemS) : List Value := l.flatMap ItemS.vals
theorem ItemS.flat_nil : ItemS.flat [] = [] := rfl
theorem ItemS.flat_cons (x : ItemS) (l : List ItemS) : ItemS.flat (x :: l) = x.vals ++ ItemS.flat l := by simp [ItemS.flat]
theorem ItemS.flat_append (l m : List ItemS) : ItemS.flat (l ++ m) = ItemS.flat l ++ ItemS.flat m := by simp [ItemS.flat]
theorem ItemS.flat_one (x : ItemS) : ItemS.flat [x] = x.vals := by simp [ItemS.flat]
theorem ItemS.flat_len (l : List ItemS) : (ItemS.flat l).length = l.length * 3 := by
  induction l with
  | nil => rfl
  | cons x l ih => rw [ItemS.flat_cons, List.length_append, ih]; simp only [ItemS.vals, List.length_cons, List.length_nil]; omega
theorem ItemS.flat_cell (l : List ItemS) : ∀ u ∈ ItemS.flat l, u.oneCell' = true := by
  intro u hu; obtain ⟨x, _, hx⟩ := List.mem_flatMap.1 hu; simp only [ItemS.vals, List.mem_cons, List.not_mem_nil, or_false] at hx
  rcases hx with rfl | rfl | rfl <;> rfl
theorem ItemS.at_flat {w : World} {b : Nat} : ∀ (l : List ItemS) (o : Nat), (∀ i (h : i < l.length), ItemS.at w b (o + i * 3) l[i]) → ∀ j u, (ItemS.flat l)[j]? = some u → w.cell? ⟨b, o + j, none⟩ = some u
  | [], _, _, j, u, h => by simp [ItemS.flat_nil] at h
  | x :: l, o, hat, j, u, h => by
    rw [ItemS.flat_cons] at h
    by_cases hj : j < 3
    · rw [List.getElem?_append_left (by simp only [ItemS.vals, List.length_cons, List.length_nil]; omega)] at h
      have h0 := hat 0 (by simp)
      simp only [Nat.zero_mul, Nat.add_zero, List.getElem_cons_zero] at h0
      obtain ⟨g0, g1, g2⟩ := h0
      match j, hj, h with
      | 0, _, h => cases h; exact g0
      | 1, _, h => cases h; exact g1
      | 2, _, h => cases h; exact g2
    · rw [List.getElem?_append_right (by simp only [ItemS.vals, List.length_cons, List.length_nil]; omega)] at h
      have := ItemS.at_flat l (o + 3) (fun i hi => by have := hat (i + 1) (by simp; omega); simp only [List.getElem_cons_succ] at this; rw [show o + 3 + i * 3 = o + (i + 1) * 3 by omega]; exact this) _ u h
      rw [show o + 3 + (j - x.vals.length) = o + j by simp only [ItemS.vals, List.length_cons, List.length_nil]; omega] at this
      exact this
theorem ItemS.of_flat {w : World} {b : Nat} : ∀ (l : List ItemS) (o : Nat), (∀ j u, (ItemS.flat l)[j]? = some u → w.cell? ⟨b, o + j, none⟩ = some u) → ∀ i (h : i < l.length), ItemS.at w b (o + i * 3) l[i]
  | [], _, _, i, h => by simp at h
  | x :: l, o, hc, 0, h => by
    simp only [Nat.zero_mul, Nat.add_zero, List.getElem_cons_zero]
    unfold ItemS.at
    rw [ItemS.flat_cons] at hc
    exact ⟨hc 0 _ rfl, hc 1 _ rfl, hc 2 _ rfl⟩
  | x :: l, o, hc, i + 1, h => by
    simp only [List.getElem_cons_succ]
    rw [show o + (i + 1) * 3 = o + 3 + i * 3 by omega]
    refine ItemS.of_flat l (o + 3) (fun j u hj => ?_) i (by simp at h; omega)
    rw [show o + 3 + j = o + (j + 3) by omega]
    refine hc _ u ?_
    rw [ItemS.flat_cons, List.getElem?_append_right (by simp only [ItemS.vals, List.length_cons, List.length_nil]; omega)]
    simpa only [ItemS.vals, List.length_cons, List.length_nil, Nat.zero_add, Nat.reduceAdd, Nat.add_sub_cancel] using hj
theorem ItemS.sl_own {w : World} {B : Nat} {e : TypeId} {v : Value} {l : List ItemS} (h : w.ownsRow B e 3 v l.length (ItemS.flat l)) (hpos : 0 < l.length) (hok : ∀ x ∈ l, ItemS.ok w x) : ∃ b cap, v = .slice (some ⟨b, 0, none⟩) l.length cap ∧ B ≤ b ∧ ItemS.sl w (some ⟨b, 0, none⟩) cap l := by
  rcases h.2 with ⟨_, h2⟩ | ⟨g, cap, cur, hv, hg, hh, hle, hm, _, _⟩
  · omega
  · subst hv
    have hc := h.cells (g := g) rfl
    refine ⟨g, cap, rfl, hg, hle, hm, (fun e => by cases e), fun _ => ⟨g, 0, rfl, (Array.getElem?_eq_some_iff.1 hh).1, ?_⟩, hok⟩
    refine ItemS.of_flat l 0 (fun j u hj => ?_)
    rw [← addr_add]; exact hc j u hj

structure FareS where
  ride : Int
  rider : Int
  itemsA : Option Addr
  itemsC : Nat
  items : List ItemS
  total : Int

@[reducible] def FareS.vals (x : FareS) : List Value := [.int .i64 x.ride, .int .i64 x.rider, .slice x.itemsA x.items.length x.itemsC, .int .i64 x.total]
def FareS.at (w : World) (b o : Nat) (x : FareS) : Prop :=
  w.cell? ⟨b, o, none⟩ = some (.int .i64 x.ride) ∧ w.cell? ⟨b, o + 1, none⟩ = some (.int .i64 x.rider) ∧ w.cell? ⟨b, o + 2, none⟩ = some (.slice x.itemsA x.items.length x.itemsC) ∧ w.cell? ⟨b, o + 3, none⟩ = some (.int .i64 x.total)
def FareS.ok (w : World) (x : FareS) : Prop := I64 x.ride ∧ I64 x.rider ∧ ItemS.sl w x.itemsA x.itemsC x.items ∧ I64 x.total
def FareS.sl (w : World) (a : Option Addr) (cap : Nat) (xs : List FareS) : Prop :=
  xs.length ≤ cap ∧ cap ≤ maxLen ∧ (a = none → cap = 0) ∧ (0 < xs.length → ∃ b o, a = some ⟨b, o, none⟩ ∧ b < w.heap.size ∧ ∀ i (h : i < xs.length), FareS.at w b (o + i * 4) xs[i]) ∧ ∀ x ∈ xs, FareS.ok w x
theorem FareS.at_below {B : Nat} {w w1 : World} (hb : Below B w w1) {b o : Nat} (hlt : b < B) {x : FareS} (h : FareS.at w b o x) : FareS.at w1 b o x := by
  unfold FareS.at at *; obtain ⟨hc, _⟩ := bcell hb; simp only [hc _ _ hlt]; exact h
theorem FareS.ok_below {w w1 : World} (hb : Below w.heap.size w w1) {x : FareS} (h : FareS.ok w x) : FareS.ok w1 x := by
  unfold FareS.ok at *; obtain ⟨h0, h1, h2, h3⟩ := h; exact ⟨h0, h1, ItemS.sl_below hb h2, h3⟩
theorem FareS.sl_below {w w1 : World} (hb : Below w.heap.size w w1) {a : Option Addr} {cap : Nat} {xs : List FareS} (h : FareS.sl w a cap xs) : FareS.sl w1 a cap xs := by
  obtain ⟨h1, h2, h0, h3, h4⟩ := h
  refine ⟨h1, h2, h0, fun hp => ?_, fun x hx => FareS.ok_below hb (h4 x hx)⟩
  obtain ⟨b, o, ha, hlt, hat⟩ := h3 hp
  exact ⟨b, o, ha, Nat.lt_of_lt_of_le hlt hb.size, fun i h => FareS.at_below hb hlt (hat i h)⟩
def FareS.flat (l : List FareS) : List Value := l.flatMap FareS.vals
theorem FareS.flat_nil : FareS.flat [] = [] := rfl
theorem FareS.flat_cons (x : FareS) (l : List FareS) : FareS.flat (x :: l) = x.vals ++ FareS.flat l := by simp [FareS.flat]
theorem FareS.flat_append (l m : List FareS) : FareS.flat (l ++ m) = FareS.flat l ++ FareS.flat m := by simp [FareS.flat]
theorem FareS.flat_one (x : FareS) : FareS.flat [x] = x.vals := by simp [FareS.flat]
theorem FareS.flat_len (l : List FareS) : (FareS.flat l).length = l.length * 4 := by
  induction l with
  | nil => rfl
  | cons x l ih => rw [FareS.flat_cons, List.length_append, ih]; simp only [FareS.vals, List.length_cons, List.length_nil]; omega
theorem FareS.flat_cell (l : List FareS) : ∀ u ∈ FareS.flat l, u.oneCell' = true := by
  intro u hu; obtain ⟨x, _, hx⟩ := List.mem_flatMap.1 hu; simp only [FareS.vals, List.mem_cons, List.not_mem_nil, or_false] at hx
  rcases hx with rfl | rfl | rfl | rfl <;> rfl
theorem FareS.at_flat {w : World} {b : Nat} : ∀ (l : List FareS) (o : Nat), (∀ i (h : i < l.length), FareS.at w b (o + i * 4) l[i]) → ∀ j u, (FareS.flat l)[j]? = some u → w.cell? ⟨b, o + j, none⟩ = some u
  | [], _, _, j, u, h => by simp [FareS.flat_nil] at h
  | x :: l, o, hat, j, u, h => by
    rw [FareS.flat_cons] at h
    by_cases hj : j < 4
    · rw [List.getElem?_append_left (by simp only [FareS.vals, List.length_cons, List.length_nil]; omega)] at h
      have h0 := hat 0 (by simp)
      simp only [Nat.zero_mul, Nat.add_zero, List.getElem_cons_zero] at h0
      obtain ⟨g0, g1, g2, g3⟩ := h0
      match j, hj, h with
      | 0, _, h => cases h; exact g0
      | 1, _, h => cases h; exact g1
      | 2, _, h => cases h; exact g2
      | 3, _, h => cases h; exact g3
    · rw [List.getElem?_append_right (by simp only [FareS.vals, List.length_cons, List.length_nil]; omega)] at h
      have := FareS.at_flat l (o + 4) (fun i hi => by have := hat (i + 1) (by simp; omega); simp only [List.getElem_cons_succ] at this; rw [show o + 4 + i * 4 = o + (i + 1) * 4 by omega]; exact this) _ u h
      rw [show o + 4 + (j - x.vals.length) = o + j by simp only [FareS.vals, List.length_cons, List.length_nil]; omega] at this
      exact this
theorem FareS.of_flat {w : World} {b : Nat} : ∀ (l : List FareS) (o : Nat), (∀ j u, (FareS.flat l)[j]? = some u → w.cell? ⟨b, o + j, none⟩ = some u) → ∀ i (h : i < l.length), FareS.at w b (o + i * 4) l[i]
  | [], _, _, i, h => by simp at h
  | x :: l, o, hc, 0, h => by
    simp only [Nat.zero_mul, Nat.add_zero, List.getElem_cons_zero]
    unfold FareS.at
    rw [FareS.flat_cons] at hc
    exact ⟨hc 0 _ rfl, hc 1 _ rfl, hc 2 _ rfl, hc 3 _ rfl⟩
  | x :: l, o, hc, i + 1, h => by
    simp only [List.getElem_cons_succ]
    rw [show o + (i + 1) * 4 = o + 4 + i * 4 by omega]
    refine FareS.of_flat l (o + 4) (fun j u hj => ?_) i (by simp at h; omega)
    rw [show o + 4 + j = o + (j + 4) by omega]
    refine hc _ u ?_
    rw [FareS.flat_cons, List.getElem?_append_right (by simp only [FareS.vals, List.length_cons, List.length_nil]; omega)]
    simpa only [FareS.vals, List.length_cons, List.length_nil, Nat.zero_add, Nat.reduceAdd, Nat.add_sub_cancel] using hj
theorem FareS.sl_own {w : World} {B : Nat} {e : TypeId} {v : Value} {l : List FareS} (h : w.ownsRow B e 4 v l.length (FareS.flat l)) (hpos : 0 < l.length) (hok : ∀ x ∈ l, FareS.ok w x) : ∃ b cap, v = .slice (some ⟨b, 0, none⟩) l.length cap ∧ B ≤ b ∧ FareS.sl w (some ⟨b, 0, none⟩) cap l := by
  rcases h.2 with ⟨_, h2⟩ | ⟨g, cap, cur, hv, hg, hh, hle, hm, _, _⟩
  · omega
  · subst hv
    have hc := h.cells (g := g) rfl
    refine ⟨g, cap, rfl, hg, hle, hm, (fun e => by cases e), fun _ => ⟨g, 0, rfl, (Array.getElem?_eq_some_iff.1 hh).1, ?_⟩, hok⟩
    refine FareS.of_flat l 0 (fun j u hj => ?_)
    rw [← addr_add]; exact hc j u hj

structure RefS where
  id : Int
  ride : Int
  item : Int
  amount : Int

@[reducible] def RefS.vals (x : RefS) : List Value := [.int .i64 x.id, .int .i64 x.ride, .int .i64 x.item, .int .i64 x.amount]
def RefS.at (w : World) (b o : Nat) (x : RefS) : Prop :=
  w.cell? ⟨b, o, none⟩ = some (.int .i64 x.id) ∧ w.cell? ⟨b, o + 1, none⟩ = some (.int .i64 x.ride) ∧ w.cell? ⟨b, o + 2, none⟩ = some (.int .i64 x.item) ∧ w.cell? ⟨b, o + 3, none⟩ = some (.int .i64 x.amount)
def RefS.ok (w : World) (x : RefS) : Prop := I64 x.id ∧ I64 x.ride ∧ I64 x.item ∧ I64 x.amount
def RefS.sl (w : World) (a : Option Addr) (cap : Nat) (xs : List RefS) : Prop :=
  xs.length ≤ cap ∧ cap ≤ maxLen ∧ (a = none → cap = 0) ∧ (0 < xs.length → ∃ b o, a = some ⟨b, o, none⟩ ∧ b < w.heap.size ∧ ∀ i (h : i < xs.length), RefS.at w b (o + i * 4) xs[i]) ∧ ∀ x ∈ xs, RefS.ok w x
theorem RefS.at_below {B : Nat} {w w1 : World} (hb : Below B w w1) {b o : Nat} (hlt : b < B) {x : RefS} (h : RefS.at w b o x) : RefS.at w1 b o x := by
  unfold RefS.at at *; obtain ⟨hc, _⟩ := bcell hb; simp only [hc _ _ hlt]; exact h
theorem RefS.ok_below {w w1 : World} (hb : Below w.heap.size w w1) {x : RefS} (h : RefS.ok w x) : RefS.ok w1 x := by
  unfold RefS.ok at *; obtain ⟨h0, h1, h2, h3⟩ := h; exact ⟨h0, h1, h2, h3⟩
theorem RefS.sl_below {w w1 : World} (hb : Below w.heap.size w w1) {a : Option Addr} {cap : Nat} {xs : List RefS} (h : RefS.sl w a cap xs) : RefS.sl w1 a cap xs := by
  obtain ⟨h1, h2, h0, h3, h4⟩ := h
  refine ⟨h1, h2, h0, fun hp => ?_, fun x hx => RefS.ok_below hb (h4 x hx)⟩
  obtain ⟨b, o, ha, hlt, hat⟩ := h3 hp
  exact ⟨b, o, ha, Nat.lt_of_lt_of_le hlt hb.size, fun i h => RefS.at_below hb hlt (hat i h)⟩
def RefS.flat (l : List RefS) : List Value := l.flatMap RefS.vals
theorem RefS.flat_nil : RefS.flat [] = [] := rfl
theorem RefS.flat_cons (x : RefS) (l : List RefS) : RefS.flat (x :: l) = x.vals ++ RefS.flat l := by simp [RefS.flat]
theorem RefS.flat_append (l m : List RefS) : RefS.flat (l ++ m) = RefS.flat l ++ RefS.flat m := by simp [RefS.flat]
theorem RefS.flat_one (x : RefS) : RefS.flat [x] = x.vals := by simp [RefS.flat]
theorem RefS.flat_len (l : List RefS) : (RefS.flat l).length = l.length * 4 := by
  induction l with
  | nil => rfl
  | cons x l ih => rw [RefS.flat_cons, List.length_append, ih]; simp only [RefS.vals, List.length_cons, List.length_nil]; omega
theorem RefS.flat_cell (l : List RefS) : ∀ u ∈ RefS.flat l, u.oneCell' = true := by
  intro u hu; obtain ⟨x, _, hx⟩ := List.mem_flatMap.1 hu; simp only [RefS.vals, List.mem_cons, List.not_mem_nil, or_false] at hx
  rcases hx with rfl | rfl | rfl | rfl <;> rfl
theorem RefS.at_flat {w : World} {b : Nat} : ∀ (l : List RefS) (o : Nat), (∀ i (h : i < l.length), RefS.at w b (o + i * 4) l[i]) → ∀ j u, (RefS.flat l)[j]? = some u → w.cell? ⟨b, o + j, none⟩ = some u
  | [], _, _, j, u, h => by simp [RefS.flat_nil] at h
  | x :: l, o, hat, j, u, h => by
    rw [RefS.flat_cons] at h
    by_cases hj : j < 4
    · rw [List.getElem?_append_left (by simp only [RefS.vals, List.length_cons, List.length_nil]; omega)] at h
      have h0 := hat 0 (by simp)
      simp only [Nat.zero_mul, Nat.add_zero, List.getElem_cons_zero] at h0
      obtain ⟨g0, g1, g2, g3⟩ := h0
      match j, hj, h with
      | 0, _, h => cases h; exact g0
      | 1, _, h => cases h; exact g1
      | 2, _, h => cases h; exact g2
      | 3, _, h => cases h; exact g3
    · rw [List.getElem?_append_right (by simp only [RefS.vals, List.length_cons, List.length_nil]; omega)] at h
      have := RefS.at_flat l (o + 4) (fun i hi => by have := hat (i + 1) (by simp; omega); simp only [List.getElem_cons_succ] at this; rw [show o + 4 + i * 4 = o + (i + 1) * 4 by omega]; exact this) _ u h
      rw [show o + 4 + (j - x.vals.length) = o + j by simp only [RefS.vals, List.length_cons, List.length_nil]; omega] at this
      exact this
theorem RefS.of_flat {w : World} {b : Nat} : ∀ (l : List RefS) (o : Nat), (∀ j u, (RefS.flat l)[j]? = some u → w.cell? ⟨b, o + j, none⟩ = some u) → ∀ i (h : i < l.length), RefS.at w b (o + i * 4) l[i]
  | [], _, _, i, h => by simp at h
  | x :: l, o, hc, 0, h => by
    simp only [Nat.zero_mul, Nat.add_zero, List.getElem_cons_zero]
    unfold RefS.at
    rw [RefS.flat_cons] at hc
    exact ⟨hc 0 _ rfl, hc 1 _ rfl, hc 2 _ rfl, hc 3 _ rfl⟩
  | x :: l, o, hc, i + 1, h => by
    simp only [List.getElem_cons_succ]
    rw [show o + (i + 1) * 4 = o + 4 + i * 4 by omega]
    refine RefS.of_flat l (o + 4) (fun j u hj => ?_) i (by simp at h; omega)
    rw [show o + 4 + j = o + (j + 4) by omega]
    refine hc _ u ?_
    rw [RefS.flat_cons, List.getElem?_append_right (by simp only [RefS.vals, List.length_cons, List.length_nil]; omega)]
    simpa only [RefS.vals, List.length_cons, List.length_nil, Nat.zero_add, Nat.reduceAdd, Nat.add_sub_cancel] using hj
theorem RefS.sl_own {w : World} {B : Nat} {e : TypeId} {v : Value} {l : List RefS} (h : w.ownsRow B e 4 v l.length (RefS.flat l)) (hpos : 0 < l.length) (hok : ∀ x ∈ l, RefS.ok w x) : ∃ b cap, v = .slice (some ⟨b, 0, none⟩) l.length cap ∧ B ≤ b ∧ RefS.sl w (some ⟨b, 0, none⟩) cap l := by
  rcases h.2 with ⟨_, h2⟩ | ⟨g, cap, cur, hv, hg, hh, hle, hm, _, _⟩
  · omega
  · subst hv
    have hc := h.cells (g := g) rfl
    refine ⟨g, cap, rfl, hg, hle, hm, (fun e => by cases e), fun _ => ⟨g, 0, rfl, (Array.getElem?_eq_some_iff.1 hh).1, ?_⟩, hok⟩
    refine RefS.of_flat l 0 (fun j u hj => ?_)
    rw [← addr_add]; exact hc j u hj

end Go.Proofs.Ytcnnffbpdemoiaa
