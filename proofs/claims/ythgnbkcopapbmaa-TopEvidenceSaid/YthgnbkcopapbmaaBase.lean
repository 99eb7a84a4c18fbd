/-
  Small lemmas that every walk of this seat uses: a call leaves old memory as it was; slices of numbers.
-/
import Derived.Test.YthgnbkcopapbmaaProg
import Derived.WalkKit
import Derived.WalkSpells
import Derived.WalkLawsBesides
import Derived.Lib.Hide
import Derived.BigQuiet
import Derived.Deep.QuietTactic
import Derived.Maps.Own
import Derived.Maps.OwnOps
namespace Go.Proofs.Ythgnbkcopapbmaa
open Go.RowKit
set_option linter.unusedVariables false

theorem hide {p : Prop} (h : p) : Hid p := h

/-- Old cells, and old marks, read as before. -/
theorem bcell {B : Nat} {W w1 : World} (hb : Below B W w1) : (∀ b o, b < B → w1.cell? ⟨b, o, none⟩ = W.cell? ⟨b, o, none⟩) ∧ (∀ b o, b < B → w1.frozen? ⟨b, o, none⟩ = W.frozen? ⟨b, o, none⟩) :=
  ⟨fun b o h => hb.cell (p := ⟨b, o, none⟩) h, fun b o h => hb.frozen (p := ⟨b, o, none⟩) h⟩

theorem below_drewN {B : Nat} {a w : World} (h : Below B a w) (n : Nat) : Below B a (w.drewN n) := ⟨h.os, h.tape, h.output, h.size, h.block⟩

/-- The call returns v, and nothing that was there has turned. -/
def Ret (w : World) (v : Value) (e : Ending) (w' : World) : Prop := e = .returned v ∧ Below w.heap.size w w'

theorem addr_add (b o j : Nat) : (⟨b, o, none⟩ : Addr).add j = ⟨b, o + j, none⟩ := by
  unfold Addr.add; split
  · subst_vars; rfl
  · rfl

def I64 (x : Int) : Prop := -9223372036854775808 ≤ x ∧ x ≤ 9223372036854775807

def SlI (w : World) (a : Option Addr) (cap : Nat) (xs : List Int) : Prop :=
  xs.length ≤ cap ∧ cap ≤ maxLen ∧ (a = none → cap = 0) ∧ (0 < xs.length → ∃ b o, a = some ⟨b, o, none⟩ ∧ b < w.heap.size ∧ ∀ i (h : i < xs.length), w.cell? ⟨b, o + i, none⟩ = some (.int .i64 xs[i])) ∧ ∀ x ∈ xs, I64 x
theorem SlI.below {w w1 : World} (hb : Below w.heap.size w w1) {a : Option Addr} {cap : Nat} {xs : List Int} (h : SlI w a cap xs) : SlI w1 a cap xs := by
  obtain ⟨h1, h2, h0, h3, h4⟩ := h
  refine ⟨h1, h2, h0, fun hp => ?_, h4⟩
  obtain ⟨b, o, ha, hlt, hat⟩ := h3 hp
  exact ⟨b, o, ha, Nat.lt_of_lt_of_le hlt hb.size, fun i h => by rw [(bcell hb).1 _ _ hlt]; exact hat i h⟩


end Go.Proofs.Ythgnbkcopapbmaa
