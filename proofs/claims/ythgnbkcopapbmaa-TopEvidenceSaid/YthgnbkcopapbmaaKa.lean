/-
  Walks on abstract values: the values, how memory holds them, the operations.
-/
import Derived.Test.YthgnbkcopapbmaaMaps
import Derived.Deep.MidRow
import Derived.Deep.AppendLies
import Derived.Below
import Derived.Laws.Externs
import Derived.Laws.BytesArg
import Derived.WideLaws
import Derived.WalkKit
import Derived.WalkLawsBesides
import Derived.DeepKeys
import Derived.Laws.StructEq
namespace Go.Proofs.Ythgnbkcopapbmaa
section
open Go.RowKit
open Nat (reduceAdd reduceEqDiff reduceLT reduceLeDiff reduceSub reducePow reduceMul)
open Int (reduceToNat reduceLE reduceEq)
set_option linter.unusedVariables false
set_option linter.unusedSimpArgs false
set_option linter.unnecessarySimpa false


open Go.MapKept
/-- The kinds of a map's keys: numbers; arrays of numbers. -/
inductive KK where
  | int (q : IntKind)
  | arr (n : Nat) (q : IntKind)
noncomputable instance : DecidableEq KK := fun a b => Classical.propDecidable (a = b)
def isIntB (q : IntKind) : Value → Bool
  | .int q' _ => decide (q' = q)
  | _ => false
/-- Abstract values. -/
inductive PV where
  | sc (v : Value)
  | sl (es : List PV)
  | agg (cs : List PV)
  | tup (vs : List PV)
  | ptr (s o : Nat)
  | own (s ver : Nat)
  | rp (s ver sz i o : Nat)
  | at_ (cs : List PV)
  | mp (s : Nat)
  | win (s ver sz lo n : Nat)
  | clo (f : FuncId) (cs : List PV)
  | bx (p : PV)
  | ifc
  | fm (kk : KK) (m : Value → Option Value)
  | clf (f : FuncId) (cs : List PV)
  | clp (f : FuncId) (s : Nat)
  | dead
def PV.flat : PV → List PV
  | .agg cs => cs
  | p => [p]
def flatL (es : List PV) : List PV := es.flatMap PV.flat
def PV.cellOk : PV → Bool
  | .sc v => v.oneCell'
  | .agg _ | .tup _ | .dead => false
  | _ => true
/-- Numbers are in the range of their kind, strings no longer than can be. -/
def rngB : Value → Bool
  | .int k n => decide (k.min ≤ n) && decide (n ≤ k.max)
  | .string s => decide (s.size ≤ 9223372036854775807)
  | _ => true
/-- A key of a kind. -/
def keyIs : KK → Value → Bool
  | .int q, v => isIntB q v && rngB v
  | .arr n q, .agg vs => decide (vs.size = n) && vs.toList.all fun v => isIntB q v && rngB v
  | _, _ => false
/-- Block b is a map that holds m. -/
def MapIs (kk : KK) (w : World) (b : Nat) (m : Value → Option Value) : Prop :=
  ∃ es clock, w.heap[b]? = some (.map es clock) ∧ Stamped es clock ∧ (∀ e ∈ es.toList, keyIs kk e.key = true) ∧ (∀ k v, m k = some v ↔ ∃ e ∈ es.toList, e.key = k ∧ e.val = v) ∧ ∀ k v, m k = some v → rngB v = true
/-- What a value that leads to no memory that may turn stands for. -/
inductive RepI (M : Nat → Prop) (w : World) : PV → Value → Prop
  | sc (v : Value) : rngB v = true → RepI M w (.sc v) v
  | slE (a : Option Addr) (cap : Nat) : cap ≤ maxLen → (a = none → cap = 0) → RepI M w (.sl []) (.slice a 0 cap)
  | sl (es : List PV) (b o cap sz : Nat) (vs : Nat → Nat → Value) : es ≠ [] → es.length ≤ cap → cap ≤ maxLen → b < w.heap.size → ¬ M b → (∀ e ∈ es, e.flat.length = sz) →
      (∀ (i : Nat) (e : PV) (j : Nat) (p : PV), es[i]? = some e → e.flat[j]? = some p → RepI M w p (vs i j)) → (∀ (i : Nat) (e : PV) (j : Nat) (p : PV), es[i]? = some e → e.flat[j]? = some p → w.cell? ⟨b, o + i * sz + j, none⟩ = some (vs i j)) → RepI M w (.sl es) (.slice (some ⟨b, o, none⟩) es.length cap)
  | agg (cs : List PV) (vs : List Value) : cs.length = vs.length → (∀ (j : Nat) (p : PV) (v : Value), cs[j]? = some p → vs[j]? = some v → RepI M w p v) → RepI M w (.agg cs) (.agg vs.toArray)
  | tup (cs : List PV) (vs : List Value) : cs.length = vs.length → (∀ (j : Nat) (p : PV) (v : Value), cs[j]? = some p → vs[j]? = some v → RepI M w p v) → RepI M w (.tup cs) (.tuple vs.toArray)
  | clo (f : FuncId) (cs : List PV) (vs : List Value) : cs.length = vs.length → (∀ (j : Nat) (p : PV) (v : Value), cs[j]? = some p → vs[j]? = some v → RepI M w p v) → RepI M w (.clo f cs) (.func (.func f) #[] vs.toArray)
  | clf (f : FuncId) (cs : List PV) (vs : List Value) : cs.length = vs.length → (∀ (j : Nat) (p : PV) (v : Value), cs[j]? = some p → vs[j]? = some v → RepI M w p v) → RepI M w (.clf f cs) (.func (.func f) vs.toArray #[])
  | ifc (t : TypeId) (v : Value) : RepI M w .ifc (.iface t v)
  | fm (kk : KK) (m : Value → Option Value) (b : Nat) : b < w.heap.size → ¬ M b → MapIs kk w b m → RepI M w (.fm kk m) (.map (some b))
  | bx (p : PV) (b o : Nat) (v : Value) : b < w.heap.size → ¬ M b → RepI M w p v → w.cell? ⟨b, o, none⟩ = some v → RepI M w (.bx p) (.pointer (some ⟨b, o, none⟩))
structure Bd where
  blk : Nat
  hdr : Value
  ver : Nat
inductive Rep (L : Nat → Prop) (β : Nat → Bd) (M : Nat → Prop) (w : World) : PV → Value → Prop
  | imm (p v) : RepI M w p v → Rep L β M w p v
  | agg (cs : List PV) (vs : List Value) : cs.length = vs.length → (∀ (j : Nat) (p : PV) (v : Value), cs[j]? = some p → vs[j]? = some v → Rep L β M w p v) → Rep L β M w (.agg cs) (.agg vs.toArray)
  | ptr (s o : Nat) : L s → Rep L β M w (.ptr s o) (.pointer (some ⟨(β s).blk, o, none⟩))
  | own (s ver : Nat) (v : Value) : L s → ver ≤ (β s).ver → ((β s).ver = ver → v = (β s).hdr) → v.oneCell' = true → Rep L β M w (.own s ver) v
  | rp (s ver sz i o : Nat) (v : Value) : L s → ver ≤ (β s).ver → ((β s).ver = ver → ∃ b, (β s).hdr.ownBlock = some b ∧ v = .pointer (some ⟨b, i * sz + o, none⟩)) → v.oneCell' = true → Rep L β M w (.rp s ver sz i o) v
  | at_ (cs : List PV) (b o : Nat) (vs : Nat → Value) : b < w.heap.size → ¬ M b → (∀ (j : Nat) (p : PV), cs[j]? = some p → RepI M w p (vs j)) → (∀ (j : Nat) (p : PV), cs[j]? = some p → w.cell? ⟨b, o + j, none⟩ = some (vs j)) → Rep L β M w (.at_ cs) (.pointer (some ⟨b, o, none⟩))
  | mp (s : Nat) : L s → Rep L β M w (.mp s) (.map (some (β s).blk))
  | clp (f : FuncId) (s : Nat) : L s → Rep L β M w (.clp f s) (.func (.func f) #[] #[.pointer (some ⟨(β s).blk, 0, none⟩)])
  | win (s ver sz lo n : Nat) (v : Value) : L s → ver ≤ (β s).ver → ((β s).ver = ver → ∃ a cap, v = .slice a n cap ∧ n ≤ cap ∧ cap ≤ maxLen ∧ (a = none → cap = 0) ∧ (0 < n → ∃ b, (β s).hdr.ownBlock = some b ∧ a = some ⟨b, lo * sz, none⟩)) → v.oneCell' = true → Rep L β M w (.win s ver sz lo n) v
  | dead (v : Value) : Rep L β M w .dead v
/-- Blocks outside M are as they were. -/
structure Kp (M : Nat → Prop) (w w' : World) : Prop where
  size : w.heap.size ≤ w'.heap.size
  block : ∀ k, k < w.heap.size → ¬ M k → w'.heap[k]? = w.heap[k]?
theorem Kp.cell {M : Nat → Prop} {w w' : World} (h : Kp M w w') {b o : Nat} (hb : b < w.heap.size) (hm : ¬ M b) : w'.cell? ⟨b, o, none⟩ = w.cell? ⟨b, o, none⟩ :=
  World.cell?_of_block (w := w) (h.block b hb hm)
/-- What is known of the cells of listed package-level variables: block, what it holds. -/
def globs : List (Nat × (Obj → Prop)) := []
/-- The listed variables lie repeat (first | with_reducible exact H | with_reducible refine Below.setCell ?_ ?_ _ | with_reducible refine Below.alloc ?_ ?_ _ | with_reducible refine Below.drew ?_ | with_reducible refine below_drewN ?_ _ | omega | (simp <;> omega)) and hold what they are listed with. -/
def GlobW (w : World) (H : Nat) : Prop := ∀ g ∈ globs, g.1 < H ∧ ∃ b, w.heap[g.1]? = some b ∧ g.2 b
theorem GlobW.kp {w w' : World} {H : Nat} {N : Nat → Prop} (h : GlobW w H) (hH : H ≤ w.heap.size) (hk : Kp N w w') (hN : ∀ k, N k → H ≤ k) : GlobW w' H := fun g hg => by
  obtain ⟨h1, v, h2, h3⟩ := h g hg
  exact ⟨h1, v, (hk.block _ (Nat.lt_of_lt_of_le h1 hH) (fun hn => absurd (hN _ hn) (Nat.not_le_of_lt h1))).trans h2, h3⟩
theorem GlobW.up {w : World} {H H' : Nat} (h : GlobW w H) (hl : H ≤ H') : GlobW w H' := fun g hg => ⟨Nat.lt_of_lt_of_le (h g hg).1 hl, (h g hg).2⟩
/-- What a walk starts from: a world; the least block that may be its own; the blocks that it may turn. -/
structure Fr where
  w0 : World
  H : Nat
  N : Nat → Prop
  n1 : ∀ k, w0.heap.size ≤ k → N k
  n2 : ∀ k, N k → H ≤ k
  anc : Option Value
  glob : GlobW w0 H
def Fr.bel (F : Fr) (w : World) : Prop := (w.os = F.w0.os ∧ w.tape = F.w0.tape ∧ w.output = F.w0.output) ∧ Kp F.N F.w0 w
def Fr.std (w : World) (g : GlobW w w.heap.size) : Fr := ⟨w, w.heap.size, fun k => w.heap.size ≤ k, fun _ h => h, fun _ h => h, none, g⟩
theorem Fr.globH (F : Fr) {w : World} (h : F.bel w) : GlobW w F.H := F.glob.kp (F.n2 _ (F.n1 _ (Nat.le_refl _))) h.2 F.n2
theorem Fr.globN (F : Fr) {w : World} (h : F.bel w) : GlobW w w.heap.size := (F.globH h).up (Nat.le_trans (F.n2 _ (F.n1 _ (Nat.le_refl _))) h.2.size)
theorem Fr.bel_std {w0 w : World} {g : GlobW w0 w0.heap.size} (h : (Fr.std w0 g).bel w) : Below w0.heap.size w0 w :=
  ⟨h.1.1, h.1.2.1, h.1.2.2, h.2.size, fun k hk => h.2.block k hk (fun hn => absurd hk (Nat.not_lt_of_le hn))⟩
theorem Fr.bel_refl (F : Fr) : F.bel F.w0 := ⟨⟨rfl, rfl, rfl⟩, Nat.le_refl _, fun _ _ _ => rfl⟩
theorem Fr.bel_trans {F : Fr} {w w' : World} {X : Nat → Prop} (h : F.bel w) (hos : w'.os = w.os ∧ w'.tape = w.tape ∧ w'.output = w.output) (hk : Kp X w w') (hX : ∀ k, k < F.w0.heap.size → X k → F.N k) : F.bel w' :=
  ⟨⟨hos.1.trans h.1.1, hos.2.1.trans h.1.2.1, hos.2.2.trans h.1.2.2⟩, Nat.le_trans h.2.size hk.size, fun k hlt hn => (hk.block k (Nat.lt_of_lt_of_le hlt h.2.size) (fun hx => hn (hX k hlt hx))).trans (h.2.block k hlt hn)⟩
theorem Kp.refl (M : Nat → Prop) (w : World) : Kp M w w := ⟨Nat.le_refl _, fun _ _ _ => rfl⟩
theorem RepI.mono {M M' : Nat → Prop} {w w' : World} (hk : Kp M w w') (hM : ∀ k, k < w.heap.size → M' k → M k) {p : PV} {v : Value} (h : RepI M w p v) : RepI M' w' p v := by
  induction h with
  | sc v h => exact .sc v h
  | slE a cap h1 h2 => exact .slE a cap h1 h2
  | sl es b o cap sz vs h0 h1 h2 h3 h4 h5 h6 h7 ih => exact .sl es b o cap sz vs h0 h1 h2 (Nat.lt_of_lt_of_le h3 hk.size) (fun hm => h4 (hM b h3 hm)) h5 ih (fun i e j p he hp => by rw [hk.cell h3 h4]; exact h7 i e j p he hp)
  | agg cs vs h1 h2 ih => exact .agg cs vs h1 ih
  | tup cs vs h1 h2 ih => exact .tup cs vs h1 ih
  | clo f cs vs h1 h2 ih => exact .clo f cs vs h1 ih
  | clf f cs vs h1 h2 ih => exact .clf f cs vs h1 ih
  | ifc t v => exact .ifc t v
  | fm kk m b h1 h2 h3 =>
    obtain ⟨es, clock, g1, g2⟩ := h3
    exact .fm kk m b (Nat.lt_of_lt_of_le h1 hk.size) (fun hm => h2 (hM b h1 hm)) ⟨es, clock, (hk.block b h1 h2).trans g1, g2⟩
  | bx p b o v h1 h2 h3 h4 ih => exact .bx p b o v (Nat.lt_of_lt_of_le h1 hk.size) (fun hm => h2 (hM b h1 hm)) ih (by rw [hk.cell h1 h2]; exact h4)
def BdLe (a b : Bd) : Prop := b.blk = a.blk ∧ ((b.ver = a.ver ∧ b.hdr = a.hdr) ∨ a.ver < b.ver)
theorem Rep.mono {L L' : Nat → Prop} {β β' : Nat → Bd} {M M' : Nat → Prop} {w w' : World} (hL : ∀ s, L s → L' s) (hβ : ∀ s, L s → BdLe (β s) (β' s)) (hk : Kp M w w') (hM : ∀ k, k < w.heap.size → M' k → M k) {p : PV} {v : Value} (h : Rep L β M w p v) : Rep L' β' M' w' p v := by
  induction h with
  | imm p v h => exact .imm p v (h.mono hk hM)
  | agg cs vs h1 h2 ih => exact .agg cs vs h1 ih
  | ptr s o h => have := Rep.ptr s o (hL s h) (L := L') (β := β') (M := M') (w := w'); rw [(hβ s h).1] at this; exact this
  | own s ver v h1 h2 h3 h4 =>
    refine .own s ver v (hL s h1) ?_ (fun e => ?_) h4
    · rcases (hβ s h1).2 with ⟨a, _⟩ | a <;> omega
    · rcases (hβ s h1).2 with ⟨a, b⟩ | a
      · rw [b]; exact h3 (a ▸ e)
      · omega
  | rp s ver sz i o v h1 h2 h3 h4 =>
    refine .rp s ver sz i o v (hL s h1) ?_ (fun e => ?_) h4
    · rcases (hβ s h1).2 with ⟨a, _⟩ | a <;> omega
    · rcases (hβ s h1).2 with ⟨a, b⟩ | a
      · rw [b]; exact h3 (a ▸ e)
      · omega
  | win s ver sz lo n v h1 h2 h3 h4 =>
    refine .win s ver sz lo n v (hL s h1) ?_ (fun e => ?_) h4
    · rcases (hβ s h1).2 with ⟨a, _⟩ | a <;> omega
    · rcases (hβ s h1).2 with ⟨a, b⟩ | a
      · rw [b]; exact h3 (a ▸ e)
      · omega
  | at_ cs b o vs h1 h2 h3 h4 => exact .at_ cs b o vs (Nat.lt_of_lt_of_le h1 hk.size) (fun hm => h2 (hM b h1 hm)) (fun j p hp => (h3 j p hp).mono hk hM) (fun j p hp => by rw [hk.cell h1 h2]; exact h4 j p hp)
  | mp s h => have := Rep.mp s (hL s h) (L := L') (β := β') (M := M') (w := w'); rw [(hβ s h).1] at this; exact this
  | clp f s h => have := Rep.clp f s (hL s h) (L := L') (β := β') (M := M') (w := w'); rw [(hβ s h).1] at this; exact this
  | dead v => exact .dead v
/-- What a walk knows of a block of its own. -/
inductive Box where
  | var (cs : List PV)
  | row (e : TypeId) (sz ver : Nat) (es : List PV)
  | frz (ver : Nat) (es : List PV)
  | mapb (kT : TypeId) (m : Value → Option Value)
  | fix (p : PV)
def mutB (d : Bd) : Box → Nat → Prop
  | .var _, k => k = d.blk
  | .row .., k => d.hdr.ownBlock = some k
  | .frz .., _ => False
  | .fix _, _ => False
  | .mapb .., k => k = d.blk
def BoxR (P : Program) (H : Nat) (L : Nat → Prop) (β : Nat → Bd) (M : Nat → Prop) (w : World) (d : Bd) : Box → Prop
  | .var cs => ∃ (vs : List Value) (ty : TypeId), w.heap[d.blk]? = some (.cells vs.toArray ty (0, 0)) ∧ cs.length = vs.length ∧ ∀ (j : Nat) (p : PV) (v : Value), cs[j]? = some p → vs[j]? = some v → Rep L β M w p v
  | .row e sz ver es => d.ver = ver ∧ 0 < sz ∧ ∃ xs : List Value, w.ownsRow H e sz d.hdr es.length xs ∧ (∀ x ∈ es, x.flat.length = sz) ∧ (∀ (j : Nat) (p : PV) (v : Value), (flatL es)[j]? = some p → xs[j]? = some v → RepI M w p v)
  | .frz ver es => d.ver = ver ∧ RepI M w (.sl es) d.hdr
  | .fix p => RepI M w (.bx p) (.pointer (some ⟨d.blk, 0, none⟩))
  | .mapb kT m => (∃ n, Mv P kT w d.blk n m) ∧ ∀ k v, m k = some v → rngB v = true
def look (μ : List (Nat × Box)) (s : Nat) : Option Box :=
  match μ with
  | [] => none
  | (k, b) :: l => if s = k then some b else look l s
def MM (Mo : Nat → Prop) (μ : List (Nat × Box)) (β : Nat → Bd) : Nat → Prop := fun k => Mo k ∨ ∃ s b, look μ s = some b ∧ mutB (β s) b k
structure Mem (P : Program) (w0 : Fr) (Mo L : Nat → Prop) (β : Nat → Bd) (μ : List (Nat × Box)) (w : World) : Prop where
  mo : ∀ k, Mo k → ¬ w0.N k
  hw : ∀ k, w.heap.size ≤ k → w0.N k
  live : ∀ s b, look μ s = some b → L s
  box : ∀ s b, look μ s = some b → BoxR P w0.H L β (MM Mo μ β) w (β s) b
  base : ∀ s b k, look μ s = some b → mutB (β s) b k → w0.N k ∧ k < w.heap.size
  apart : ∀ s b s' b' k, look μ s = some b → look μ s' = some b' → mutB (β s) b k → mutB (β s') b' k → s = s'
theorem flatL_len {es : List PV} {sz : Nat} (h : ∀ x ∈ es, x.flat.length = sz) : (flatL es).length = es.length * sz := by
  induction es with
  | nil => simp [flatL]
  | cons x l ih =>
    have h1 := ih (fun y hy => h y (by simp [hy]))
    have h2 := h x (by simp)
    simp only [flatL, List.flatMap_cons, List.length_append, List.length_cons] at h1 ⊢
    rw [h2, h1, Nat.add_mul]; omega
theorem flatL_get {es : List PV} {sz : Nat} (h : ∀ x ∈ es, x.flat.length = sz) {i j : Nat} {e p : PV} (he : es[i]? = some e) (hp : e.flat[j]? = some p) : (flatL es)[i * sz + j]? = some p := by
  induction es generalizing i with
  | nil => simp at he
  | cons x l ih =>
    have h2 := h x (by simp)
    simp only [flatL, List.flatMap_cons]
    cases i with
    | zero =>
      simp at he; subst he
      have hj := (List.getElem?_eq_some_iff.1 hp).1
      rw [List.getElem?_append_left (by omega)]; simpa using hp
    | succ i =>
      have := ih (fun y hy => h y (by simp [hy])) (i := i) (by simpa using he)
      rw [List.getElem?_append_right (by rw [h2, Nat.add_mul]; omega), h2]
      rw [show (i + 1) * sz + j - sz = i * sz + j by rw [Nat.add_mul]; omega]
      exact this
end

section
open Go.RowKit
open Nat (reduceAdd reduceEqDiff reduceLT reduceLeDiff reduceSub reducePow reduceMul)
open Int (reduceToNat reduceLE reduceEq)
set_option linter.unusedVariables false
set_option linter.unusedSimpArgs false
set_option linter.unnecessarySimpa false


variable {P : Program} {w0 : Fr} {H : Nat} {Mo L L' : Nat → Prop} {β β' : Nat → Bd} {μ μ' : List (Nat × Box)} {w w' : World}
theorem Mem.rep_step (h : Mem P w0 Mo L β μ w) (s : Nat) (hk : Kp (fun k => ∃ b, look μ s = some b ∧ mutB (β s) b k) w w') (hL : ∀ x, L x → L' x) (hβ : ∀ x, x ≠ s → β' x = β x) (hs : L s → BdLe (β s) (β' s))
    (hμ : ∀ x, x ≠ s → look μ' x = look μ x) (hnew : ∀ b k, look μ' s = some b → mutB (β' s) b k → (∃ b0, look μ s = some b0 ∧ mutB (β s) b0 k) ∨ w.heap.size ≤ k) :
    (∀ p v, RepI (MM Mo μ β) w p v → RepI (MM Mo μ' β') w' p v) ∧ (∀ p v, Rep L β (MM Mo μ β) w p v → Rep L' β' (MM Mo μ' β') w' p v) := by
  have hk' : Kp (MM Mo μ β) w w' := ⟨hk.size, fun k hlt hm => hk.block k hlt (fun ⟨b, h1, h2⟩ => hm (.inr ⟨s, b, h1, h2⟩))⟩
  have hM : ∀ k, k < w.heap.size → MM Mo μ' β' k → MM Mo μ β k := by
    rintro k hlt (hm | ⟨x, b, h1, h2⟩)
    · exact .inl hm
    · by_cases e : x = s
      · subst e
        rcases hnew b k h1 h2 with ⟨b0, h3, h4⟩ | h3
        · exact .inr ⟨x, b0, h3, h4⟩
        · omega
      · rw [hμ x e] at h1; rw [hβ x e] at h2
        exact .inr ⟨x, b, h1, h2⟩
  refine ⟨fun p v hr => hr.mono hk' hM, fun p v hr => hr.mono hL (fun x hx => ?_) hk' hM⟩
  by_cases e : x = s
  · subst e; exact hs hx
  · rw [hβ x e]; exact ⟨rfl, .inl ⟨rfl, rfl⟩⟩
theorem ownsRow_block {e : TypeId} {sz : Nat} {v : Value} {n : Nat} {xs : List Value} (h : w.ownsRow H e sz v n xs) (hb : ∀ k, v.ownBlock = some k → w'.heap[k]? = w.heap[k]?) : w'.ownsRow H e sz v n xs := by
  refine ⟨h.1, ?_⟩
  rcases h.2 with hn | ⟨g, cap, cur, rfl, hg, hgg, rest⟩
  · exact .inl hn
  · exact .inr ⟨g, cap, cur, rfl, hg, by rw [hb g rfl]; exact hgg, rest⟩
theorem BoxR.keep {d : Bd} {b : Box} {M M' : Nat → Prop} (h : BoxR P H L β M w d b) (hb : ∀ k, mutB d b k → w'.heap[k]? = w.heap[k]?) (hi : ∀ p v, RepI M w p v → RepI M' w' p v) (hr : ∀ p v, Rep L β M w p v → Rep L' β' M' w' p v) :
    BoxR P H L' β' M' w' d b := by
  cases b with
  | var cs =>
    obtain ⟨vs, ty, h1, h2, h3⟩ := h
    exact ⟨vs, ty, by rw [hb _ rfl]; exact h1, h2, fun j p v hp hv => hr _ _ (h3 j p v hp hv)⟩
  | row e sz ver es =>
    obtain ⟨h1, h0, xs, h2, h3, h4⟩ := h
    exact ⟨h1, h0, xs, ownsRow_block h2 hb, h3, fun j p v hp hv => hi _ _ (h4 j p v hp hv)⟩
  | frz ver es => exact ⟨h.1, hi _ _ h.2⟩
  | fix p => exact hi _ _ h
  | mapb kT m => obtain ⟨⟨n, h⟩, h2⟩ := h; exact ⟨⟨n, Mv.of_block h (hb _ rfl)⟩, h2⟩
theorem Mem.step (h : Mem P w0 Mo L β μ w) (s : Nat) (hk : Kp (fun k => ∃ b, look μ s = some b ∧ mutB (β s) b k) w w') (hL : ∀ x, L x → L' x) (hβ : ∀ x, x ≠ s → β' x = β x) (hs : L s → BdLe (β s) (β' s))
    (hμ : ∀ x, x ≠ s → look μ' x = look μ x) (hnew : ∀ b k, look μ' s = some b → mutB (β' s) b k → (∃ b0, look μ s = some b0 ∧ mutB (β s) b0 k) ∨ w.heap.size ≤ k)
    (hlt : ∀ b k, look μ' s = some b → mutB (β' s) b k → k < w'.heap.size)
    (hb : ∀ b, look μ' s = some b → L' s ∧ BoxR P w0.H L' β' (MM Mo μ' β') w' (β' s) b) : Mem P w0 Mo L' β' μ' w' := by
  obtain ⟨hi, hr⟩ := h.rep_step s hk hL hβ hs hμ hnew
  refine ⟨h.mo, fun k hk2 => h.hw k (Nat.le_trans hk.size hk2), fun x b hx => ?_, fun x b hx => ?_, fun x b k hx hm => ?_, fun x b x' b' k hx hx' hm hm' => ?_⟩
  · by_cases e : x = s
    · subst e; exact (hb b hx).1
    · rw [hμ x e] at hx; exact hL _ (h.live x b hx)
  · by_cases e : x = s
    · subst e; exact (hb b hx).2
    · rw [hμ x e] at hx
      rw [hβ x e]
      refine (h.box x b hx).keep (fun k hm => ?_) hi hr
      refine hk.block k (h.base x b k hx hm).2 (fun ⟨b0, h1, h2⟩ => e (h.apart x b s b0 k hx h1 hm h2))
  · by_cases e : x = s
    · subst e
      refine ⟨?_, hlt b k hx hm⟩
      rcases hnew b k hx hm with ⟨b0, h1, h2⟩ | h1
      · exact (h.base x b0 k h1 h2).1
      · exact h.hw _ h1
    · rw [hμ x e] at hx; rw [hβ x e] at hm
      exact ⟨(h.base x b k hx hm).1, Nat.lt_of_lt_of_le (h.base x b k hx hm).2 hk.size⟩
  · by_cases e : x = s
    · subst e
      by_cases e' : x' = x
      · exact e'.symm
      · rw [hμ x' e'] at hx'; rw [hβ x' e'] at hm'
        rcases hnew b k hx hm with ⟨b0, h1, h2⟩ | h1
        · exact h.apart x b0 x' b' k h1 hx' h2 hm'
        · have := (h.base x' b' k hx' hm').2; omega
    · rw [hμ x e] at hx; rw [hβ x e] at hm
      by_cases e' : x' = s
      · subst e'
        rcases hnew b' k hx' hm' with ⟨b0, h1, h2⟩ | h1
        · exact h.apart x b x' b0 k hx h1 hm h2
        · have := (h.base x b k hx hm).2; omega
      · rw [hμ x' e'] at hx'; rw [hβ x' e'] at hm'
        exact h.apart x b x' b' k hx hx' hm hm'
/-- Nothing of the walk's own turns: a call, or a draw. -/
theorem Mem.call (h : Mem P w0 Mo L β μ w) (hb : Below w.heap.size w w') : Mem P w0 Mo L β μ w' ∧ (∀ p v, RepI (MM Mo μ β) w p v → RepI (MM Mo μ β) w' p v) ∧ (∀ p v, Rep L β (MM Mo μ β) w p v → Rep L β (MM Mo μ β) w' p v) := by
  have hk : Kp (MM Mo μ β) w w' := ⟨hb.size, fun k hk _ => hb.block k hk⟩
  have hi : ∀ p v, RepI (MM Mo μ β) w p v → RepI (MM Mo μ β) w' p v := fun p v hr => hr.mono hk (fun _ _ h => h)
  have hr : ∀ p v, Rep L β (MM Mo μ β) w p v → Rep L β (MM Mo μ β) w' p v := fun p v hr => hr.mono (fun _ h => h) (fun x _ => ⟨rfl, .inl ⟨rfl, rfl⟩⟩) hk (fun _ _ h => h)
  refine ⟨⟨h.mo, fun k hk2 => h.hw k (Nat.le_trans hb.size hk2), h.live, fun s b hs => ?_, fun s b k hs hm => ⟨(h.base s b k hs hm).1, Nat.lt_of_lt_of_le (h.base s b k hs hm).2 hb.size⟩, h.apart⟩, hi, hr⟩
  exact (h.box s b hs).keep (fun k hm => hb.block k (h.base s b k hs hm).2) hi hr
structure St where
  tm : List (Nat × PV)
  mu : List (Nat × Box)
  nx : Nat
  nt : Nat
def getT (l : List (Nat × PV)) (t : Nat) : PV :=
  match l with
  | [] => .dead
  | (k, p) :: l => if t = k then p else getT l t
def St.put (σ : St) (d : Option Nat) (p : PV) : St :=
  match d with
  | none => σ
  | some d => { σ with tm := (d, if d < σ.nt then p else .dead) :: σ.tm }
def setB (μ : List (Nat × Box)) (s : Nat) (b : Box) : List (Nat × Box) :=
  match μ with
  | [] => [(s, b)]
  | (k, c) :: l => if s = k then (k, b) :: l else (k, c) :: setB l s b
theorem look_setB (μ : List (Nat × Box)) (s : Nat) (b : Box) (x : Nat) : look (setB μ s b) x = if x = s then some b else look μ x := by
  induction μ with
  | nil => simp [setB, look]
  | cons y l ih =>
    obtain ⟨k, c⟩ := y
    simp only [setB]
    split
    · subst_vars
      simp only [look]
      split <;> rfl
    · simp only [look, ih]
      split
      · subst_vars
        rename_i h
        rw [if_neg (fun e => h e.symm)]
      · rfl
def LL (σ : St) : Nat → Prop := fun s => s < σ.nx ∨ (look σ.mu s).isSome = true
/-- The state of a walk stands for a frame and a world. -/
structure Rb (P : Program) (w0 : Fr) (Mo : Nat → Prop) (β : Nat → Bd) (σ : St) (a : Act) (w : World) : Prop where
  mem : Mem P w0 Mo (LL σ) β σ.mu w
  tm : ∀ t, Rep (LL σ) β (MM Mo σ.mu β) w (getT σ.tm t) (a.tmps.getD t undef)
  below : w0.bel w
  nt : σ.nt ≤ a.tmps.size
  defers : a.defers = []
  anc : ∀ h, w0.anc = some h → 0 < σ.nx ∧ ((β 0).ver = 0 → (β 0).hdr = h)
def R (P : Program) (w0 : Fr) (Mo : Nat → Prop) (σ : St) (a : Act) (w : World) : Prop := ∃ β, Rb P w0 Mo β σ a w
theorem put_tm {L : Nat → Prop} {β : Nat → Bd} {M : Nat → Prop} {σ : St} {a : Act} (h : ∀ t, Rep L β M w (getT σ.tm t) (a.tmps.getD t undef)) (hn : σ.nt ≤ a.tmps.size) {d : Option Nat} {p : PV} {v : Value} (hp : Rep L β M w p v) :
    (∀ t, Rep L β M w (getT (σ.put d p).tm t) ((a.put d v).tmps.getD t undef)) ∧ (σ.put d p).nt ≤ (a.put d v).tmps.size ∧ (a.put d v).defers = a.defers := by
  cases d with
  | none => exact ⟨h, hn, rfl⟩
  | some d =>
    refine ⟨fun t => ?_, ?_, rfl⟩
    · simp only [St.put, getT, Act.put]
      by_cases e : t = d
      · subst e
        rw [if_pos rfl]
        split
        · rename_i hlt
          have : t < a.tmps.size := Nat.lt_of_lt_of_le hlt hn
          simp only [Array.getD_eq_getD_getElem?, Array.getElem?_setIfInBounds_self_of_lt this, Option.getD_some]
          exact hp
        · exact .dead _
      · rw [if_neg e]
        have := h t
        simp only [Array.getD_eq_getD_getElem?, Array.getElem?_setIfInBounds_ne (fun e' => e e'.symm)] at this ⊢
        exact this
    · simp only [St.put, Act.put, Array.size_setIfInBounds]; exact hn
end

section
open Go.RowKit
open Nat (reduceAdd reduceEqDiff reduceLT reduceLeDiff reduceSub reducePow reduceMul)
open Int (reduceToNat reduceLE reduceEq)
set_option linter.unusedVariables false
set_option linter.unusedSimpArgs false
set_option linter.unnecessarySimpa false


/-- Operands. -/
inductive AOpd where
  | t (n : Nat)
  | c (p : PV)
def St.ev (σ : St) : AOpd → PV
  | .t n => getT σ.tm n
  | .c p => p
inductive Lf where
  | i (k : IntKind)
  | b
  | s
def Lf.fits : Lf → Value → Bool
  | .i k, .int k' _ => decide (k = k')
  | .b, .bool _ => true
  | .s, .string _ => true
  | _, _ => false
def fitsL : List Lf → List Value → Bool
  | [], [] => true
  | k :: ks, v :: vs => k.fits v && fitsL ks vs
  | _, _ => false
def eqC : Value → Value → Bool
  | .int _ a, .int _ b => a == b
  | .bool a, .bool b => a == b
  | .string a, .string b => a.toList == b.toList
  | _, _ => false
def eqV : List Value → List Value → Bool
  | x :: xs, y :: ys => eqC x y && eqV xs ys
  | _, _ => true
def scsP : List PV → Option (List Value)
  | [] => some []
  | .sc v :: l => match scsP l with
    | some vs => some (v :: vs)
    | none => none
  | _ :: _ => none
def keyV : KK → PV → Option Value
  | .int q, .sc v => if isIntB q v = true then some v else none
  | .arr n q, .agg cs => match scsP cs with
    | some vs => if vs.length = n ∧ vs.all (isIntB q) = true then some (.agg vs.toArray) else none
    | none => none
  | _, _ => none
inductive AOp where
  | mv (x : AOpd)
  | pick (c a b : AOpd)
  | new (cs : List PV)
  | boxv (x : AOpd)
  | build (zero : List PV) (parts : List (Nat × Nat × AOpd))
  | bslice (e sz : Nat) (xs : List AOpd)
  | load (n : Nat) (row : Bool) (x : AOpd)
  | store (n : Nat) (x y : AOpd)
  | faddr (off : Nat) (x : AOpd)
  | fieldv (off n : Nat) (row : Bool) (x : AOpd)
  | iaddr (sz : Nat) (x i : AOpd)
  | iaddrA (sz len : Nat) (x i : AOpd)
  | bin (op : BinOp) (x y : AOpd)
  | beq (neg : Bool) (x y : AOpd)
  | inil (neg : Bool) (x : AOpd)
  | un (op : UnOp) (x : AOpd)
  | eqs (neg : Bool) (ks : List Lf) (x y : AOpd)
  | conv (k : IntKind) (x : AOpd)
  | slice (sz : Nat) (x : AOpd) (lo hi mx : Option AOpd)
  | sidx (x i : AOpd)
  | sslice (x : AOpd) (lo hi : Option AOpd)
  | mk (e sz bytes : Nat) (zero : List PV) (n c : AOpd)
  | ext (i : Nat) (x : AOpd)
  | len (x : AOpd)
  | slen (x : AOpd)
  | append (e sz bytes : Nat) (x y : AOpd)
  | mx (x y : AOpd)
  | mn (x y : AOpd)
  | call (f : FuncId) (xs : List AOpd)
  | callv (x : AOpd) (xs : List AOpd)
  | mkclo (f : FuncId) (x : AOpd)
  | mkfst (f : FuncId) (x : AOpd)
  | copy (sz : Nat) (x y : AOpd)
  | aidx (sz len : Nat) (row : Bool) (x i : AOpd)
  | add64 (x y c : AOpd)
  | bstr (x : AOpd)
  | mkmap (kT : TypeId)
  | mlook (ok : Bool) (kT : TypeId) (kk : KK) (z : Value) (x k : AOpd)
  | mupd (kT : TypeId) (kk : KK) (x k v : AOpd)
structure Delta where
  val : PV
  upd : List (Nat × Box)
  touch : List Nat
/-- Bytes. -/
def byteV (es : List PV) : Option (List Int) := es.mapM fun p => match p with
  | .sc (.int .u8 n) => some n
  | _ => none
def St.app (σ : St) (d : Option Nat) (δ : Delta) : St := { σ.put d δ.val with mu := δ.upd.foldl (fun m sb => setB m sb.1 sb.2) σ.mu }
def boxCells : PV → Option (List PV)
  | .agg cs => some cs
  | p => if p.cellOk then some [p] else none
def setAt {α : Type} (cs : List α) (off : Nat) : List α → List α
  | [] => cs
  | p :: ps => setAt (cs.set off p) (off + 1) ps
def fillP (ev : AOpd → PV) : List PV → List (Nat × Nat × AOpd) → Option (List PV)
  | cs, [] => some cs
  | cs, (off, n, x) :: r =>
    match boxCells (ev x) with
    | some ps => if ps.length = n ∧ off + n ≤ cs.length then fillP ev (setAt cs off ps) r else none
    | none => none
/-- A slice's elements. -/
def slView (mem : Nat → Option Box) : PV → Option (List PV × List Nat)
  | .sl es => some (es, [])
  | .sc (.slice none 0 0) => some ([], [])
  | .own s ver =>
    match mem s with
    | some (.row _ _ v es) => if v = ver then some (es, [s]) else none
    | some (.frz v es) => if v = ver then some (es, [s]) else none
    | _ => none
  | _ => none
/-- A slice that is looked at as one that does not turn any more: the own ones are frozen. -/
def frzUpd (mem : Nat → Option Box) : PV → List (Nat × Box)
  | .own s _ =>
    match mem s with
    | some (.row _ _ v es) => [(s, .frz v es)]
    | _ => []
  | _ => []
def resC (mem : Nat → Option Box) : PV → Option PV
  | .sc (.slice none 0 0) => some (.sl [])
  | .sc v => some (.sc v)
  | .sl es => some (.sl es)
  | .clo f cs => some (.clo f cs)
  | .clf f cs => some (.clf f cs)
  | .bx p => some (.bx p)
  | .ifc => some .ifc
  | .fm kk m => some (.fm kk m)
  | .own s ver =>
    match mem s with
    | some (.row _ _ v es) => if v = ver then some (.sl es) else none
    | some (.frz v es) => if v = ver then some (.sl es) else none
    | _ => none
  | _ => none
def resP (mem : Nat → Option Box) : PV → Option PV
  | .agg cs => (cs.mapM (resC mem)).map .agg
  | p => resC mem p
def frzAll (mem : Nat → Option Box) : PV → List (Nat × Box)
  | .agg cs => cs.flatMap (frzUpd mem)
  | p => frzUpd mem p
def ownId : PV → List Nat
  | .own s _ => [s]
  | _ => []
def ownIds : PV → List Nat
  | .agg cs => cs.flatMap ownId
  | p => ownId p
def binV (op : BinOp) : Value → Value → Option Value
  | .int k a, .int k' b =>
    match op with
    | .shl => if b < 0 then none else some (.int k (k.wrap (a * 2 ^ min b.toNat k.bits)))
    | .shr => if b < 0 then none else some (.int k (a.fdiv (2 ^ min b.toNat k.bits)))
    | op =>
      if k = k' then
        match op with
        | .add => some (.int k (k.wrap (a + b)))
        | .sub => some (.int k (k.wrap (a - b)))
        | .mul => some (.int k (k.wrap (a * b)))
        | .quo => if b = 0 then none else some (.int k (k.wrap (a.tdiv b)))
        | .rem => if b = 0 then none else some (.int k (a.tmod b))
        | .eql => some (.bool (a == b))
        | .neq => some (.bool (a != b))
        | .lss => some (.bool (a < b))
        | .leq => some (.bool (a ≤ b))
        | .gtr => some (.bool (a > b))
        | .geq => some (.bool (a ≥ b))
        | .and => some (.int k (bits .and k a b))
        | .or => some (.int k (bits .or k a b))
        | .xor => some (.int k (bits .xor k a b))
        | .andNot => some (.int k (bits .andNot k a b))
        | _ => none
      else none
  | .string a, .string b =>
    match op with
    | .add => if ((a.size + b.size : Nat) : Int) ≤ 9223372036854775807 then some (.string (a ++ b)) else none
    | .eql => some (.bool (a.toList == b.toList))
    | .neq => some (.bool !(a.toList == b.toList))
    | _ => none
  | _, _ => none
def unV (op : UnOp) : Value → Option Value
  | .int k n => match op with
    | .neg => some (.int k (k.wrap (0 - n)))
    | _ => none
  | .bool b => match op with
    | .not => some (.bool !b)
    | _ => none
  | _ => none
def bound (ev : AOpd → PV) (o : Option AOpd) (d m : Nat) : Option Nat :=
  match o with
  | none => some d
  | some x => match ev x with
    | .sc (.int _ i) => if 0 ≤ i ∧ i.toNat ≤ m then some i.toNat else none
    | _ => none
def AOpd.tmps : AOpd → List Nat
  | .t n => [n]
  | .c _ => []
def AOp.opds : AOp → List AOpd
  | .mv x | .boxv x | .load _ _ x | .faddr _ x | .fieldv _ _ _ x | .un _ x | .conv _ x | .ext _ x | .len x | .slen x | .bstr x | .inil _ x | .mkclo _ x | .mkfst _ x => [x]
  | .pick c a b => [c, a, b]
  | .new _ | .mkmap _ => []
  | .mlook _ _ _ _ x k => [x, k]
  | .mupd _ _ x k v => [x, k, v]
  | .add64 x y c => [x, y, c]
  | .build _ ps => ps.map (·.2.2)
  | .bslice _ _ xs | .call _ xs => xs
  | .callv x xs => x :: xs
  | .store _ x y | .iaddr _ x y | .iaddrA _ _ x y | .bin _ x y | .beq _ x y | .eqs _ _ x y | .sidx x y | .mk _ _ _ _ x y | .append _ _ _ x y | .mx x y | .mn x y | .copy _ x y | .aidx _ _ _ x y => [x, y]
  | .slice _ x lo hi m => x :: (lo.toList ++ hi.toList ++ m.toList)
  | .sslice x lo hi => x :: (lo.toList ++ hi.toList)
def AOp.tmps (o : AOp) : List Nat := o.opds.flatMap AOpd.tmps
/-- What `copy` writes: a row's own slice, or a window of it. -/
def dstV (mem : Nat → Option Box) : PV → Option (Nat × TypeId × Nat × Nat × List PV × Nat × Nat)
  | .own s ver => match mem s with
    | some (.row e sz v es) => if v = ver then some (s, e, sz, v, es, 0, es.length) else none
    | _ => none
  | .win s ver sz lo n => match mem s with
    | some (.row e sz' v es) => if v = ver ∧ sz' = sz ∧ lo + n ≤ es.length then some (s, e, sz', v, es, lo, n) else none
    | _ => none
  | _ => none
def srcV (mem : Nat → Option Box) : PV → Option (List PV × List Nat)
  | .win s ver sz lo n => match mem s with
    | some (.row _ sz' v es) => if v = ver ∧ sz' = sz ∧ lo + n ≤ es.length then some ((es.drop lo).take n, [s]) else none
    | _ => none
  | p => slView mem p
/-- A function value that captures a variable of the walk's own: the variable doesn't turn any more. -/
def cloD (mem : Nat → Option Box) (f : FuncId) : PV → Option Delta
  | .ptr s 0 => match mem s with
    | some (.var [p]) => match resC mem p with
      | some q => some ⟨.clo f [.bx q], frzUpd mem p ++ [(s, .fix q)], s :: ownId p⟩
      | none => none
    | some (.fix q) => some ⟨.clo f [.bx q], [], [s]⟩
    | some (.var _) => some ⟨.clp f s, [], [s]⟩
    | _ => none
  | _ => none
noncomputable def aop (ev : AOpd → PV) (mem : Nat → Option Box) (id : Nat) : AOp → Option Delta
  | .mv x => some ⟨ev x, [], []⟩
  | .pick c a b => match ev c with
    | .sc (.bool t) => some ⟨if t then ev a else ev b, [], []⟩
    | _ => none
  | .new cs => some ⟨.ptr id 0, [(id, .var cs)], []⟩
  | .boxv x => match boxCells (ev x) with
    | some cs => some ⟨.ptr id 0, [(id, .var cs)], []⟩
    | none => none
  | .build z ps => match fillP ev z ps with
    | some cs => some ⟨.agg cs, [], []⟩
    | none => none
  | .bslice e sz xs => match (xs.map ev).mapM (resP mem) with
    | some es => if (es.all fun p => p.flat.length == sz && p.flat.all PV.cellOk) ∧ 0 < sz then some ⟨.own id 0, (xs.map ev).flatMap (frzAll mem) ++ [(id, .row e sz 0 es)], (xs.map ev).flatMap ownIds⟩ else none
    | none => none
  | .load n row x => match ev x with
    | .ptr s o => match mem s with
      | some (.var cs) => if o + n ≤ cs.length then some ⟨if row then .agg ((cs.drop o).take n) else cs.getD o .dead, [], [s]⟩ else none
      | some (.fix q) => if o = 0 ∧ n = 1 ∧ row = false then some ⟨q, [], [s]⟩ else none
      | _ => none
    | .bx q => if n = 1 ∧ row = false then some ⟨q, [], []⟩ else none
    | .at_ cs => if n ≤ cs.length then some ⟨if row then .agg (cs.take n) else cs.getD 0 .dead, [], []⟩ else none
    | .rp s ver sz i o => match mem s with
      | some (.row _ sz' v es) => if v = ver ∧ sz' = sz ∧ i < es.length ∧ o + n ≤ sz then some ⟨if row then .agg (((es.getD i .dead).flat.drop o).take n) else (es.getD i .dead).flat.getD o .dead, [], [s]⟩ else none
      | _ => none
    | _ => none
  | .store n x y => match boxCells (ev y) with
    | some ps => if ps.length = n ∧ (ps.all PV.cellOk) = true then
        match ev x with
        | .ptr s o => match mem s with
          | some (.var cs) => if o + n ≤ cs.length then some ⟨.dead, [(s, .var (setAt cs o ps))], [s]⟩ else none
          | _ => none
        | .rp s ver sz i o => match mem s with
          | some (.row e sz' v es) => match ps.mapM (resC mem) with
            | some qs => if v = ver ∧ sz' = sz ∧ i < es.length ∧ o + n ≤ sz ∧ 0 < n ∧ (frzAll mem (.agg ps)).isEmpty = true then
                some ⟨.dead, [(s, .row e sz v (es.set i (if sz = 1 then qs.getD 0 .dead else .agg (setAt (es.getD i .dead).flat o qs))))], s :: ps.flatMap ownId⟩ else none
            | none => none
          | _ => none
        | _ => none
      else none
    | none => none
  | .faddr off x => match ev x with
    | .ptr s o => some ⟨.ptr s (o + off), [], []⟩
    | .at_ cs => some ⟨.at_ (cs.drop off), [], []⟩
    | .rp s ver sz i o => match mem s with
      | some (.row _ _ v _) => if v = ver then some ⟨.rp s ver sz i (o + off), [], [s]⟩ else none
      | _ => none
    | _ => none
  | .fieldv off n row x => match ev x with
    | .agg cs => if off + n ≤ cs.length then some ⟨if row then .agg ((cs.drop off).take n) else cs.getD off .dead, [], []⟩ else none
    | _ => none
  | .iaddr sz x i => match ev i with
    | .sc (.int _ i) => match ev x with
      | .sl es => if 0 ≤ i ∧ i.toNat < es.length ∧ (es.getD i.toNat .dead).flat.length = sz then some ⟨.at_ (es.getD i.toNat .dead).flat, [], []⟩ else none
      | .own s ver => match mem s with
        | some (.row _ sz' v es) => if v = ver ∧ sz' = sz ∧ 0 ≤ i ∧ i.toNat < es.length then some ⟨.rp s ver sz i.toNat 0, [], [s]⟩ else none
        | some (.frz v es) => if v = ver ∧ 0 ≤ i ∧ i.toNat < es.length ∧ (es.getD i.toNat .dead).flat.length = sz then some ⟨.at_ (es.getD i.toNat .dead).flat, [], [s]⟩ else none
        | _ => none
      | _ => none
    | _ => none
  | .iaddrA sz len x i => match ev i with
    | .sc (.int _ i) => match ev x with
      | .ptr s o => if 0 ≤ i ∧ i.toNat < len then some ⟨.ptr s (o + i.toNat * sz), [], []⟩ else none
      | .at_ cs => if 0 ≤ i ∧ i.toNat < len then some ⟨.at_ (cs.drop (i.toNat * sz)), [], []⟩ else none
      | _ => none
    | _ => none
  | .bin op x y => match ev x, ev y with
    | .sc a, .sc b => match binV op a b with
      | some v => some ⟨.sc v, [], []⟩
      | none => none
    | _, _ => none
  | .beq neg x y => match ev x, ev y with
    | .sc (.bool a), .sc (.bool b) => some ⟨.sc (.bool (if neg then a != b else a == b)), [], []⟩
    | _, _ => none
  | .inil neg x => match ev x with
    | .ifc => some ⟨.sc (.bool neg), [], []⟩
    | .sc .nilIface => some ⟨.sc (.bool (!neg)), [], []⟩
    | _ => none
  | .eqs neg ks x y => match ev x, ev y with
    | .agg cs, .agg ds => match scsP cs, scsP ds with
      | some us, some vs => if (fitsL ks us && fitsL ks vs) = true then some ⟨.sc (.bool (if neg then !eqV us vs else eqV us vs)), [], []⟩ else none
      | _, _ => none
    | _, _ => none
  | .un op x => match ev x with
    | .sc v => match unV op v with
      | some v => some ⟨.sc v, [], []⟩
      | none => none
    | _ => none
  | .conv k x => match ev x with
    | .sc (.int _ n) => some ⟨.sc (.int k (k.wrap n)), [], []⟩
    | _ => none
  | .slice sz x lo hi mx => match slView mem (ev x) with
    | some (es, ts) => match bound ev mx es.length es.length with
      | some m => match bound ev hi es.length m with
        | some h => match bound ev lo 0 h with
          | some l => if (hi.isSome = true ∨ mx.isNone = true) ∧ (es.all fun p => p.flat.length == sz) = true then some ⟨.sl ((es.take h).drop l), frzUpd mem (ev x), ts⟩ else none
          | none => none
        | none => none
      | none => none
    | none => none
  | .sidx x i => match ev x, ev i with
    | .sc (.string s), .sc (.int _ i) => if 0 ≤ i then match s[i.toNat]? with
        | some b => some ⟨.sc (.int .u8 b.toNat), [], []⟩
        | none => none
      else none
    | _, _ => none
  | .sslice x lo hi => match ev x with
    | .sc (.string s) => match bound ev hi s.size s.size with
      | some h => match bound ev lo 0 h with
        | some l => some ⟨.sc (.string (s.extract l h)), [], []⟩
        | none => none
      | none => none
    | _ => none
  | .mk e sz bytes z n c => match ev n, ev c with
    | .sc (.int _ n), .sc (.int _ c) => if 0 ≤ n ∧ n ≤ c ∧ (bytes : Int) * c ≤ 281474976710656 ∧ c ≤ 9223372036854775807 ∧ z.length = sz ∧ 0 < sz ∧ (z.all PV.cellOk) = true then
        some ⟨.own id 0, [(id, .row e sz 0 (List.replicate n.toNat (if sz = 1 then z.getD 0 .dead else .agg z)))], []⟩ else none
    | _, _ => none
  | .ext i x => match ev x with
    | .tup vs => match vs[i]? with
      | some p => some ⟨p, [], []⟩
      | none => none
    | _ => none
  | .len x => match slView mem (ev x) with
    | some (es, ts) => some ⟨.sc (.int .i64 es.length), [], ts⟩
    | none => none
  | .add64 x y c => match ev x, ev y, ev c with
    | .sc (.int .u64 a), .sc (.int .u64 b), .sc (.int .u64 d) => if d ≤ 1 then some ⟨.tup [.sc (.int .u64 ((a + b + d) % 18446744073709551616)), .sc (.int .u64 ((a + b + d) / 18446744073709551616))], [], []⟩ else none
    | _, _, _ => none
  | .bstr x => match slView mem (ev x) with
    | some (es, ts) => match byteV es with
      | some (n :: ns) => some ⟨.sc (.string (strOfNums (n :: ns))), [], ts⟩
      | _ => none
    | none => none
  | .slen x => match ev x with
    | .sc (.string s) => some ⟨.sc (.int .i64 s.size), [], []⟩
    | _ => none
  | .append e sz bytes x y => match slView mem (ev y) with
    | some (ys, ts) => if (ys.all fun p => p.flat.length == sz && p.flat.all PV.cellOk) ∧ 0 < sz then
        match ev x with
        | .own s ver => match mem s with
          | some (.row e' sz' v es) => if v = ver ∧ e' = e ∧ sz' = sz ∧ es.length + ys.length ≤ maxLen ∧ (es.length + ys.length) * bytes ≤ 140737488355328 then some ⟨.own s (ver + 1), [(s, .row e sz (ver + 1) (es ++ ys))], s :: ts⟩ else none
          | _ => none
        | .sc (.slice none 0 0) => if ys.length ≤ maxLen ∧ ys.length * bytes ≤ 140737488355328 then some ⟨.own id 0, [(id, .row e sz 0 ys)], ts⟩ else none
        | _ => none
      else none
    | none => none
  | .mx x y => match ev x, ev y with
    | .sc (.int k a), .sc (.int k' b) => if k = k' then some ⟨.sc (.int k (if b > a then b else a)), [], []⟩ else none
    | _, _ => none
  | .mn x y => match ev x, ev y with
    | .sc (.int k a), .sc (.int k' b) => if k = k' then some ⟨.sc (.int k (if b < a then b else a)), [], []⟩ else none
    | _, _ => none
  | .call _ _ => none
  | .callv _ _ => none
  | .mkclo f x => cloD mem f (ev x)
  | .mkfst f x => match ev x with
    | .sl es => some ⟨.clf f [.sl es], [], []⟩
    | _ => none
  | .copy sz x y => match dstV mem (ev x), srcV mem (ev y) with
    | some (s, e, sz', v, es, lo, n), some (ys, ts) => if sz' = sz ∧ (ys.all fun p => p.flat.length == sz && p.flat.all PV.cellOk) = true then some ⟨.sc (.int .i64 (min ys.length n : Nat)), [(s, .row e sz' v (setAt es lo (ys.take n)))], s :: ts⟩ else none
    | _, _ => none
  | .aidx sz len row x i => match ev x, ev i with
    | .agg cs, .sc (.int _ k) => if 0 ≤ k ∧ k.toNat < len ∧ k.toNat * sz + sz ≤ cs.length then some ⟨if row then .agg ((cs.drop (k.toNat * sz)).take sz) else cs.getD (k.toNat * sz) .dead, [], []⟩ else none
    | _, _ => none
  | .mkmap kT => some ⟨.mp id, [(id, .mapb kT (fun _ => none))], []⟩
  | .mlook ok kT kk z x k => match ev x with
    | .mp s => match mem s with
      | some (.mapb kT' m) => match keyV kk (ev k) with
        | some kv => if kT' = kT then some ⟨if ok then .tup [.sc ((m kv).getD z), .sc (.bool (m kv).isSome)] else .sc ((m kv).getD z), [], [s]⟩ else none
        | none => none
      | _ => none
    | .fm kk' m => match keyV kk (ev k) with
      | some kv => if kk' = kk then some ⟨if ok then .tup [.sc ((m kv).getD z), .sc (.bool (m kv).isSome)] else .sc ((m kv).getD z), [], []⟩ else none
      | none => none
    | _ => none
  | .mupd kT kk x k v => match ev x with
    | .mp s => match mem s with
      | some (.mapb kT' m) => match keyV kk (ev k), ev v with
        | some kv, .sc u => if kT' = kT then some ⟨.dead, [(s, .mapb kT (upd m kv u))], [s]⟩ else none
        | _, _ => none
      | _ => none
    | _ => none
/-- A cut of an own row as a window (from a place on), or as the row itself, shortened (up to a place). -/
def aopw (ev : AOpd → PV) (mem : Nat → Option Box) (sz : Nat) (x : AOpd) (lo hi mx : Option AOpd) : Option Delta :=
  match mx with
  | some _ => none
  | none => match ev x with
    | .own s ver => match mem s with
      | some (.row e sz' v es) => if v = ver ∧ sz' = sz then match bound ev hi es.length es.length with
          | some h => match lo with
            | none => some ⟨.own s (v + 1), [(s, .row e sz' (v + 1) (es.take h))], [s]⟩
            | some lo => match bound ev (some lo) 0 h with
              | some l => some ⟨.win s v sz' l (h - l), [], [s]⟩
              | none => none
          | none => none
        else none
      | _ => none
    | _ => none
theorem find_add64 {fn : Func} (hn : fn.name = "math/bits.Add64") (ho : fn.origin = "") : Extern.findNext fn = none ∧ Extern.find fn = some add64Entry := by
  unfold Extern.findNext Extern.find
  rw [hn, ho]
  exact ⟨by kernel_rfl, by kernel_rfl⟩
theorem byteV_eq {es : List PV} {ns : List Int} (h : byteV es = some ns) : es = ns.map fun n => .sc (.int .u8 n) := by
  unfold byteV at h
  induction es generalizing ns with
  | nil => simp only [List.mapM_nil] at h; cases h; rfl
  | cons p es ih =>
    rw [List.mapM_cons] at h
    obtain ⟨n, hn, h⟩ := Option.bind_eq_some_iff.1 h
    obtain ⟨ns', hns, h⟩ := Option.bind_eq_some_iff.1 h
    cases h
    rw [List.map_cons, ← ih hns]
    split at hn
    · cases hn; rfl
    · cases hn
theorem byte_flatL (l : List Int) : flatL (l.map fun m => .sc (.int .u8 m)) = l.map fun m => .sc (.int .u8 m) := by
  induction l with
  | nil => rfl
  | cons y l ih => simp only [flatL, List.map_cons, List.flatMap_cons] at ih ⊢; rw [ih]; rfl
end

section
open Go.RowKit
open Nat (reduceAdd reduceEqDiff reduceLT reduceLeDiff reduceSub reducePow reduceMul)
open Int (reduceToNat reduceLE reduceEq)
set_option linter.unusedVariables false
set_option linter.unusedSimpArgs false
set_option linter.unnecessarySimpa false


variable {P : Program} {w0 : Fr} {Mo : Nat → Prop} {σ : St} {a : Act} {w : World} {K : Act → World → Prop} {Q : Exit → Act → World → Prop} {L : Nat → Prop} {β : Nat → Bd} {M : Nat → Prop}
theorem RepI.sc_inv {u v : Value} (h : RepI M w (.sc u) v) : v = u := by cases h; rfl
theorem RepI.sc_rng {u v : Value} (h : RepI M w (.sc u) v) : rngB u = true := by cases h; assumption
theorem Rep.sc_inv {u v : Value} (h : Rep L β M w (.sc u) v) : v = u := by
  cases h with
  | imm _ _ h => exact h.sc_inv
theorem Rep.sc_rng {u v : Value} (h : Rep L β M w (.sc u) v) : rngB u = true := by
  cases h with
  | imm _ _ h => exact h.sc_rng
theorem Rep.agg_inv {cs : List PV} {v : Value} (h : Rep L β M w (.agg cs) v) : ∃ vs : List Value, v = .agg vs.toArray ∧ cs.length = vs.length ∧ ∀ (j : Nat) (p : PV) (u : Value), cs[j]? = some p → vs[j]? = some u → Rep L β M w p u := by
  cases h with
  | imm _ _ h =>
    cases h with
    | agg _ vs h1 h2 => exact ⟨vs, rfl, h1, fun j p u hp hu => .imm _ _ (h2 j p u hp hu)⟩
  | agg _ vs h1 h2 => exact ⟨vs, rfl, h1, h2⟩
theorem Rep.tup_inv {cs : List PV} {v : Value} (h : Rep L β M w (.tup cs) v) : ∃ vs : List Value, v = .tuple vs.toArray ∧ cs.length = vs.length ∧ ∀ (j : Nat) (p : PV) (u : Value), cs[j]? = some p → vs[j]? = some u → RepI M w p u := by
  cases h with
  | imm _ _ h =>
    cases h with
    | tup _ vs h1 h2 => exact ⟨vs, rfl, h1, h2⟩
theorem Rep.ifc_inv {v : Value} (h : Rep L β M w .ifc v) : ∃ te u, v = .iface te u := by
  cases h with
  | imm _ _ h => cases h with
    | ifc te u => exact ⟨te, u, rfl⟩
theorem Rep.scalar {v : Value} (h : rngB v = true) : Rep L β M w (.sc v) v := .imm _ _ (.sc v h)
theorem Rep.oneCell {p : PV} {v : Value} (h : Rep L β M w p v) (hc : p.cellOk = true) : v.oneCell' = true := by
  cases h with
  | imm _ _ h => cases h <;> first | exact hc | rfl | simp [PV.cellOk] at hc
  | agg => simp [PV.cellOk] at hc
  | ptr => rfl
  | own s ver v h1 h2 h3 h4 => exact h4
  | rp s ver sz i o v h1 h2 h3 h4 => exact h4
  | win s ver sz lo n v h1 h2 h3 h4 => exact h4
  | at_ => rfl
  | mp => rfl
  | clp => rfl
  | dead => simp [PV.cellOk] at hc
def compOpd : Operand → Option AOpd
  | .tmp t => some (.t t)
  | .const v => if rngB v = true then some (.c (.sc v)) else none
  | .func f => some (.c (.sc (.func (.func f) #[] #[])))
  | .global _ => none
theorem opd_ok {x : Operand} {y : AOpd} (hx : compOpd x = some y) (h : ∀ t, Rep L β M w (getT σ.tm t) (a.tmps.getD t undef)) : Rep L β M w (σ.ev y) (a.eval x) := by
  cases x with
  | tmp t => simp [compOpd] at hx; subst hx; exact h _
  | const v =>
    simp only [compOpd] at hx
    split at hx
    · rename_i hr; cases hx; exact .scalar hr
    · cases hx
  | func f => simp [compOpd] at hx; subst hx; exact .scalar rfl
  | global g => simp [compOpd] at hx
theorem Rb.val {o : Oper} {p : PV} {v : Value} {ts : List Nat} (hR : Rb P w0 Mo β σ a w) (hrun : (execOp a.eval o).run P w = .ok (.value v) w) (hp : Rep (LL σ) β (MM Mo σ.mu β) w p v)
    (hK : ∀ a' w', R P w0 Mo (σ.app o.dst ⟨p, [], ts⟩) a' w' → K a' w') : o.wp P a w K Q := by
  unfold Oper.wp
  rw [hrun, Oper.upon_value]
  refine hK _ _ ?_
  obtain ⟨hm, ht, hb, hn, hd, hanc⟩ := hR
  obtain ⟨h1, h2, h3⟩ := put_tm (d := o.dst) ht hn hp
  have e : σ.app o.dst ⟨p, [], ts⟩ = σ.put o.dst p := by cases o.dst <;> rfl
  have e2 : (σ.put o.dst p).mu = σ.mu := by cases o.dst <;> rfl
  have e3 : LL (σ.put o.dst p) = LL σ := by cases o.dst <;> rfl
  have e4 : (σ.put o.dst p).nx = σ.nx := by cases o.dst <;> rfl
  rw [e]
  exact ⟨β, by rw [e2, e3]; exact hm, by rw [e2, e3]; exact h1, hb, h2, h3.trans hd, by rw [e4]; exact hanc⟩
theorem wrap_rng (k : IntKind) (n : Int) : rngB (.int k (k.wrap n)) = true := by
  cases k <;> simp [rngB, IntKind.wrap, IntKind.min, IntKind.max, IntKind.bits, IntKind.signed] <;> (try split) <;> omega
theorem wrap_min (k : IntKind) : k.min ≤ 0 ∧ 0 ≤ k.max := by cases k <;> decide
theorem tmod_rng {lo hi n : Int} (m : Int) (hl : lo ≤ 0) (hh : 0 ≤ hi) (h1 : lo ≤ n) (h2 : n ≤ hi) : lo ≤ n.tmod m ∧ n.tmod m ≤ hi := by
  cases n with
  | ofNat a =>
    cases m with
    | ofNat b => have := Nat.mod_le a b; simp only [Int.tmod, Int.ofNat_eq_natCast] at *; omega
    | negSucc b => have := Nat.mod_le a b.succ; simp only [Int.tmod, Int.ofNat_eq_natCast] at *; omega
  | negSucc a =>
    cases m with
    | ofNat b => have := Nat.mod_le a.succ b; simp only [Int.tmod, Int.ofNat_eq_natCast] at *; omega
    | negSucc b => have := Nat.mod_le a.succ b.succ; simp only [Int.tmod, Int.ofNat_eq_natCast] at *; omega
theorem fdiv_rng {lo hi n q : Int} (hp : 0 < q) (hl : lo ≤ 0) (hh : 0 ≤ hi) (h1 : lo ≤ n) (h2 : n ≤ hi) : lo ≤ n.fdiv q ∧ n.fdiv q ≤ hi := by
  rw [Int.fdiv_eq_ediv_of_nonneg _ (by omega)]
  rcases Int.le_total 0 n with h | h
  · have g1 := Int.ediv_nonneg h (by omega : 0 ≤ q)
    have g2 := Int.ediv_le_self q h
    omega
  · have g1 : n ≤ n / q := Int.le_ediv_of_mul_le hp (by
      have := Int.mul_le_mul_of_nonpos_left h (by omega : 1 ≤ q)
      omega)
    have g2 : n / q ≤ 0 / q := Int.ediv_le_ediv hp h
    rw [Int.zero_ediv] at g2
    omega
theorem binV_rng {op : BinOp} {x y r : Value} (h : binV op x y = some r) (hx : rngB x = true) (hy : rngB y = true) : rngB r = true := by
  unfold binV at h
  cases x <;> cases y <;> simp only [reduceCtorEq] at h
  · rename_i k n k' m
    simp only [rngB, Bool.and_eq_true, decide_eq_true_eq] at hx
    have hm := wrap_min k
    cases op <;> simp only [] at h <;> (repeat (split at h)) <;> simp only [reduceCtorEq, Option.some.injEq] at h <;> (try subst h) <;> first
      | exact wrap_rng _ _
      | (unfold bits; exact wrap_rng _ _)
      | rfl
      | (simp only [rngB, Bool.and_eq_true, decide_eq_true_eq]; exact tmod_rng m hm.1 hm.2 hx.1 hx.2)
      | (simp only [rngB, Bool.and_eq_true, decide_eq_true_eq]; exact fdiv_rng (Int.pow_pos (by decide)) hm.1 hm.2 hx.1 hx.2)
  · cases op <;> simp only [] at h <;> (repeat (split at h)) <;> simp only [reduceCtorEq, Option.some.injEq] at h <;> (try subst h) <;> first
      | rfl
      | (simp only [rngB, ByteArray.size_append, decide_eq_true_eq]; omega)
theorem unV_rng {op : UnOp} {x r : Value} (h : unV op x = some r) : rngB r = true := by
  unfold unV at h
  cases x <;> simp only [reduceCtorEq] at h <;> cases op <;> simp only [reduceCtorEq, Option.some.injEq] at h <;> subst h <;> first
    | exact wrap_rng _ _
    | rfl
section
variable {o : Oper} {id : Nat} {δ : Delta} {mem : Nat → Option Box} (hR : Rb P w0 Mo β σ a w) (hK : ∀ a' w', R P w0 Mo (σ.app o.dst δ) a' w' → K a' w')
include hR hK
theorem ok_mv {x : Operand} {x' : AOpd} (ho : o.op = .move x ∨ o.op = .assign x) (hx : compOpd x = some x') (h : aop σ.ev mem id (.mv x') = some δ) : o.wp P a w K Q := by
  simp only [aop, Option.some.injEq] at h; subst h
  refine hR.val (v := a.eval x) ?_ (opd_ok hx hR.tm) hK
  rcases ho with ho | ho <;> (unfold execOp; simp only [ho]; rfl)
theorem ok_pick {c x y : Operand} {c' x' y' : AOpd} (ho : o.op = .pick c x y) (hc : compOpd c = some c') (hx : compOpd x = some x') (hy : compOpd y = some y') (h : aop σ.ev mem id (.pick c' x' y') = some δ) : o.wp P a w K Q := by
  simp only [aop] at h
  split at h
  · rename_i t hcv
    simp only [Option.some.injEq] at h; subst h
    have hm := hR.mem
    have ht := hR.tm
    have h1 := opd_ok hc ht; rw [hcv] at h1
    have h2 := h1.sc_inv
    refine Rb.val hR (v := if t then a.eval x else a.eval y) ?_ ?_ hK
    · unfold execOp; simp only [ho, h2]; cases t <;> simp [asBool]
    · cases t
      · exact opd_ok hy ht
      · exact opd_ok hx ht
  · cases h
theorem ok_bin {op : BinOp} {x y : Operand} {t t' : TypeId} {x' y' : AOpd} (ho : o.op = .binOp op t x y t') (hx : compOpd x = some x') (hy : compOpd y = some y') (h : aop σ.ev mem id (.bin op x' y') = some δ) : o.wp P a w K Q := by
  simp only [aop] at h
  split at h
  · rename_i u v hu hv
    split at h
    · rename_i r hr
      simp only [Option.some.injEq] at h; subst h
      have hm := hR.mem
      have ht := hR.tm
      have h1 := opd_ok hx ht; rw [hu] at h1; have h1 := h1.sc_inv
      have h2 := opd_ok hy ht; rw [hv] at h2; have h2 := h2.sc_inv
      refine Rb.val hR (v := r) ?_ (.scalar (binV_rng hr (by have := opd_ok hx ht; rw [hu] at this; exact this.sc_rng) (by have := opd_ok hy ht; rw [hv] at this; exact this.sc_rng))) hK
      unfold execOp; simp only [ho, h1, h2]
      unfold binV at hr
      cases u <;> cases v <;> simp only [reduceCtorEq] at hr
      · rename_i k n k' m
        cases op <;> simp only [] at hr <;> (repeat (split at hr)) <;> simp only [reduceCtorEq, Option.some.injEq] at hr <;> (try subst hr) <;> simp_all [eqGuard, binOp, Op.intArith, Op.intDiv, Op.intCmp, Op.shift, Op.intBits, bits] <;> (try (intro hlt; omega))
      · rename_i s r'
        cases op <;> simp only [] at hr <;> (repeat (split at hr)) <;> simp only [reduceCtorEq, Option.some.injEq] at hr <;> (try subst hr) <;> simp_all [eqGuard, binOp, Op.stringOp, IntKind.max, IntKind.signed, IntKind.bits]
    · cases h
  · cases h
theorem ok_beq {neg : Bool} {x y : Operand} {t t' : TypeId} {x' y' : AOpd} (ho : o.op = .binOp (if neg then .neq else .eql) t x y t') (hu : P.underlying t = some .bool) (hx : compOpd x = some x') (hy : compOpd y = some y') (h : aop σ.ev mem id (.beq neg x' y') = some δ) : o.wp P a w K Q := by
  simp only [aop] at h
  split at h
  · rename_i u v hu' hv
    simp only [Option.some.injEq] at h; subst h
    have hm := hR.mem
    have ht := hR.tm
    have h1 := opd_ok hx ht; rw [hu'] at h1; have h1 := h1.sc_inv
    have h2 := opd_ok hy ht; rw [hv] at h2; have h2 := h2.sc_inv
    refine Rb.val hR (v := .bool (if neg then u != v else u == v)) ?_ (.scalar rfl) hK
    unfold execOp; simp only [ho, h1, h2]
    cases neg <;> simp [eqGuard, binOp, run_equal_bool w t u v hu]
    simp [bne]
  · cases h
theorem ok_inil {neg : Bool} {x : Operand} {t t' : TypeId} {x' : AOpd} {ms : Array (String × TypeId)} (ho : o.op = .binOp (if neg then .neq else .eql) t x (.const .nilIface) t') (hu : P.underlying t = some (.interface ms)) (hx : compOpd x = some x') (h : aop σ.ev mem id (.inil neg x') = some δ) : o.wp P a w K Q := by
  have hms : P.underlying t = some (.interface (P.methodsAt t)) := by
    rw [hu]; unfold Program.methodsAt; simp only [hu]
  have hm := hR.mem
  have ht := hR.tm
  simp only [aop] at h
  split at h
  · rename_i hev
    simp only [Option.some.injEq] at h; subst h
    have h1 := opd_ok hx ht; rw [hev] at h1
    obtain ⟨te, v, hv⟩ := h1.ifc_inv
    refine Rb.val hR (v := .bool neg) ?_ (.scalar rfl) hK
    have hcn : a.eval (.const .nilIface) = .nilIface := rfl
    unfold execOp; simp only [ho, hv, hcn]
    cases neg <;> simp [eqGuard, binOp, run_equal_held_nil w t te v hms]
  · rename_i hev
    simp only [Option.some.injEq] at h; subst h
    have h1 := opd_ok hx ht; rw [hev] at h1
    have h2 := h1.sc_inv
    refine Rb.val hR (v := .bool !neg) ?_ (.scalar rfl) hK
    have hcn : a.eval (.const .nilIface) = .nilIface := rfl
    unfold execOp; simp only [ho, h2, hcn]
    cases neg <;> simp [eqGuard, binOp, run_equal_nil_nil w t hms]
  · cases h
theorem ok_un {op : UnOp} {x : Operand} {t : TypeId} {x' : AOpd} (ho : o.op = .unOp op t x) (hx : compOpd x = some x') (h : aop σ.ev mem id (.un op x') = some δ) : o.wp P a w K Q := by
  simp only [aop] at h
  split at h
  · rename_i u hu
    split at h
    · rename_i r hr
      simp only [Option.some.injEq] at h; subst h
      have hm := hR.mem
      have ht := hR.tm
      have h1 := opd_ok hx ht; rw [hu] at h1; have h1 := h1.sc_inv
      refine Rb.val hR (v := r) ?_ (.scalar (unV_rng hr)) hK
      unfold execOp; simp only [ho, h1]
      unfold unV at hr
      cases u <;> simp only [reduceCtorEq] at hr <;> cases op <;> simp only [reduceCtorEq, Option.some.injEq] at hr <;> subst hr <;> simp [Op.unary, Op.intArith]
    · cases h
  · cases h
theorem ok_conv {s d : TypeId} {k : IntKind} {x : Operand} {x' : AOpd} (ho : o.op = .convert s d x) (hs : ∃ ds, P.underlying s = some ds) (hu : P.underlying d = some (.int k)) (hx : compOpd x = some x') (h : aop σ.ev mem id (.conv k x') = some δ) : o.wp P a w K Q := by
  simp only [aop] at h
  split at h
  · rename_i k' n hn
    simp only [Option.some.injEq] at h; subst h
    have hm := hR.mem
    have ht := hR.tm
    have h1 := opd_ok hx ht; rw [hn] at h1; have h1 := h1.sc_inv
    refine Rb.val hR (v := .int k (k.wrap n)) ?_ (.scalar (wrap_rng k n)) hK
    obtain ⟨ds, hs⟩ := hs
    unfold execOp; simp only [ho, h1]
    simp [convert, run_underlying hs, run_underlying hu, Conv.intToInt]
  · cases h
theorem ok_ext {i : Nat} {x : Operand} {x' : AOpd} (ho : o.op = .extract x i) (hx : compOpd x = some x') (h : aop σ.ev mem id (.ext i x') = some δ) : o.wp P a w K Q := by
  simp only [aop] at h
  split at h
  · rename_i vs hvs
    split at h
    · rename_i p hp
      simp only [Option.some.injEq] at h; subst h
      have hm := hR.mem
      have ht := hR.tm
      have h1 := opd_ok hx ht; rw [hvs] at h1
      obtain ⟨us, he, hl, hr'⟩ := h1.tup_inv
      have hi := (List.getElem?_eq_some_iff.1 hp).1
      refine Rb.val hR (v := us[i]'(by omega)) ?_ ?_ hK
      · unfold execOp; simp only [ho, he]
        simp [Instr.extract, List.getElem?_eq_getElem (show i < us.length by omega)]
      · exact .imm _ _ (hr' i p _ hp (List.getElem?_eq_getElem (by omega)))
    · cases h
  · cases h
theorem ok_mx {x y : Operand} {ts : Array TypeId} {x' y' : AOpd} (ho : o.op = .call { callee := .builtin .max, args := #[x, y], argTypes := ts }) (hx : compOpd x = some x') (hy : compOpd y = some y') (h : aop σ.ev mem id (.mx x' y') = some δ) : o.wp P a w K Q := by
  simp only [aop] at h
  split at h
  · rename_i k u k' v hu hv
    split at h
    rotate_left
    · cases h
    rename_i hkk
    subst hkk
    simp only [Option.some.injEq] at h; subst h
    have hm := hR.mem
    have ht := hR.tm
    have h1 := opd_ok hx ht; rw [hu] at h1; have h1 := h1.sc_inv
    have h2 := opd_ok hy ht; rw [hv] at h2; have h2 := h2.sc_inv
    have h3 := opd_ok hx ht; rw [hu] at h3
    have h4 := opd_ok hy ht; rw [hv] at h4
    refine Rb.val hR (v := .int k (if v > u then v else u)) ?_ (.scalar ?_) hK
    rotate_left
    · split
      · exact h4.sc_rng
      · exact h3.sc_rng
    unfold execOp; simp only [ho]
    simp [resolve, invoke, builtin, h1, h2, Builtin.max_, Builtin.max2]
  · cases h
theorem ok_mn {x y : Operand} {ts : Array TypeId} {x' y' : AOpd} (ho : o.op = .call { callee := .builtin .min, args := #[x, y], argTypes := ts }) (hx : compOpd x = some x') (hy : compOpd y = some y') (h : aop σ.ev mem id (.mn x' y') = some δ) : o.wp P a w K Q := by
  simp only [aop] at h
  split at h
  · rename_i k u k' v hu hv
    split at h
    rotate_left
    · cases h
    rename_i hkk
    subst hkk
    simp only [Option.some.injEq] at h; subst h
    have hm := hR.mem
    have ht := hR.tm
    have h1 := opd_ok hx ht; rw [hu] at h1; have h1 := h1.sc_inv
    have h2 := opd_ok hy ht; rw [hv] at h2; have h2 := h2.sc_inv
    have h3 := opd_ok hx ht; rw [hu] at h3
    have h4 := opd_ok hy ht; rw [hv] at h4
    refine Rb.val hR (v := .int k (if v < u then v else u)) ?_ (.scalar ?_) hK
    rotate_left
    · split
      · exact h4.sc_rng
      · exact h3.sc_rng
    unfold execOp; simp only [ho]
    simp [resolve, invoke, builtin, h1, h2, Builtin.min_, Builtin.min2]
  · cases h
theorem ok_slen {t : TypeId} {x : Operand} {x' : AOpd} (ho : o.op = .call { callee := .builtin .len, args := #[x], argTypes := #[t] }) (hu : P.underlying t = some .string) (hx : compOpd x = some x') (h : aop σ.ev mem id (.slen x') = some δ) : o.wp P a w K Q := by
  simp only [aop] at h
  split at h
  · rename_i s hs
    simp only [Option.some.injEq] at h; subst h
    have hm := hR.mem
    have ht := hR.tm
    have h1 := opd_ok hx ht; rw [hs] at h1; have h1 := h1.sc_inv
    refine Rb.val hR (v := .int .i64 s.size) ?_ (.scalar (by have := opd_ok hx ht; rw [hs] at this; have := this.sc_rng; simp only [rngB, decide_eq_true_eq] at this; simp [rngB, IntKind.min, IntKind.max, IntKind.bits, IntKind.signed]; omega)) hK
    unfold execOp; simp only [ho]
    simp [resolve, invoke, builtin, h1, Builtin.len_, run_underlying hu, goInt]
  · cases h
theorem ok_sidx {t : TypeId} {x i : Operand} {x' i' : AOpd} (ho : o.op = .index t x i) (hu : P.underlying t = some .string) (hx : compOpd x = some x') (hi : compOpd i = some i') (h : aop σ.ev mem id (.sidx x' i') = some δ) : o.wp P a w K Q := by
  simp only [aop] at h
  split at h
  · rename_i s k n hs hn
    split at h
    · rename_i h0
      split at h
      · rename_i b hb
        simp only [Option.some.injEq] at h; subst h
        have hm := hR.mem
        have ht := hR.tm
        have h1 := opd_ok hx ht; rw [hs] at h1; have h1 := h1.sc_inv
        have h2 := opd_ok hi ht; rw [hn] at h2; have h2 := h2.sc_inv
        refine Rb.val hR (v := .int .u8 b.toNat) ?_ (.scalar (by have := b.toNat_lt; simp [rngB, IntKind.min, IntKind.max, IntKind.bits, IntKind.signed]; omega)) hK
        unfold execOp; simp only [ho, h1, h2]
        simp [Instr.index, asIntOf, run_underlying hu, h0, hb]
      · cases h
    · cases h
  · cases h
end
end

section
open Go.RowKit
open Nat (reduceAdd reduceEqDiff reduceLT reduceLeDiff reduceSub reducePow reduceMul)
open Int (reduceToNat reduceLE reduceEq)
set_option linter.unusedVariables false
set_option linter.unusedSimpArgs false
set_option linter.unnecessarySimpa false


variable {P : Program} {w0 : Fr} {Mo : Nat → Prop} {σ : St} {a : Act} {w : World} {K : Act → World → Prop} {Q : Exit → Act → World → Prop} {L : Nat → Prop} {β : Nat → Bd} {M : Nat → Prop}
def leavesF (lf : TypeId → Option (List Lf)) (P : Program) : List Field → Nat → Option (List Lf)
  | [], _ => some []
  | f :: fs, off =>
    if f.offset = off ∧ f.name ≠ "_" then
      match lf f.type with
      | some ks => if (P.info? f.type).isSome = true ∧ P.cellsOf f.type = ks.length then
          match leavesF lf P fs (off + ks.length) with
          | some r => some (ks ++ r)
          | none => none
        else none
      | none => none
    else none
def leavesAt (P : Program) : Nat → TypeId → Option (List Lf)
  | 0, _ => none
  | d + 1, t => match P.underlying t with
    | some (.int k) => some [.i k]
    | some .bool => some [.b]
    | some .string => some [.s]
    | some (.struct fs) => if P.stoodInHeld t = false then leavesF (leavesAt P d) P fs.toList 0 else none
    | _ => none
def wrapV (P : Program) (t : TypeId) (vs : List Value) : Value :=
  match P.underlying t with
  | some (.struct _) => .agg vs.toArray
  | _ => vs.headD undef
theorem fitsL_len : ∀ {ks : List Lf} {vs : List Value}, fitsL ks vs = true → vs.length = ks.length
  | [], [], _ => rfl
  | _ :: _, _ :: _, h => by simp only [fitsL, Bool.and_eq_true] at h; simp [fitsL_len h.2]
  | [], _ :: _, h => by simp [fitsL] at h
  | _ :: _, [], h => by simp [fitsL] at h
theorem fitsL_app : ∀ {ks ls : List Lf} {vs : List Value}, fitsL (ks ++ ls) vs = true → fitsL ks (vs.take ks.length) = true ∧ fitsL ls (vs.drop ks.length) = true
  | [], _, _, h => ⟨by simp [fitsL], by simpa using h⟩
  | k :: ks, ls, [], h => by simp [fitsL] at h
  | k :: ks, ls, v :: vs, h => by
    simp only [List.cons_append, fitsL, Bool.and_eq_true] at h
    obtain ⟨h1, h2⟩ := fitsL_app h.2
    simp only [List.length_cons, List.take_succ_cons, List.drop_succ_cons, fitsL, Bool.and_eq_true]
    exact ⟨⟨h.1, h1⟩, h2⟩
theorem eqV_split : ∀ (n : Nat) (xs ys : List Value), eqV xs ys = (eqV (xs.take n) (ys.take n) && eqV (xs.drop n) (ys.drop n))
  | 0, _, _ => by simp [eqV]
  | n + 1, [], ys => by simp [eqV]
  | n + 1, x :: xs, [] => by simp [eqV]
  | n + 1, x :: xs, y :: ys => by simp only [List.take_succ_cons, List.drop_succ_cons, eqV]; rw [eqV_split n xs ys, Bool.and_assoc]
theorem part_leaf {d : Nat} {t : TypeId} {ks : List Lf} (h : leavesAt P d t = some ks) (hi : (P.info? t).isSome = true) (hs : P.cellsOf t = ks.length) {xs : List Value} {off : Nat} (hf : fitsL ks ((xs.drop off).take ks.length) = true) (w : World) :
    (part t xs.toArray off).run P w = .ok (wrapV P t ((xs.drop off).take ks.length)) w := by
  cases d with
  | zero => simp [leavesAt] at h
  | succ d =>
    have one : ∀ (k : Lf), ks = [k] → ∃ v, xs[off]? = some v ∧ ((xs.drop off).take ks.length).headD undef = v := by
      rintro k rfl
      have := fitsL_len hf
      simp at this
      have ho : off < xs.length := by omega
      refine ⟨xs[off], List.getElem?_eq_getElem ho, ?_⟩
      rw [List.drop_eq_getElem_cons ho]; rfl
    unfold leavesAt at h
    split at h
    · rename_i k hu
      obtain ⟨v, h1, h2⟩ := one _ (Option.some.inj h).symm
      have hw : wrapV P t ((xs.drop off).take ks.length) = v := by unfold wrapV; simp only [hu]; exact h2
      rw [hw]; exact run_part_plain w (by simp [Program.plainKey, hu]) (by simpa using h1)
    · rename_i hu
      obtain ⟨v, h1, h2⟩ := one _ (Option.some.inj h).symm
      have hw : wrapV P t ((xs.drop off).take ks.length) = v := by unfold wrapV; simp only [hu]; exact h2
      rw [hw]; exact run_part_plain w (by simp [Program.plainKey, hu]) (by simpa using h1)
    · rename_i hu
      obtain ⟨v, h1, h2⟩ := one _ (Option.some.inj h).symm
      have hw : wrapV P t ((xs.drop off).take ks.length) = v := by unfold wrapV; simp only [hu]; exact h2
      rw [hw]; exact run_part_plain w (by simp [Program.plainKey, hu]) (by simpa using h1)
    · rename_i fs hu
      have hw : wrapV P t ((xs.drop off).take ks.length) = .agg ((xs.drop off).take ks.length).toArray := by unfold wrapV; simp only [hu]
      rw [hw]
      obtain ⟨i, hi⟩ := Option.isSome_iff_exists.1 hi
      have he : xs.toArray.extract off (off + ks.length) = ((xs.drop off).take ks.length).toArray := by
        apply Array.ext'
        simp [List.extract]
      simp [part, isAgg, run_underlying hu, run_sizeOf w hi, hs, he]
    · cases h
theorem fits_i {k : IntKind} {v : Value} (h : (Lf.i k).fits v = true) : ∃ n, v = .int k n := by
  unfold Lf.fits at h; split at h <;> simp_all
theorem fits_b {v : Value} (h : Lf.b.fits v = true) : ∃ n, v = .bool n := by
  unfold Lf.fits at h; split at h <;> simp_all
theorem fits_s {v : Value} (h : Lf.s.fits v = true) : ∃ n, v = .string n := by
  unfold Lf.fits at h; split at h <;> simp_all
theorem fitsOne {k : Lf} {xs : List Value} (h : fitsL [k] xs = true) : ∃ x, xs = [x] ∧ k.fits x = true := by
  match xs, h with
  | [x], h => simp [fitsL] at h; exact ⟨x, rfl, h⟩
  | [], h => simp [fitsL] at h
  | _ :: _ :: _, h => simp [fitsL] at h
theorem equalIn_leaf (P : Program) : ∀ (d dd : Nat) (t : TypeId) (ks : List Lf) (xs ys : List Value), leavesAt P d t = some ks → d ≤ dd → fitsL ks xs = true → fitsL ks ys = true → ∀ w : World, (Op.equalIn dd t (wrapV P t xs) (wrapV P t ys)).run P w = .ok (eqV xs ys) w
  | 0, _, _, _, _, _, h, _, _, _, _ => by simp [leavesAt] at h
  | d + 1, 0, _, _, _, _, _, h, _, _, _ => by omega
  | d + 1, dd + 1, t, ks, xs, ys, h, hd, hx, hy, w => by
    unfold leavesAt at h
    split at h
    · rename_i k hu
      cases h
      obtain ⟨x, rfl, hx2⟩ := fitsOne hx
      obtain ⟨y, rfl, hy2⟩ := fitsOne hy
      have e1 : wrapV P t [x] = x := by simp [wrapV, hu]
      have e2 : wrapV P t [y] = y := by simp [wrapV, hu]
      rw [e1, e2]
      obtain ⟨x, rfl⟩ := fits_i hx2
      obtain ⟨y, rfl⟩ := fits_i hy2
      rw [run_equalIn_int _ _ _ _ _ _ _ hu]; simp [eqV, eqC]
    · rename_i hu
      cases h
      obtain ⟨x, rfl, hx2⟩ := fitsOne hx
      obtain ⟨y, rfl, hy2⟩ := fitsOne hy
      have e1 : wrapV P t [x] = x := by simp [wrapV, hu]
      have e2 : wrapV P t [y] = y := by simp [wrapV, hu]
      rw [e1, e2]
      obtain ⟨x, rfl⟩ := fits_b hx2
      obtain ⟨y, rfl⟩ := fits_b hy2
      rw [run_equalIn_bool' _ _ _ _ _ hu]; simp [eqV, eqC]
    · rename_i hu
      cases h
      obtain ⟨x, rfl, hx2⟩ := fitsOne hx
      obtain ⟨y, rfl, hy2⟩ := fitsOne hy
      have e1 : wrapV P t [x] = x := by simp [wrapV, hu]
      have e2 : wrapV P t [y] = y := by simp [wrapV, hu]
      rw [e1, e2]
      obtain ⟨x, rfl⟩ := fits_s hx2
      obtain ⟨y, rfl⟩ := fits_s hy2
      rw [run_equalIn_string _ _ _ _ _ hu]; simp [eqV, eqC]
    · rename_i fs hu
      split at h
      · rename_i hst
        have e1 : wrapV P t xs = .agg xs.toArray := by simp [wrapV, hu]
        have e2 : wrapV P t ys = .agg ys.toArray := by simp [wrapV, hu]
        have hfo : P.fieldsOf t = fs := by simp [Program.fieldsOf, hu]
        rw [e1, e2, run_equalIn_struct w dd t _ _ (by rw [hfo]; exact hu) hst, hfo]
        have main : ∀ (fl : List Field) (off : Nat) (ks : List Lf), leavesF (leavesAt P d) P fl off = some ks → fitsL ks (xs.drop off) = true → fitsL ks (ys.drop off) = true → (Op.eqFields dd xs.toArray ys.toArray fl).run P w = .ok (eqV (xs.drop off) (ys.drop off)) w := by
          intro fl
          induction fl with
          | nil =>
            intro off ks h hx hy
            simp only [leavesF, Option.some.injEq] at h; subst h
            have := fitsL_len hx
            rw [List.eq_nil_of_length_eq_zero this]
            simp [Op.eqFields, eqV]
          | cons f fl ih =>
            intro off ks h hx hy
            unfold leavesF at h
            split at h
            · rename_i hf
              split at h
              · rename_i k1 hk1
                split at h
                · rename_i hi
                  split at h
                  · rename_i r hr
                    cases h
                    obtain ⟨a1, a2⟩ := fitsL_app hx
                    obtain ⟨b1, b2⟩ := fitsL_app hy
                    rw [List.drop_drop] at a2 b2
                    rw [eqV_split k1.length (xs.drop off) (ys.drop off), List.drop_drop, List.drop_drop]
                    simp only [Op.eqFields, hf.2, ne_eq, not_false_eq_true, if_true, Sem.run_bind, hf.1, part_leaf hk1 hi.1 hi.2 a1, part_leaf hk1 hi.1 hi.2 b1, Result.andThen_ok, equalIn_leaf P d dd _ _ _ _ hk1 (by omega) a1 b1]
                    cases eqV ((xs.drop off).take k1.length) ((ys.drop off).take k1.length)
                    · simp
                    · simp only [Bool.not_true, Bool.false_eq_true, if_false, Bool.true_and]
                      exact ih _ _ hr a2 b2
                  · cases h
                · cases h
              · cases h
            · cases h
        exact main fs.toList 0 ks h (by simpa using hx) (by simpa using hy)
      · cases h
    · cases h
theorem scsP_some : ∀ {cs : List PV} {us : List Value}, scsP cs = some us → cs = us.map .sc
  | [], us, h => by simp [scsP] at h; subst h; rfl
  | p :: l, us, h => by
    cases p <;> simp only [scsP, reduceCtorEq] at h
    split at h
    · rename_i vs hvs
      cases h
      rw [scsP_some hvs]; rfl
    · cases h
theorem aggSc_val {cs : List PV} {us : List Value} {v : Value} (h : Rep L β M w (.agg cs) v) (hs : scsP cs = some us) : v = .agg us.toArray := by
  obtain ⟨vs, rfl, h1, h2⟩ := h.agg_inv
  have e := scsP_some hs
  subst e
  congr 1
  apply Array.ext'
  simp only
  rw [List.length_map] at h1
  refine List.ext_getElem h1.symm (fun j hj hj' => ?_)
  have := h2 j (.sc us[j]) vs[j] (by rw [List.getElem?_map, List.getElem?_eq_getElem hj']; rfl) (List.getElem?_eq_getElem _)
  exact this.sc_inv
section
variable {o : Oper} {id : Nat} {δ : Delta} {mem : Nat → Option Box} (hR : Rb P w0 Mo β σ a w) (hK : ∀ a' w', R P w0 Mo (σ.app o.dst δ) a' w' → K a' w')
include hR hK
theorem ok_eqs {neg : Bool} {x y : Operand} {t t' : TypeId} {ks : List Lf} {x' y' : AOpd} (ho : o.op = .binOp (if neg then .neq else .eql) t x y t') (hl : leavesAt P 20 t = some ks) (hst : ∃ fs, P.underlying t = some (.struct fs)) (hg : P.eqGuardType P.depth t = false) (hx : compOpd x = some x') (hy : compOpd y = some y') (h : aop σ.ev mem id (.eqs neg ks x' y') = some δ) : o.wp P a w K Q := by
  simp only [aop] at h
  split at h
  · rename_i cs ds ha hb
    split at h
    · rename_i us vs hu hv
      split at h
      · rename_i hf
        simp only [Option.some.injEq] at h; subst h
        rw [Bool.and_eq_true] at hf
        have hm := hR.mem
        have ht := hR.tm
        have h1 := opd_ok hx ht; rw [ha] at h1; have h1 := aggSc_val h1 hu
        have h2 := opd_ok hy ht; rw [hb] at h2; have h2 := aggSc_val h2 hv
        obtain ⟨fs, hst⟩ := hst
        have key := equalIn_leaf P 20 10000 t ks us vs hl (by omega) hf.1 hf.2 w
        have e1 : wrapV P t us = .agg us.toArray := by simp [wrapV, hst]
        have e2 : wrapV P t vs = .agg vs.toArray := by simp [wrapV, hst]
        rw [e1, e2] at key
        refine Rb.val hR (v := .bool (if neg then !eqV us vs else eqV us vs)) ?_ (.scalar rfl) hK
        unfold execOp; simp only [ho, h1, h2]
        cases neg
        · simp [Sem.run_bind, run_eqGuard_agg w _ _ _ _ _ _ hg, run_eql_struct, key]
        · simp [Sem.run_bind, run_eqGuard_agg w _ _ _ _ _ _ hg, run_neq_struct, key]
      · cases h
    · cases h
  · cases h
end
end

section
open Go.RowKit
open Nat (reduceAdd reduceEqDiff reduceLT reduceLeDiff reduceSub reducePow reduceMul)
open Int (reduceToNat reduceLE reduceEq)
set_option linter.unusedVariables false
set_option linter.unusedSimpArgs false
set_option linter.unnecessarySimpa false


variable {P : Program} {w0 : Fr} {Mo : Nat → Prop} {σ : St} {a : Act} {w w' : World} {K : Act → World → Prop} {Q : Exit → Act → World → Prop} {L : Nat → Prop} {β : Nat → Bd} {M : Nat → Prop}
def St.upd (σ : St) (l : List (Nat × Box)) : St := { σ with mu := l.foldl (fun m sb => setB m sb.1 sb.2) σ.mu }
theorem app_eq (σ : St) (d : Option Nat) (δ : Delta) : σ.app d δ = (σ.upd δ.upd).put d δ.val := by cases d <;> rfl
theorem upd_one (σ : St) (s : Nat) (b : Box) : (σ.upd [(s, b)]).mu = setB σ.mu s b := rfl
theorem LL_upd (σ : St) (s : Nat) (b : Box) (x : Nat) : LL (σ.upd [(s, b)]) x ↔ LL σ x ∨ x = s := by
  simp only [LL, upd_one, look_setB]
  show x < σ.nx ∨ _ ↔ _
  by_cases e : x = s
  · simp [e]
  · simp [e]
/-- One block of the walk's own turns, or is new. -/
theorem Rb.updB (hR : Rb P w0 Mo β σ a w) (s : Nat) (box : Box) (w' : World) (p : PV) (v : Value) (d : Bd) (hos : w'.os = w.os ∧ w'.tape = w.tape ∧ w'.output = w.output)
    (h :
      Kp (fun k => ∃ b, look σ.mu s = some b ∧ mutB (β s) b k) w w' ∧ (LL σ s → BdLe (β s) d) ∧
      (∀ k, mutB d box k → ((∃ b0, look σ.mu s = some b0 ∧ mutB (β s) b0 k) ∨ w.heap.size ≤ k) ∧ k < w'.heap.size) ∧
      ∀ (L' : Nat → Prop) (β' : Nat → Bd) (M' : Nat → Prop), L' s → β' s = d → (∀ k, M' k → MM Mo σ.mu β k ∨ mutB d box k) → (∀ k, k ≠ s → ∀ b j, look σ.mu k = some b → mutB (β k) b j → M' j) → (∀ p v, RepI (MM Mo σ.mu β) w p v → RepI M' w' p v) → (∀ p v, Rep (LL σ) β (MM Mo σ.mu β) w p v → Rep L' β' M' w' p v) →
        (∀ k, M' k → Mo k ∨ mutB d box k ∨ ∃ x b, x ≠ s ∧ look σ.mu x = some b ∧ mutB (β x) b k) → BoxR P w0.H L' β' M' w' d box ∧ Rep L' β' M' w' p v) (dst : Option Nat) :
    ∃ β', β' s = d ∧ Rb P w0 Mo β' ((σ.upd [(s, box)]).put dst p) (a.put dst v) w' := by
  obtain ⟨hm, ht, hb, hn, hd, hanc⟩ := hR
  obtain ⟨h1, h2, h3, h4⟩ := h
  let β' : Nat → Bd := fun x => if x = s then d else β x
  have hs' : β' s = d := by simp [β']
  have hβ : ∀ x, x ≠ s → β' x = β x := fun x e => by simp [β', e]
  have hlook : ∀ x, x ≠ s → look (setB σ.mu s box) x = look σ.mu x := fun x e => by rw [look_setB, if_neg e]
  have hlooks : look (setB σ.mu s box) s = some box := by rw [look_setB, if_pos rfl]
  have hL : ∀ x, LL σ x → LL (σ.upd [(s, box)]) x := fun x hx => (LL_upd σ s box x).2 (.inl hx)
  have hLs : LL (σ.upd [(s, box)]) s := (LL_upd σ s box s).2 (.inr rfl)
  have hnew : ∀ b k, look (setB σ.mu s box) s = some b → mutB (β' s) b k → (∃ b0, look σ.mu s = some b0 ∧ mutB (β s) b0 k) ∨ w.heap.size ≤ k := by
    intro b k hbk hmk; rw [hlooks] at hbk; cases hbk; rw [hs'] at hmk; exact (h3 k hmk).1
  have hBd : LL σ s → BdLe (β s) (β' s) := by rw [hs']; exact h2
  obtain ⟨hi, hr⟩ := hm.rep_step (L' := LL (σ.upd [(s, box)])) (β' := β') (μ' := setB σ.mu s box) s h1 hL hβ hBd hlook hnew
  obtain ⟨hbox, hp⟩ := h4 (LL (σ.upd [(s, box)])) β' (MM Mo (setB σ.mu s box) β') hLs hs'
    (by
      rintro k (hk | ⟨x, b, hx, hmx⟩)
      · exact .inl (.inl hk)
      · by_cases e : x = s
        · subst e; rw [hlooks] at hx; cases hx; rw [hs'] at hmx; exact .inr hmx
        · rw [hlook x e] at hx; rw [hβ x e] at hmx; exact .inl (.inr ⟨x, b, hx, hmx⟩))
    (fun x e b j hx hj => .inr ⟨x, b, by rw [hlook x e]; exact hx, by rw [hβ x e]; exact hj⟩) hi hr
    (by
      rintro k (hk | ⟨x, b, hx, hmx⟩)
      · exact .inl hk
      · by_cases e : x = s
        · subst e; rw [hlooks] at hx; cases hx; rw [hs'] at hmx; exact .inr (.inl hmx)
        · rw [hlook x e] at hx; rw [hβ x e] at hmx; exact .inr (.inr ⟨x, b, e, hx, hmx⟩))
  have hM := hm.step (L' := LL (σ.upd [(s, box)])) (β' := β') (μ' := setB σ.mu s box) s h1 hL hβ hBd hlook hnew
    (by intro b k hbk hmk; rw [hlooks] at hbk; cases hbk; rw [hs'] at hmk; exact (h3 k hmk).2)
    (by intro b hbk; rw [hlooks] at hbk; cases hbk; rw [hs']; exact ⟨hLs, hbox⟩)
  have ht' : ∀ t, Rep (LL (σ.upd [(s, box)])) β' (MM Mo (setB σ.mu s box) β') w' (getT (σ.upd [(s, box)]).tm t) (a.tmps.getD t undef) := fun t => hr _ _ (ht t)
  obtain ⟨g1, g2, g3⟩ := put_tm (σ := σ.upd [(s, box)]) (d := dst) ht' hn hp
  have e2 : ((σ.upd [(s, box)]).put dst p).mu = setB σ.mu s box := by cases dst <;> rfl
  have e3 : LL ((σ.upd [(s, box)]).put dst p) = LL (σ.upd [(s, box)]) := by cases dst <;> rfl
  have e4 : ((σ.upd [(s, box)]).put dst p).nx = σ.nx := by cases dst <;> rfl
  have hanc' : ∀ h, w0.anc = some h → 0 < ((σ.upd [(s, box)]).put dst p).nx ∧ ((β' 0).ver = 0 → (β' 0).hdr = h) := by
    intro h hh
    obtain ⟨a1, a2⟩ := hanc h hh
    refine ⟨by rw [e4]; exact a1, fun hv => ?_⟩
    by_cases e : 0 = s
    · subst e
      rcases (hBd (.inl a1)).2 with ⟨b1, b2⟩ | b1
      · rw [b2]; exact a2 (b1 ▸ hv)
      · omega
    · rw [hβ 0 e] at hv ⊢; exact a2 hv
  exact ⟨β', hs', by rw [e2, e3]; exact hM, by rw [e2, e3]; exact g1, Fr.bel_trans hb hos h1 (fun k _ ⟨b, hx, hk⟩ => (hm.base s b k hx hk).1), g2, g3.trans hd, hanc'⟩
theorem Rb.upd (hR : Rb P w0 Mo β σ a w) (s : Nat) (box : Box) (w' : World) (p : PV) (v : Value) (d : Bd) (hos : w'.os = w.os ∧ w'.tape = w.tape ∧ w'.output = w.output)
    (h :
      Kp (fun k => ∃ b, look σ.mu s = some b ∧ mutB (β s) b k) w w' ∧ (LL σ s → BdLe (β s) d) ∧
      (∀ k, mutB d box k → ((∃ b0, look σ.mu s = some b0 ∧ mutB (β s) b0 k) ∨ w.heap.size ≤ k) ∧ k < w'.heap.size) ∧
      ∀ (L' : Nat → Prop) (β' : Nat → Bd) (M' : Nat → Prop), L' s → β' s = d → (∀ k, M' k → MM Mo σ.mu β k ∨ mutB d box k) → (∀ k, k ≠ s → ∀ b j, look σ.mu k = some b → mutB (β k) b j → M' j) → (∀ p v, RepI (MM Mo σ.mu β) w p v → RepI M' w' p v) → (∀ p v, Rep (LL σ) β (MM Mo σ.mu β) w p v → Rep L' β' M' w' p v) →
        (∀ k, M' k → Mo k ∨ mutB d box k ∨ ∃ x b, x ≠ s ∧ look σ.mu x = some b ∧ mutB (β x) b k) → BoxR P w0.H L' β' M' w' d box ∧ Rep L' β' M' w' p v) (dst : Option Nat) :
    R P w0 Mo ((σ.upd [(s, box)]).put dst p) (a.put dst v) w' := by
  obtain ⟨β', _, h'⟩ := hR.updB s box w' p v d hos h dst
  exact ⟨β', h'⟩
theorem row_repI {e : TypeId} {sz ver : Nat} {es : List PV} {H : Nat} {d : Bd} {M' : Nat → Prop} (h : BoxR P H L β M w d (.row e sz ver es)) (hM : ∀ k, d.hdr.ownBlock = some k → ¬ M' k) (hi : ∀ p v, RepI M w p v → RepI M' w p v) : RepI M' w (.sl es) d.hdr := by
  obtain ⟨h1, h0, xs, h2, h3, h4⟩ := h
  have hc := fun g hg => h2.cells (g := g) hg
  rcases h2.2 with ⟨hv, hn⟩ | ⟨g, cap, cur, hv, hg, hh, hle, hm, hcs, htk⟩
  · have : es = [] := List.eq_nil_of_length_eq_zero hn
    subst this
    rw [hv]; exact .slE none 0 (Nat.zero_le _) (fun _ => rfl)
  · have hgl := (Array.getElem?_eq_some_iff.1 hh).1
    by_cases he : es = []
    · subst he; rw [hv]; exact .slE _ cap hm (fun e => by cases e)
    · have hfl := flatL_len h3
      have hxl := h2.1
      rw [hv]
      refine .sl es g 0 cap sz (fun i j => (xs[i * sz + j]?).getD undef) he hle hm hgl (hM g (by rw [hv]; rfl)) h3 (fun i x j p hx hp => ?_) (fun i x j p hx hp => ?_)
      · have h5 := flatL_get h3 hx hp
        have hlt := (List.getElem?_eq_some_iff.1 h5).1
        obtain ⟨u, hu⟩ : ∃ u, xs[i * sz + j]? = some u := ⟨_, List.getElem?_eq_getElem (by omega)⟩
        simp only [hu, Option.getD_some]
        exact hi _ _ (h4 _ p u h5 hu)
      · have h5 := flatL_get h3 hx hp
        have hlt := (List.getElem?_eq_some_iff.1 h5).1
        obtain ⟨u, hu⟩ : ∃ u, xs[i * sz + j]? = some u := ⟨_, List.getElem?_eq_getElem (by omega)⟩
        have := hc g (by rw [hv]; rfl) _ u hu
        simp only [hu, Option.getD_some, Nat.zero_add]
        rw [← this, addr_add, Nat.zero_add]
theorem R.frz1 (hR : R P w0 Mo σ a w) {s : Nat} {ver : Nat} {es : List PV} (hs : (∃ e sz, look σ.mu s = some (.row e sz ver es)) ∨ look σ.mu s = some (.frz ver es)) : R P w0 Mo (σ.upd [(s, .frz ver es)]) a w := by
  obtain ⟨β, hR⟩ := hR
  have hm := hR.mem
  refine hR.upd s (.frz ver es) w .dead undef (β s) ⟨rfl, rfl, rfl⟩ ⟨Kp.mk (Nat.le_refl _) (fun _ _ _ => rfl), fun _ => ⟨rfl, .inl ⟨rfl, rfl⟩⟩, (fun k hk => hk.elim), fun L' β' M' h1 h2 h3 h4 hi hr h5 => ⟨?_, .dead _⟩⟩ none
  rcases hs with ⟨e, sz, hs⟩ | hs
  · have hb := hm.box s _ hs
    refine ⟨hb.1, row_repI hb (fun k hk hM => ?_) hi⟩
    rcases h5 k hM with hM | hM | ⟨x, b, hx, hxl, hxm⟩
    · exact hm.mo k hM (hm.base s _ k hs hk).1
    · exact hM
    · exact hx (hm.apart x b s _ k hxl hs hxm hk)
  · have hb := hm.box s _ hs
    exact ⟨hb.1, hi _ _ hb.2⟩
/-- Pairs that freeze what is there. -/
def FrzOf (μ : List (Nat × Box)) (l : List (Nat × Box)) : Prop := ∀ sb ∈ l, ∃ ver es, sb.2 = .frz ver es ∧ ((∃ e sz, look μ sb.1 = some (.row e sz ver es)) ∨ look μ sb.1 = some (.frz ver es))
theorem FrzOf.upd {μ : List (Nat × Box)} {l : List (Nat × Box)} (h : FrzOf μ l) {s : Nat} {ver : Nat} {es : List PV} (hs : (∃ e sz, look μ s = some (.row e sz ver es)) ∨ look μ s = some (.frz ver es)) : FrzOf (setB μ s (.frz ver es)) l := by
  intro sb hsb
  obtain ⟨v, e', h1, h2⟩ := h sb hsb
  refine ⟨v, e', h1, ?_⟩
  by_cases e : sb.1 = s
  · right
    rw [look_setB, if_pos e]
    rw [e] at h2
    rcases h2 with ⟨_, _, h2⟩ | h2 <;> rcases hs with ⟨_, _, hs⟩ | hs <;> rw [hs] at h2 <;> simp at h2 <;> simp [h2]
  · rw [look_setB, if_neg e]; exact h2
theorem R.frzs (hR : R P w0 Mo σ a w) (l : List (Nat × Box)) (h : FrzOf σ.mu l) : R P w0 Mo (σ.upd l) a w := by
  induction l generalizing σ with
  | nil => exact hR
  | cons sb l ih =>
    obtain ⟨ver, es, h1, h2⟩ := h sb (by simp)
    obtain ⟨s, b⟩ := sb
    subst h1
    have := ih (hR.frz1 h2) (FrzOf.upd (fun x hx => h x (by simp [hx])) h2)
    exact this
theorem frzUpd_of (μ : List (Nat × Box)) (p : PV) : FrzOf μ (frzUpd (look μ) p) := by
  unfold frzUpd
  split
  · split
    · rename_i h
      intro sb hsb
      simp at hsb; subst hsb
      exact ⟨_, _, rfl, .inl ⟨_, _, h⟩⟩
    · intro sb hsb; cases hsb
  · intro sb hsb; cases hsb
theorem frzAll_of (μ : List (Nat × Box)) (p : PV) : FrzOf μ (frzAll (look μ) p) := by
  unfold frzAll
  split
  · intro sb hsb
    obtain ⟨c, _, hc⟩ := List.mem_flatMap.1 hsb
    exact frzUpd_of μ c sb hc
  · exact frzUpd_of μ _
theorem frzAlls_of (μ : List (Nat × Box)) (ps : List PV) : FrzOf μ (ps.flatMap (frzAll (look μ))) := by
  intro sb hsb
  obtain ⟨c, _, hc⟩ := List.mem_flatMap.1 hsb
  exact frzAll_of μ c sb hc
end
end Go.Proofs.Ythgnbkcopapbmaa
