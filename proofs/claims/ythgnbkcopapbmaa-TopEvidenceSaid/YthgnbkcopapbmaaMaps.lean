/-
  A map that a call has made, as a partial function from keys to values: what a look-up, a store, and 'm[k] op= v' do to it.
-/
import Derived.Test.YthgnbkcopapbmaaBase
import Derived.WideKeyEntry
import Derived.WideKeyPair
import Derived.DeepKeys4
import Derived.BigRegion
namespace Go.Proofs.Ythgnbkcopapbmaa
open Go.RowKit Go.MapKept Go.ChangeMaps
open Go.Maps (Keyed)
set_option linter.unusedVariables false

/-- Block b is a map of at most n entries that holds m. -/
def Mv (P : Program) (kT : TypeId) (w : World) (b n : Nat) (m : Value → Option Value) : Prop :=
  ∃ es clock, w.heap[b]? = some (.map es clock) ∧ es.size ≤ n ∧ Stamped es clock ∧ (∀ e ∈ es.toList, ∃ l, keyOf P kT e.key = some l) ∧ ∀ k v, m k = some v ↔ ∃ e ∈ es.toList, e.key = k ∧ e.val = v

open Classical in
noncomputable def upd (m : Value → Option Value) (key val : Value) : Value → Option Value := fun k => if k = key then some val else m k

theorem upd_same (m : Value → Option Value) (key val : Value) : upd m key val key = some val := by simp [upd]
theorem upd_other (m : Value → Option Value) {key k : Value} (val : Value) (h : k ≠ key) : upd m key val k = m k := by simp [upd, h]

variable {P : Program} {kT : TypeId} {w : World} {b n : Nat} {m : Value → Option Value}

theorem Mv.made (P : Program) (kT : TypeId) (w : World) : Mv P kT (w.alloc (.map #[] 0)) w.heap.size 0 (fun _ => none) :=
  ⟨#[], 0, (MapKept.heap_alloc w _).1, by simp, stamped_empty 0, by simp, by simp⟩

theorem Mv.lt (h : Mv P kT w b n m) : b < w.heap.size := by
  obtain ⟨es, clock, hb, _⟩ := h
  exact (Array.getElem?_eq_some_iff.1 hb).1

theorem Mv.mono (h : Mv P kT w b n m) {n' : Nat} (hn : n ≤ n') : Mv P kT w b n' m := by
  obtain ⟨es, clock, hb, hs, r⟩ := h
  exact ⟨es, clock, hb, Nat.le_trans hs hn, r⟩

theorem Mv.of_block {w' : World} (h : Mv P kT w b n m) (hh : w'.heap[b]? = w.heap[b]?) : Mv P kT w' b n m := by
  obtain ⟨es, clock, hb, r⟩ := h
  exact ⟨es, clock, hh.trans hb, r⟩

theorem Mv.alloc (h : Mv P kT w b n m) (o : Obj) : Mv P kT (w.alloc o) b n m := h.of_block (Below.heap_alloc w o b h.lt)
theorem Mv.drew (h : Mv P kT w b n m) : Mv P kT w.drew b n m := h
theorem Mv.drewN (h : Mv P kT w b n m) (k : Nat) : Mv P kT (w.drewN k) b n m := h
theorem Mv.kept {w' : World} {row : Option Nat} (h : Mv P kT w b n m) (hg : w.grownBy w' row) (hne : some b ≠ row) : Mv P kT w' b n m := h.of_block (hg.block b h.lt hne)
theorem Mv.below {B : Nat} {w' : World} (h : Mv P kT w b n m) (hb : Below B w w') (hlt : b < B) : Mv P kT w' b n m := h.of_block (hb.block b hlt)
theorem Mv.setCell (h : Mv P kT w b n m) (a : Addr) (u : Value) (hne : a.block ≠ b) : Mv P kT (w.setCell a u) b n m := h.of_block (heap_setCell_other w a b u (fun e => hne e.symm))

theorem uniq {es : Array MapEntry} {clock : Nat} (hs : Stamped es clock) {e0 e1 : MapEntry} (h0 : e0 ∈ es.toList) (h1 : e1 ∈ es.toList) (hk : e0.key = e1.key) : e0 = e1 := by
  have hp := ((stamped_iff es clock).1 hs).2.2
  obtain ⟨i, hi, rfl⟩ := List.getElem_of_mem h0
  obtain ⟨j, hj, rfl⟩ := List.getElem_of_mem h1
  rcases Nat.lt_trichotomy i j with h | h | h
  · exact absurd hk (List.pairwise_iff_getElem.1 hp i j hi hj h)
  · subst h; rfl
  · exact absurd hk.symm (List.pairwise_iff_getElem.1 hp j i hj hi h)

/-- 'm[k]', with or without 'ok'. -/
theorem Mv.look (c : Bool) {t e : TypeId} (h : Mv P kT w b n m) (K : Keyed P kT) (ht : P.underlying t = some (.map kT e)) {z : Value} (hz : (zeroValue e).run P w = .ok z w) {key : Value} {kl : Lit} (hkey : keyOf P kT key = some kl) :
    (Instr.lookup t (.map (some b)) key c).run P w = .ok (if c then .tuple #[(m key).getD z, .bool (m key).isSome] else (m key).getD z) w := by
  obtain ⟨es, clock, hb, hs, hst, hks, hm⟩ := h
  rcases K.find w hkey es.toList hks with ⟨h1, h2⟩ | ⟨j, e0, h1, h2, h3⟩
  · have hn : m key = none := by
      cases hh : m key with
      | none => rfl
      | some v => obtain ⟨x, hx, hxk, _⟩ := (hm key v).1 hh; exact absurd hxk (h2 x hx)
    simp [Instr.lookup, run_underlying ht, MapKept.run_getObj_map hb, K.check w _ hkey, h1, hz, Result.andThen, hn]
  · have hn : m key = some e0.val := (hm key e0.val).2 ⟨e0, List.mem_of_getElem? h2, h3, rfl⟩
    simp [Instr.lookup, run_underlying ht, MapKept.run_getObj_map hb, K.check w _ hkey, h1, Result.andThen, hn]

theorem setBlock_grown {es es' : Array MapEntry} {clock clock' : Nat} (hb : w.heap[b]? = some (.map es clock)) : w.grownBy (setBlock w b (.map es' clock')) (some b) :=
  ⟨rfl, rfl, rfl, by simp [setBlock], fun i _ hi => heap_setBlock_other hb _ (fun e => hi (by rw [e]))⟩

theorem mem_push {es : Array MapEntry} {x y : MapEntry} : x ∈ (es.push y).toList ↔ x ∈ es.toList ∨ x = y := by simp

theorem holds_push {es : Array MapEntry} {key val : Value} {bn : Nat} (hm : ∀ k v, m k = some v ↔ ∃ e ∈ es.toList, e.key = k ∧ e.val = v) (hno : ∀ x ∈ es.toList, x.key ≠ key) :
    ∀ k v, upd m key val k = some v ↔ ∃ e ∈ (es.push ⟨key, val, bn⟩).toList, e.key = k ∧ e.val = v := by
  intro k v
  by_cases e : k = key
  · subst e
    rw [upd_same]
    constructor
    · intro h; cases h; exact ⟨_, mem_push.2 (.inr rfl), rfl, rfl⟩
    · rintro ⟨x, hx, hk, hv⟩
      rcases mem_push.1 hx with hx | rfl
      · exact absurd hk (hno x hx)
      · rw [← hv]
  · rw [upd_other m val e, hm]
    constructor
    · rintro ⟨x, hx, hk, hv⟩; exact ⟨x, mem_push.2 (.inl hx), hk, hv⟩
    · rintro ⟨x, hx, hk, hv⟩
      rcases mem_push.1 hx with hx | rfl
      · exact ⟨x, hx, hk, hv⟩
      · exact absurd hk.symm e

theorem mv_mem_modify {es : Array MapEntry} {j : Nat} {e0 y : MapEntry} (h2 : es.toList[j]? = some e0) {x : MapEntry} : x ∈ es.toList.set j y ↔ x = y ∨ ∃ i, i ≠ j ∧ es.toList[i]? = some x := by
  have hj : j < es.toList.length := (List.getElem?_eq_some_iff.1 h2).1
  constructor
  · intro h
    obtain ⟨i, hi, rfl⟩ := List.getElem_of_mem h
    rw [List.getElem_set]
    split
    · exact .inl rfl
    · rename_i hne
      exact .inr ⟨i, fun e => hne e.symm, by simp at hi; simp [hi]⟩
  · rintro (rfl | ⟨i, hne, hi⟩)
    · exact List.mem_iff_getElem.2 ⟨j, by simpa using hj, by simp⟩
    · obtain ⟨hi1, hi2⟩ := List.getElem?_eq_some_iff.1 hi
      exact List.mem_iff_getElem.2 ⟨i, by simpa using hi1, by rw [List.getElem_set_ne (fun e => hne e.symm)]; exact hi2⟩

theorem holds_modify {es : Array MapEntry} {clock : Nat} {key val : Value} {j : Nat} {e0 : MapEntry} (hst : Stamped es clock) (hm : ∀ k v, m k = some v ↔ ∃ e ∈ es.toList, e.key = k ∧ e.val = v) (h2 : es.toList[j]? = some e0) (h3 : e0.key = key) :
    ∀ k v, upd m key val k = some v ↔ ∃ e ∈ es.toList.set j ⟨key, val, e0.born⟩, e.key = k ∧ e.val = v := by
  have hp := ((stamped_iff es clock).1 hst).2.2
  have other : ∀ i x, i ≠ j → es.toList[i]? = some x → x.key ≠ key := by
    intro i x hne hi e
    have := uniq hst (List.mem_of_getElem? hi) (List.mem_of_getElem? h2) (e.trans h3.symm)
    subst this
    obtain ⟨a1, a2⟩ := List.getElem?_eq_some_iff.1 hi
    obtain ⟨b1, b2⟩ := List.getElem?_eq_some_iff.1 h2
    rcases Nat.lt_or_gt_of_ne hne with h | h
    · exact List.pairwise_iff_getElem.1 hp i j a1 b1 h (by rw [a2, b2])
    · exact List.pairwise_iff_getElem.1 hp j i b1 a1 h (by rw [a2, b2])
  intro k v
  by_cases e : k = key
  · subst e
    rw [upd_same]
    constructor
    · intro h; cases h; exact ⟨_, (mv_mem_modify h2).2 (.inl rfl), rfl, rfl⟩
    · rintro ⟨x, hx, hk, hv⟩
      rcases (mv_mem_modify h2).1 hx with rfl | ⟨i, hne, hi⟩
      · rw [← hv]
      · exact absurd hk (other i x hne hi)
  · rw [upd_other m val e, hm]
    constructor
    · rintro ⟨x, hx, hk, hv⟩
      obtain ⟨i, hi, rfl⟩ := List.getElem_of_mem hx
      refine ⟨_, (mv_mem_modify h2).2 (.inr ⟨i, ?_, List.getElem?_eq_getElem hi⟩), hk, hv⟩
      rintro rfl
      rw [List.getElem?_eq_getElem hi] at h2
      cases h2
      exact e (hk.symm.trans h3)
    · rintro ⟨x, hx, hk, hv⟩
      rcases (mv_mem_modify h2).1 hx with rfl | ⟨i, hne, hi⟩
      · exact absurd hk.symm e
      · exact ⟨x, List.mem_of_getElem? hi, hk, hv⟩

theorem keys_modify {es : Array MapEntry} {key val : Value} {kl : Lit} {j bn : Nat} {e0 : MapEntry} (hkey : keyOf P kT key = some kl) (h2 : es.toList[j]? = some e0) (hks : ∀ e ∈ es.toList, ∃ l, keyOf P kT e.key = some l) :
    ∀ e ∈ es.toList.set j ⟨key, val, bn⟩, ∃ l, keyOf P kT e.key = some l := by
  intro e he
  rcases (mv_mem_modify h2).1 he with rfl | ⟨i, _, hi⟩
  · exact ⟨kl, hkey⟩
  · exact hks e (List.mem_of_getElem? hi)

theorem modify_list {es : Array MapEntry} {j : Nat} {e0 : MapEntry} (h2 : es.toList[j]? = some e0) (key val : Value) : (es.modify j (fun e' => { e' with key := key, val := val })).toList = es.toList.set j ⟨key, val, e0.born⟩ := by
  rw [Array.toList_modify, modify_eq_set _ _ _ _ h2]

/-- 'm[k] = v'. -/
theorem Mv.update {t e : TypeId} (h : Mv P kT w b n m) (K : Keyed P kT) (ht : P.underlying t = some (.map kT e)) {key val : Value} {kl : Lit} (hkey : keyOf P kT key = some kl) :
    ∃ w', (Instr.mapUpdate t (.map (some b)) key val).run P w = .ok () w' ∧ Mv P kT w' b (n + 1) (upd m key val) ∧ w.grownBy w' (some b) := by
  obtain ⟨es, clock, hb, hs, hst, hks, hm⟩ := h
  rcases K.find w hkey es.toList hks with ⟨h1, h2⟩ | ⟨j, e0, h1, h2, h3⟩
  · refine ⟨setBlock w b (.map (es.push ⟨key, val, clock⟩) (clock + 1)), ?_, ⟨_, _, heap_setBlock_same hb _, by simp; omega, stamped_push hst h2, ?_, holds_push hm h2⟩, setBlock_grown hb⟩
    · simp [Instr.mapUpdate, run_underlying ht, MapKept.run_getObj_map hb, K.check w false hkey, h1, MapKept.run_setObj_map _ hb, Result.andThen, setBlock]
    · intro x hx
      rcases mem_push.1 hx with hx | rfl
      · exact hks x hx
      · exact ⟨kl, hkey⟩
  · have hj : es[j]? = some e0 := by simpa using h2
    refine ⟨setBlock w b (.map (es.modify j (fun e' => { e' with key := key, val := val })) clock), ?_, ⟨_, _, heap_setBlock_same hb _, by simp; omega, stamped_modify hst _ _ (fun _ _ => rfl) (fun e' _ he' => by rw [hj] at he'; cases he'; exact h3.symm), ?_, ?_⟩, setBlock_grown hb⟩
    · simp [Instr.mapUpdate, run_underlying ht, MapKept.run_getObj_map hb, K.check w false hkey, h1, hj, h3, K.stays w hkey, MapKept.run_setObj_map _ hb, Result.andThen, setBlock]
    · rw [modify_list h2]; exact keys_modify hkey h2 hks
    · rw [modify_list h2]; exact holds_modify hst hm h2 h3

open Go.WideElems (findIdx_arr findIdx_born modify_last set_self)

/-- 'm[k] op= v': the entry is taken, and the value stored by its stamp. -/
theorem Mv.entry {t e : TypeId} (h : Mv P kT w b n m) (K : Keyed P kT) (ht : P.underlying t = some (.map kT e)) {z : Value} (hz : ∀ u : World, (zeroValue e).run P u = .ok z u) {key : Value} {kl : Lit} (hkey : keyOf P kT key = some kl) :
    ∃ (st : Nat) (wE : World) (n' : Nat) (m' : Value → Option Value), (Instr.mapEntry t (.map (some b)) key).run P w = .ok (.tuple #[(m key).getD z, goInt st]) wE ∧ (Instr.lookup t (.map (some b)) key false).run P wE = .ok ((m key).getD z) wE ∧
      w.grownBy wE (some b) ∧ ∀ val, ∃ wF, (Instr.entryStore t (.map (some b)) (goInt st) val).run P wE = .ok () wF ∧ Mv P kT wF b (n + 1) (upd m key val) ∧ w.grownBy wF (some b) := by
  have hM : Mv P kT w b n m := h
  obtain ⟨es, clock, hb, hs, hst, hks, hm⟩ := h
  obtain ⟨s1, s2, _⟩ := (stamped_iff es clock).1 hst
  rcases K.find w hkey es.toList hks with ⟨h1, h2⟩ | ⟨j, e0, h1, h2, h3⟩
  · have hn : m key = none := by
      cases hh : m key with
      | none => rfl
      | some v => obtain ⟨x, hx, hxk, _⟩ := (hm key v).1 hh; exact absurd hxk (h2 x hx)
    have hE : (setBlock w b (.map (es.push ⟨key, z, clock⟩) (clock + 1))).heap[b]? = some (.map (es.push ⟨key, z, clock⟩) (clock + 1)) := heap_setBlock_same hb _
    have hks' : ∀ x ∈ (es.push ⟨key, z, clock⟩).toList, ∃ l, keyOf P kT x.key = some l := by
      intro x hx
      rcases mem_push.1 hx with hx | rfl
      · exact hks x hx
      · exact ⟨kl, hkey⟩
    have hME : Mv P kT (setBlock w b (.map (es.push ⟨key, z, clock⟩) (clock + 1))) b (n + 1) (upd m key z) := ⟨_, _, hE, by simp; omega, stamped_push hst h2, hks', holds_push hm h2⟩
    refine ⟨clock, setBlock w b (.map (es.push ⟨key, z, clock⟩) (clock + 1)), n + 1, m, ?_, ?_, setBlock_grown hb, fun val => ⟨setBlock (setBlock w b (.map (es.push ⟨key, z, clock⟩) (clock + 1))) b (.map (es.push ⟨key, val, clock⟩) (clock + 1)), ?_, ?_, ?_⟩⟩
    · simp [Instr.mapEntry, run_underlying ht, MapKept.run_getObj_map hb, K.check w false hkey, h1, hz, MapKept.run_setObj_map _ hb, Result.andThen, setBlock, hn]
    · have := hME.look false K ht (hz _) hkey
      rw [this, upd_same, hn]; rfl
    · have hidx : (es.push ⟨key, z, clock⟩).findIdx? (fun e => ((e.born : Nat) : Int) == ((clock : Nat) : Int)) = some es.size := by
        rw [findIdx_arr]
        exact findIdx_born (l := (es.push ⟨key, z, clock⟩).toList) (j := es.size) (e0 := ⟨key, z, clock⟩) (by
          simp only [Array.toList_push, List.map_append, List.map_cons, List.map_nil]
          refine List.nodup_append.2 ⟨s2, by simp, fun a ha c hc e1 => ?_⟩
          simp only [List.mem_singleton] at hc
          obtain ⟨x, hx, rfl⟩ := List.mem_map.1 ha
          have := s1 x hx
          omega) (by simp)
      have hmod : (es.push ⟨key, z, clock⟩).modify es.size (fun e => { e with val := val }) = es.push ⟨key, val, clock⟩ := by
        apply Array.ext'
        rw [Array.toList_modify, Array.toList_push, Array.toList_push, ← Array.length_toList, modify_last]
      simp [Instr.entryStore, MapKept.run_getObj_map hE, asInt, asIntOf, goInt, hidx, hmod, MapKept.run_setObj_map _ hE, Result.andThen]
      rfl
    · refine ⟨_, _, heap_setBlock_same hE _, by simp; omega, stamped_push hst h2, ?_, holds_push hm h2⟩
      intro x hx
      rcases mem_push.1 hx with hx | rfl
      · exact hks x hx
      · exact ⟨kl, hkey⟩
    · have a1 := setBlock_grown (w := w) (b := b) (es' := es.push ⟨key, z, clock⟩) (clock' := clock + 1) hb
      have a2 := setBlock_grown (es' := es.push ⟨key, val, clock⟩) (clock' := clock + 1) hE
      exact ⟨rfl, rfl, rfl, Nat.le_trans a1.size a2.size, fun i hi hne => (a2.block i (Nat.lt_of_lt_of_le hi a1.size) hne).trans (a1.block i hi hne)⟩
  · have hj : es[j]? = some e0 := by simpa using h2
    have hn : m key = some e0.val := (hm key e0.val).2 ⟨e0, List.mem_of_getElem? h2, h3, rfl⟩
    have hsame : es.modify j (fun e => { e with key := key }) = es := by
      apply Array.ext'
      rw [Array.toList_modify, modify_eq_set _ _ _ _ h2]
      have : ({ e0 with key := key } : MapEntry) = e0 := by rw [← h3]
      rw [this]
      exact set_self _ _ _ h2
    have hE : (setBlock w b (.map es clock)).heap[b]? = some (.map es clock) := heap_setBlock_same hb _
    have hME : Mv P kT (setBlock w b (.map es clock)) b n m := ⟨_, _, hE, hs, hst, hks, hm⟩
    refine ⟨e0.born, setBlock w b (.map es clock), n, m, ?_, ?_, setBlock_grown hb, fun val => ⟨setBlock (setBlock w b (.map es clock)) b (.map (es.modify j (fun e' => { e' with key := key, val := val })) clock), ?_, ?_, ?_⟩⟩
    · simp [Instr.mapEntry, run_underlying ht, MapKept.run_getObj_map hb, K.check w false hkey, h1, hj, h3, K.stays w hkey, hsame, MapKept.run_setObj_map _ hb, Result.andThen, setBlock, hn]
    · exact hME.look false K ht (hz _) hkey
    · have hidx : es.findIdx? (fun e => ((e.born : Nat) : Int) == ((e0.born : Nat) : Int)) = some j := by
        rw [findIdx_arr]
        exact findIdx_born s2 h2
      have hmod : es.modify j (fun e => { e with val := val }) = es.modify j (fun e' => { e' with key := key, val := val }) := by
        apply Array.ext'
        rw [Array.toList_modify, Array.toList_modify, modify_eq_set _ _ _ _ h2, modify_eq_set _ _ _ _ h2, ← h3]
      simp [Instr.entryStore, MapKept.run_getObj_map hE, asInt, asIntOf, goInt, hidx, hmod, MapKept.run_setObj_map _ hE, Result.andThen]
      rfl
    · refine ⟨_, _, heap_setBlock_same hE _, by simp; omega, stamped_modify hst _ _ (fun _ _ => rfl) (fun e' _ he' => by rw [hj] at he'; cases he'; exact h3.symm), ?_, ?_⟩
      · rw [modify_list h2]; exact keys_modify hkey h2 hks
      · rw [modify_list h2]; exact holds_modify hst hm h2 h3
    · have a1 := setBlock_grown (w := w) (b := b) (es' := es) (clock' := clock) hb
      have a2 := setBlock_grown (es' := es.modify j (fun e' => { e' with key := key, val := val })) (clock' := clock) hE
      exact ⟨rfl, rfl, rfl, Nat.le_trans a1.size a2.size, fun i hi hne => (a2.block i (Nat.lt_of_lt_of_le hi a1.size) hne).trans (a1.block i hi hne)⟩

/-- A look-up at the operation, for the walk. -/
theorem wpList_look {ops : Array Oper} {rest : List Oper} {o : Oper} {a : Act} {Q : Exit → Act → World → Prop}
    (hg : o.guard = none) (mo x : Operand) (t : TypeId) (c : Bool) (hop : o.op = Op.lookup t mo x c) (h : Mv P kT w b n m) (K : Keyed P kT) {e : TypeId} (ht : P.underlying t = some (.map kT e)) {z : Value} (hz : (zeroValue e).run P w = .ok z w)
    (hm : a.eval mo = .map (some b)) {key : Value} {kl : Lit} (hx : a.eval x = key) (hkey : keyOf P kT key = some kl)
    (hK : wpList P ops Q rest (a.put o.dst (if c then .tuple #[(m key).getD z, .bool (m key).isSome] else (m key).getD z)) w) :
    wpList P ops Q (o :: rest) a w := by
  refine wpList_plain hg fun K' hK' => ?_
  have hrun := h.look c K ht hz hkey
  unfold Oper.wp
  simp [execOp, hop, hm, hx, hrun, Result.andThen]
  exact hK' _ _ (by simpa using hK)

/-- A store at the operation, for the walk. -/
theorem wpList_upd {ops : Array Oper} {rest : List Oper} {o : Oper} {a : Act} {Q : Exit → Act → World → Prop}
    (hg : o.guard = none) (mo x v : Operand) (t : TypeId) (hop : o.op = Op.mapUpdate t mo x v) (h : Mv P kT w b n m) (K : Keyed P kT) {e : TypeId} (ht : P.underlying t = some (.map kT e))
    (hm : a.eval mo = .map (some b)) {key val : Value} {kl : Lit} (hx : a.eval x = key) (hv : a.eval v = val) (hkey : keyOf P kT key = some kl)
    (hK : ∀ w', Mv P kT w' b (n + 1) (upd m key val) → w.grownBy w' (some b) → wpList P ops Q rest (a.put o.dst undef) w') :
    wpList P ops Q (o :: rest) a w := by
  refine wpList_plain hg fun K' hK' => ?_
  obtain ⟨w', hrun, r1, r2⟩ := h.update (val := val) K ht hkey
  unfold Oper.wp
  simp [execOp, hop, hm, hx, hv, hrun, Result.andThen]
  exact hK' _ _ (hK w' r1 r2)
end Go.Proofs.Ythgnbkcopapbmaa
