/-
  Walks on abstract values: what each operation does in memory.
-/
import Derived.Test.YthgnbkcopapbmaaKa
import Derived.Great.FillDense
import Derived.Great.BuildSlice
import Derived.Laws.MakeOwn
import Derived.Maps.AppendAt
import Derived.WideKeyPair
import Derived.Maps.Keyed
import Derived.WideMake
import Derived.Laws.IdiomCopy
namespace Go.Proofs.Ythgnbkcopapbmaa
section
open Go.RowKit
open Nat (reduceAdd reduceEqDiff reduceLT reduceLeDiff reduceSub reducePow reduceMul)
open Int (reduceToNat reduceLE reduceEq)
set_option linter.unusedVariables false
set_option linter.unusedSimpArgs false
set_option linter.unnecessarySimpa false


variable {P : Program} {w0 : Fr} {Mo : Nat → Prop} {σ : St} {a : Act} {w w' : World} {K : Act → World → Prop} {Q : Exit → Act → World → Prop} {L : Nat → Prop} {β : Nat → Bd} {M : Nat → Prop}
/-- Cells one by one. -/
def Pw (Rl : PV → Value → Prop) (cs : List PV) (vs : List Value) : Prop := cs.length = vs.length ∧ ∀ (j : Nat) (p : PV) (v : Value), cs[j]? = some p → vs[j]? = some v → Rl p v
theorem setAt_length {α : Type} (cs : List α) (off : Nat) (ps : List α) : (setAt cs off ps).length = cs.length := by
  induction ps generalizing cs off with
  | nil => rfl
  | cons p ps ih => rw [setAt, ih, List.length_set]
theorem setAt_get {α : Type} (cs : List α) (off : Nat) (ps : List α) (j : Nat) : (setAt cs off ps)[j]? = if off ≤ j ∧ j < off + ps.length ∧ j < cs.length then ps[j - off]? else cs[j]? := by
  induction ps generalizing cs off with
  | nil => rw [setAt, if_neg (by simp; omega)]
  | cons p ps ih =>
    rw [setAt, ih, List.length_set, List.length_cons]
    by_cases h1 : off + 1 ≤ j ∧ j < off + 1 + ps.length ∧ j < cs.length
    · rw [if_pos h1, if_pos (by omega)]
      rw [show j - off = (j - (off + 1)) + 1 by omega, List.getElem?_cons_succ]
    · rw [if_neg h1, List.getElem?_set]
      by_cases h2 : off = j
      · subst h2
        by_cases h3 : off < cs.length
        · simp [h3]
        · simp [h3]
      · rw [if_neg h2, if_neg (by omega)]
theorem Pw.setAt {Rl : PV → Value → Prop} {cs ps : List PV} {vs us : List Value} (h : Pw Rl cs vs) (hp : Pw Rl ps us) (off : Nat) : Pw Rl (setAt cs off ps) (setAt vs off us) := by
  refine ⟨by rw [setAt_length, setAt_length, h.1], fun j p v hj hv => ?_⟩
  rw [setAt_get] at hj hv
  rw [← hp.1, ← h.1] at hv
  split at hj <;> rename_i hc
  · rw [if_pos hc] at hv; exact hp.2 _ _ _ hj hv
  · rw [if_neg hc] at hv; exact h.2 _ _ _ hj hv
theorem Pw.drop {Rl : PV → Value → Prop} {cs : List PV} {vs : List Value} (h : Pw Rl cs vs) (n : Nat) : Pw Rl (cs.drop n) (vs.drop n) :=
  ⟨by rw [List.length_drop, List.length_drop, h.1], fun j p v hj hv => h.2 (n + j) p v (by rw [← List.getElem?_drop]; exact hj) (by rw [← List.getElem?_drop]; exact hv)⟩
theorem Pw.take {Rl : PV → Value → Prop} {cs : List PV} {vs : List Value} (h : Pw Rl cs vs) (n : Nat) : Pw Rl (cs.take n) (vs.take n) := by
  refine ⟨by rw [List.length_take, List.length_take, h.1], fun j p v hj hv => ?_⟩
  rw [List.getElem?_take] at hj hv
  split at hj
  · rename_i hlt; rw [if_pos hlt] at hv; exact h.2 j p v hj hv
  · cases hj
theorem Pw.mono {Rl Rl' : PV → Value → Prop} {cs : List PV} {vs : List Value} (h : Pw Rl cs vs) (hr : ∀ p v, Rl p v → Rl' p v) : Pw Rl' cs vs := ⟨h.1, fun j p v hj hv => hr _ _ (h.2 j p v hj hv)⟩
theorem Pw.get {Rl : PV → Value → Prop} {cs : List PV} {vs : List Value} (h : Pw Rl cs vs) {j : Nat} (hj : j < cs.length) (d : PV) : Rl (cs.getD j d) (vs[j]'(by have := h.1; omega)) := by
  have h1 := h.1
  rw [List.getD_eq_getElem?_getD, List.getElem?_eq_getElem hj]
  exact h.2 j _ _ (List.getElem?_eq_getElem hj) (List.getElem?_eq_getElem (by omega))
theorem boxCells_ok {p : PV} {v : Value} {cs : List PV} (h : Rep L β M w p v) (hb : boxCells p = some cs) : ∃ vs : List Value, v.cells = vs.toArray ∧ Pw (Rep L β M w) cs vs ∧ (p.cellOk = true → v = .agg vs.toArray → False) := by
  unfold boxCells at hb
  split at hb
  · cases hb
    obtain ⟨vs, rfl, h1, h2⟩ := h.agg_inv
    exact ⟨vs, rfl, ⟨h1, h2⟩, fun hc _ => by simp [PV.cellOk] at hc⟩
  · split at hb
    · rename_i hc
      cases hb
      have h1 := h.oneCell hc
      refine ⟨[v], by cases v <;> first | rfl | simp [Value.oneCell'] at h1, ⟨rfl, fun j p' v' hj hv => ?_⟩, fun _ e => by rw [e] at h1; simp [Value.oneCell'] at h1⟩
      cases j with
      | zero => simp at hj hv; subst hj; subst hv; exact h
      | succ j => simp at hj
    · cases hb
theorem cells_oneCell {cs : List PV} {vs : List Value} (h : Pw (Rep L β M w) cs vs) (hc : (cs.all PV.cellOk) = true) : ∀ u ∈ vs, u.oneCell' = true := by
  intro u hu
  obtain ⟨j, hj, rfl⟩ := List.getElem_of_mem hu
  have h1 := h.1
  exact (h.2 j _ _ (List.getElem?_eq_getElem (by omega)) (List.getElem?_eq_getElem hj)).oneCell (List.all_eq_true.1 hc _ (List.getElem_mem _))
theorem heap_setCells (b : Nat) (ty : TypeId) : ∀ (us : List Value) (o : Nat) (w : World) (vs : List Value), w.heap[b]? = some (.cells vs.toArray ty (0, 0)) → (w.setCells b o us).heap[b]? = some (.cells (setAt vs o us).toArray ty (0, 0))
  | [], _, _, _, h => h
  | u :: us, o, w, vs, h => by
    rw [World.setCells, setAt]
    refine heap_setCells b ty us (o + 1) _ (vs.set o u) ?_
    have hlt := (Array.getElem?_eq_some_iff.1 h).1
    have h2 := (Array.getElem?_eq_some_iff.1 h).2
    simp only [World.setCell]
    rw [Array.getElem?_modify, if_pos rfl, h]
    simp
theorem heap_setCells_other (b : Nat) : ∀ (us : List Value) (o : Nat) (w : World) (k : Nat), k ≠ b → (w.setCells b o us).heap[k]? = w.heap[k]?
  | [], _, _, _, _ => rfl
  | u :: us, o, w, k, h => by
    rw [World.setCells, heap_setCells_other b us (o + 1) _ k h]
    exact Below.heap_setCell w ⟨b, o, none⟩ u k h
theorem setCells_rest (b : Nat) : ∀ (us : List Value) (o : Nat) (w : World), (w.setCells b o us).os = w.os ∧ (w.setCells b o us).tape = w.tape ∧ (w.setCells b o us).output = w.output ∧ (w.setCells b o us).heap.size = w.heap.size
  | [], _, _ => ⟨rfl, rfl, rfl, rfl⟩
  | u :: us, o, w => by
    rw [World.setCells]
    obtain ⟨h1, h2, h3, h4⟩ := setCells_rest b us (o + 1) (w.setCell ⟨b, o, none⟩ u)
    exact ⟨h1, h2, h3, h4.trans (by simp [World.setCell])⟩
theorem kp_alloc {X : Nat → Prop} (w : World) (ob : Obj) : Kp X w (w.alloc ob) := ⟨by simp, fun k hk _ => heap_alloc_old w ob hk⟩
/-- A new variable. -/
theorem Rb.newVar {id : Nat} (hR : Rb P w0 Mo β σ a w) (hid : ¬ LL σ id) {cs : List PV} {vs : List Value} {ty : TypeId} (h : Pw (Rep (LL σ) β (MM Mo σ.mu β) w) cs vs) (dst : Option Nat) :
    R P w0 Mo ((σ.upd [(id, .var cs)]).put dst (.ptr id 0)) (a.put dst (.pointer (some ⟨w.heap.size, 0, none⟩))) (w.alloc (.cells vs.toArray ty)) := by
  refine hR.upd id (.var cs) (w.alloc (.cells vs.toArray ty)) _ _ ⟨w.heap.size, undef, 0⟩ ⟨rfl, rfl, rfl⟩ ⟨kp_alloc w _, fun h => absurd h hid, fun k hk => ?_, fun L' β' M' h1 h2 h3 h4 hi hr h5 => ⟨?_, ?_⟩⟩ dst
  · have : k = w.heap.size := hk
    subst this; exact ⟨.inr (Nat.le_refl _), by simp⟩
  · have hc := h.mono hr
    exact ⟨vs, ty, heap_alloc_new w _, hc.1, hc.2⟩
  · have := Rep.ptr (β := β') (M := M') (w := w.alloc (.cells vs.toArray ty)) id 0 h1
    rw [h2] at this; exact this
theorem Rep.ptr_inv {s o : Nat} {v : Value} (h : Rep L β M w (.ptr s o) v) : L s ∧ v = .pointer (some ⟨(β s).blk, o, none⟩) := by
  cases h with
  | imm _ _ h => cases h
  | ptr _ _ h => exact ⟨h, rfl⟩
theorem Rep.at_inv {cs : List PV} {v : Value} (h : Rep L β M w (.at_ cs) v) : ∃ b o, v = .pointer (some ⟨b, o, none⟩) ∧ b < w.heap.size ∧ ¬ M b ∧ ∃ vs : Nat → Value, (∀ (j : Nat) (p : PV), cs[j]? = some p → RepI M w p (vs j)) ∧ (∀ (j : Nat) (p : PV), cs[j]? = some p → w.cell? ⟨b, o + j, none⟩ = some (vs j)) := by
  cases h with
  | imm _ _ h => cases h
  | at_ _ b o vs h1 h2 h3 h4 => exact ⟨b, o, rfl, h1, h2, vs, h3, h4⟩
theorem RepI.bx_inv {q : PV} {b o : Nat} (h : RepI M w (.bx q) (.pointer (some ⟨b, o, none⟩))) : ∃ u, RepI M w q u ∧ w.cell? ⟨b, o, none⟩ = some u := by
  cases h with
  | bx _ _ _ v h1 h2 h3 h4 => exact ⟨v, h3, h4⟩
theorem Rep.bx_inv {q : PV} {v : Value} (h : Rep L β M w (.bx q) v) : ∃ b o u, v = .pointer (some ⟨b, o, none⟩) ∧ RepI M w q u ∧ w.cell? ⟨b, o, none⟩ = some u := by
  cases h with
  | imm _ _ h =>
    cases h with
    | bx _ b o u h1 h2 h3 h4 => exact ⟨b, o, u, rfl, h3, h4⟩
theorem Pw.one {Rl : PV → Value → Prop} {p : PV} {v : Value} (h : Rl p v) : Pw Rl [p] [v] := ⟨rfl, fun j p' v' hj hv => by
  cases j with
  | zero => simp at hj hv; subst hj; subst hv; exact h
  | succ j => simp at hj⟩
theorem Rep.rp_inv {s ver sz i o : Nat} {v : Value} (h : Rep L β M w (.rp s ver sz i o) v) : L s ∧ ver ≤ (β s).ver ∧ ((β s).ver = ver → ∃ b, (β s).hdr.ownBlock = some b ∧ v = .pointer (some ⟨b, i * sz + o, none⟩)) := by
  cases h with
  | imm _ _ h => cases h
  | rp _ _ _ _ _ _ h1 h2 h3 h4 => exact ⟨h1, h2, h3⟩
theorem Rep.own_inv {s ver : Nat} {v : Value} (h : Rep L β M w (.own s ver) v) : L s ∧ ver ≤ (β s).ver ∧ ((β s).ver = ver → v = (β s).hdr) := by
  cases h with
  | imm _ _ h => cases h
  | own _ _ _ h1 h2 h3 h4 => exact ⟨h1, h2, h3⟩
theorem run_load {t : TypeId} {d : TypeDesc} {i : TypeInfo} (hu : P.underlying t = some d) (hi : P.info? t = some i) (h1 : d.isRow = false → i.size = 1) (w : World) (b o : Nat) (vs : List Value) (hl : vs.length = i.size) (hc : w.rangeAt b o vs) :
    (Instr.loadAt t (.pointer (some ⟨b, o, none⟩))).run P w = .ok (if d.isRow then .agg vs.toArray else vs.headD undef) w := by
  cases hr : d.isRow
  · have h1 := h1 hr
    match vs, (hl.trans h1) with
    | [v], _ =>
      have hc0 : w.cell? ⟨b, o, none⟩ = some v := hc 0 v rfl
      have hagg : (isAgg t).run P w = .ok false w := by
        unfold isAgg
        rw [Sem.run_bind, run_underlying hu w]
        cases d <;> simp_all [TypeDesc.isRow]
      simp [Instr.loadAt, Instr.sureAddr, loadVar, Sem.run_bind, hagg, load, Sem.run, hc0]
  · rw [run_loadAt_mid w b o t vs d hc hu hr (by rw [hi]; simp [hl])]; rfl
theorem Rep.loaded {r : Bool} {n : Nat} {cs : List PV} {vs : List Value} (h : Pw (Rep L β M w) cs vs) (hn : n ≤ cs.length) (h1 : r = false → n = 1) : Rep L β M w (if r then .agg (cs.take n) else cs.getD 0 .dead) (if r then .agg (vs.take n).toArray else (vs.take n).headD undef) := by
  cases r
  · have h1 := h1 rfl
    subst h1
    have hl := h.1
    match cs, vs, h, hn with
    | p :: cs, v :: vs, h, _ => exact h.2 0 p v rfl rfl
    | _ :: _, [], h, _ => simp at hl
  · have := h.take n
    exact .agg _ _ this.1 this.2
theorem load_run {a : Act} {t : TypeId} {x : Operand} {x' : AOpd} {d : TypeDesc} {i : TypeInfo} {id : Nat} {δ : Delta} (hR : Rb P w0 Mo β σ a w) (hu : P.underlying t = some d) (hi : P.info? t = some i) (h1 : d.isRow = false → i.size = 1) (hx : compOpd x = some x') (h : aop σ.ev (look σ.mu) id (.load i.size d.isRow x') = some δ) : ∃ v, (Instr.loadAt t (a.eval x)).run P w = .ok v w ∧ Rep (LL σ) β (MM Mo σ.mu β) w δ.val v ∧ δ.upd = [] := by
  have hv := opd_ok hx hR.tm
  have main : ∀ (b off : Nat) (p : PV) (cs : List PV) (vs : List Value), a.eval x = .pointer (some ⟨b, off, none⟩) → i.size ≤ cs.length → Pw (Rep (LL σ) β (MM Mo σ.mu β) w) cs vs → w.rangeAt b off (vs.take i.size) → 
      (∀ ts, δ = ⟨if d.isRow then .agg (cs.take i.size) else cs.getD 0 .dead, [], ts⟩ → ∃ v, (Instr.loadAt t (a.eval x)).run P w = .ok v w ∧ Rep (LL σ) β (MM Mo σ.mu β) w δ.val v ∧ δ.upd = []) := by
    intro b off p cs vs he hle hpw hrg ts hδ
    subst hδ
    exact ⟨_, by rw [he]; exact run_load hu hi h1 w b off _ (by rw [List.length_take, ← hpw.1]; omega) hrg, Rep.loaded hpw hle h1, rfl⟩
  simp only [aop] at h
  split at h
  · rename_i s off hp
    rw [hp] at hv
    split at h
    · rename_i cs hcs
      split at h
      · rename_i hle
        simp only [Option.some.injEq] at h
        obtain ⟨us, ty, g1, g2, g3⟩ := hR.mem.box s _ hcs
        have hpw : Pw (Rep (LL σ) β (MM Mo σ.mu β) w) cs us := ⟨g2, g3⟩
        refine main (β s).blk off (.dead) (cs.drop off) (us.drop off) ?_ (by rw [List.length_drop]; omega) (hpw.drop off) ?_ [s] ?_
        · exact hv.ptr_inv.2
        · intro j v hj
          rw [cell_of_row w (β s).blk (off + j) us.toArray ty (0, 0) g1]
          rw [List.getElem?_take] at hj
          split at hj
          · rw [List.getElem?_drop] at hj; simpa using hj
          · cases hj
        · rw [← h]; simp [List.getD_eq_getElem?_getD]
      · cases h
    · rename_i q hcs
      split at h
      · rename_i hle
        obtain ⟨rfl, hn, hrow⟩ := hle
        simp only [Option.some.injEq] at h
        have hb := hR.mem.box s _ hcs
        obtain ⟨u, g3, g4⟩ := RepI.bx_inv hb
        refine main (β s).blk 0 .dead [q] [u] hv.ptr_inv.2 (by rw [hn]; exact Nat.le_refl _) (Pw.one (.imm _ _ g3)) ?_ [s] (by rw [← h, hrow]; rfl)
        intro j v hj
        rw [hn] at hj
        match j with
        | 0 => simp at hj; subst hj; exact g4
        | j + 1 => simp at hj
      · cases h
    · cases h
  · rename_i q hp
    rw [hp] at hv
    split at h
    · rename_i hle
      obtain ⟨hn, hrow⟩ := hle
      simp only [Option.some.injEq] at h
      obtain ⟨b, o, u, he, g3, g4⟩ := hv.bx_inv
      refine main b o .dead [q] [u] he (by rw [hn]; exact Nat.le_refl _) (Pw.one (.imm _ _ g3)) ?_ [] (by rw [← h, hrow]; rfl)
      intro j v hj
      rw [hn] at hj
      match j with
      | 0 => simp at hj; subst hj; exact g4
      | j + 1 => simp at hj
    · cases h
  · rename_i cs hp
    rw [hp] at hv
    split at h
    · rename_i hle
      simp only [Option.some.injEq] at h
      obtain ⟨b, off, he, g1, g2, vs, g3, g4⟩ := hv.at_inv
      · refine main b off .dead cs ((List.range cs.length).map vs) he hle ⟨by simp, fun j p v hj hv => ?_⟩ ?_ [] h.symm
        · have hlt := (List.getElem?_eq_some_iff.1 hj).1
          rw [List.getElem?_map, List.getElem?_range hlt] at hv
          simp at hv; subst hv
          exact .imm _ _ (g3 j p hj)
        · intro j v hj
          rw [List.getElem?_take] at hj
          split at hj
          · rw [List.getElem?_map] at hj
            have hlt : j < cs.length := by omega
            rw [List.getElem?_range hlt] at hj
            simp at hj; subst hj
            exact g4 j _ (List.getElem?_eq_getElem hlt)
          · cases hj
    · cases h
  · rename_i s ver sz ix off hp
    rw [hp] at hv
    split at h
    · rename_i e sz' v es hes
      split at h
      · rename_i hc
        obtain ⟨rfl, rfl, hix, hoff⟩ := hc
        simp only [Option.some.injEq] at h
        obtain ⟨q1, q0, xs, q2, q3, q4⟩ := hR.mem.box s _ hes
        obtain ⟨b, hb, hptr⟩ : ∃ b, (β s).hdr.ownBlock = some b ∧ a.eval x = .pointer (some ⟨b, ix * sz' + off, none⟩) := by
          exact hv.rp_inv.2.2 q1
        have hlen := flatL_len q3
        have hxl := q2.1
        have hfl : (es.getD ix .dead).flat.length = sz' := q3 _ (by rw [List.getD_eq_getElem?_getD, List.getElem?_eq_getElem hix]; exact List.getElem_mem _)
        have hge : ∀ j p, ((es.getD ix .dead).flat.drop off)[j]? = some p → (flatL es)[ix * sz' + off + j]? = some p := by
          intro j p hj
          rw [List.getElem?_drop] at hj
          rw [Nat.add_assoc]
          exact flatL_get q3 (i := ix) (e := es.getD ix .dead) (by rw [List.getD_eq_getElem?_getD, List.getElem?_eq_getElem hix]; rfl) hj
        have hmul : ix * sz' + sz' ≤ es.length * sz' := by rw [← Nat.succ_mul]; exact Nat.mul_le_mul_right _ hix
        refine main b (ix * sz' + off) .dead ((es.getD ix .dead).flat.drop off) ((xs.drop (ix * sz' + off)).take (sz' - off)) hptr (by rw [List.length_drop, hfl]; omega) ⟨by rw [List.length_drop, hfl, List.length_take, List.length_drop, hxl]; omega, fun j p v hj hv => ?_⟩ ?_ [s] ?_
        · rw [List.getElem?_take] at hv
          split at hv
          · rw [List.getElem?_drop] at hv
            exact .imm _ _ (q4 _ p v (hge j p hj) hv)
          · cases hv
        · intro j v hj
          rw [List.getElem?_take] at hj
          split at hj
          · rw [List.getElem?_take] at hj
            split at hj
            · rw [List.getElem?_drop] at hj
              have := q2.cells hb _ v hj
              rw [addr_add, Nat.zero_add] at this; exact this
            · cases hj
          · cases hj
        · rw [← h]; simp [List.getD_eq_getElem?_getD]
      · cases h
    · cases h
  · cases h
section
variable {o : Oper} {id : Nat} {δ : Delta} (hR : Rb P w0 Mo β σ a w) (hid : ¬ LL σ id) (hK : ∀ a' w', R P w0 Mo (σ.app o.dst δ) a' w' → K a' w')
include hK
theorem wp_value {v : Value} (hrun : (execOp a.eval o).run P w = .ok (.value v) w') (h : R P w0 Mo (σ.app o.dst δ) (a.put o.dst v) w') : o.wp P a w K Q := by
  unfold Oper.wp
  rw [hrun, Oper.upon_value]
  exact hK _ _ h
theorem wp_skip' (hrun : (execOp a.eval o).run P w = .ok .skip w') (h : R P w0 Mo (σ.app o.dst δ) (a.put o.dst undef) w') : o.wp P a w K Q := by
  unfold Oper.wp
  rw [hrun, Oper.upon_skip]
  exact hK _ _ h
include hR hid
theorem ok_new {e : TypeId} {i : TypeInfo} {z : Value} (ho : o.op = .alloc e) (hi : P.info? e = some i) (hz : i.zero = some z) (hrz : z.cells.toList.all rngB = true) (h : aop σ.ev (look σ.mu) id (.new (z.cells.toList.map .sc)) = some δ) : o.wp P a w K Q := by
  simp only [aop, Option.some.injEq] at h; subst h
  refine wp_value hK (v := .pointer (some ⟨w.heap.size, 0, none⟩)) (w' := w.alloc (.cells z.cells.toList.toArray e)) ?_ ?_
  · unfold execOp; simp only [ho]
    simp [Instr.alloc, zeroValue, typeInfo, hi, hz, newVar, newRow]
  · rw [app_eq]
    refine hR.newVar hid ⟨by simp, fun j p v hp hv => ?_⟩ _
    rw [List.getElem?_map, hv] at hp
    simp at hp; subst hp; exact .scalar (List.all_eq_true.1 hrz _ (List.mem_of_getElem? hv))
theorem ok_boxv {e : TypeId} {x : Operand} {x' : AOpd} (ho : o.op = .box e x) (hx : compOpd x = some x') (h : aop σ.ev (look σ.mu) id (.boxv x') = some δ) : o.wp P a w K Q := by
  simp only [aop] at h
  split at h
  · rename_i cs hcs
    simp only [Option.some.injEq] at h; subst h
    obtain ⟨vs, hv, hp, -⟩ := boxCells_ok (opd_ok hx hR.tm) hcs
    refine wp_value hK (v := .pointer (some ⟨w.heap.size, 0, none⟩)) (w' := w.alloc (.cells vs.toArray e)) ?_ ?_
    · unfold execOp; simp only [ho]
      simp [Instr.box, hv, newVar, newRow]
    · rw [app_eq]
      exact hR.newVar hid hp _
  · cases h
omit hid
theorem ok_load {t : TypeId} {x : Operand} {x' : AOpd} {d : TypeDesc} {i : TypeInfo} (ho : o.op = .load t x) (hu : P.underlying t = some d) (hi : P.info? t = some i) (h1 : d.isRow = false → i.size = 1) (hx : compOpd x = some x') (h : aop σ.ev (look σ.mu) id (.load i.size d.isRow x') = some δ) : o.wp P a w K Q := by
  obtain ⟨v, hr, hp, hu'⟩ := load_run hR hu hi h1 hx h
  obtain ⟨val, upd, ts⟩ := δ
  simp only at hp hu'
  subst hu'
  refine hR.val ?_ hp hK
  unfold execOp; simp only [ho]
  rw [Sem.run_bind, hr]; rfl
theorem ok_faddr {st : TypeId} {x : Operand} {x' : AOpd} {fs : Array Field} {k : Nat} {f : Field} {i : TypeInfo} (ho : o.op = .fieldAddr st x k) (hu : P.underlying st = some (.struct fs)) (hf : fs[k]? = some f) (hi : P.info? f.type = some i) (h0 : i.size ≠ 0) (hx : compOpd x = some x') (h : aop σ.ev (look σ.mu) id (.faddr f.offset x') = some δ) : o.wp P a w K Q := by
  have hv := opd_ok hx hR.tm
  have main : ∀ (b off : Nat) (p : PV) (ts : List Nat), a.eval x = .pointer (some ⟨b, off, none⟩) → Rep (LL σ) β (MM Mo σ.mu β) w p (.pointer (some ⟨b, off + f.offset, none⟩)) → δ = ⟨p, [], ts⟩ → o.wp P a w K Q := by
    intro b off p ts he hp hδ
    subst hδ
    refine hR.val (v := .pointer (some ⟨b, off + f.offset, none⟩)) ?_ hp hK
    unfold execOp; simp only [ho, he]
    simp [Instr.fieldAt, run_underlying hu, hf, Instr.sureAddr, fieldPlace, sizeOf, typeInfo, hi, h0, addr_add]
  simp only [aop] at h
  split at h
  · rename_i s off hp
    rw [hp] at hv
    simp only [Option.some.injEq] at h
    generalize hev : a.eval x = u at hv
    cases hv with
    | imm _ _ hv => cases hv
    | ptr _ _ hl => exact main _ _ _ _ hev (.ptr s _ hl) h.symm
  · rename_i cs hp
    rw [hp] at hv
    simp only [Option.some.injEq] at h
    generalize hev : a.eval x = u at hv
    cases hv with
    | imm _ _ hv => cases hv
    | at_ _ b off vs g1 g2 g3 g4 =>
      refine main _ _ _ _ hev (.at_ _ b _ (fun j => vs (f.offset + j)) g1 g2 (fun j p hj => g3 _ p (by rw [List.getElem?_drop] at hj; exact hj)) (fun j p hj => ?_)) h.symm
      rw [List.getElem?_drop] at hj
      have := g4 _ p hj
      rw [show off + f.offset + j = off + (f.offset + j) by omega]; exact this
  · rename_i s ver sz ix off hp
    rw [hp] at hv
    generalize hev : a.eval x = u at hv
    cases hv with
    | imm _ _ hv => cases hv
    | rp _ _ _ _ _ _ l1 l2 l3 l4 =>
      split at h
      · rename_i e' sz' v' es hes
        split at h
        · rename_i e
          simp only [Option.some.injEq] at h
          subst e
          obtain ⟨q1, -⟩ := hR.mem.box s _ hes
          obtain ⟨b, hb, hptr⟩ := l3 q1
          exact main b _ _ _ (hev.trans hptr) (.rp s v' sz ix _ _ l1 l2 (fun _ => ⟨b, hb, by rw [Nat.add_assoc]⟩) rfl) h.symm
        · cases h
      · cases h
  · cases h
end
end

section
open Go.RowKit
open Nat (reduceAdd reduceEqDiff reduceLT reduceLeDiff reduceSub reducePow reduceMul)
open Int (reduceToNat reduceLE reduceEq)
set_option linter.unusedVariables false
set_option linter.unusedSimpArgs false
set_option linter.unnecessarySimpa false


variable {P : Program} {w0 : Fr} {Mo : Nat → Prop} {σ : St} {a : Act} {w w' : World} {K : Act → World → Prop} {Q : Exit → Act → World → Prop} {L : Nat → Prop} {β : Nat → Bd} {M : Nat → Prop} {H : Nat} {μ : List (Nat × Box)}
theorem run_storeV {t : TypeId} {i : TypeInfo} (hi : P.info? t = some i) (w : World) (b o : Nat) (v : Value) (vs us : List Value) (ty : TypeId) (hv : v.cells = vs.toArray) (hl : vs.length = i.size) (hb : w.heap[b]? = some (.cells us.toArray ty (0, 0))) (hle : o + vs.length ≤ us.length) (h1 : ∀ u ∈ vs, u.oneCell' = true) :
    (Instr.storeAt t (.pointer (some ⟨b, o, none⟩)) v).run P w = .ok () (w.setCells b o vs) := by
  have hst := run_storeCells_cells (P := P) b o vs 0 w (fun j hj => by rw [cell_of_row w b (o + 0 + j) us.toArray ty (0, 0) hb]; simp; omega) (fun j hj => by simp [World.frozen?, hb]) h1
  simp only [Nat.add_zero] at hst
  simp [Instr.storeAt, Instr.sureAddr, storeVar, sizeOf, typeInfo, hi, hv, hl, hst]
theorem resC_ok (hm : Mem P w0 Mo L β μ w) {p q : PV} {v : Value} (h : Rep L β (MM Mo μ β) w p v) (hq : resC (look μ) p = some q) (hf : frzUpd (look μ) p = []) : RepI (MM Mo μ β) w q v := by
  unfold resC at hq
  split at hq
  · cases hq
    have := h.sc_inv; subst this
    exact .slE none 0 (Nat.zero_le _) (fun _ => rfl)
  · cases hq
    cases h with
    | imm _ _ h => exact h
  · cases hq
    cases h with
    | imm _ _ h => exact h
  · cases hq
    cases h with
    | imm _ _ h => exact h
  · cases hq
    cases h with
    | imm _ _ h => exact h
  · cases hq
    cases h with
    | imm _ _ h => exact h
  · cases hq
    cases h with
    | imm _ _ h => exact h
  · cases hq
    cases h with
    | imm _ _ h => exact h
  · rename_i s ver
    split at hq
    · rename_i hs
      simp [frzUpd, hs] at hf
    · rename_i hs
      split at hq
      · rename_i e
        cases hq
        obtain ⟨q1, q2⟩ := hm.box s _ hs
        obtain ⟨_, _, h3⟩ := h.own_inv
        rw [h3 (q1.trans e)]; exact q2
      · cases hq
    · cases hq
  · cases hq
theorem look_upd_mem {l : List (Nat × Box)} (h : FrzOf μ l) {s : Nat} {b : Box} (hs : (s, b) ∈ l) : look (l.foldl (fun m sb => setB m sb.1 sb.2) μ) s = some b := by
  induction l generalizing μ b with
  | nil => cases hs
  | cons sb l ih =>
    obtain ⟨ver, es, h1, h2⟩ := h sb (by simp)
    obtain ⟨s', b'⟩ := sb
    subst h1
    have hF := FrzOf.upd (l := l) (fun x hx => h x (by simp [hx])) h2
    rw [List.foldl_cons]
    by_cases hin : ∃ b2, (s, b2) ∈ l
    · obtain ⟨b2, hb2⟩ := hin
      rw [ih hF hb2]
      obtain ⟨v3, e3, h5, h6⟩ := h (s, b) hs
      obtain ⟨v4, e4, h7, h8⟩ := h (s, b2) (by simp [hb2])
      simp only at h5 h6 h7 h8
      subst h5; subst h7
      rcases h6 with ⟨_, _, h6⟩ | h6 <;> rcases h8 with ⟨_, _, h8⟩ | h8 <;> rw [h6] at h8 <;> simp at h8 <;> simp [h8]
    · rcases List.mem_cons.1 hs with e | hs
      · cases e
        have key : ∀ (m : List (Nat × Box)), look (l.foldl (fun m sb => setB m sb.1 sb.2) m) s = look m s := by
          clear ih hF h hs
          induction l with
          | nil => intro m; rfl
          | cons x l ih =>
            intro m
            rw [List.foldl_cons, ih (fun ⟨b2, hb⟩ => hin ⟨b2, by simp [hb]⟩), look_setB, if_neg]
            intro e; exact hin ⟨x.2, by subst e; simp⟩
        rw [key, look_setB, if_pos rfl]
      · exact absurd ⟨b, hs⟩ hin
theorem look_upd_not {l : List (Nat × Box)} {s : Nat} (hs : ∀ b, (s, b) ∉ l) : look (l.foldl (fun m sb => setB m sb.1 sb.2) μ) s = look μ s := by
  induction l generalizing μ with
  | nil => rfl
  | cons x l ih =>
    rw [List.foldl_cons, ih (fun b hb => hs b (by simp [hb])), look_setB, if_neg]
    intro e; subst e; exact hs x.2 (by simp)
/-- Behind the freezing a value resolves as before. -/
theorem resC_upd {l : List (Nat × Box)} (h : FrzOf μ l) {p q : PV} (hq : resC (look μ) p = some q) : resC (look (l.foldl (fun m sb => setB m sb.1 sb.2) μ)) p = some q := by
  cases p with
  | own s ver =>
    simp only [resC] at hq ⊢
    by_cases hin : ∃ b, (s, b) ∈ l
    · obtain ⟨b, hb⟩ := hin
      rw [look_upd_mem h hb]
      obtain ⟨v, es, h1, h2⟩ := h _ hb
      simp only at h1 h2
      subst h1
      rcases h2 with ⟨_, _, h2⟩ | h2 <;> rw [h2] at hq <;> exact hq
    · rw [look_upd_not (fun b hb => hin ⟨b, hb⟩)]; exact hq
  | sc v =>
    rw [← hq]
    unfold resC
    split <;> first | rfl | (rename_i h; cases h)
  | _ => exact hq
theorem frzUpd_upd {l : List (Nat × Box)} (h : FrzOf μ l) {p : PV} (hsub : ∀ x ∈ frzUpd (look μ) p, x ∈ l) : frzUpd (look (l.foldl (fun m sb => setB m sb.1 sb.2) μ)) p = [] := by
  cases p with
  | own s ver =>
    simp only [frzUpd] at hsub ⊢
    by_cases hin : ∃ b, (s, b) ∈ l
    · obtain ⟨b, hb⟩ := hin
      rw [look_upd_mem h hb]
      obtain ⟨v, es, h1, h2⟩ := h _ hb
      simp only at h1; subst h1; rfl
    · rw [look_upd_not (fun b hb => hin ⟨b, hb⟩)]
      cases hl : look μ s with
      | none => rfl
      | some b =>
        cases b with
        | row e sz v es => rw [hl] at hsub; exact absurd ⟨.frz v es, hsub (s, .frz v es) (by simp)⟩ hin
        | _ => rfl
  | _ => rfl
theorem mapM_get {α γ : Type} {f : α → Option γ} {xs : List α} {ys : List γ} (h : xs.mapM f = some ys) : xs.length = ys.length ∧ ∀ (j : Nat) (x : α), xs[j]? = some x → ∃ y, ys[j]? = some y ∧ f x = some y := by
  induction xs generalizing ys with
  | nil => simp at h; subst h; exact ⟨rfl, fun j x hx => by simp at hx⟩
  | cons x xs ih =>
    simp only [List.mapM_cons, Option.bind_eq_bind, Option.pure_def, Option.bind_eq_some_iff, Option.some.injEq] at h
    obtain ⟨y, hy, ys', hys, rfl⟩ := h
    obtain ⟨h1, h2⟩ := ih hys
    refine ⟨by simp [h1], fun j z hz => ?_⟩
    cases j with
    | zero => simp at hz; subst hz; exact ⟨y, rfl, hy⟩
    | succ j => simpa using h2 j z (by simpa using hz)
theorem resP_ok (hm : Mem P w0 Mo L β μ w) {p q : PV} {v : Value} (h : Rep L β (MM Mo μ β) w p v) (hq : resP (look μ) p = some q) (hf : frzAll (look μ) p = []) : RepI (MM Mo μ β) w q v := by
  cases p with
  | agg cs =>
    simp only [resP, Option.map_eq_some_iff] at hq
    simp only [frzAll] at hf
    obtain ⟨qs, hqs, rfl⟩ := hq
    obtain ⟨vs, rfl, h1, h2⟩ := h.agg_inv
    obtain ⟨g1, g2⟩ := mapM_get hqs
    refine .agg qs vs (g1.symm.trans h1) (fun j q u hq hu => ?_)
    have hj := (List.getElem?_eq_some_iff.1 hq).1
    obtain ⟨q', hq', hr⟩ := g2 j _ (List.getElem?_eq_getElem (show j < cs.length by omega))
    rw [hq] at hq'; cases hq'
    refine resC_ok hm (h2 j _ u (List.getElem?_eq_getElem (by omega)) hu) hr ?_
    exact List.flatMap_eq_nil_iff.1 hf _ (List.getElem_mem (show j < cs.length by omega))
  | sc v => exact resC_ok (p := .sc v) hm h hq hf
  | sl es => exact resC_ok (p := .sl es) hm h hq hf
  | tup vs => exact resC_ok (p := .tup vs) hm h hq hf
  | ptr s o => exact resC_ok (p := .ptr s o) hm h hq hf
  | own s n => exact resC_ok (p := .own s n) hm h hq hf
  | rp s v z i o => exact resC_ok (p := .rp s v z i o) hm h hq hf
  | win s v z i o => exact resC_ok (p := .win s v z i o) hm h hq hf
  | at_ cs => exact resC_ok (p := .at_ cs) hm h hq hf
  | mp s => exact resC_ok (p := .mp s) hm h hq hf
  | clo f cs => exact resC_ok (p := .clo f cs) hm h hq hf
  | clf f cs => exact resC_ok (p := .clf f cs) hm h hq hf
  | clp f s => exact resC_ok (p := .clp f s) hm h hq hf
  | bx q => exact resC_ok (p := .bx q) hm h hq hf
  | ifc => exact resC_ok (p := .ifc) hm h hq hf
  | fm kk m => exact resC_ok (p := .fm kk m) hm h hq hf
  | dead => exact resC_ok (p := .dead) hm h hq hf
theorem resP_upd {l : List (Nat × Box)} (h : FrzOf μ l) {p q : PV} (hq : resP (look μ) p = some q) (hsub : ∀ x ∈ frzAll (look μ) p, x ∈ l) : resP (look (l.foldl (fun m sb => setB m sb.1 sb.2) μ)) p = some q ∧ frzAll (look (l.foldl (fun m sb => setB m sb.1 sb.2) μ)) p = [] := by
  cases p with
  | agg cs =>
    simp only [resP, Option.map_eq_some_iff] at hq
    simp only [frzAll] at hsub
    obtain ⟨qs, hqs, rfl⟩ := hq
    refine ⟨?_, ?_⟩
    · simp only [resP, Option.map_eq_some_iff]
      refine ⟨qs, ?_, rfl⟩
      clear hsub
      induction cs generalizing qs with
      | nil => exact hqs
      | cons c cs ih =>
        simp only [List.mapM_cons, Option.bind_eq_bind, Option.pure_def, Option.bind_eq_some_iff, Option.some.injEq] at hqs ⊢
        obtain ⟨y, hy, ys', hys, rfl⟩ := hqs
        exact ⟨y, resC_upd h hy, ys', ih _ hys, rfl⟩
    · simp only [frzAll]
      exact List.flatMap_eq_nil_iff.2 (fun c hc => frzUpd_upd h (fun x hx => hsub x (List.mem_flatMap.2 ⟨c, hc, hx⟩)))
  | sc v => exact ⟨resC_upd (p := .sc v) h hq, frzUpd_upd (p := .sc v) h hsub⟩
  | sl es => exact ⟨resC_upd (p := .sl es) h hq, frzUpd_upd (p := .sl es) h hsub⟩
  | tup vs => exact ⟨resC_upd (p := .tup vs) h hq, frzUpd_upd (p := .tup vs) h hsub⟩
  | ptr s o => exact ⟨resC_upd (p := .ptr s o) h hq, frzUpd_upd (p := .ptr s o) h hsub⟩
  | own s n => exact ⟨resC_upd (p := .own s n) h hq, frzUpd_upd (p := .own s n) h hsub⟩
  | rp s v z i o => exact ⟨resC_upd (p := .rp s v z i o) h hq, frzUpd_upd (p := .rp s v z i o) h hsub⟩
  | win s v z i o => exact ⟨resC_upd (p := .win s v z i o) h hq, frzUpd_upd (p := .win s v z i o) h hsub⟩
  | at_ cs => exact ⟨resC_upd (p := .at_ cs) h hq, frzUpd_upd (p := .at_ cs) h hsub⟩
  | mp s => exact ⟨resC_upd (p := .mp s) h hq, frzUpd_upd (p := .mp s) h hsub⟩
  | clo f cs => exact ⟨resC_upd (p := .clo f cs) h hq, frzUpd_upd (p := .clo f cs) h hsub⟩
  | clf f cs => exact ⟨resC_upd (p := .clf f cs) h hq, frzUpd_upd (p := .clf f cs) h hsub⟩
  | clp f s => exact ⟨resC_upd (p := .clp f s) h hq, frzUpd_upd (p := .clp f s) h hsub⟩
  | bx q => exact ⟨resC_upd (p := .bx q) h hq, frzUpd_upd (p := .bx q) h hsub⟩
  | ifc => exact ⟨resC_upd (p := .ifc) h hq, frzUpd_upd (p := .ifc) h hsub⟩
  | fm kk m => exact ⟨resC_upd (p := .fm kk m) h hq, frzUpd_upd (p := .fm kk m) h hsub⟩
  | dead => exact ⟨resC_upd (p := .dead) h hq, frzUpd_upd (p := .dead) h hsub⟩
theorem flatL_inv {es : List PV} {sz : Nat} (h : ∀ e ∈ es, e.flat.length = sz) {k : Nat} {p : PV} (hp : (flatL es)[k]? = some p) : 0 < sz ∧ ∃ e, es[k / sz]? = some e ∧ e.flat[k % sz]? = some p := by
  have hk := (List.getElem?_eq_some_iff.1 hp).1
  rw [flatL_len h] at hk
  have hsz : 0 < sz := by
    rcases Nat.eq_zero_or_pos sz with e | e
    · subst e; simp at hk
    · exact e
  have hlt : k / sz < es.length := Nat.div_lt_of_lt_mul (by rw [Nat.mul_comm]; exact hk)
  have he : es[k / sz]? = some (es[k / sz]) := List.getElem?_eq_getElem hlt
  have hf := h _ (List.getElem_mem hlt)
  have hm := Nat.mod_lt k hsz
  have hq : (es[k / sz]).flat[k % sz]? = some ((es[k / sz]).flat[k % sz]'(by omega)) := List.getElem?_eq_getElem (by omega)
  have := flatL_get h he hq
  rw [Nat.mul_comm, Nat.div_add_mod] at this
  rw [hp] at this
  exact ⟨hsz, _, he, by rw [hq]; exact this.symm⟩
/-- What a slice's cells are. -/
def SlOk (M : Nat → Prop) (w : World) (es : List PV) (v : Value) : Prop := ∃ ad cap, v = .slice ad es.length cap ∧ es.length ≤ cap ∧ cap ≤ maxLen ∧ (ad = none → cap = 0) ∧
    (∀ sz, (∀ e ∈ es, e.flat.length = sz) → ∃ xs : List Value, Pw (RepI M w) (flatL es) xs ∧ (es ≠ [] → ∃ b o, ad = some ⟨b, o, none⟩ ∧ b < w.heap.size ∧ (¬ M b ∨ ∃ g, v.ownBlock = some g ∧ b = g) ∧ ∀ j u, xs[j]? = some u → w.cell? ⟨b, o + j, none⟩ = some u))
theorem RepI.slOk {es : List PV} {v : Value} (h : RepI M w (.sl es) v) : SlOk M w es v := by
  cases h with
  | slE ad cap h1 h2 => exact ⟨ad, cap, rfl, Nat.zero_le _, h1, h2, fun sz _ => ⟨[], ⟨rfl, fun j p u hp => by simp [flatL] at hp⟩, fun h => absurd rfl h⟩⟩
  | sl _ b o cap sz vs h0 h1 h2 h3 h4 h5 h6 h7 =>
    refine ⟨_, cap, rfl, h1, h2, (fun e => by cases e), fun sz' hsz' => ?_⟩
    refine ⟨(List.range (flatL es).length).map (fun k => vs (k / sz) (k % sz)), ⟨by simp, fun k p u hp hu => ?_⟩, fun _ => ⟨b, o, rfl, h3, .inl h4, fun k u hu => ?_⟩⟩
    · have hlt := (List.getElem?_eq_some_iff.1 hp).1
      rw [List.getElem?_map, List.getElem?_range hlt] at hu
      simp at hu; subst hu
      obtain ⟨g0, e, g1, g2⟩ := flatL_inv h5 hp
      exact h6 _ e _ p g1 g2
    · have hlt : k < (flatL es).length := by
        have := (List.getElem?_eq_some_iff.1 hu).1; simpa using this
      rw [List.getElem?_map, List.getElem?_range hlt] at hu
      simp at hu; subst hu
      obtain ⟨g0, e, g1, g2⟩ := flatL_inv h5 (List.getElem?_eq_getElem hlt)
      have := h7 _ e _ _ g1 g2
      rw [← this, show o + k / sz * sz + k % sz = o + k by rw [Nat.add_assoc, Nat.mul_comm, Nat.div_add_mod]]
theorem slView_ok (hm : Mem P w0 Mo L β μ w) {p : PV} {v : Value} {es : List PV} {ts : List Nat} (h : Rep L β (MM Mo μ β) w p v) (hq : slView (look μ) p = some (es, ts)) : SlOk (MM Mo μ β) w es v := by
  unfold slView at hq
  split at hq
  · cases hq
    cases h with
    | imm _ _ h => exact h.slOk
  · cases hq
    have := h.sc_inv; subst this
    exact RepI.slOk (.slE none 0 (Nat.zero_le _) (fun _ => rfl))
  · rename_i s ver
    split at hq
    · rename_i e sz ver' es' hs
      split at hq
      · rename_i e
        cases hq
        obtain ⟨q1, q0, xs, q2, q3, q4⟩ := hm.box s _ hs
        obtain ⟨_, _, h3⟩ := h.own_inv
        rw [h3 (q1.trans e)]
        have hpw : Pw (RepI (MM Mo μ β) w) (flatL es) xs := ⟨by rw [flatL_len q3, q2.1], q4⟩
        have hc := fun g hg => q2.cells (g := g) hg
        rcases q2.2 with ⟨hv, hn⟩ | ⟨g, cap, cur, hv, hg, hh, hle, hmx, _, _⟩
        · have : es = [] := List.eq_nil_of_length_eq_zero hn
          subst this
          rw [hv]
          exact ⟨none, 0, rfl, Nat.le_refl _, Nat.zero_le _, fun _ => rfl, fun sz _ => ⟨[], ⟨rfl, fun j p u hp => by simp [flatL] at hp⟩, fun h => absurd rfl h⟩⟩
        · rw [hv]
          refine ⟨_, cap, rfl, hle, hmx, (fun e => by cases e), fun sz' hsz' => ⟨xs, hpw, fun _ => ⟨g, 0, rfl, (Array.getElem?_eq_some_iff.1 hh).1, .inr ⟨g, rfl, rfl⟩, fun j u hu => ?_⟩⟩⟩
          have := hc g (by rw [hv]; rfl) j u hu
          rw [addr_add] at this; exact this
      · cases hq
    · rename_i ver' es' hs
      split at hq
      · rename_i e
        cases hq
        obtain ⟨q1, q2⟩ := hm.box s _ hs
        obtain ⟨_, _, h3⟩ := h.own_inv
        rw [h3 (q1.trans e)]; exact q2.slOk
      · cases hq
    · cases hq
  · cases hq
end

section
open Go.RowKit
open Nat (reduceAdd reduceEqDiff reduceLT reduceLeDiff reduceSub reducePow reduceMul)
open Int (reduceToNat reduceLE reduceEq)
set_option linter.unusedVariables false
set_option linter.unusedSimpArgs false
set_option linter.unnecessarySimpa false


variable {P : Program} {w0 : Fr} {Mo : Nat → Prop} {σ : St} {a : Act} {w w' : World} {K : Act → World → Prop} {Q : Exit → Act → World → Prop} {L : Nat → Prop} {β : Nat → Bd} {M : Nat → Prop} {H : Nat} {μ : List (Nat × Box)}
section
variable {o : Oper} {id : Nat} {δ : Delta} (hR : Rb P w0 Mo β σ a w) (hid : ¬ LL σ id) (hK : ∀ a' w', R P w0 Mo (σ.app o.dst δ) a' w' → K a' w')
include hR hK
theorem ok_len {t e : TypeId} {x : Operand} {x' : AOpd} (ho : o.op = .call { callee := .builtin .len, args := #[x], argTypes := #[t] }) (hu : P.underlying t = some (.slice e)) (hx : compOpd x = some x') (h : aop σ.ev (look σ.mu) id (.len x') = some δ) : o.wp P a w K Q := by
  simp only [aop] at h
  split at h
  · rename_i es ts hs
    simp only [Option.some.injEq] at h; subst h
    obtain ⟨ad, cap, hv, hle, hmx, -⟩ := slView_ok hR.mem (opd_ok hx hR.tm) hs
    refine hR.val (v := .int .i64 es.length) ?_ (.scalar (by unfold maxLen at hmx; simp [rngB, IntKind.min, IntKind.max, IntKind.bits, IntKind.signed]; omega)) hK
    unfold execOp; simp only [ho]
    simp [resolve, invoke, builtin, hv, Builtin.len_, run_underlying hu, goInt]
  · cases h
theorem ok_fieldv {st : TypeId} {x : Operand} {x' : AOpd} {fs : Array Field} {k : Nat} {f : Field} {i : TypeInfo} {d : TypeDesc} (ho : o.op = .field st x k) (hu : P.underlying st = some (.struct fs)) (hf : fs[k]? = some f) (hi : P.info? f.type = some i) (hd : P.underlying f.type = some d) (h1 : d.isRow = false → i.size = 1) (hx : compOpd x = some x') (h : aop σ.ev (look σ.mu) id (.fieldv f.offset i.size d.isRow x') = some δ) : o.wp P a w K Q := by
  have hv := opd_ok hx hR.tm
  simp only [aop] at h
  split at h
  · rename_i cs hp
    rw [hp] at hv
    split at h
    · rename_i hle
      simp only [Option.some.injEq] at h; subst h
      obtain ⟨vs, he, h2, h3⟩ := hv.agg_inv
      have hpw : Pw (Rep (LL σ) β (MM Mo σ.mu β) w) cs vs := ⟨h2, h3⟩
      have hl := Rep.loaded (r := d.isRow) (n := i.size) (hpw.drop f.offset) (by rw [List.length_drop]; omega) h1
      refine hR.val (v := if d.isRow then .agg ((vs.drop f.offset).take i.size).toArray else ((vs.drop f.offset).take i.size).headD undef) ?_ (by simpa [List.getD_eq_getElem?_getD] using hl) hK
      unfold execOp; simp only [ho, he]
      cases hr : d.isRow
      · have h1 := h1 hr
        have hagg : (isAgg f.type).run P w = .ok false w := by
          unfold isAgg
          rw [Sem.run_bind, run_underlying hd w]
          cases d <;> simp_all [TypeDesc.isRow]
        have hlt : f.offset < vs.length := by omega
        have hd2 : ((vs.drop f.offset).take 1).headD undef = vs[f.offset] := by
          rw [List.headD_eq_head?_getD, List.head?_take, if_neg (by omega), List.head?_drop, List.getElem?_eq_getElem hlt]; rfl
        simp [Instr.field, run_underlying hu, hf, part, hagg, asAgg, h1, hlt]
        rw [← hd2, List.headD_eq_head?_getD]
      · have hagg : (isAgg f.type).run P w = .ok true w := by
          unfold isAgg
          rw [Sem.run_bind, run_underlying hd w]
          cases d <;> simp_all [TypeDesc.isRow]
        simp [Instr.field, run_underlying hu, hf, part, hagg, asAgg, sizeOf, typeInfo, hi]
    · cases h
  · cases h
theorem ok_iaddr {t e : TypeId} {x ix : Operand} {x' i' : AOpd} {ie : TypeInfo} (ho : o.op = .indexAddr t x ix) (hu : P.underlying t = some (.slice e)) (hi : P.info? e = some ie) (hx : compOpd x = some x') (hix : compOpd ix = some i') (h : aop σ.ev (look σ.mu) id (.iaddr ie.size x' i') = some δ) : o.wp P a w K Q := by
  have hv := opd_ok hx hR.tm
  have hvi := opd_ok hix hR.tm
  have run : ∀ (ad : Addr) (n cap : Nat) (k : IntKind) (i : Int), a.eval x = .slice (some ad) n cap → a.eval ix = .int k i → 0 ≤ i → i.toNat < n → (execOp a.eval o).run P w = .ok (.value (.pointer (some (ad.add (i.toNat * ie.size))))) w := by
    intro ad n cap k i h1 h2 h3 h4
    unfold execOp; simp only [ho, h1, h2]
    simp [Instr.indexAt, asIntOf, run_underlying hu, h3, show i < (n : Int) by omega, sizeOf, typeInfo, hi]
  have key : ∀ (es : List PV) (ts : List Nat) (k : IntKind) (i : Int), SlOk (MM Mo σ.mu β) w es (a.eval x) → a.eval ix = .int k i → 0 ≤ i → i.toNat < es.length → (es.getD i.toNat .dead).flat.length = ie.size → (∀ b, (a.eval x).ownBlock = some b → ¬ MM Mo σ.mu β b) → RepI (MM Mo σ.mu β) w (.sl es) (a.eval x) → δ = ⟨.at_ (es.getD i.toNat .dead).flat, [], ts⟩ → o.wp P a w K Q := by
    intro es ts k i hs h2 h3 h4 h5 h6 hI hδ
    subst hδ
    generalize hev : a.eval x = u at *
    cases hI with
    | slE => simp at h4
    | sl _ b o' cap sz vs g0 g1 g2 g3 g4 g5 g6 g7 =>
      have he : es[i.toNat]? = some (es.getD i.toNat .dead) := by rw [List.getD_eq_getElem?_getD, List.getElem?_eq_getElem h4]; rfl
      have hsz : sz = ie.size := by rw [← h5]; exact (g5 _ (List.mem_of_getElem? he)).symm
      subst hsz
      refine hR.val (v := .pointer (some ⟨b, o' + i.toNat * ie.size, none⟩)) ?_ (.at_ _ b _ (vs i.toNat) g3 g4 (fun j p hj => g6 _ _ j p he hj) (fun j p hj => g7 _ _ j p he hj)) hK
      rw [run ⟨b, o', none⟩ _ cap k i rfl h2 h3 h4, addr_add]
  simp only [aop] at h
  split at h
  · rename_i k i hi'
    rw [hi'] at hvi
    have hie := hvi.sc_inv
    split at h
    · rename_i es hp
      rw [hp] at hv
      split at h
      · rename_i hc
        simp only [Option.some.injEq] at h
        have hI : RepI (MM Mo σ.mu β) w (.sl es) (a.eval x) := by
          cases hv with
          | imm _ _ h => exact h
        refine key es [] k i hI.slOk hie hc.1 hc.2.1 hc.2.2 (fun b hb => ?_) hI h.symm
        generalize a.eval x = u at *
        cases hI with
        | slE => simp at hc
        | sl _ b' o' cap sz vs g0 g1 g2 g3 g4 => simp [Value.ownBlock] at hb; subst hb; exact g4
      · cases h
    · rename_i s ver hp
      rw [hp] at hv
      split at h
      · rename_i e' sz' v' es hes
        split at h
        · rename_i hc
          obtain ⟨rfl, rfl, h3, h4⟩ := hc
          simp only [Option.some.injEq] at h; subst h
          obtain ⟨l1, l2, l3⟩ := hv.own_inv
          obtain ⟨q1, q0, xs, q2, q3, q4⟩ := hR.mem.box s _ hes
          have hev := l3 q1
          rcases q2.2 with ⟨hh, hn⟩ | ⟨g, cap, cur, hh, hg, hgg, hle, hmx, _, _⟩
          · omega
          · refine hR.val (v := .pointer (some ⟨g, i.toNat * ie.size, none⟩)) ?_ (.rp s v' _ _ 0 _ l1 (by omega) (fun _ => ⟨g, by rw [hh]; rfl, by simp⟩) rfl) hK
            rw [run ⟨g, 0, none⟩ es.length cap k i (hev.trans hh) hie h3 h4, addr_add]
            simp
        · cases h
      · rename_i v' es hes
        split at h
        · rename_i hc
          obtain ⟨rfl, h3, h4, h5⟩ := hc
          simp only [Option.some.injEq] at h
          obtain ⟨l1, l2, l3⟩ := hv.own_inv
          obtain ⟨q1, q2⟩ := hR.mem.box s _ hes
          have hev := l3 q1
          have hI : RepI (MM Mo σ.mu β) w (.sl es) (a.eval x) := by rw [hev]; exact q2
          refine key es [s] k i hI.slOk hie h3 h4 h5 (fun b hb => ?_) hI h.symm
          generalize a.eval x = u at *
          cases hI with
          | slE => simp at h4
          | sl _ b' o' cap sz vs g0 g1 g2 g3 g4 => simp [Value.ownBlock] at hb; subst hb; exact g4
        · cases h
      · cases h
    · cases h
  · cases h
theorem ok_iaddrA {t e : TypeId} {n : Nat} {x ix : Operand} {x' i' : AOpd} {ie : TypeInfo} (ho : o.op = .indexAddr t x ix) (hu : P.underlying t = some (.array n e)) (hi : P.info? e = some ie) (hx : compOpd x = some x') (hix : compOpd ix = some i') (h : aop σ.ev (look σ.mu) id (.iaddrA ie.size n x' i') = some δ) : o.wp P a w K Q := by
  have hv := opd_ok hx hR.tm
  have hvi := opd_ok hix hR.tm
  have run : ∀ (ad : Addr) (k : IntKind) (i : Int), a.eval x = .pointer (some ad) → a.eval ix = .int k i → 0 ≤ i → i.toNat < n → (execOp a.eval o).run P w = .ok (.value (.pointer (some (ad.add (i.toNat * ie.size))))) w := by
    intro ad k i h1 h2 h3 h4
    unfold execOp; simp only [ho, h1, h2]
    simp [Instr.indexAt, asIntOf, run_underlying hu, h3, show i < (n : Int) by omega, sizeOf, typeInfo, hi, Instr.sureAddr]
  simp only [aop] at h
  split at h
  · rename_i k i hi'
    rw [hi'] at hvi
    have hie := hvi.sc_inv
    split at h
    · rename_i s off hp
      rw [hp] at hv
      split at h
      · rename_i hc
        simp only [Option.some.injEq] at h; subst h
        obtain ⟨l1, l2⟩ := hv.ptr_inv
        refine hR.val (v := .pointer (some ⟨(β s).blk, off + i.toNat * ie.size, none⟩)) ?_ (.ptr s _ l1) hK
        rw [run _ k i l2 hie hc.1 hc.2, addr_add]
      · cases h
    · rename_i cs hp
      rw [hp] at hv
      split at h
      · rename_i hc
        simp only [Option.some.injEq] at h; subst h
        obtain ⟨b, off, he, g1, g2, vs, g3, g4⟩ := hv.at_inv
        refine hR.val (v := .pointer (some ⟨b, off + i.toNat * ie.size, none⟩)) ?_ (.at_ _ b _ (fun j => vs (i.toNat * ie.size + j)) g1 g2 (fun j p hj => g3 _ p (by rw [List.getElem?_drop] at hj; exact hj)) (fun j p hj => ?_)) hK
        · rw [run _ k i he hie hc.1 hc.2, addr_add]
        · rw [List.getElem?_drop] at hj
          have := g4 _ p hj
          rw [show off + i.toNat * ie.size + j = off + (i.toNat * ie.size + j) by omega]; exact this
      · cases h
    · cases h
  · cases h
theorem ok_sslice {t : TypeId} {x : Operand} {lo hi : Option Operand} {x' : AOpd} {lo' hi' : Option AOpd} (ho : o.op = .slice t x lo hi none) (hu : P.underlying t = some .string) (hx : compOpd x = some x') (hlo : ∀ y, lo = some y → ∃ y', lo' = some y' ∧ compOpd y = some y') (hlo0 : lo = none → lo' = none) (hhi : ∀ y, hi = some y → ∃ y', hi' = some y' ∧ compOpd y = some y') (hhi0 : hi = none → hi' = none)
    (h : aop σ.ev (look σ.mu) id (.sslice x' lo' hi') = some δ) : o.wp P a w K Q := by
  have bd : ∀ (y : Option Operand) (y' : Option AOpd) (d m r : Nat), (∀ z, y = some z → ∃ z', y' = some z' ∧ compOpd z = some z') → (y = none → y' = none) → bound σ.ev y' d m = some r → (y = none ∧ r = d) ∨ ∃ z k i, y = some z ∧ a.eval z = .int k i ∧ 0 ≤ i ∧ i.toNat ≤ m ∧ r = i.toNat := by
    intro y y' d m r h1 h0 hb
    cases y with
    | none => rw [h0 rfl] at hb; simp [bound] at hb; exact .inl ⟨rfl, hb.symm⟩
    | some z =>
      obtain ⟨z', hz, hz'⟩ := h1 z rfl
      subst hz
      unfold bound at hb
      simp only at hb
      split at hb
      · rename_i k i hi
        split at hb
        · rename_i hc
          cases hb
          have := opd_ok hz' hR.tm; rw [hi] at this
          exact .inr ⟨z, k, i, rfl, this.sc_inv, hc.1, hc.2, rfl⟩
        · cases hb
      · cases hb
  simp only [aop] at h
  split at h
  · rename_i s hs
    split at h
    · rename_i hh hhb
      split at h
      · rename_i l hlb
        simp only [Option.some.injEq] at h; subst h
        have h1 := opd_ok hx hR.tm; rw [hs] at h1; have h1 := h1.sc_inv
        refine hR.val (v := .string (s.extract l hh)) ?_ (.scalar (by have := opd_ok hx hR.tm; rw [hs] at this; have := this.sc_rng; simp only [rngB, decide_eq_true_eq, ByteArray.size_extract] at *; omega)) hK
        unfold execOp; simp only [ho, h1]
        have hsb : ∀ (kl : IntKind) (i : Int) (y : Nat) (code : BoundsCode) (h0 : 0 ≤ i) (h1 : i.toNat ≤ y), (Instr.sliceBound (.int kl i) y code).run P w = .ok i.toNat w := fun kl i y code h0 h1 => run_sliceBound (P := P) w kl i y code h0 (by omega)
        rcases bd lo lo' _ _ _ hlo hlo0 hlb with ⟨rfl, rfl⟩ | ⟨zl, kl, il, rfl, el, el0, el1, rfl⟩ <;> rcases bd hi hi' _ _ _ hhi hhi0 hhb with ⟨rfl, rfl⟩ | ⟨zh, kh, ih, rfl, eh, eh0, eh1, rfl⟩
        · simp [Instr.sliceAt, Instr.slice, run_underlying hu, Instr.sliceBounds]
        · simp [Instr.sliceAt, Instr.slice, run_underlying hu, Instr.sliceBounds, eh, hsb _ _ _ _ eh0 eh1]
        · simp [Instr.sliceAt, Instr.slice, run_underlying hu, Instr.sliceBounds, el, hsb _ _ _ _ el0 el1]
        · simp [Instr.sliceAt, Instr.slice, run_underlying hu, Instr.sliceBounds, el, eh, hsb _ _ _ _ el0 el1, hsb _ _ _ _ eh0 eh1]
      · cases h
    · cases h
  · cases h
theorem ok_store {t : TypeId} {x y : Operand} {x' y' : AOpd} {i : TypeInfo} (ho : o.op = .store t x y) (hi : P.info? t = some i) (hx : compOpd x = some x') (hy : compOpd y = some y') (h : aop σ.ev (look σ.mu) id (.store i.size x' y') = some δ) : o.wp P a w K Q := by
  have hv := opd_ok hx hR.tm
  have hvy := opd_ok hy hR.tm
  simp only [aop] at h
  split at h
  · rename_i ps hps
    obtain ⟨vs, hcv, hpw, -⟩ := boxCells_ok hvy hps
    split at h
    · rename_i hc
      obtain ⟨hlen, hok⟩ := hc
      have h1 := cells_oneCell hpw hok
      have hvl : vs.length = i.size := by rw [← hpw.1]; exact hlen
      split at h
      · rename_i s off hp
        rw [hp] at hv
        split at h
        · rename_i cs hcs
          split at h
          · rename_i hle
            simp only [Option.some.injEq] at h; subst h
            obtain ⟨l1, l2⟩ := hv.ptr_inv
            obtain ⟨us, ty, g1, g2, g3⟩ := hR.mem.box s _ hcs
            have hrun := run_storeV (P := P) hi w (β s).blk off (a.eval y) vs us ty hcv hvl g1 (by omega) h1
            refine wp_skip' hK (w' := w.setCells (β s).blk off vs) ?_ ?_
            · unfold execOp; simp only [ho, l2]
              rw [Sem.run_bind, hrun]; rfl
            · rw [app_eq]
              obtain ⟨r1, r2, r3, r4⟩ := setCells_rest (β s).blk vs off w
              refine hR.upd s (.var (setAt cs off ps)) _ .dead undef (β s) ⟨r1, r2, r3⟩ ⟨⟨by rw [r4]; exact Nat.le_refl _, fun k hk hnk => heap_setCells_other _ _ _ _ _ (fun e => hnk ⟨_, hcs, e⟩)⟩, fun _ => ⟨rfl, .inl ⟨rfl, rfl⟩⟩, fun k hk => ⟨.inl ⟨_, hcs, hk⟩, by rw [r4]; exact (hR.mem.base s _ k hcs hk).2⟩, fun L' β' M' q1 q2 q3 q4 hi hr q5 => ⟨?_, .dead _⟩⟩ o.dst
              have hc1 : Pw (Rep L' β' M' (w.setCells (β s).blk off vs)) (setAt cs off ps) (setAt us off vs) := (Pw.mono ⟨g2, g3⟩ hr).setAt (hpw.mono hr) off
              exact ⟨_, ty, heap_setCells _ _ _ _ _ _ g1, hc1.1, hc1.2⟩
          · cases h
        · cases h
      · rename_i s ver sz ix off hp
        rw [hp] at hv
        split at h
        · rename_i e sz' v es hes
          split at h
          · rename_i qs hqs
            split at h
            · rename_i hc
              obtain ⟨rfl, rfl, hix, hoff, hn0, hfz⟩ := hc
              simp only [Option.some.injEq] at h; subst h
              obtain ⟨q1, q0, xs, q2, q3, q4⟩ := hR.mem.box s _ hes
              obtain ⟨l1, l2, l3⟩ := hv.rp_inv
              obtain ⟨b, hb, hptr⟩ := l3 q1
              have hxl := q2.1
              have hfl := flatL_len q3
              have hmul : ix * sz' + sz' ≤ es.length * sz' := by rw [← Nat.succ_mul]; exact Nat.mul_le_mul_right _ hix
              rcases q2.2 with ⟨hh, hn⟩ | ⟨g, cap, cur, hh, hg, hgg, hle, hmx, hcs, htk⟩
              · rw [hh] at hb; simp [Value.ownBlock] at hb
              · have hbg : b = g := by rw [hh] at hb; simpa [Value.ownBlock] using hb.symm
                subst hbg
                have hcl : es.length * sz' ≤ cur.size := by rw [hcs]; exact Nat.mul_le_mul_right _ hle
                have hrun := run_storeV (P := P) hi w b (ix * sz' + off) (a.eval y) vs cur.toList e hcv hvl hgg (by simp only [Array.length_toList]; omega) h1
                refine wp_skip' hK (w' := w.setCells b (ix * sz' + off) vs) ?_ ?_
                · unfold execOp; simp only [ho, hptr]
                  rw [Sem.run_bind, hrun]; rfl
                · rw [app_eq]
                  obtain ⟨r1, r2, r3, r4⟩ := setCells_rest b vs (ix * sz' + off) w
                  have hel : es[ix]? = some (es.getD ix .dead) := by rw [List.getD_eq_getElem?_getD, List.getElem?_eq_getElem hix]; rfl
                  have hefl : (es.getD ix .dead).flat.length = sz' := q3 _ (List.mem_of_getElem? hel)
                  obtain ⟨gq1, gq2⟩ := mapM_get hqs
                  have hqc : ∀ (j : Nat) (q : PV), qs[j]? = some q → ∃ p, ps[j]? = some p ∧ resC (look σ.mu) p = some q := by
                    intro j q hq
                    have hj := (List.getElem?_eq_some_iff.1 hq).1
                    obtain ⟨q', hq', hr⟩ := gq2 j _ (List.getElem?_eq_getElem (show j < ps.length by omega))
                    rw [hq] at hq'; cases hq'
                    exact ⟨_, List.getElem?_eq_getElem _, hr⟩
                  have hqw : Pw (RepI (MM Mo σ.mu β) w) qs vs := by
                    refine ⟨gq1.symm.trans hpw.1, fun j q u hq hu => ?_⟩
                    obtain ⟨p, hp, hr⟩ := hqc j q hq
                    refine resC_ok hR.mem (hpw.2 j p u hp hu) hr ?_
                    have hfz2 : frzAll (look σ.mu) (.agg ps) = [] := by simpa using hfz
                    exact List.flatMap_eq_nil_iff.1 hfz2 p (List.mem_of_getElem? hp)
                  have hqflat : ∀ q ∈ qs, q.flat = [q] := by
                    intro q hq
                    obtain ⟨j, hj⟩ := List.getElem?_of_mem hq
                    obtain ⟨p, -, hr⟩ := hqc j q hj
                    unfold resC at hr
                    split at hr
                    · cases hr; rfl
                    · cases hr; rfl
                    · cases hr; rfl
                    · cases hr; rfl
                    · cases hr; rfl
                    · cases hr; rfl
                    · cases hr; rfl
                    · cases hr; rfl
                    · split at hr
                      · split at hr
                        · cases hr; rfl
                        · cases hr
                      · split at hr
                        · cases hr; rfl
                        · cases hr
                      · cases hr
                    · cases hr
                  have hnf : (if sz' = 1 then qs.getD 0 .dead else .agg (setAt (es.getD ix .dead).flat off qs)).flat = setAt (es.getD ix .dead).flat off qs := by
                    split
                    · rename_i h1
                      subst h1
                      have hql : qs.length = 1 := by omega
                      match qs, hql with
                      | [q], _ =>
                        have ho0 : off = 0 := by omega
                        subst ho0
                        match hf : (es.getD ix .dead).flat, hefl with
                        | [f], _ => simp [setAt, hqflat q (by simp)]
                    · rfl
                  have hsetflat : ∀ (es : List PV) (ix : Nat) (e' : PV), (∀ x ∈ es, x.flat.length = sz') → ix < es.length → e'.flat = setAt (es.getD ix .dead).flat off qs → flatL (es.set ix e') = setAt (flatL es) (ix * sz' + off) qs := by
                    intro es ix e' hall hix he'
                    apply List.ext_getElem?
                    intro k
                    have hall' : ∀ x ∈ es.set ix e', x.flat.length = sz' := by
                      intro x hx
                      rcases List.mem_or_eq_of_mem_set hx with hx | rfl
                      · exact hall x hx
                      · rw [he', setAt_length]
                        exact hall _ (by rw [List.getD_eq_getElem?_getD, List.getElem?_eq_getElem hix]; exact List.getElem_mem _)
                    have hl1 := flatL_len hall
                    have hl2 := flatL_len hall'
                    rw [List.length_set] at hl2
                    rw [setAt_get]
                    by_cases hk : k < es.length * sz'
                    · have hdiv : k / sz' < es.length := Nat.div_lt_of_lt_mul (by rw [Nat.mul_comm]; exact hk)
                      have hmod := Nat.mod_lt k q0
                      have hkk : k / sz' * sz' + k % sz' = k := by rw [Nat.mul_comm]; exact Nat.div_add_mod k sz'
                      have g1 : (flatL es)[k]? = (es[k / sz']).flat[k % sz']? := by
                        have hf := hall _ (List.getElem_mem hdiv)
                        have := flatL_get hall (List.getElem?_eq_getElem hdiv) (List.getElem?_eq_getElem (show k % sz' < (es[k / sz']).flat.length by omega))
                        rw [hkk] at this
                        rw [this, List.getElem?_eq_getElem (by omega)]
                      have hd2 : k / sz' < (es.set ix e').length := by rw [List.length_set]; exact hdiv
                      have g2 : (flatL (es.set ix e'))[k]? = ((es.set ix e')[k / sz']).flat[k % sz']? := by
                        have hf := hall' _ (List.getElem_mem hd2)
                        have := flatL_get hall' (List.getElem?_eq_getElem hd2) (List.getElem?_eq_getElem (show k % sz' < ((es.set ix e')[k / sz']).flat.length by omega))
                        rw [hkk] at this
                        rw [this, List.getElem?_eq_getElem (by omega)]
                      rw [g2, g1, List.getElem_set]
                      by_cases hkx : ix = k / sz'
                      · subst hkx
                        rw [if_pos rfl, he', setAt_get]
                        have hge : es.getD (k / sz') .dead = es[k / sz'] := by rw [List.getD_eq_getElem?_getD, List.getElem?_eq_getElem hdiv]; rfl
                        rw [hge]
                        have hf := hall _ (List.getElem_mem hdiv)
                        by_cases hin : off ≤ k % sz' ∧ k % sz' < off + qs.length ∧ k % sz' < (es[k / sz']).flat.length
                        · rw [if_pos hin, if_pos (by omega)]
                          congr 1; omega
                        · rw [if_neg hin, if_neg (by omega)]
                      · rw [if_neg hkx, if_neg]
                        intro hin
                        have hql : qs.length = i.size := by rw [hqw.1, hvl]
                        have h3 : ix * sz' ≤ k := by omega
                        have h4 : k < (ix + 1) * sz' := by rw [Nat.succ_mul]; omega
                        exact hkx (by
                          have := Nat.div_eq_of_lt_le (k := ix) (n := sz') (m := k) h3 h4
                          exact this.symm)
                    · rw [List.getElem?_eq_none (by omega), if_neg (by omega), List.getElem?_eq_none (by omega)]
                  have hql : qs.length = i.size := by rw [hqw.1, hvl]
                  refine hR.upd s (.row e sz' v (es.set ix (if sz' = 1 then qs.getD 0 .dead else .agg (setAt (es.getD ix .dead).flat off qs)))) (w.setCells b (ix * sz' + off) vs) .dead undef (β s) ⟨r1, r2, r3⟩ ⟨⟨by rw [r4]; exact Nat.le_refl _, fun k hk hnk => heap_setCells_other _ _ _ _ _ (fun e => hnk ⟨_, hes, by rw [e]; exact hb⟩)⟩, fun _ => ⟨rfl, .inl ⟨rfl, rfl⟩⟩, fun k hk => ⟨.inl ⟨_, hes, hk⟩, by rw [r4]; exact (hR.mem.base s _ k hes hk).2⟩, fun L' β' M' p1 p2 p3 p4 hi' hr p5 => ⟨?_, .dead _⟩⟩ o.dst
                  refine ⟨q1, q0, setAt xs (ix * sz' + off) vs, ?_, ?_, ?_⟩
                  · refine ⟨by rw [setAt_length, hxl, List.length_set], .inr ⟨b, cap, (setAt cur.toList (ix * sz' + off) vs).toArray, by rw [List.length_set]; exact hh, hg, ?_, by rw [List.length_set]; exact hle, hmx, by simp [setAt_length, hcs], ?_⟩⟩
                    · exact heap_setCells b e vs _ w cur.toList (by simpa using hgg)
                    · rw [List.length_set]
                      apply List.ext_getElem?
                      intro k
                      rw [List.getElem?_take, setAt_get]
                      rw [setAt_get]
                      rw [← htk, List.getElem?_take, List.length_take]
                      simp only [Array.length_toList]
                      by_cases hk : k < es.length * sz'
                      · rw [if_pos hk, if_pos hk]
                        by_cases hin : ix * sz' + off ≤ k ∧ k < ix * sz' + off + vs.length ∧ k < cur.size
                        · rw [if_pos hin, if_pos (by omega)]
                        · rw [if_neg hin, if_neg (by omega)]
                      · rw [if_neg hk, if_neg (by omega), if_neg hk]
                  · intro x hx
                    rcases List.mem_or_eq_of_mem_set hx with hx | rfl
                    · exact q3 x hx
                    · rw [hnf, setAt_length]; exact hefl
                  · have hw2 : Pw (RepI M' (w.setCells b (ix * sz' + off) vs)) (setAt (flatL es) (ix * sz' + off) qs) (setAt xs (ix * sz' + off) vs) := (Pw.mono (Rl := RepI (MM Mo σ.mu β) w) ⟨by rw [hfl, hxl], q4⟩ hi').setAt (hqw.mono hi') _
                    rw [hsetflat es ix _ q3 hix hnf]
                    exact hw2.2
            · cases h
          · cases h
        · cases h
      · cases h
    · cases h
  · cases h
end
end

section
open Go.RowKit
open Nat (reduceAdd reduceEqDiff reduceLT reduceLeDiff reduceSub reducePow reduceMul)
open Int (reduceToNat reduceLE reduceEq)
set_option linter.unusedVariables false
set_option linter.unusedSimpArgs false
set_option linter.unnecessarySimpa false


variable {P : Program} {w0 : Fr} {Mo : Nat → Prop} {σ : St} {a : Act} {w w' : World} {K : Act → World → Prop} {Q : Exit → Act → World → Prop} {L : Nat → Prop} {β : Nat → Bd} {M : Nat → Prop} {H : Nat} {μ : List (Nat × Box)}
theorem slView_res {mem : Nat → Option Box} {p : PV} {es : List PV} {ts : List Nat} (h : slView mem p = some (es, ts)) : resC mem p = some (.sl es) := by
  cases p with
  | own s ver =>
    simp only [slView] at h
    simp only [resC]
    cases hs : mem s with
    | none => rw [hs] at h; cases h
    | some b =>
      rw [hs] at h
      cases b with
      | row e sz v es' =>
        simp only at h ⊢
        split at h
        · rename_i e; cases h; rw [if_pos e]
        · cases h
      | frz v es' =>
        simp only at h ⊢
        split at h
        · rename_i e; cases h; rw [if_pos e]
        · cases h
      | _ => cases h
  | sc v =>
    unfold slView at h
    split at h
    · rename_i e; cases e
    · cases h; rename_i e; cases e; rfl
    · rename_i e; cases e
    · cases h
  | sl es => cases h; rfl
  | _ => cases h
theorem Pw.append {Rl : PV → Value → Prop} {cs ps : List PV} {vs us : List Value} (h : Pw Rl cs vs) (hp : Pw Rl ps us) : Pw Rl (cs ++ ps) (vs ++ us) := by
  refine ⟨by rw [List.length_append, List.length_append, h.1, hp.1], fun j p v hj hv => ?_⟩
  by_cases hlt : j < cs.length
  · rw [List.getElem?_append_left hlt] at hj
    rw [List.getElem?_append_left (by rw [← h.1]; exact hlt)] at hv
    exact h.2 j p v hj hv
  · rw [List.getElem?_append_right (by omega)] at hj
    rw [List.getElem?_append_right (by rw [← h.1]; omega), ← h.1] at hv
    exact hp.2 _ p v hj hv
theorem flatL_append (es ys : List PV) : flatL (es ++ ys) = flatL es ++ flatL ys := by simp [flatL]
theorem run_append_none (w : World) (t ty e : TypeId) (i : TypeInfo) (ht : P.underlying t = some (.slice e)) (hi : P.info? e = some i) (base : Option Addr) (n cap c : Nat) (hle : n ≤ cap) :
    (Builtin.append_ #[t, t] ty #[.slice base n cap, .slice none 0 c]).run P w = .ok (.slice base n cap) w := by
  cases base <;> simp [Builtin.append_, run_underlying ht, sizeOf, typeInfo, hi, Builtin.lenOf, hle, Builtin.firstCells, storeCells]
theorem sliced_rep {es : List PV} {ad : Option Addr} {n cap l h m sz : Nat} (hI : RepI M w (.sl es) (.slice ad n cap)) (hall : ∀ e ∈ es, e.flat.length = sz) (h1 : l ≤ h) (h2 : h ≤ es.length) (h3 : h ≤ m) (h4 : m ≤ cap) : RepI M w (.sl ((es.take h).drop l)) (.slice (if m = l then ad else ad.map (·.add (l * sz))) (h - l) (m - l)) := by
  have hlen : ((es.take h).drop l).length = h - l := by simp; omega
  by_cases e : l = h
  · subst e
    have h0 : (es.take l).drop l = [] := List.eq_nil_of_length_eq_zero (by omega)
    rw [h0, Nat.sub_self]
    cases hI with
    | slE _ _ g1 g2 =>
      refine .slE _ _ (by omega) (fun hn => ?_)
      have : ad = none := by split at hn <;> simp_all
      have := g2 this; omega
    | sl _ b o cap sz vs g0 g1 g2 => exact .slE _ _ (by omega) (fun hn => by split at hn <;> simp at hn)
  · cases hI with
    | slE _ _ g1 g2 => simp at h2; omega
    | sl _ b o cap sz' vs g0 g1 g2 g3 g4 g5 g6 g7 =>
      have hsz : sz' = sz := by
        have hm : es[0]'(by omega) ∈ es := List.getElem_mem _
        rw [← g5 _ hm, hall _ hm]
      subst hsz
      rw [if_neg (by omega), ← hlen]
      simp only [Option.map_some, addr_add]
      have hget : ∀ (i : Nat) (x : PV), ((es.take h).drop l)[i]? = some x → es[l + i]? = some x := by
        intro i x hx
        rw [List.getElem?_drop, List.getElem?_take] at hx
        split at hx
        · exact hx
        · cases hx
      refine .sl _ b (o + l * sz') _ sz' (fun i j => vs (l + i) j) (fun h0 => by rw [h0] at hlen; simp at hlen; omega) (by omega) (by omega) g3 g4 (fun x hx => ?_) (fun i x j p hx hp => g6 _ x j p (hget i x hx) hp) (fun i x j p hx hp => ?_)
      · exact g5 x (List.mem_of_mem_take (List.mem_of_mem_drop hx))
      · have := g7 _ x j p (hget i x hx) hp
        rw [← this, Nat.add_mul]; congr 2; omega
theorem app_touch {d : Option Nat} {p : PV} {u : List (Nat × Box)} {ts : List Nat} : σ.app d ⟨p, u, ts⟩ = (σ.upd u).put d p := by cases d <;> rfl
theorem Rb.newRow {id : Nat} (hR : Rb P w0 Mo β σ a w) (hid : ¬ LL σ id) {e : TypeId} {sz cap : Nat} {es : List PV} {xs : List Value} {cur : Array Value} (h0 : 0 < sz) (hcap : es.length ≤ cap) (hmx : cap ≤ maxLen) (hcs : cur.size = cap * sz) (htk : cur.toList.take (es.length * sz) = xs) (hfl : ∀ q ∈ es, q.flat.length = sz)
    (hpw : Pw (RepI (MM Mo σ.mu β) w) (flatL es) xs) (dst : Option Nat) : R P w0 Mo ((σ.upd [(id, .row e sz 0 es)]).put dst (.own id 0)) (a.put dst (.slice (some ⟨w.heap.size, 0, none⟩) es.length cap)) (w.alloc (.cells cur e)) := by
  refine hR.upd id (.row e sz 0 es) (w.alloc (.cells cur e)) _ _ ⟨0, .slice (some ⟨w.heap.size, 0, none⟩) es.length cap, 0⟩ ⟨rfl, rfl, rfl⟩ ⟨kp_alloc w _, fun h => absurd h hid, fun k hk => ?_, fun L' β' M' p1 p2 p3 p4 hi hr p5 => ⟨?_, ?_⟩⟩ dst
  · have hk : some w.heap.size = some k := hk
    cases hk; exact ⟨.inr (Nat.le_refl _), by simp⟩
  · exact ⟨rfl, h0, xs, ⟨by rw [← hpw.1, flatL_len hfl], .inr ⟨w.heap.size, cap, cur, rfl, w0.n2 _ (hR.mem.hw _ (Nat.le_refl _)), heap_alloc_new w _, hcap, hmx, hcs, htk⟩⟩, hfl, (hpw.mono hi).2⟩
  · exact .own id 0 _ p1 (Nat.zero_le _) (fun _ => by rw [p2]) rfl
section
variable {o : Oper} {id : Nat} {δ : Delta} (hR : Rb P w0 Mo β σ a w) (hid : ¬ LL σ id) (hK : ∀ a' w', R P w0 Mo (σ.app o.dst δ) a' w' → K a' w')
include hR hK
theorem ok_slice {t e : TypeId} {ie : TypeInfo} {x : Operand} {lo hi mx : Option Operand} {x' : AOpd} {lo' hi' mx' : Option AOpd} (ho : o.op = .slice t x lo hi mx) (hu : P.underlying t = some (.slice e)) (hie : P.info? e = some ie) (hx : compOpd x = some x')
    (hlo : ∀ y, lo = some y → ∃ y', lo' = some y' ∧ compOpd y = some y') (hlo0 : lo = none → lo' = none) (hhi : ∀ y, hi = some y → ∃ y', hi' = some y' ∧ compOpd y = some y') (hhi0 : hi = none → hi' = none) (hmx : ∀ y, mx = some y → ∃ y', mx' = some y' ∧ compOpd y = some y') (hmx0 : mx = none → mx' = none)
    (h : aop σ.ev (look σ.mu) id (.slice ie.size x' lo' hi' mx') = some δ) : o.wp P a w K Q := by
  have bd : ∀ (y : Option Operand) (y' : Option AOpd) (d m r : Nat), (∀ z, y = some z → ∃ z', y' = some z' ∧ compOpd z = some z') → (y = none → y' = none) → bound σ.ev y' d m = some r → (y = none ∧ y' = none ∧ r = d) ∨ ∃ z k i, y = some z ∧ y'.isSome = true ∧ a.eval z = .int k i ∧ 0 ≤ i ∧ i.toNat ≤ m ∧ r = i.toNat := by
    intro y y' d m r h1 h0 hb
    cases y with
    | none => rw [h0 rfl] at hb; simp [bound] at hb; exact .inl ⟨rfl, h0 rfl, hb.symm⟩
    | some z =>
      obtain ⟨z', hz, hz'⟩ := h1 z rfl
      subst hz
      unfold bound at hb
      simp only at hb
      split at hb
      · rename_i k i hi
        split at hb
        · rename_i hc
          cases hb
          have := opd_ok hz' hR.tm; rw [hi] at this
          exact .inr ⟨z, k, i, rfl, rfl, this.sc_inv, hc.1, hc.2, rfl⟩
        · cases hb
      · cases hb
  simp only [aop] at h
  split at h
  · rename_i es ts hsv
    split at h
    · rename_i m hm
      split at h
      · rename_i hh hhb
        split at h
        · rename_i l hlb
          split at h
          · rename_i hc
            obtain ⟨hc1, hc2⟩ := hc
            simp only [Option.some.injEq] at h; subst h
            have hF := frzUpd_of σ.mu (σ.ev x')
            obtain ⟨β', hR'⟩ := R.frzs ⟨β, hR⟩ _ hF
            have hres := resC_upd hF (slView_res hsv)
            have hnil := frzUpd_upd (p := σ.ev x') hF (fun x hx => hx)
            have hI := resC_ok hR'.mem (opd_ok hx hR'.tm) hres hnil
            have hall : ∀ e ∈ es, e.flat.length = ie.size := by
              intro e he
              have := List.all_eq_true.1 hc2 e he
              simpa using this
            obtain ⟨ad, cap, hv, g1, g2, -⟩ := hI.slOk
            rw [hv] at hI
            have hsb : ∀ (kl : IntKind) (i : Int) (y : Nat) (code : BoundsCode) (h0 : 0 ≤ i) (h1 : i.toNat ≤ y), (Instr.sliceBound (.int kl i) y code).run P w = .ok i.toNat w := fun kl i y code h0 h1 => run_sliceBound (P := P) w kl i y code h0 (by omega)
            have hlh : l ≤ hh := by
              rcases bd lo lo' _ _ _ hlo hlo0 hlb with ⟨rfl, _, rfl⟩ | ⟨zl, kl, il, rfl, _, el, el0, el1, rfl⟩
              · omega
              · exact el1
            have hhm : hh ≤ es.length ∧ (∀ m', (mx = none → m' = cap) → (mx' = none ∨ m' = m) → hh ≤ m') ∧ m ≤ es.length := by
              rcases bd mx mx' _ _ _ hmx hmx0 hm with ⟨rfl, e1, rfl⟩ | ⟨zm, km, im, rfl, e1, em, em0, em1, rfl⟩ <;> rcases bd hi hi' _ _ _ hhi hhi0 hhb with ⟨rfl, e2, rfl⟩ | ⟨zh, kh, ih, rfl, e2, eh, eh0, eh1, rfl⟩
              · exact ⟨Nat.le_refl _, fun m' hm' _ => by have := hm' rfl; omega, Nat.le_refl _⟩
              · exact ⟨eh1, fun m' hm' _ => by have := hm' rfl; omega, Nat.le_refl _⟩
              · rw [e2] at hc1; cases mx' with
                | none => simp at e1
                | some _ => simp at hc1
              · refine ⟨by omega, fun m' _ hm' => ?_, em1⟩
                rcases hm' with h | h
                · rw [h] at e1; simp at e1
                · omega
            have main : ∀ m', (mx = none → m' = cap) → (mx' = none ∨ m' = m) → m' ≤ cap → (execOp a.eval o).run P w = .ok (.value (.slice (if m' = l then ad else ad.map (·.add (l * ie.size))) (hh - l) (m' - l))) w → o.wp P a w K Q := by
              intro m' h1 h2 h3 hrun
              refine Rb.val (σ := σ.upd (frzUpd (look σ.mu) (σ.ev x'))) hR' hrun (.imm _ _ (sliced_rep hI hall hlh hhm.1 (hhm.2.1 m' h1 h2) h3)) (ts := ts) ?_
              intro a' w' hh'
              refine hK a' w' ?_
              rw [app_eq] at hh' ⊢
              exact hh'
            unfold execOp at main; simp only [ho, hv] at main
            rcases bd mx mx' _ _ _ hmx hmx0 hm with ⟨rfl, e1, rfl⟩ | ⟨zm, km, im, rfl, e1, em, em0, em1, rfl⟩ <;> rcases bd hi hi' _ _ _ hhi hhi0 hhb with ⟨rfl, e2, rfl⟩ | ⟨zh, kh, ih, rfl, e2, eh, eh0, eh1, rfl⟩ <;> rcases bd lo lo' _ _ _ hlo hlo0 hlb with ⟨rfl, _, rfl⟩ | ⟨zl, kl, il, rfl, _, el, el0, el1, rfl⟩
            · refine main cap (fun _ => rfl) (.inl e1) (Nat.le_refl _) ?_
              simp [Instr.sliceAt, Instr.slice, run_underlying hu, Instr.sliceBounds, sizeOf, typeInfo, hie]
            · refine main cap (fun _ => rfl) (.inl e1) (Nat.le_refl _) ?_
              simp [Instr.sliceAt, Instr.slice, run_underlying hu, Instr.sliceBounds, sizeOf, typeInfo, hie, el, hsb _ _ _ _ el0 el1]
            · refine main cap (fun _ => rfl) (.inl e1) (Nat.le_refl _) ?_
              simp [Instr.sliceAt, Instr.slice, run_underlying hu, Instr.sliceBounds, sizeOf, typeInfo, hie, eh, hsb _ _ cap _ eh0 (by omega)]
            · refine main cap (fun _ => rfl) (.inl e1) (Nat.le_refl _) ?_
              simp [Instr.sliceAt, Instr.slice, run_underlying hu, Instr.sliceBounds, sizeOf, typeInfo, hie, el, eh, hsb _ _ _ _ el0 el1, hsb _ _ cap _ eh0 (by omega)]
            · rw [e2] at hc1; cases mx' with
              | none => simp at e1
              | some _ => simp at hc1
            · rw [e2] at hc1; cases mx' with
              | none => simp at e1
              | some _ => simp at hc1
            · refine main im.toNat (fun h => by cases h) (.inr rfl) (by omega) ?_
              simp [Instr.sliceAt, Instr.slice, run_underlying hu, Instr.sliceBounds, sizeOf, typeInfo, hie, eh, em, hsb _ _ cap _ em0 (by omega), hsb _ _ _ _ eh0 eh1]
            · refine main im.toNat (fun h => by cases h) (.inr rfl) (by omega) ?_
              simp [Instr.sliceAt, Instr.slice, run_underlying hu, Instr.sliceBounds, sizeOf, typeInfo, hie, el, eh, em, hsb _ _ cap _ em0 (by omega), hsb _ _ _ _ eh0 eh1, hsb _ _ _ _ el0 el1]
          · cases h
        · cases h
      · cases h
    · cases h
  · cases h
theorem ok_append (hid' : ¬ LL σ id ∨ ∀ b, (id, b) ∉ δ.upd) {t e : TypeId} {ie : TypeInfo} {z : Value} {x y : Operand} {x' y' : AOpd} (ho : o.op = .call { callee := .builtin .append, args := #[x, y], argTypes := #[t, t] }) (hu : P.underlying t = some (.slice e)) (hie : P.info? e = some ie) (hz : ie.zero = some z) (hzs : z.cells.size = ie.size) (hx : compOpd x = some x') (hy : compOpd y = some y')
    (h : aop σ.ev (look σ.mu) id (.append e ie.size ie.bytes x' y') = some δ) : o.wp P a w K Q := by
  have hvx := opd_ok hx hR.tm
  have hvy := opd_ok hy hR.tm
  have hexec : ∀ v u w', (Builtin.append_ #[t, t] o.type #[a.eval x, a.eval y]).run P w = .ok u w' → v = u → (execOp a.eval o).run P w = .ok (.value v) w' := by
    intro v u w' h1 h2
    subst h2
    unfold execOp; simp only [ho]
    simp [resolve, invoke, builtin, h1]
  simp only [aop] at h
  split at h
  · rename_i ys ts hsv
    split at h
    · rename_i hc
      obtain ⟨hall, h0⟩ := hc
      have hfl : ∀ p ∈ ys, p.flat.length = ie.size := fun p hp => by
        have := List.all_eq_true.1 hall p hp; simp at this; exact this.1
      have hok : ∀ p ∈ flatL ys, p.cellOk = true := by
        intro p hp
        obtain ⟨q, hq, hpq⟩ := List.mem_flatMap.1 hp
        have := List.all_eq_true.1 hall q hq; simp at this; exact this.2 p hpq
      obtain ⟨ad, cap, hv, g1, g2, g3, g4⟩ := slView_ok hR.mem hvy hsv
      obtain ⟨news, hpw, hat⟩ := g4 _ hfl
      have hnl : news.length = ys.length * ie.size := by rw [← hpw.1, flatL_len hfl]
      have hone : ∀ u ∈ news, u.oneCell' = true := by
        intro u hu
        obtain ⟨j, hj, rfl⟩ := List.getElem_of_mem hu
        have h1 := hpw.1
        exact Rep.oneCell (L := LL σ) (β := β) (.imm _ _ (hpw.2 j _ _ (List.getElem?_eq_getElem (by omega)) (List.getElem?_eq_getElem hj))) (hok _ (List.getElem_mem _))
      have main : ∀ (s ver : Nat) (es : List PV) (xs : List Value) (d0 : Bd), w.ownsRow w0.H e ie.size (a.eval x) es.length xs → (∀ q ∈ es, q.flat.length = ie.size) → (∀ (j : Nat) (p : PV) (v : Value), (flatL es)[j]? = some p → xs[j]? = some v → RepI (MM Mo σ.mu β) w p v) →
          es.length + ys.length ≤ maxLen → (es.length + ys.length) * ie.bytes ≤ 140737488355328 → (LL σ s → d0 = β s ∧ ver = d0.ver + 1 ∧ (∃ b, look σ.mu s = some b ∧ ∀ k, mutB (β s) b k ↔ (a.eval x).ownBlock = some k)) → (¬ LL σ s → a.eval x = .slice none 0 0) → 
          δ = ⟨.own s ver, [(s, .row e ie.size ver (es ++ ys))], δ.touch⟩ → o.wp P a w K Q := by
        intro s ver es xs d0 hown hfe hre hb1 hb2 hs1 hs2 hδ
        obtain ⟨v', w', hrun, hown', hgr, hat'⟩ : ∃ v' w', (Builtin.append_ #[t, t] o.type #[a.eval x, a.eval y]).run P w = .ok v' w' ∧ w'.ownsRow w0.H e ie.size v' (es.length + ys.length) (xs ++ news) ∧ w.grownBy w' (a.eval x).ownBlock ∧ (v'.ownBlock = (a.eval x).ownBlock ∨ v'.ownBlock = some w.heap.size) := by
          cases ad with
          | some ad =>
            obtain ⟨v', w', r1, r2, r3, -, r5⟩ := run_append_own_at (P := P) (w := w) w0.H t o.type e ie z ie.size ie.bytes hu hie hz rfl rfl hzs h0 (a.eval x) es.length xs hown ad ys.length cap news hnl (fun j u hu => by
              have hne : ys ≠ [] := by
                intro e0; subst e0
                have := (List.getElem?_eq_some_iff.1 hu).1; rw [hnl] at this; simp at this
              obtain ⟨b, o', ho', _, _, hcell⟩ := hat hne
              cases ho'
              rw [addr_add]; exact hcell j u hu) hone hb1 hb2 (w0.n2 _ (hR.mem.hw _ (Nat.le_refl _)))
            rw [← hv] at r1
            exact ⟨v', w', r1, r2, r3, r5⟩
          | none =>
            have hc0 := g3 rfl
            have hy0 : ys = [] := List.eq_nil_of_length_eq_zero (by omega)
            subst hy0
            have hn0 : news = [] := List.eq_nil_of_length_eq_zero (by simpa using hnl)
            subst hn0
            refine ⟨a.eval x, w, ?_, by simpa using hown, ⟨rfl, rfl, rfl, Nat.le_refl _, fun _ _ _ => rfl⟩, .inl rfl⟩
            rw [hv]
            rcases hown.2 with ⟨q1, q2⟩ | ⟨g, cp, cur, q1, _, _, q2, _⟩
            · rw [q1]; exact run_append_none w t o.type e ie hu hie none 0 0 _ (Nat.le_refl _)
            · rw [q1]; exact run_append_none w t o.type e ie hu hie _ _ _ _ q2
        refine wp_value hK (v := v') (w' := w') (hexec v' v' w' hrun rfl) ?_
        rw [hδ, app_touch]
        refine hR.upd s (.row e ie.size ver (es ++ ys)) w' (.own s ver) v' ⟨(β s).blk, v', ver⟩ ⟨hgr.os, hgr.tape, hgr.output⟩ ⟨⟨hgr.size, fun k hk hnk => hgr.block k hk (fun he => ?_)⟩, fun hl => ?_, fun k hk => ?_, fun L' β' M' p1 p2 p3 p4 hi hr p5 => ⟨?_, ?_⟩⟩ o.dst
        · by_cases hl : LL σ s
          · obtain ⟨_, _, b, hb, hmb⟩ := hs1 hl
            exact hnk ⟨b, hb, (hmb k).2 he.symm⟩
          · rw [hs2 hl] at he; simp [Value.ownBlock] at he
        · obtain ⟨rfl, rfl, _⟩ := hs1 hl
          exact ⟨rfl, .inr (Nat.lt_succ_self _)⟩
        · have hk : v'.ownBlock = some k := hk
          refine ⟨?_, (hown'.lt k hk).2⟩
          rcases hat' with h1 | h1
          · rw [h1] at hk
            by_cases hl : LL σ s
            · obtain ⟨_, _, b, hb, hmb⟩ := hs1 hl
              exact .inl ⟨b, hb, (hmb k).2 hk⟩
            · rw [hs2 hl] at hk; simp [Value.ownBlock] at hk
          · rw [h1] at hk; simp at hk; exact .inr (by omega)
        · refine ⟨rfl, h0, xs ++ news, by rw [List.length_append]; exact hown', ?_, ?_⟩
          · intro q hq
            rcases List.mem_append.1 hq with hq | hq
            · exact hfe q hq
            · exact hfl q hq
          · rw [flatL_append]
            exact ((Pw.mono (Rl := RepI (MM Mo σ.mu β) w) ⟨by rw [flatL_len hfe, hown.1], hre⟩ hi).append (hpw.mono hi)).2
        · refine .own s ver v' p1 (by rw [p2]; exact Nat.le_refl _) (fun _ => by rw [p2]) ?_
          rcases hown'.2 with ⟨q1, _⟩ | ⟨g, cp, cur, q1, _⟩ <;> rw [q1] <;> rfl
      split at h
      · rename_i s ver hp
        rw [hp] at hvx
        split at h
        · rename_i e' sz' v es hes
          split at h
          · rename_i hc
            obtain ⟨rfl, rfl, rfl, hb1, hb2⟩ := hc
            simp only [Option.some.injEq] at h
            obtain ⟨q1, q0, xs, q2, q3, q4⟩ := hR.mem.box s _ hes
            obtain ⟨l1, l2, l3⟩ := hvx.own_inv
            have hev := l3 q1
            refine main s (v + 1) es xs (β s) (by rw [hev]; exact q2) q3 q4 hb1 hb2 (fun _ => ⟨rfl, by rw [q1], _, hes, fun k => by rw [hev]; exact Iff.rfl⟩) (fun hn => absurd l1 hn) ?_
            rw [← h]
          · cases h
        · cases h
      · rename_i hp
        rw [hp] at hvx
        have hev := hvx.sc_inv
        split at h
        · rename_i hc
          simp only [Option.some.injEq] at h
          have hid : ¬ LL σ id := hid'.resolve_right (fun hno => hno _ (by rw [← h]; exact List.mem_singleton.2 rfl))
          refine main id 0 [] [] ⟨0, undef, 0⟩ (by rw [hev]; exact World.ownsRow_nil _ _ _ _) (fun q hq => by cases hq) (fun j p v hp => by simp [flatL] at hp) (by simpa using hc.1) (by simpa using hc.2) (fun hl => absurd hl hid) (fun _ => hev) ?_
          rw [← h]; rfl
        · cases h
      · cases h
    · cases h
  · cases h
include hid
theorem ok_mk {t e : TypeId} {ie : TypeInfo} {z : Value} {x y : Operand} {x' y' : AOpd} (ho : o.op = .makeSlice t x y) (hu : P.underlying t = some (.slice e)) (hie : P.info? e = some ie) (hz : ie.zero = some z) (hrz : z.cells.toList.all rngB = true) (hx : compOpd x = some x') (hy : compOpd y = some y')
    (h : aop σ.ev (look σ.mu) id (.mk e ie.size ie.bytes (z.cells.toList.map .sc) x' y') = some δ) : o.wp P a w K Q := by
  simp only [aop] at h
  split at h
  · rename_i k1 n k2 c hn hc
    split at h
    · rename_i hcond
      obtain ⟨c1, c2, c3, c4, c5, c6, c7⟩ := hcond
      simp only [Option.some.injEq] at h; subst h
      have h1 := opd_ok hx hR.tm; rw [hn] at h1; have h1 := h1.sc_inv
      have h2 := opd_ok hy hR.tm; rw [hc] at h2; have h2 := h2.sc_inv
      have hzl : z.cells.size = ie.size := by simpa using c5
      have hrun := run_make (P := P) w t e ie z hu hie hz k1 k2 n c c1 c2 c3 c4
      have hnc : n.toNat ≤ c.toNat := by omega
      have hlen : (List.replicate n.toNat (if ie.size = 1 then (z.cells.toList.map PV.sc).getD 0 .dead else .agg (z.cells.toList.map PV.sc))).length = n.toNat := by simp
      have hflat : (if ie.size = 1 then (z.cells.toList.map PV.sc).getD 0 .dead else .agg (z.cells.toList.map PV.sc)).flat = z.cells.toList.map PV.sc := by
        split
        · rename_i h1
          rw [h1] at hzl
          match hq : z.cells.toList, (show z.cells.toList.length = 1 by simpa using hzl) with
          | [v], _ => rfl
        · rfl
      refine wp_value hK (v := .slice (some ⟨w.heap.size, 0, none⟩) n.toNat c.toNat) (w' := w.alloc (.cells (madeCells z.cells (c.toNat * ie.size)) e)) ?_ ?_
      · unfold execOp; simp only [ho, h1, h2]
        rw [Sem.run_bind, hrun]; rfl
      · rw [app_touch]
        have := Rb.newRow (cap := c.toNat) (es := List.replicate n.toNat (if ie.size = 1 then (z.cells.toList.map PV.sc).getD 0 .dead else .agg (z.cells.toList.map PV.sc))) (xs := (madeCells z.cells (c.toNat * ie.size)).toList.take (n.toNat * ie.size)) (cur := madeCells z.cells (c.toNat * ie.size)) (e := e) (sz := ie.size) hR hid c6 (by rw [hlen]; exact hnc) (by unfold maxLen; omega) (size_madeCells _ _) (by rw [hlen]) (fun q hq => by
            rw [(List.mem_replicate.1 hq).2, hflat]; simp [hzl]) ?_ o.dst
        · rw [hlen] at this; exact this
        · have hall : ∀ q ∈ List.replicate n.toNat (if ie.size = 1 then (z.cells.toList.map PV.sc).getD 0 .dead else .agg (z.cells.toList.map PV.sc)), q.flat.length = ie.size := fun q hq => by
            rw [(List.mem_replicate.1 hq).2, hflat]; simp [hzl]
          have hml : n.toNat * ie.size ≤ c.toNat * ie.size := Nat.mul_le_mul_right _ hnc
          refine ⟨by rw [flatL_len hall, hlen, List.length_take, Array.length_toList, size_madeCells]; omega, fun j p v hp hv => ?_⟩
          obtain ⟨g0, q, hq, hqp⟩ := flatL_inv hall hp
          have hq2 := (List.mem_replicate.1 (List.mem_of_getElem? hq)).2
          rw [hq2, hflat, List.getElem?_map] at hqp
          rw [List.getElem?_take] at hv
          split at hv
          · rename_i hj
            have hj2 : j < c.toNat * ie.size := by omega
            have hmod := Nat.mod_lt j g0
            simp only [madeCells, Array.getElem?_toList, Array.getElem?_map, Array.getElem?_range, hj2, if_true, Option.map_some, Option.some.injEq] at hv
            rw [List.getElem?_eq_getElem (by simp [hzl]; exact hmod)] at hqp
            simp at hqp
            subst hqp; subst hv
            have : z.cells[j % z.cells.size]! = z.cells[j % ie.size]'(by omega) := by
              simp only [hzl]; rw [getElem!_pos z.cells (j % ie.size) (by omega)]
            rw [this]
            exact .sc _ (List.all_eq_true.1 hrz _ (by simp))
          · cases hv
    · cases h
  · cases h
end
end

section
open Go.RowKit
open Nat (reduceAdd reduceEqDiff reduceLT reduceLeDiff reduceSub reducePow reduceMul)
open Int (reduceToNat reduceLE reduceEq)
set_option linter.unusedVariables false
set_option linter.unusedSimpArgs false
set_option linter.unnecessarySimpa false


open Go.Maps (Keyed)
variable {P : Program} {w0 : Fr} {Mo : Nat → Prop} {σ : St} {a : Act} {w : World} {K : Act → World → Prop} {Q : Exit → Act → World → Prop} {L : Nat → Prop} {β : Nat → Bd} {M : Nat → Prop}
/-- The kind of a key type. -/
def kkOf (P : Program) (kT : TypeId) : Option KK :=
  match P.underlying kT with
  | some (.int q) => some (.int q)
  | some (.array n e) => match P.underlying e with
    | some (.int q) => if P.cellsOf e = 1 ∧ P.cellsOf kT = n ∧ P.types.size ≠ 0 then some (.arr n q) else none
    | _ => none
  | _ => none
theorem mapM_all {α γ : Type} {f : α → Option γ} : ∀ {l : List α}, (∀ x ∈ l, ∃ y, f x = some y) → ∃ ys, l.mapM f = some ys
  | [], _ => ⟨[], rfl⟩
  | x :: l, h => by
    obtain ⟨y, hy⟩ := h x (by simp)
    obtain ⟨ys, hys⟩ := mapM_all (l := l) (fun z hz => h z (by simp [hz]))
    exact ⟨y :: ys, by rw [List.mapM_cons, hy, hys]; rfl⟩
theorem keyOf_arr {k e : TypeId} {n : Nat} {q : IntKind} (A : Go.WideMaps.ArrKey P k e n) (he : P.underlying e = some (.int q)) (hsz : ∃ m, P.types.size = m + 1) {vs : List Value} (hl : vs.length = n) (hv : ∀ v ∈ vs, ∃ x, v = .int q x ∧ (Lit.int q x).wf = true) :
    ∃ kl, keyOf P k (.agg vs.toArray) = some kl := by
  have hkt := A.keyType hsz
  obtain ⟨m, hm⟩ := hsz
  unfold keyOf
  simp only [A.hu]
  rw [if_pos (by simp [hkt, Value.formed, A.hu, A.size, hl]), hm]
  unfold Program.keyLits
  simp only [A.hu, Value.cells]
  rw [if_pos (by rw [A.size]; simpa using hl)]
  obtain ⟨ys, hys⟩ := mapM_all (f := fun i => P.keyLits (m + 1) e (List.take (P.cellsOf e) (List.drop (i * P.cellsOf e) vs))) (l := List.range n) (fun i hi => by
    have hi := List.mem_range.1 hi
    have hlt : i < vs.length := by omega
    obtain ⟨x, hx, hw⟩ := hv vs[i] (List.getElem_mem hlt)
    have e1 : List.take (P.cellsOf e) (List.drop (i * P.cellsOf e) vs) = [vs[i]] := by
      rw [A.one, Nat.mul_one, List.drop_eq_getElem_cons hlt]; rfl
    rw [e1, hx]
    unfold Program.keyLits
    simp [he, hw])
  rw [hys]
  exact ⟨_, rfl⟩
theorem scsP_vals {cs : List PV} {us : List Value} {v : Value} (h : Rep L β M w (.agg cs) v) (hs : scsP cs = some us) : v = .agg us.toArray ∧ ∀ u ∈ us, rngB u = true := by
  refine ⟨aggSc_val h hs, ?_⟩
  obtain ⟨vs, rfl, h1, h2⟩ := h.agg_inv
  have e := scsP_some hs
  subst e
  intro u hu
  obtain ⟨j, hj, rfl⟩ := List.getElem_of_mem hu
  rw [List.length_map] at h1
  exact (h2 j (.sc us[j]) (vs[j]'(by omega)) (by rw [List.getElem?_map, List.getElem?_eq_getElem hj]; rfl) (List.getElem?_eq_getElem _)).sc_rng
theorem keyed_of {kT : TypeId} {kk : KK} (h : kkOf P kT = some kk) : Keyed P kT := by
  unfold kkOf at h
  split at h
  · rename_i q hu; exact Go.Maps.int_keyed hu
  · rename_i n e hu
    split at h
    · rename_i q hq
      split at h
      · rename_i hc
        exact Keyed.of_law (Go.WideMaps.ArrKey.law (⟨hu, by simp [Program.plainKey, hq], hc.1, hc.2.1⟩ : Go.WideMaps.ArrKey P kT e n))
      · cases h
    · cases h
  · cases h
theorem isInt_of {q : IntKind} {v : Value} (h : isIntB q v = true) (hr : rngB v = true) : ∃ x, v = .int q x ∧ (Lit.int q x).wf = true := by
  unfold isIntB at h
  split at h
  · rename_i q' x
    have e : q' = q := by simpa using h
    subst e
    exact ⟨x, rfl, by simpa [rngB, Lit.wf] using hr⟩
  · cases h
theorem key_of {kT : TypeId} {kk : KK} {p : PV} {kv v : Value} (h : kkOf P kT = some kk) (hk : keyV kk p = some kv) (hr : Rep L β M w p v) : v = kv ∧ ∃ kl, keyOf P kT kv = some kl := by
  unfold keyV at hk
  split at hk
  · rename_i q u
    split at hk
    · rename_i hi
      cases hk
      have hv := hr.sc_inv
      obtain ⟨x, rfl, hw⟩ := isInt_of hi hr.sc_rng
      refine ⟨hv, _, Go.Maps.keyOf_int_mk ?_ hw⟩
      unfold kkOf at h
      split at h
      · rename_i q' hu; cases h; exact hu
      · split at h
        · split at h
          · cases h
          · cases h
        · cases h
      · cases h
    · cases hk
  · rename_i n q cs
    split at hk
    · rename_i us hus
      split at hk
      · rename_i hc
        cases hk
        obtain ⟨hv, hrg⟩ := scsP_vals hr hus
        refine ⟨hv, ?_⟩
        unfold kkOf at h
        split at h
        · cases h
        · rename_i n' e hu
          split at h
          · rename_i q' hq
            split at h
            · rename_i hc2
              cases h
              refine keyOf_arr (n := n) (q := q) (⟨hu, by simp [Program.plainKey, hq], hc2.1, hc2.2.1⟩ : Go.WideMaps.ArrKey P kT e n) hq ⟨P.types.size - 1, by omega⟩ hc.1 (fun u hu => isInt_of (List.all_eq_true.1 hc.2 u hu) (hrg u hu))
            · cases h
          · cases h
        · cases h
      · cases hk
    · cases hk
  · cases hk
theorem Rep.mp_inv {s : Nat} {v : Value} (h : Rep L β M w (.mp s) v) : L s ∧ v = .map (some (β s).blk) := by
  cases h with
  | imm _ _ h => cases h
  | mp _ h => exact ⟨h, rfl⟩
theorem Rep.fm_inv {kk : KK} {m : Value → Option Value} {v : Value} (h : Rep L β M w (.fm kk m) v) : ∃ b, v = .map (some b) ∧ MapIs kk w b m := by
  cases h with
  | imm _ _ h => cases h with
    | fm _ _ b h1 h2 h3 => exact ⟨b, rfl, h3⟩
theorem key_is {kT : TypeId} {kk : KK} {v : Value} (h : kkOf P kT = some kk) (hk : keyIs kk v = true) : ∃ kl, keyOf P kT v = some kl := by
  unfold kkOf at h
  split at h
  · rename_i q hu
    cases h
    simp only [keyIs, Bool.and_eq_true] at hk
    obtain ⟨x, rfl, hw⟩ := isInt_of hk.1 hk.2
    exact ⟨_, Go.Maps.keyOf_int_mk hu hw⟩
  · rename_i n e hu
    split at h
    · rename_i q hq
      split at h
      · rename_i hc
        cases h
        cases v with
        | agg vs =>
          simp only [keyIs, Bool.and_eq_true, decide_eq_true_eq] at hk
          obtain ⟨hn, ha⟩ := hk
          obtain ⟨l⟩ := vs
          exact keyOf_arr (n := n) (q := q) (⟨hu, by simp [Program.plainKey, hq], hc.1, hc.2.1⟩ : Go.WideMaps.ArrKey P kT e n) hq ⟨P.types.size - 1, by omega⟩ (by simpa using hn) (fun u hu => by
            have := List.all_eq_true.1 ha u hu
            simp only [Bool.and_eq_true] at this
            exact isInt_of this.1 this.2)
        | _ => simp [keyIs] at hk
      · cases h
    · cases h
  · cases h
section
variable {o : Oper} {id : Nat} {δ : Delta} (hR : Rb P w0 Mo β σ a w) (hK : ∀ a' w', R P w0 Mo (σ.app o.dst δ) a' w' → K a' w')
include hR hK
theorem ok_mkmap (hid : ¬ LL σ id) {t kT e : TypeId} (ho : o.op = .makeMap t none) (hu : P.underlying t = some (.map kT e)) (h : aop σ.ev (look σ.mu) id (.mkmap kT) = some δ) : o.wp P a w K Q := by
  simp only [aop, Option.some.injEq] at h; subst h
  refine wp_value hK (v := .map (some w.heap.size)) (w' := w.alloc (.map #[] 0)) ?_ ?_
  · unfold execOp; simp only [ho]
    simp [Instr.makeMap]
  · rw [app_eq]
    refine hR.upd id (.mapb kT (fun _ => none)) (w.alloc (.map #[] 0)) _ _ ⟨w.heap.size, undef, 0⟩ ⟨rfl, rfl, rfl⟩ ⟨kp_alloc w _, fun h => absurd h hid, fun k hk => ?_, fun L' β' M' h1 h2 h3 h4 hi hr h5 => ⟨?_, ?_⟩⟩ o.dst
    · have : k = w.heap.size := hk
      subst this; exact ⟨.inr (Nat.le_refl _), by simp⟩
    · exact ⟨⟨0, Mv.made P kT w⟩, nofun⟩
    · have := Rep.mp (β := β') (M := M') (w := w.alloc (.map #[] 0)) id h1
      rw [h2] at this; exact this
theorem ok_mlook {t kT e : TypeId} {ie : TypeInfo} {z : Value} {kk : KK} {c : Bool} {x y : Operand} {x' y' : AOpd} (ho : o.op = .lookup t x y c) (hu : P.underlying t = some (.map kT e)) (hkk : kkOf P kT = some kk) (hi : P.info? e = some ie) (hz : ie.zero = some z) (hrz : rngB z = true) (hx : compOpd x = some x') (hy : compOpd y = some y') (h : aop σ.ev (look σ.mu) id (.mlook c kT kk z x' y') = some δ) : o.wp P a w K Q := by
  simp only [aop] at h
  split at h
  · rename_i s hs
    split at h
    · rename_i kT' m hb
      split at h
      · rename_i kv hkv
        split at h
        · rename_i hT
          simp only [Option.some.injEq] at h; subst h
          subst hT
          have h1 := opd_ok hx hR.tm; rw [hs] at h1
          have h2 := opd_ok hy hR.tm
          obtain ⟨e2, kl, hkl⟩ := key_of hkk hkv h2
          obtain ⟨_, e1⟩ := h1.mp_inv
          obtain ⟨⟨n, hmv⟩, hrm⟩ := hR.mem.box s _ hb
          have hrun := hmv.look c (keyed_of hkk) hu (z := z) (by simp [zeroValue, typeInfo, hi, hz]) hkl
          have hrv : rngB ((m kv).getD z) = true := by
            cases hm : m kv with
            | none => exact hrz
            | some u => exact hrm _ _ hm
          refine Rb.val hR (v := if c then .tuple #[(m kv).getD z, .bool (m kv).isSome] else (m kv).getD z) ?_ ?_ hK
          · unfold execOp; simp only [ho, e1, e2]
            simp [Sem.run_bind, hrun, Result.andThen]
          · cases c
            · exact .scalar hrv
            · refine .imm _ _ (.tup [.sc ((m kv).getD z), .sc (.bool (m kv).isSome)] [(m kv).getD z, .bool (m kv).isSome] rfl (fun j p v hp hv => ?_))
              match j, hp, hv with
              | 0, hp, hv => cases hp; cases hv; exact .sc _ hrv
              | 1, hp, hv => cases hp; cases hv; exact .sc _ rfl
        · cases h
      · cases h
    · cases h
  · rename_i kk' m hs
    split at h
    · rename_i kv hkv
      split at h
      · rename_i hT
        simp only [Option.some.injEq] at h; subst h
        subst hT
        have h1 := opd_ok hx hR.tm; rw [hs] at h1
        have h2 := opd_ok hy hR.tm
        obtain ⟨e2, kl, hkl⟩ := key_of hkk hkv h2
        obtain ⟨b, e1, es, clock, g1, g2, g3, g4, hrm⟩ := h1.fm_inv
        have hmv : Mv P kT w b es.size m := ⟨es, clock, g1, Nat.le_refl _, g2, fun e he => key_is hkk (g3 e he), g4⟩
        have hrun := hmv.look c (keyed_of hkk) hu (z := z) (by simp [zeroValue, typeInfo, hi, hz]) hkl
        have hrv : rngB ((m kv).getD z) = true := by
          cases hm : m kv with
          | none => exact hrz
          | some u => exact hrm _ _ hm
        refine Rb.val hR (v := if c then .tuple #[(m kv).getD z, .bool (m kv).isSome] else (m kv).getD z) ?_ ?_ hK
        · unfold execOp; simp only [ho, e1, e2]
          simp [Sem.run_bind, hrun, Result.andThen]
        · cases c
          · exact .scalar hrv
          · refine .imm _ _ (.tup [.sc ((m kv).getD z), .sc (.bool (m kv).isSome)] [(m kv).getD z, .bool (m kv).isSome] rfl (fun j p v hp hv => ?_))
            match j, hp, hv with
            | 0, hp, hv => cases hp; cases hv; exact .sc _ hrv
            | 1, hp, hv => cases hp; cases hv; exact .sc _ rfl
      · cases h
    · cases h
  · cases h
theorem ok_mupd {t kT e : TypeId} {kk : KK} {x y u : Operand} {x' y' u' : AOpd} (ho : o.op = .mapUpdate t x y u) (hu : P.underlying t = some (.map kT e)) (hkk : kkOf P kT = some kk) (hx : compOpd x = some x') (hy : compOpd y = some y') (huo : compOpd u = some u') (h : aop σ.ev (look σ.mu) id (.mupd kT kk x' y' u') = some δ) : o.wp P a w K Q := by
  simp only [aop] at h
  split at h
  · rename_i s hs
    split at h
    · rename_i kT' m hb
      split at h
      · rename_i kv val hkv hval
        split at h
        · rename_i hT
          simp only [Option.some.injEq] at h; subst h
          subst hT
          have h1 := opd_ok hx hR.tm; rw [hs] at h1
          have h2 := opd_ok hy hR.tm
          have h3 := opd_ok huo hR.tm; rw [hval] at h3
          obtain ⟨e2, kl, hkl⟩ := key_of hkk hkv h2
          obtain ⟨hL, e1⟩ := h1.mp_inv
          have e3 := h3.sc_inv
          obtain ⟨⟨n, hmv⟩, hrm⟩ := hR.mem.box s _ hb
          obtain ⟨w', hrun, hmv', hg⟩ := hmv.update (keyed_of hkk) hu (val := val) hkl
          refine wp_skip' hK (w' := w') ?_ ?_
          · unfold execOp; simp only [ho, e1, e2, e3]
            simp [Sem.run_bind, hrun]
          · rw [app_eq]
            refine hR.upd s (.mapb kT' (upd m kv val)) w' .dead undef (β s) ⟨hg.os, hg.tape, hg.output⟩ ⟨⟨hg.size, fun k hk hnk => hg.block k hk (fun e => hnk ⟨_, hb, by cases e; rfl⟩)⟩, fun _ => ⟨rfl, .inl ⟨rfl, rfl⟩⟩, fun k hk => ?_, fun L' β' M' q1 q2 q3 q4 hi hr q5 => ⟨?_, .dead _⟩⟩ o.dst
            · have : k = (β s).blk := hk
              subst this
              exact ⟨.inl ⟨_, hb, rfl⟩, hmv'.lt⟩
            · refine ⟨⟨n + 1, hmv'⟩, fun k v hv => ?_⟩
              unfold upd at hv
              split at hv
              · cases hv; exact h3.sc_rng
              · exact hrm _ _ hv
        · cases h
      · cases h
    · cases h
  · cases h
end
/-- A function value that captures one variable of the walk's own. -/
theorem ok_mkclo {f : FuncId} {x : Operand} {x' : AOpd} {o : Oper} {id : Nat} {δ : Delta} (hR : Rb P w0 Mo β σ a w) (hK : ∀ a' w', R P w0 Mo (σ.app o.dst δ) a' w' → K a' w') (ho : o.op = .makeFunc (.func f) ⟨[]⟩ ⟨[x]⟩) (hx : compOpd x = some x') (h : aop σ.ev (look σ.mu) id (.mkclo f x') = some δ) : o.wp P a w K Q := by
  have hv := opd_ok hx hR.tm
  have hrun : (execOp a.eval o).run P w = .ok (.value (.func (.func f) #[] [a.eval x].toArray)) w := by
    unfold execOp; simp only [ho]; simp [Instr.makeFunc]
  simp only [aop] at h
  unfold cloD at h
  split at h
  · rename_i s hp
    split at h
    · rename_i p hs
      split at h
      · rename_i q hq
        simp only [Option.some.injEq] at h
        have hF := frzUpd_of σ.mu p
        obtain ⟨β', hb'⟩ := R.frzs ⟨β, hR⟩ _ hF
        have hs1 : look (σ.upd (frzUpd (look σ.mu) p)).mu s = some (.var [p]) := by
          rw [← hs]
          refine look_upd_not (fun b hb => ?_)
          obtain ⟨v0, e0, _, q⟩ := hF _ hb
          simp only [hs] at q
          rcases q with ⟨_, _, q⟩ | q <;> cases q
        obtain ⟨vs, ty, g1, g2, g3⟩ := hb'.mem.box s _ hs1
        obtain ⟨u, rfl⟩ : ∃ u, vs = [u] := by
          match vs, g2 with
          | [u], _ => exact ⟨u, rfl⟩
        have hru := resC_ok hb'.mem (g3 0 p u rfl rfl) (resC_upd hF hq) (frzUpd_upd hF (fun x hx => hx))
        have hpt : a.eval x = .pointer (some ⟨(β' s).blk, 0, none⟩) := by
          have h1 := opd_ok hx hb'.tm
          have h2 : St.ev (σ.upd (frzUpd (look σ.mu) p)) x' = .ptr s 0 := hp
          rw [h2] at h1
          exact h1.ptr_inv.2
        unfold Oper.wp
        rw [hrun, Oper.upon_value]
        refine hK _ _ ?_
        rw [app_eq, ← h]
        have e1 : σ.upd (frzUpd (look σ.mu) p ++ [(s, .fix q)]) = (σ.upd (frzUpd (look σ.mu) p)).upd [(s, .fix q)] := by simp only [St.upd, List.foldl_append]
        show R P w0 Mo ((σ.upd (frzUpd (look σ.mu) p ++ [(s, .fix q)])).put o.dst (.clo f [.bx q])) _ _
        rw [e1]
        refine hb'.upd s (.fix q) w (.clo f [.bx q]) _ (β' s) ⟨rfl, rfl, rfl⟩ ⟨Kp.refl _ _, fun _ => ⟨rfl, .inl ⟨rfl, rfl⟩⟩, (fun k hk => hk.elim), fun L' β2 M' q1 q2 q3 q4 hi hr q5 => ?_⟩ o.dst
        have hm := hb'.mem
        have hbx : RepI M' w (.bx q) (.pointer (some ⟨(β' s).blk, 0, none⟩)) := by
          refine .bx q _ 0 u (Array.getElem?_eq_some_iff.1 g1).1 (fun hM => ?_) (hi _ _ hru) (by rw [cell_of_row w (β' s).blk 0 [u].toArray ty (0, 0) g1]; rfl)
          rcases q5 _ hM with hM | hM | ⟨y, b, hy, hxl, hxm⟩
          · exact hm.mo _ hM (hm.base s _ _ hs1 rfl).1
          · exact hM
          · exact hy (hm.apart y b s _ _ hxl hs1 hxm rfl)
        refine ⟨hbx, .imm _ _ (.clo f [.bx q] [a.eval x] rfl (fun j p v hj hv => ?_))⟩
        cases j with
        | zero => simp at hj hv; subst hj; subst hv; rw [hpt]; exact hbx
        | succ j => simp at hj
      · cases h
    · rename_i q hs
      simp only [Option.some.injEq] at h
      subst h
      have hbx : RepI (MM Mo σ.mu β) w (.bx q) (.pointer (some ⟨(β s).blk, 0, none⟩)) := hR.mem.box s _ hs
      refine hR.val hrun (.imm _ _ (.clo f [.bx q] [a.eval x] rfl (fun j p v hj hv' => ?_))) hK
      cases j with
      | zero =>
        simp at hj hv'; subst hj; subst hv'
        rw [hp] at hv
        rw [hv.ptr_inv.2]; exact hbx
      | succ j => simp at hj
    · rename_i cs hno hs
      simp only [Option.some.injEq] at h
      subst h
      rw [hp] at hv
      obtain ⟨hl, he⟩ := hv.ptr_inv
      rw [he] at hrun
      exact hR.val hrun (.clp f s hl) hK
    · cases h
  · cases h
/-- A function value with a slice as its first argument. -/
theorem ok_mkfst {f : FuncId} {x : Operand} {x' : AOpd} {o : Oper} {id : Nat} {δ : Delta} (hR : Rb P w0 Mo β σ a w) (hK : ∀ a' w', R P w0 Mo (σ.app o.dst δ) a' w' → K a' w') (ho : o.op = .makeFunc (.func f) ⟨[x]⟩ ⟨[]⟩) (hx : compOpd x = some x') (h : aop σ.ev (look σ.mu) id (.mkfst f x') = some δ) : o.wp P a w K Q := by
  have hv := opd_ok hx hR.tm
  have hrun : (execOp a.eval o).run P w = .ok (.value (.func (.func f) [a.eval x].toArray #[])) w := by
    unfold execOp; simp only [ho]; simp [Instr.makeFunc]
  simp only [aop] at h
  split at h
  · rename_i es hp
    simp only [Option.some.injEq] at h
    subst h
    rw [hp] at hv
    refine hR.val hrun (.imm _ _ (.clf f [.sl es] [a.eval x] rfl (fun j p v hj hv' => ?_))) hK
    cases j with
    | zero =>
      simp at hj hv'; subst hj; subst hv'
      cases hv with
      | imm _ _ h => exact h
    | succ j => simp at hj
  · cases h
end

section
open Go.RowKit
open Nat (reduceAdd reduceEqDiff reduceLT reduceLeDiff reduceSub reducePow reduceMul)
open Int (reduceToNat reduceLE reduceEq)
set_option linter.unusedVariables false
set_option linter.unusedSimpArgs false
set_option linter.unnecessarySimpa false


variable {P : Program} {w0 : Fr} {Mo : Nat → Prop} {σ : St} {a : Act} {w w' : World} {K : Act → World → Prop} {Q : Exit → Act → World → Prop} {L : Nat → Prop} {β : Nat → Bd} {M : Nat → Prop} {H : Nat} {μ : List (Nat × Box)}
theorem run_copy_any (w : World) (dT sT ty elem : TypeId) (b o dLen dCap : Nat) (a : Addr) (sLen sCap : Nat) (cs : List Value) {i : TypeInfo}
    (hu : P.underlying dT = some (.slice elem)) (hi : P.info? elem = some i) (hn : cs.length = Nat.min sLen dLen * i.size)
    (hsrc : ∀ j v, cs[j]? = some v → w.cell? (a.add j) = some v) (hc : ∀ j, j < cs.length → (w.cell? ⟨b, o + j, none⟩).isSome = true) (hf : ∀ j, j < cs.length → w.frozen? ⟨b, o + j, none⟩ = false) (h1 : ∀ v ∈ cs, v.oneCell' = true) :
    (Builtin.copy_ #[dT, sT] ty #[.slice (some ⟨b, o, none⟩) dLen dCap, .slice (some a) sLen sCap]).run P w = .ok (goInt (Nat.min sLen dLen)) (w.setCells b o cs) := by
  have hl := run_loadCells_list (P := P) w a cs hsrc
  have hst := run_storeCells_cells (P := P) b o cs 0 w (by simpa using hc) (by simpa using hf) h1
  rw [hn] at hl
  generalize hm : Nat.min sLen dLen = m at *
  simp [Builtin.copy_, run_underlying hu, Builtin.lenOf, Builtin.firstCells, sizeOf, typeInfo, hi, hl, hst, hm]
theorem run_copy_zero (w : World) (dT sT ty elem : TypeId) (d a : Option Addr) (dLen dCap sLen sCap : Nat) {i : TypeInfo} (hu : P.underlying dT = some (.slice elem)) (hi : P.info? elem = some i) (hn : Nat.min sLen dLen = 0) :
    (Builtin.copy_ #[dT, sT] ty #[.slice d dLen dCap, .slice a sLen sCap]).run P w = .ok (goInt 0) w := by
  have hl : ∀ (x : Addr), (loadCells x 0).run P w = .ok #[] w := fun x => by simpa using run_loadCells_list (P := P) w x [] (by simp)
  cases d <;> cases a <;> simp [Builtin.copy_, run_underlying hu, Builtin.lenOf, Builtin.firstCells, sizeOf, typeInfo, hi, hn, storeCells, hl]
theorem setAt_eq {α : Type} {cs ps : List α} {off : Nat} (h : off + ps.length ≤ cs.length) : setAt cs off ps = cs.take off ++ ps ++ cs.drop (off + ps.length) := by
  apply List.ext_getElem?
  intro j
  rw [setAt_get, List.append_assoc]
  by_cases h1 : j < off
  · rw [if_neg (by omega), List.getElem?_append_left (by rw [List.length_take]; omega), List.getElem?_take, if_pos h1]
  · rw [List.getElem?_append_right (by rw [List.length_take]; omega), List.length_take, Nat.min_eq_left (by omega)]
    by_cases h2 : j < off + ps.length
    · rw [if_pos ⟨by omega, h2, by omega⟩, List.getElem?_append_left (by omega)]
    · rw [if_neg (by omega), List.getElem?_append_right (by omega), List.getElem?_drop]
      congr 1; omega
theorem flatL_take {sz : Nat} : ∀ {es : List PV} (k : Nat), (∀ x ∈ es, x.flat.length = sz) → flatL (es.take k) = (flatL es).take (k * sz)
  | [], k, _ => by simp [flatL]
  | e :: es, 0, _ => by simp [flatL]
  | e :: es, k + 1, h => by
    have ih := flatL_take (es := es) k (fun x hx => h x (List.mem_cons_of_mem _ hx))
    have he := h e List.mem_cons_self
    simp only [flatL, List.take_succ_cons, List.flatMap_cons] at ih ⊢
    have h5 : e.flat.take ((k + 1) * sz) = e.flat := List.take_of_length_le (by rw [he, Nat.succ_mul]; omega)
    rw [ih, List.take_append, h5, he, show (k + 1) * sz - sz = k * sz by rw [Nat.succ_mul]; omega]
theorem flatL_drop {sz : Nat} : ∀ {es : List PV} (k : Nat), (∀ x ∈ es, x.flat.length = sz) → flatL (es.drop k) = (flatL es).drop (k * sz)
  | [], k, _ => by simp [flatL]
  | e :: es, 0, _ => by simp [flatL]
  | e :: es, k + 1, h => by
    have ih := flatL_drop (es := es) k (fun x hx => h x (List.mem_cons_of_mem _ hx))
    have he := h e List.mem_cons_self
    simp only [flatL, List.drop_succ_cons, List.flatMap_cons] at ih ⊢
    have h5 : e.flat.drop ((k + 1) * sz) = [] := List.drop_of_length_le (by rw [he, Nat.succ_mul]; omega)
    rw [ih, List.drop_append, h5, he, show (k + 1) * sz - sz = k * sz by rw [Nat.succ_mul]; omega, List.nil_append]
theorem flatL_app (a b : List PV) : flatL (a ++ b) = flatL a ++ flatL b := by simp [flatL]
theorem flatL_setAt {es qs : List PV} {sz lo : Nat} (h : ∀ x ∈ es, x.flat.length = sz) (hq : ∀ x ∈ qs, x.flat.length = sz) (hle : lo + qs.length ≤ es.length) : flatL (setAt es lo qs) = setAt (flatL es) (lo * sz) (flatL qs) := by
  have h1 := flatL_len h
  have h2 := flatL_len hq
  have h3 : lo * sz + qs.length * sz ≤ es.length * sz := by rw [← Nat.add_mul]; exact Nat.mul_le_mul_right _ hle
  rw [setAt_eq hle, setAt_eq (by rw [h1, h2]; exact h3), flatL_app, flatL_app, flatL_take _ h, flatL_drop _ h, h2, Nat.add_mul]
theorem Rep.win_inv {s ver sz lo n : Nat} {v : Value} (h : Rep L β M w (.win s ver sz lo n) v) : L s ∧ ver ≤ (β s).ver ∧ ((β s).ver = ver → ∃ a cap, v = .slice a n cap ∧ n ≤ cap ∧ cap ≤ maxLen ∧ (a = none → cap = 0) ∧ (0 < n → ∃ b, (β s).hdr.ownBlock = some b ∧ a = some ⟨b, lo * sz, none⟩)) := by
  cases h with
  | imm _ _ h => cases h
  | win _ _ _ _ _ _ h1 h2 h3 h4 => exact ⟨h1, h2, h3⟩
theorem dstV_ok (hm : Mem P w0 Mo L β μ w) {p : PV} {v : Value} {s : Nat} {e : TypeId} {sz ver : Nat} {es : List PV} {lo n : Nat} (h : Rep L β M w p v) (hq : dstV (look μ) p = some (s, e, sz, ver, es, lo, n)) :
    look μ s = some (.row e sz ver es) ∧ lo + n ≤ es.length ∧ ∃ ad cap, v = .slice ad n cap ∧ (0 < n → ∃ b, (β s).hdr.ownBlock = some b ∧ ad = some ⟨b, lo * sz, none⟩) := by
  unfold dstV at hq
  split at hq
  · rename_i s' ver'
    split at hq
    · rename_i e' sz' v' es' hs
      split at hq
      · rename_i hv
        cases hq
        obtain ⟨q1, q0, xs, q2, q3, q4⟩ := hm.box s _ hs
        obtain ⟨_, _, h3⟩ := h.own_inv
        refine ⟨hs, by omega, ?_⟩
        rw [h3 (q1.trans hv)]
        rcases q2.2 with ⟨hv, hn⟩ | ⟨g, cap, cur, hv, hg, hh, hle, hmx, _, _⟩
        · exact ⟨none, 0, by rw [hv, hn], fun h0 => by omega⟩
        · exact ⟨_, cap, hv, fun _ => ⟨g, by rw [hv]; rfl, by rw [Nat.zero_mul]⟩⟩
      · cases hq
    · cases hq
  · rename_i s' ver' sz' lo' n'
    split at hq
    · rename_i e' sz'' v' es' hs
      split at hq
      · rename_i hv
        obtain ⟨hv, hz, hl⟩ := hv
        cases hq
        obtain ⟨q1, -⟩ := hm.box s _ hs
        obtain ⟨_, _, h3⟩ := h.win_inv
        obtain ⟨ad, cap, h4, -, -, -, h5⟩ := h3 (q1.trans hv)
        exact ⟨hs, hl, ad, cap, h4, fun h0 => by obtain ⟨b, hb, e⟩ := h5 h0; exact ⟨b, hb, by rw [e, hz]⟩⟩
      · cases hq
    · cases hq
  · cases hq
theorem srcV_ok (hm : Mem P w0 Mo L β μ w) {p : PV} {v : Value} {ys : List PV} {ts : List Nat} (h : Rep L β (MM Mo μ β) w p v) (hq : srcV (look μ) p = some (ys, ts)) : SlOk (MM Mo μ β) w ys v := by
  unfold srcV at hq
  split at hq
  · rename_i s ver sz lo n
    split at hq
    · rename_i e' sz' v' es hs
      split at hq
      · rename_i hv
        obtain ⟨hv, hz, hl⟩ := hv
        cases hq
        obtain ⟨q1, q0, xs, q2, q3, q4⟩ := hm.box s _ hs
        obtain ⟨_, _, h3⟩ := h.win_inv
        obtain ⟨ad, cap, h4, h6, h7, h8, h5⟩ := h3 (q1.trans hv)
        subst hz
        have hlen : ((es.drop lo).take n).length = n := by rw [List.length_take, List.length_drop]; omega
        refine ⟨ad, cap, by rw [hlen]; exact h4, by rw [hlen]; exact h6, h7, h8, fun sz2 hsz2 => ?_⟩
        by_cases hn : n = 0
        · subst hn
          exact ⟨[], ⟨rfl, fun j p u hp => by simp [flatL] at hp⟩, fun h => absurd rfl h⟩
        obtain ⟨b, hb, had⟩ := h5 (by omega)
        have hfe : flatL ((es.drop lo).take n) = ((flatL es).drop (lo * sz')).take (n * sz') := by rw [flatL_take _ (fun x hx => q3 x (List.mem_of_mem_drop hx)), flatL_drop _ q3]
        have hxl := q2.1
        have hpw : Pw (RepI (MM Mo μ β) w) (flatL es) xs := ⟨by rw [flatL_len q3, q2.1], q4⟩
        refine ⟨(xs.drop (lo * sz')).take (n * sz'), ?_, fun _ => ⟨b, lo * sz', had, ?_, .inr ⟨b, by rw [h4, had]; rfl, rfl⟩, fun j u hu => ?_⟩⟩
        · rw [hfe]
          refine ⟨by simp [hpw.1], fun j p u hp hu => ?_⟩
          rw [List.getElem?_take] at hp hu
          split at hp
          · rename_i hj
            rw [if_pos hj] at hu
            rw [List.getElem?_drop] at hp hu
            exact hpw.2 _ p u hp hu
          · cases hp
        · exact (hm.base s _ b hs (by show (β s).hdr.ownBlock = some b; exact hb)).2
        · rw [List.getElem?_take] at hu
          split at hu
          · rw [List.getElem?_drop] at hu
            have := q2.cells (g := b) hb _ u hu
            rw [addr_add] at this
            simpa using this
          · cases hu
      · cases hq
    · cases hq
  · exact slView_ok hm h hq
section
variable {o : Oper} {id : Nat} {δ : Delta} (hR : Rb P w0 Mo β σ a w) (hK : ∀ a' w', R P w0 Mo (σ.app o.dst δ) a' w' → K a' w')
include hR hK
theorem ok_copy {t t2 e : TypeId} {ie : TypeInfo} {x y : Operand} {x' y' : AOpd} (ho : o.op = .call { callee := .builtin .copy, args := #[x, y], argTypes := #[t, t2] }) (hu : P.underlying t = some (.slice e)) (hie : P.info? e = some ie) (hx : compOpd x = some x') (hy : compOpd y = some y')
    (h : aop σ.ev (look σ.mu) id (.copy ie.size x' y') = some δ) : o.wp P a w K Q := by
  have hvx := opd_ok hx hR.tm
  have hvy := opd_ok hy hR.tm
  simp only [aop] at h
  split at h
  · rename_i s er sz ver es lo n ys ts hd hs
    split at h
    · rename_i hc
      obtain ⟨rfl, hall⟩ := hc
      simp only [Option.some.injEq] at h
      obtain ⟨d1, d2, ad, cap, d3, d4⟩ := dstV_ok hR.mem hvx hd
      obtain ⟨ad2, cap2, s1, s2, s3, s4, s5⟩ := srcV_ok hR.mem hvy hs
      have hfl : ∀ p ∈ ys, p.flat.length = ie.size := fun p hp => by
        have := List.all_eq_true.1 hall p hp; simp at this; exact this.1
      have hok : ∀ p ∈ flatL ys, p.cellOk = true := by
        intro p hp
        obtain ⟨q, hq, hpq⟩ := List.mem_flatMap.1 hp
        have := List.all_eq_true.1 hall q hq; simp at this; exact this.2 p hpq
      obtain ⟨news, hpw, hat⟩ := s5 _ hfl
      obtain ⟨q1, q0, xs, q2, q3, q4⟩ := hR.mem.box s _ d1
      have hxpw : Pw (RepI (MM Mo σ.mu β) w) (flatL es) xs := ⟨by rw [flatL_len q3, q2.1], q4⟩
      have hnl : news.length = ys.length * ie.size := by rw [← hpw.1, flatL_len hfl]
      have hqfl : ∀ p ∈ ys.take n, p.flat.length = ie.size := fun p hp => hfl p (List.mem_of_mem_take hp)
      have hfit : lo + (ys.take n).length ≤ es.length := by rw [List.length_take]; omega
      have hexec : ∀ u w', (Builtin.copy_ #[t, t2] o.type #[a.eval x, a.eval y]).run P w = .ok u w' → (execOp a.eval o).run P w = .ok (.value u) w' := by
        intro u w' h1
        unfold execOp; simp only [ho]
        simp [resolve, invoke, builtin, h1]
      have hmin : Nat.min ys.length n = min ys.length n := rfl
      have hlen : es.length ≤ maxLen := by
        rcases q2.2 with ⟨_, h0⟩ | ⟨_, _, _, _, _, _, h1, h2, _⟩ <;> omega
      have hrng : rngB (.int .i64 (min ys.length n : Nat)) = true := by
        have : min ys.length n ≤ es.length := by omega
        unfold maxLen at hlen
        simp [rngB, IntKind.min, IntKind.max, IntKind.bits, IntKind.signed]; omega
      by_cases h0 : min ys.length n = 0
      · have e0 : ys.take n = [] := by
          apply List.eq_nil_of_length_eq_zero
          rw [List.length_take]; omega
        have hrun := run_copy_zero (P := P) w t t2 o.type e ad ad2 n cap ys.length cap2 hu hie (by rw [hmin]; exact h0)
        refine wp_value hK (hexec _ w (by rw [d3, s1]; exact hrun)) ?_
        rw [← h, app_touch, e0, h0]
        refine hR.upd s (.row er ie.size ver es) w _ _ (β s) ⟨rfl, rfl, rfl⟩ ⟨Kp.refl _ _, fun _ => ⟨rfl, .inl ⟨rfl, rfl⟩⟩, fun k hk => ⟨.inl ⟨_, d1, hk⟩, (hR.mem.base s _ k d1 hk).2⟩, fun L' β' M' p1 p2 p3 p4 hi hr p5 => ⟨⟨q1, q0, xs, q2, q3, (hxpw.mono hi).2⟩, .scalar (by decide)⟩⟩ o.dst
      · obtain ⟨b, hb, had⟩ := d4 (by omega)
        obtain ⟨b2, o2, had2, hb2, -, hcells⟩ := hat (by intro e; subst e; simp at h0)
        subst had had2
        rcases q2.2 with ⟨hh, hn⟩ | ⟨g, cp, cur, hh, hg, hgg, hle, hmx, hcs, htk⟩
        · rw [hh] at hb; simp [Value.ownBlock] at hb
        have hbg : b = g := by rw [hh] at hb; simpa [Value.ownBlock] using hb.symm
        subst hbg
        have hcl : es.length * ie.size ≤ cur.size := by rw [hcs]; exact Nat.mul_le_mul_right _ hle
        have hfe : flatL (ys.take n) = (flatL ys).take (n * ie.size) := flatL_take _ hfl
        have hqpw : Pw (RepI (MM Mo σ.mu β) w) (flatL (ys.take n)) (news.take (n * ie.size)) := by
          rw [hfe]
          refine ⟨by simp [hpw.1], fun j p u hp hu => ?_⟩
          rw [List.getElem?_take] at hp hu
          split at hp
          · rename_i hj
            rw [if_pos hj] at hu
            exact hpw.2 _ p u hp hu
          · cases hp
        have hcsl : (news.take (n * ie.size)).length = min ys.length n * ie.size := by
          rw [← hqpw.1, flatL_len hqfl, List.length_take, Nat.min_comm]
        have hbnd : lo * ie.size + min ys.length n * ie.size ≤ es.length * ie.size := by rw [← Nat.add_mul]; exact Nat.mul_le_mul_right _ (by omega)
        have hone : ∀ u ∈ news.take (n * ie.size), u.oneCell' = true := by
          intro u hu
          obtain ⟨j, hj, rfl⟩ := List.getElem_of_mem (List.mem_of_mem_take hu)
          have h1 := hpw.1
          exact Rep.oneCell (L := LL σ) (β := β) (.imm _ _ (hpw.2 j _ _ (List.getElem?_eq_getElem (by omega)) (List.getElem?_eq_getElem hj))) (hok _ (List.getElem_mem _))
        have hrun := run_copy_any (P := P) w t t2 o.type e b (lo * ie.size) n cap ⟨b2, o2, none⟩ ys.length cap2 (news.take (n * ie.size)) hu hie (by rw [hcsl]) (fun j v hj => by
            rw [List.getElem?_take] at hj
            split at hj
            · rw [addr_add]; exact hcells j v hj
            · cases hj) (fun j hj => by
            rw [cell_of_row w b _ cur er (0, 0) hgg, Array.getElem?_eq_getElem (by omega)]; rfl) (fun j hj => by simp [World.frozen?, hgg]) hone
        clear hnl hat hcells hfe
        generalize news.take (n * ie.size) = cc at *
        obtain ⟨r1, r2, r3, r4⟩ := setCells_rest b cc (lo * ie.size) w
        refine wp_value hK (hexec _ _ (by rw [d3, s1]; exact hrun)) ?_
        rw [← h, app_touch]
        refine hR.upd s (.row er ie.size ver (setAt es lo (ys.take n))) _ _ _ (β s) ⟨r1, r2, r3⟩ ⟨⟨by rw [r4]; exact Nat.le_refl _, fun k hk hnk => heap_setCells_other _ _ _ _ _ (fun e => hnk ⟨_, d1, by rw [e]; exact hb⟩)⟩, fun _ => ⟨rfl, .inl ⟨rfl, rfl⟩⟩, fun k hk => ⟨.inl ⟨_, d1, hk⟩, by rw [r4]; exact (hR.mem.base s _ k d1 hk).2⟩, fun L' β' M' p1 p2 p3 p4 hi hr p5 => ⟨?_, .scalar hrng⟩⟩ o.dst
        refine ⟨q1, q0, setAt xs (lo * ie.size) cc, ?_, ?_, ?_⟩
        · refine ⟨by rw [setAt_length, setAt_length, q2.1], .inr ⟨b, cp, (setAt cur.toList (lo * ie.size) cc).toArray, by rw [setAt_length]; exact hh, hg, ?_, by rw [setAt_length]; exact hle, hmx, by simp [setAt_length, hcs], ?_⟩⟩
          · exact heap_setCells b er _ _ w cur.toList (by simpa using hgg)
          · rw [setAt_length]
            apply List.ext_getElem?
            intro k
            rw [List.getElem?_take, setAt_get]
            rw [setAt_get]
            rw [← htk, List.getElem?_take, List.length_take]
            simp only [Array.length_toList]
            by_cases hk : k < es.length * ie.size
            · rw [if_pos hk, if_pos hk]
              by_cases hin : lo * ie.size ≤ k ∧ k < lo * ie.size + cc.length ∧ k < cur.size
              · rw [if_pos hin, if_pos (by omega)]
              · rw [if_neg hin, if_neg (by omega)]
            · rw [if_neg hk, if_neg (by omega), if_neg hk]
        · intro x hx
          rw [setAt_eq hfit] at hx
          rcases List.mem_append.1 hx with hx | hx
          · rcases List.mem_append.1 hx with hx | hx
            · exact q3 x (List.mem_of_mem_take hx)
            · exact hqfl x hx
          · exact q3 x (List.mem_of_mem_drop hx)
        · rw [flatL_setAt q3 hqfl hfit]
          exact ((hxpw.mono hi).setAt (hqpw.mono hi) _).2
    · cases h
  · cases h
theorem ok_aidx {t e : TypeId} {n : Nat} {ie : TypeInfo} {d : TypeDesc} {x y : Operand} {x' y' : AOpd} (ho : o.op = .index t x y) (hu : P.underlying t = some (.array n e)) (hi : P.info? e = some ie) (hd : P.underlying e = some d) (h1 : d.isRow = false → ie.size = 1) (hx : compOpd x = some x') (hy : compOpd y = some y')
    (h : aop σ.ev (look σ.mu) id (.aidx ie.size n d.isRow x' y') = some δ) : o.wp P a w K Q := by
  have hv := opd_ok hx hR.tm
  have hvy := opd_ok hy hR.tm
  simp only [aop] at h
  split at h
  · rename_i cs kd k hp hq
    rw [hp] at hv
    rw [hq] at hvy
    have hvy := hvy.sc_inv
    split at h
    · rename_i hle
      obtain ⟨k0, k1, k2⟩ := hle
      simp only [Option.some.injEq] at h; subst h
      obtain ⟨vs, he, h2, h3⟩ := hv.agg_inv
      have hpw : Pw (Rep (LL σ) β (MM Mo σ.mu β) w) cs vs := ⟨h2, h3⟩
      have hl := Rep.loaded (r := d.isRow) (n := ie.size) (hpw.drop (k.toNat * ie.size)) (by rw [List.length_drop]; omega) h1
      refine hR.val (v := if d.isRow then .agg ((vs.drop (k.toNat * ie.size)).take ie.size).toArray else ((vs.drop (k.toNat * ie.size)).take ie.size).headD undef) ?_ (by simpa [List.getD_eq_getElem?_getD] using hl) hK
      unfold execOp; simp only [ho, he, hvy]
      have kn : k < (n : Int) := by omega
      cases hr : d.isRow
      · have h1 := h1 hr
        have hagg : (isAgg e).run P w = .ok false w := by
          unfold isAgg
          rw [Sem.run_bind, run_underlying hd w]
          cases d <;> simp_all [TypeDesc.isRow]
        rw [h1, Nat.mul_one] at k2 ⊢
        have hlt : k.toNat < vs.length := by omega
        have hd2 : ((vs.drop k.toNat).take 1).headD undef = vs[k.toNat] := by
          rw [List.headD_eq_head?_getD, List.head?_take, if_neg (by omega), List.head?_drop, List.getElem?_eq_getElem hlt]; rfl
        rw [hd2]
        simp [Instr.index, asIntOf, run_underlying hu, k0, kn, part, hagg, h1, hlt, sizeOf, typeInfo, hi]
      · have hagg : (isAgg e).run P w = .ok true w := by
          unfold isAgg
          rw [Sem.run_bind, run_underlying hd w]
          cases d <;> simp_all [TypeDesc.isRow]
        simp [Instr.index, asIntOf, run_underlying hu, k0, kn, part, hagg, sizeOf, typeInfo, hi]
    · cases h
  · cases h
theorem ok_slicew {t e : TypeId} {ie : TypeInfo} {x : Operand} {lo hi mx : Option Operand} {x' : AOpd} {lo' hi' mx' : Option AOpd} (ho : o.op = .slice t x lo hi mx) (hu : P.underlying t = some (.slice e)) (hie : P.info? e = some ie) (hx : compOpd x = some x')
    (hlo : ∀ y, lo = some y → ∃ y', lo' = some y' ∧ compOpd y = some y') (hlo0 : lo = none → lo' = none) (hhi : ∀ y, hi = some y → ∃ y', hi' = some y' ∧ compOpd y = some y') (hhi0 : hi = none → hi' = none) (hmx : ∀ y, mx = some y → ∃ y', mx' = some y' ∧ compOpd y = some y')
    (h : aopw σ.ev (look σ.mu) ie.size x' lo' hi' mx' = some δ) : o.wp P a w K Q := by
  have bd : ∀ (y : Option Operand) (y' : Option AOpd) (d m r : Nat), (∀ z, y = some z → ∃ z', y' = some z' ∧ compOpd z = some z') → (y = none → y' = none) → bound σ.ev y' d m = some r → (y = none ∧ y' = none ∧ r = d) ∨ ∃ z k i, y = some z ∧ y'.isSome = true ∧ a.eval z = .int k i ∧ 0 ≤ i ∧ i.toNat ≤ m ∧ r = i.toNat := by
    intro y y' d m r h1 h0 hb
    cases y with
    | none => rw [h0 rfl] at hb; simp [bound] at hb; exact .inl ⟨rfl, h0 rfl, hb.symm⟩
    | some z =>
      obtain ⟨z', hz, hz'⟩ := h1 z rfl
      subst hz
      unfold bound at hb
      simp only at hb
      split at hb
      · rename_i k i hi
        split at hb
        · rename_i hc
          cases hb
          have := opd_ok hz' hR.tm; rw [hi] at this
          exact .inr ⟨z, k, i, rfl, rfl, this.sc_inv, hc.1, hc.2, rfl⟩
        · cases hb
      · cases hb
  have hsb : ∀ (kl : IntKind) (i : Int) (y : Nat) (code : BoundsCode) (h0 : 0 ≤ i) (h1 : i.toNat ≤ y), (Instr.sliceBound (.int kl i) y code).run P w = .ok i.toNat w := fun kl i y code h0 h1 => run_sliceBound (P := P) w kl i y code h0 (by omega)
  have hvx := opd_ok hx hR.tm
  unfold aopw at h
  cases mx' with
  | some _ => cases h
  | none =>
  have hmn : mx = none := by
    cases mx with
    | none => rfl
    | some y => obtain ⟨_, h, _⟩ := hmx y rfl; cases h
  subst hmn
  simp only at h
  split at h
  · rename_i s ver hp
    split at h
    · rename_i er sz' v es hs
      split at h
      · rename_i hc
        obtain ⟨hver, rfl⟩ := hc
        subst hver
        obtain ⟨q1, q0, xs, q2, q3, q4⟩ := hR.mem.box s _ hs
        rw [hp] at hvx
        obtain ⟨l1, l2, l3⟩ := hvx.own_inv
        have hv := l3 q1
        obtain ⟨ad, cap, hh, hcap, hcm, had, hown⟩ : ∃ ad cap, (β s).hdr = .slice ad es.length cap ∧ es.length ≤ cap ∧ cap ≤ maxLen ∧ (ad = none → cap = 0) ∧ ∀ n c, n ≤ es.length → w.ownsRow w0.H er ie.size (.slice ad n cap) n (xs.take (n * ie.size)) ∧ (0 < n → ∃ b, (β s).hdr.ownBlock = some b ∧ ad = some ⟨b, 0, none⟩) ∧ (∀ k, (Value.slice ad n c).ownBlock = some k → (β s).hdr.ownBlock = some k) := by
          rcases q2.2 with ⟨hh, hn⟩ | ⟨g, cap, cur, hh, hg, hgg, hle, hmx, hcs, htk⟩
          · refine ⟨none, 0, by rw [hh, hn], by omega, Nat.zero_le _, fun _ => rfl, fun n c hn' => ?_⟩
            have hn0 : n = 0 := by omega
            subst hn0
            exact ⟨⟨by simp, .inl ⟨rfl, rfl⟩⟩, fun h => by omega, fun k hk => by simp [Value.ownBlock] at hk⟩
          · refine ⟨some ⟨g, 0, none⟩, cap, hh, hle, hmx, (fun h => by cases h), fun n c hn' => ?_⟩
            have hmul : n * ie.size ≤ es.length * ie.size := Nat.mul_le_mul_right _ hn'
            refine ⟨⟨by rw [List.length_take, q2.1]; omega, .inr ⟨g, cap, cur, rfl, hg, hgg, by omega, hmx, hcs, ?_⟩⟩, fun _ => ⟨g, by rw [hh]; rfl, rfl⟩, fun k hk => by rw [hh]; exact hk⟩
            rw [← htk, List.take_take, Nat.min_eq_left hmul]
        rw [hh] at hv
        split at h
        · rename_i h' hhb
          have hhl : h' ≤ es.length := by
            rcases bd hi hi' _ _ _ hhi hhi0 hhb with ⟨rfl, e2, rfl⟩ | ⟨zh, kh, ih, rfl, e2, eh, eh0, eh1, rfl⟩
            · exact Nat.le_refl _
            · exact eh1
          cases lo' with
          | none =>
            have hlo1 : lo = none := by
              cases lo with
              | none => rfl
              | some y => obtain ⟨_, h, _⟩ := hlo y rfl; cases h
            subst hlo1
            simp only [Option.some.injEq] at h
            have hrun : (execOp a.eval o).run P w = .ok (.value (.slice ad h' cap)) w := by
              unfold execOp; simp only [ho, hv]
              rcases bd hi hi' _ _ _ hhi hhi0 hhb with ⟨rfl, e2, rfl⟩ | ⟨zh, kh, ih, rfl, e2, eh, eh0, eh1, rfl⟩
              · simp [Instr.sliceAt, Instr.slice, run_underlying hu, Instr.sliceBounds, sizeOf, typeInfo, hie, addr_add]
                cases ad <;> simp [addr_add]
                rename_i ad
                intro _
                obtain ⟨g, o', pp⟩ := ad
                cases pp <;> simp [Addr.add]
              · simp [Instr.sliceAt, Instr.slice, run_underlying hu, Instr.sliceBounds, sizeOf, typeInfo, hie, eh, hsb _ _ cap _ eh0 (by omega)]
                cases ad <;> simp [addr_add]
                rename_i ad
                intro _
                obtain ⟨g, o', pp⟩ := ad
                cases pp <;> simp [Addr.add]
            obtain ⟨o1, o2, o3⟩ := hown h' cap hhl
            refine wp_value hK hrun ?_
            rw [← h, app_touch]
            have hxpw : Pw (RepI (MM Mo σ.mu β) w) (flatL es) xs := ⟨by rw [flatL_len q3, q2.1], q4⟩
            refine hR.upd s (.row er ie.size (v + 1) (es.take h')) w _ _ ⟨(β s).blk, .slice ad h' cap, v + 1⟩ ⟨rfl, rfl, rfl⟩ ⟨Kp.refl _ _, fun _ => ⟨rfl, .inr (by show (β s).ver < v + 1; omega)⟩, fun k hk => ?_, fun L' β' M' p1 p2 p3 p4 hi2 hr p5 => ⟨⟨rfl, q0, xs.take (h' * ie.size), by rw [List.length_take, Nat.min_eq_left hhl]; exact o1, fun x hx => q3 x (List.mem_of_mem_take hx), ?_⟩, ?_⟩⟩ o.dst
            · have hk2 := o3 k hk
              exact ⟨.inl ⟨_, hs, hk2⟩, (hR.mem.base s _ k hs hk2).2⟩
            · rw [flatL_take _ q3]
              intro j p u hp hu
              rw [List.getElem?_take] at hp hu
              split at hp
              · rename_i hj
                rw [if_pos hj] at hu
                exact hi2 _ _ (hxpw.2 j p u hp hu)
              · cases hp
            · exact .own s (v + 1) _ p1 (by rw [p2]; exact Nat.le_refl _) (fun _ => by rw [p2]) rfl
          | some lo1 =>
            simp only at h
            split at h
            · rename_i l hlb
              simp only [Option.some.injEq] at h
              rcases bd lo (some lo1) _ _ _ hlo hlo0 hlb with ⟨_, h0, _⟩ | ⟨zl, kl, il, rfl, _, el, el0, el1, rfl⟩
              · cases h0
              have hrun : (execOp a.eval o).run P w = .ok (.value (.slice (if cap = il.toNat then ad else ad.map (·.add (il.toNat * ie.size))) (h' - il.toNat) (cap - il.toNat))) w := by
                unfold execOp; simp only [ho, hv]
                rcases bd hi hi' _ _ _ hhi hhi0 hhb with ⟨rfl, e2, rfl⟩ | ⟨zh, kh, ih, rfl, e2, eh, eh0, eh1, rfl⟩
                · simp [Instr.sliceAt, Instr.slice, run_underlying hu, Instr.sliceBounds, sizeOf, typeInfo, hie, el, hsb _ _ _ _ el0 el1]
                · simp [Instr.sliceAt, Instr.slice, run_underlying hu, Instr.sliceBounds, sizeOf, typeInfo, hie, el, eh, hsb _ _ _ _ el0 el1, hsb _ _ cap _ eh0 (by omega)]
              subst h
              refine hR.val hrun ?_ hK
              refine .win s v ie.size il.toNat (h' - il.toNat) _ l1 l2 (fun _ => ⟨_, _, rfl, by omega, by omega, fun e => ?_, fun h0 => ?_⟩) rfl
              · cases ad with
                | none => have := had rfl; omega
                | some ad => split at e <;> cases e
              · obtain ⟨-, o2, -⟩ := hown h' cap hhl
                obtain ⟨b, hb, e⟩ := o2 (by omega)
                refine ⟨b, hb, ?_⟩
                rw [if_neg (by omega), e]
                simp only [Option.map_some, addr_add, Nat.zero_add]
            · cases h
        · cases h
      · cases h
    · cases h
  · cases h
theorem ok_add64 {f : FuncId} {fn : Func} {xs : Array Operand} {ts : Array TypeId} {x y c : AOpd} (ho : o.op = .call { callee := .value (.func f), args := xs, argTypes := ts }) (hfn : P.funcs[f]? = some fn) (hn : fn.name = "math/bits.Add64") (hor : fn.origin = "") (hb : fn.body.isNone = true) (hx : xs.toList.mapM compOpd = some [x, y, c])
    (h : aop σ.ev (look σ.mu) id (.add64 x y c) = some δ) : o.wp P a w K Q := by
  simp only [aop] at h
  split at h
  · rename_i v1 v2 v3 h1 h2 h3
    split at h
    · rename_i hd
      simp only [Option.some.injEq] at h; subst h
      obtain ⟨m1, m2⟩ := mapM_get hx
      have key : ∀ (i : Nat) (x' : AOpd) (n : Int), [x, y, c][i]? = some x' → σ.ev x' = .sc (.int .u64 n) → ∃ op, xs.toList[i]? = some op ∧ a.eval op = .int .u64 n ∧ 0 ≤ n ∧ n ≤ 18446744073709551615 := by
        intro i x' n hi he
        have hil : i < xs.toList.length := by rw [m1]; exact (List.getElem?_eq_some_iff.1 hi).1
        obtain ⟨x'', hx'', hc''⟩ := m2 i _ (List.getElem?_eq_getElem hil)
        rw [hi] at hx''; cases hx''
        have hr := opd_ok hc'' hR.tm
        rw [he] at hr
        have hg := hr.sc_rng
        simp [rngB, IntKind.min, IntKind.max, IntKind.bits, IntKind.signed] at hg
        exact ⟨_, List.getElem?_eq_getElem hil, hr.sc_inv, by omega, by omega⟩
      obtain ⟨o1, p1, e1, a1, b1⟩ := key 0 x v1 rfl h1
      obtain ⟨o2, p2, e2, a2, b2⟩ := key 1 y v2 rfl h2
      obtain ⟨o3, p3, e3, a3, b3⟩ := key 2 c v3 rfl h3
      have hxs : xs = #[o1, o2, o3] := by
        apply Array.ext'
        apply List.ext_getElem?
        intro i
        match i with
        | 0 => exact p1
        | 1 => exact p2
        | 2 => exact p3
        | i + 3 => rw [List.getElem?_eq_none (by rw [m1]; simp), List.getElem?_eq_none (by simp)]
      have hm := hR.mem
      obtain ⟨f1, f2⟩ := find_add64 hn hor
      have hname : (fn.name == "runtime.NumGoroutine") = false := by rw [hn]; decide
      have hrun : (execOp a.eval o).run P w = .ok (.value (.tuple #[.int .u64 ((v1 + v2 + v3) % 18446744073709551616), .int .u64 ((v1 + v2 + v3) / 18446744073709551616)])) w := by
        have hcf := run_callFunc_extern (e := add64Entry) hfn hname hb f1 f2 #[.int .u64 v1, .int .u64 v2, .int .u64 v3] w
        rw [run_add64 v1 v2 v3 a1 a2 a3 hd w] at hcf
        have hfe : a.eval (.func f) = .func (.func f) #[] #[] := rfl
        unfold execOp; simp only [ho, hxs]
        simpa [resolve, Deferred.ofValue, invoke, e1, e2, e3, hfe, Result.andThen] using hcf
      refine hR.val hrun ?_ hK
      refine .imm _ _ (.tup [_, _] [_, _] rfl (fun j p v hp hv => ?_))
      match j with
      | 0 => cases hp; cases hv; exact .sc _ (by simp [rngB, IntKind.min, IntKind.max, IntKind.bits, IntKind.signed]; omega)
      | 1 => cases hp; cases hv; exact .sc _ (by simp [rngB, IntKind.min, IntKind.max, IntKind.bits, IntKind.signed]; omega)
      | j + 2 => cases hp
    · cases h
  · cases h
theorem ok_bstr {s d e : TypeId} {x : Operand} {x' : AOpd} (ho : o.op = .convert s d x) (hs : P.underlying s = some (.slice e)) (he : P.underlying e = some (.int .u8)) (hd : P.underlying d = some .string) (hx : compOpd x = some x')
    (h : aop σ.ev (look σ.mu) id (.bstr x') = some δ) : o.wp P a w K Q := by
  simp only [aop] at h
  split at h
  · rename_i es ts hsv
    split at h
    · rename_i n ns hns
      simp only [Option.some.injEq] at h; subst h
      obtain ⟨ad, cap, hv, hle, hmx, hnil, hcells⟩ := slView_ok hR.mem (opd_ok hx hR.tm) hsv
      have hes := byteV_eq hns
      obtain ⟨xs, hpw, hc⟩ := hcells 1 (fun q hq => by rw [hes] at hq; obtain ⟨n, _, rfl⟩ := List.mem_map.1 hq; rfl)
      have hlen : (n :: ns).length = es.length := by rw [hes, List.length_map]
      obtain ⟨b, off, rfl, -, -, hcell⟩ := hc (by rw [hes]; simp)
      have hcv := run_convert_bytes_arg w s e hs he b off es.length cap (n :: ns) hlen (fun i hi => by
        have hi2 : i < (n :: ns).length := by omega
        have hxi : i < xs.length := by rw [← hpw.1, hes, byte_flatL, List.length_map]; exact hi2
        have hr := hpw.2 i (.sc (.int .u8 ((n :: ns).getD i 0))) _ (by rw [hes, byte_flatL, List.getElem?_map, List.getElem?_eq_getElem hi2, List.getD_eq_getElem?_getD, List.getElem?_eq_getElem hi2]; rfl) (List.getElem?_eq_getElem hxi)
        refine hcell i _ ?_
        rw [List.getElem?_eq_getElem hxi, hr.sc_inv]) d hd
      refine hR.val (v := .string (strOfNums (n :: ns))) ?_ (.scalar (by simp only [rngB, decide_eq_true_eq, strOfNums_size]; unfold maxLen at hmx; omega)) hK
      unfold execOp; simp only [ho, hv]
      simp [hcv]
    · cases h
  · cases h
end
end
end Go.Proofs.Ythgnbkcopapbmaa
