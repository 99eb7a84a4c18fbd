/-
  What the reader says of an argument, as an abstract value.
-/
import Derived.Test.YthgnbkcopapbmaaKc
import Derived.Test.YthgnbkcopapbmaaKc
import Derived.OpenShut
import Derived.Deep.Slices
import Derived.ProofKit
import Derived.ShutString
import Derived.ChangeOld
import Derived.WideShapes
import Derived.ChangeArms
namespace Go.Proofs.Ythgnbkcopapbmaa
section
open Go.RowKit
open Nat (reduceAdd reduceEqDiff reduceLT reduceLeDiff reduceSub reducePow reduceMul)
open Int (reduceToNat reduceLE reduceEq)
set_option linter.unusedVariables false
set_option linter.unusedSimpArgs false
set_option linter.unnecessarySimpa false


open Go.ChangeShapes Go.WideShapes Go.RowKit
/-- The kinds of cells. -/
inductive Cl where
  | i (k : IntKind)
  | b
  | s
  | sl (row : Bool) (cs : List Cl)
def fieldsCl (lf : TypeId → Option (List Cl)) (P : Program) : List Field → Nat → Option (List Cl)
  | [], _ => some []
  | f :: fs, off =>
    if f.offset = off then
      match lf f.type with
      | some ks => if P.cellsOf f.type = ks.length then
          match fieldsCl lf P fs (off + ks.length) with
          | some r => some (ks ++ r)
          | none => none
        else none
      | none => none
    else none
def rowT : TypeDesc → Bool
  | .struct _ | .array .. => true
  | _ => false
def clOf (P : Program) : Nat → TypeId → Option (List Cl)
  | 0, _ => none
  | d + 1, t => match P.underlying t with
    | some (.int k) => some [.i k]
    | some .bool => some [.b]
    | some .string => some [.s]
    | some (.slice e) => match P.underlying e, clOf P d e with
      | some u, some cs => if P.cellsOf e = cs.length ∧ 0 < cs.length ∧ (rowT u = false → cs.length = 1) then some [.sl (rowT u) cs] else none
      | _, _ => none
    | some (.struct fs) => match fieldsCl (clOf P d) P fs.toList 0 with
      | some r => if P.cellsOf t = r.length then some r else none
      | none => none
    | some (.array n e) => match clOf P d e with
      | some cs => if P.cellsOf e = cs.length ∧ P.cellsOf t = n * cs.length then some (List.replicate n cs).flatten else none
      | none => none
    | _ => none
inductive HasC : Cl → PV → Prop
  | i (k : IntKind) (n : Int) : rngB (.int k n) = true → HasC (.i k) (.sc (.int k n))
  | b (v : Bool) : HasC .b (.sc (.bool v))
  | s (v : ByteArray) : rngB (.string v) = true → HasC .s (.sc (.string v))
  | slR (cs : List Cl) (ess : List (List PV)) : (∀ ps ∈ ess, ps.length = cs.length) → (∀ ps ∈ ess, ∀ (j : Nat) (c : Cl) (p : PV), cs[j]? = some c → ps[j]? = some p → HasC c p) → HasC (.sl true cs) (.sl (ess.map .agg))
  | sl1 (c : Cl) (es : List PV) : (∀ p ∈ es, HasC c p) → HasC (.sl false [c]) (.sl es)
def HasCs (cs : List Cl) (ps : List PV) : Prop := ps.length = cs.length ∧ ∀ (j : Nat) (c : Cl) (p : PV), cs[j]? = some c → ps[j]? = some p → HasC c p
def HasV (row : Bool) (cs : List Cl) (p : PV) : Prop := if row then ∃ ps, p = .agg ps ∧ HasCs cs ps else HasCs cs [p]
theorem HasC.flat {c : Cl} {p : PV} (h : HasC c p) : p.flat = [p] := by cases h <;> rfl
theorem HasCs.nil {ps : List PV} : HasCs [] ps ↔ ps = [] := by
  constructor
  · intro h; exact List.eq_nil_of_length_eq_zero h.1
  · rintro rfl; exact ⟨rfl, fun j c p hc => by simp at hc⟩
theorem HasCs.cons {c : Cl} {cs : List Cl} {ps : List PV} : HasCs (c :: cs) ps ↔ ∃ p ps', ps = p :: ps' ∧ HasC c p ∧ HasCs cs ps' := by
  constructor
  · rintro ⟨h1, h2⟩
    match ps, h1 with
    | p :: ps', h1 => exact ⟨p, ps', rfl, h2 0 c p rfl rfl, by simpa using h1, fun j c p hc hp => h2 (j + 1) c p (by simpa using hc) (by simpa using hp)⟩
  · rintro ⟨p, ps', rfl, h1, h2, h3⟩
    refine ⟨by simp [h2], fun j c p hc hp => ?_⟩
    cases j with
    | zero => simp at hc hp; subst hc; subst hp; exact h1
    | succ j => exact h3 j c p (by simpa using hc) (by simpa using hp)
theorem HasCs.append {cs ds : List Cl} {ps qs : List PV} (h1 : HasCs cs ps) (h2 : HasCs ds qs) : HasCs (cs ++ ds) (ps ++ qs) := by
  refine ⟨by simp [h1.1, h2.1], fun j c p hc hp => ?_⟩
  by_cases h : j < cs.length
  · rw [List.getElem?_append_left h] at hc
    rw [List.getElem?_append_left (by rw [h1.1]; exact h)] at hp
    exact h1.2 j c p hc hp
  · rw [List.getElem?_append_right (by omega)] at hc
    rw [List.getElem?_append_right (by rw [h1.1]; omega), h1.1] at hp
    exact h2.2 _ c p hc hp
section
variable {H : Type} {enc : TypeId × Value → H} {P : Program} {w : World} {sp : Nat → Bool} {held : Bool}
def Opens (w : World) (cs : List Cl) (vs : List Value) : Prop := vs.length = cs.length ∧ ∃ ps, HasCs cs ps ∧ Pw (RepI (fun _ => False) w) ps vs
theorem Opens.append {cs ds : List Cl} {us vs : List Value} (h1 : Opens w cs us) (h2 : Opens w ds vs) : Opens w (cs ++ ds) (us ++ vs) := by
  obtain ⟨a1, ps, a2, a3⟩ := h1
  obtain ⟨b1, qs, b2, b3⟩ := h2
  exact ⟨by simp [a1, b1], ps ++ qs, a2.append b2, a3.append b3⟩
theorem fields_open {lf : TypeId → Option (List Cl)} {n : Nat} (ih : ∀ t cs vs x, lf t = some cs → DataW.trod enc P w 0 sp held n t vs = some x → Opens w cs vs) : ∀ (fs : List Field) (off : Nat) (r : List Cl) (vs : List Value), fieldsCl lf P fs off = some r → vs.length = off + r.length →
    (∀ (i : Nat) (f : Field), fs[i]? = some f → ∃ x, DataW.trod enc P w 0 sp held n f.type ((vs.drop f.offset).take (P.cellsOf f.type)) = some x) → Opens w r (vs.drop off)
  | [], off, r, vs, h, hl, _ => by
    simp only [fieldsCl, Option.some.injEq] at h; subst h
    simp at hl
    rw [List.drop_eq_nil_of_le (by omega)]
    exact ⟨rfl, [], HasCs.nil.2 rfl, pw_nil.2 rfl⟩
  | f :: fs, off, r, vs, h, hl, hf => by
    unfold fieldsCl at h
    split at h
    · rename_i ho
      split at h
      · rename_i ks hks
        split at h
        · rename_i hc
          split at h
          · rename_i r' hr'
            cases h
            obtain ⟨x, hx⟩ := hf 0 f rfl
            have h1 := ih _ _ _ _ hks hx
            rw [ho, hc] at h1
            have h2 := fields_open ih fs (off + ks.length) r' vs hr' (by simp at hl; omega) (fun i g hg => hf (i + 1) g (by simpa using hg))
            have := h1.append h2
            rw [← List.drop_drop, List.take_append_drop] at this
            exact this
          · cases h
        · cases h
      · cases h
    · cases h
theorem arr_open {cs : List Cl} : ∀ (n : Nat) (vs : List Value), vs.length = n * cs.length → (∀ i, i < n → Opens w cs ((vs.drop (i * cs.length)).take cs.length)) → Opens w (List.replicate n cs).flatten vs
  | 0, vs, h, _ => by
    have : vs = [] := List.eq_nil_of_length_eq_zero (by simpa using h)
    subst this
    exact ⟨rfl, [], HasCs.nil.2 rfl, pw_nil.2 rfl⟩
  | n + 1, vs, h, hi => by
    have h0 := hi 0 (by omega)
    simp only [Nat.zero_mul, List.drop_zero] at h0
    have h1 := arr_open n (vs.drop cs.length) (by rw [List.length_drop, h, Nat.succ_mul, Nat.add_sub_cancel]) (fun i hlt => by
      have := hi (i + 1) (by omega)
      rw [List.drop_drop]
      rw [show cs.length + i * cs.length = (i + 1) * cs.length by rw [Nat.add_mul]; omega]
      exact this)
    have := h0.append h1
    rw [List.take_append_drop] at this
    simpa [List.replicate_succ] using this
theorem trod_open : ∀ (d : Nat) (t : TypeId) (cs : List Cl) (vs : List Value) (fuel : Nat) (x : DataW H × List MemPlace), clOf P d t = some cs → DataW.trod enc P w 0 sp held fuel t vs = some x → Opens w cs vs
  | 0, _, _, _, _, _, h, _ => by simp [clOf] at h
  | d + 1, t, cs, vs, fuel, x, h, ht => by
    unfold clOf at h
    split at h
    · rename_i k hu
      cases h
      obtain ⟨n, rfl, _, hw⟩ := DataW.trod_int hu ht
      have hr : rngB (.int k n) = true := by simpa [rngB, Lit.wf] using hw
      exact ⟨rfl, [.sc (.int k n)], HasCs.cons.2 ⟨_, _, rfl, .i k n hr, HasCs.nil.2 rfl⟩, pw_cons.2 ⟨_, _, rfl, .sc _ hr, pw_nil.2 rfl⟩⟩
    · rename_i hu
      cases h
      obtain ⟨b, rfl, _⟩ := DataW.trod_bool hu ht
      exact ⟨rfl, [.sc (.bool b)], HasCs.cons.2 ⟨_, _, rfl, .b b, HasCs.nil.2 rfl⟩, pw_cons.2 ⟨_, _, rfl, .sc _ rfl, pw_nil.2 rfl⟩⟩
    · rename_i hu
      cases h
      obtain ⟨s, rfl, _, hw⟩ := DataW.trod_string hu ht
      have hr : rngB (.string s) = true := by simp only [rngB, decide_eq_true_eq]; unfold maxLen at hw; omega
      exact ⟨rfl, [.sc (.string s)], HasCs.cons.2 ⟨_, _, rfl, .s s hr, HasCs.nil.2 rfl⟩, pw_cons.2 ⟨_, _, rfl, .sc _ hr, pw_nil.2 rfl⟩⟩
    · rename_i e hu
      split at h
      · rename_i u cs0 hue hcs
        split at h
        · rename_i hc
          obtain ⟨hc1, hc2, hc3⟩ := hc
          cases h
          have one : ∀ (p : PV) (v : Value), HasC (.sl (rowT u) cs0) p → RepI (fun _ => False) w p v → Opens w [.sl (rowT u) cs0] [v] := fun p v h1 h2 =>
            ⟨rfl, [p], HasCs.cons.2 ⟨_, _, rfl, h1, HasCs.nil.2 rfl⟩, pw_cons.2 ⟨_, _, rfl, h2, pw_nil.2 rfl⟩⟩
          have emp : HasC (.sl (rowT u) cs0) (.sl []) := by
            cases hr : rowT u with
            | true => exact .slR cs0 [] nofun nofun
            | false =>
              have := hc3 hr
              match cs0, this with
              | [c], _ => exact .sl1 c [] nofun
          rcases Go.Deep.open_slice hu ht with ⟨rfl, _⟩ | ⟨a, len, cap, m, n, D, Pl, rfl, _, hl, hm, hmm, _, hi⟩
          · exact one _ _ emp (.slE none 0 (Nat.zero_le _) (fun _ => rfl))
          · have hle : len ≤ m := by rw [hmm]; split <;> omega
            by_cases h0 : len = 0
            · subst h0
              exact one _ _ emp (.slE (some a) cap hm nofun)
            · have key : ∀ i, i < len → ∃ q : List Value × List PV, w.cells? 0 (a.add (i * P.cellsOf e)) (P.cellsOf e) = some q.1 ∧ q.1.length = cs0.length ∧ HasCs cs0 q.2 ∧ Pw (RepI (fun _ => False) w) q.2 q.1 := by
                intro i hlt
                obtain ⟨cs', h1, h2⟩ := hi i (by omega)
                obtain ⟨g1, ps, g2, g3⟩ := trod_open d e cs0 cs' n _ hcs h2
                exact ⟨(cs', ps), h1, g1, g2, g3⟩
              obtain ⟨F, hF⟩ := Go.Deep.choose_lt key
              obtain ⟨b, o, s⟩ := a
              have hcell : ∀ i, i < len → ∀ (j : Nat) (v : Value), (F i).1[j]? = some v → w.cell? (((⟨b, o, s⟩ : Addr).add (i * P.cellsOf e)).add j) = some v := by
                intro i hlt j v hv
                obtain ⟨h1, h2, _⟩ := hF i hlt
                obtain ⟨_, g2, g3⟩ := World.cells?_some h1
                rw [g3 j (by have := (List.getElem?_eq_some_iff.1 hv).1; omega)]; exact hv
              have hne : ∃ v, (F 0).1[0]? = some v := by
                obtain ⟨_, h2, _⟩ := hF 0 (by omega)
                exact ⟨_, List.getElem?_eq_getElem (by omega)⟩
              obtain ⟨v0, hv0⟩ := hne
              have hc0 := hcell 0 (by omega) 0 v0 hv0
              have hspot : s = none := by simpa [Addr.add] using World.cell?_spot hc0
              subst hspot
              have hb : b < w.heap.size := by have := block_lt_of_cell hc0; simpa [Addr.add] using this
              have hcl : ∀ i, i < len → ∀ (j : Nat) (v : Value), (F i).1[j]? = some v → w.cell? ⟨b, o + i * cs0.length + j, none⟩ = some v := by
                intro i hlt j v hv
                have := hcell i hlt j v hv
                rw [addr_add, addr_add, hc1] at this
                exact this
              have fin : ∀ (E : Nat → PV), (∀ i, i < len → (E i).flat = (F i).2) → HasC (.sl (rowT u) cs0) (.sl ((List.range len).map E)) → Opens w [.sl (rowT u) cs0] [.slice (some ⟨b, o, none⟩) len cap] := by
                intro E hE hH
                refine one _ _ hH ?_
                have hlen : ((List.range len).map E).length = len := by simp
                have hget : ∀ (i : Nat) (e : PV), ((List.range len).map E)[i]? = some e → i < len ∧ e = E i := by
                  intro i e he
                  have hlt : i < len := by have := (List.getElem?_eq_some_iff.1 he).1; rw [hlen] at this; exact this
                  rw [List.getElem?_map, List.getElem?_range hlt] at he
                  simp at he; exact ⟨hlt, he.symm⟩
                have := RepI.sl (M := fun _ => False) (w := w) ((List.range len).map E) b o cap cs0.length (fun i j => (F i).1.getD j undef) (by intro e; have := congrArg List.length e; rw [hlen] at this; exact h0 (by simpa using this)) (by rw [hlen]; exact hl) hm hb (fun h => h)
                  (fun e he => by
                    obtain ⟨i, hi, rfl⟩ := List.mem_map.1 he
                    have hlt := List.mem_range.1 hi
                    rw [hE i hlt]; exact (hF i hlt).2.2.1.1)
                  (fun i e j p he hp => by
                    obtain ⟨hlt, rfl⟩ := hget i e he
                    rw [hE i hlt] at hp
                    have hw := (hF i hlt).2.2.2
                    have hj : j < (F i).1.length := by rw [← hw.1]; exact (List.getElem?_eq_some_iff.1 hp).1
                    simp only [List.getD_eq_getElem?_getD, List.getElem?_eq_getElem hj, Option.getD_some]
                    exact hw.2 j p _ hp (List.getElem?_eq_getElem hj))
                  (fun i e j p he hp => by
                    obtain ⟨hlt, rfl⟩ := hget i e he
                    rw [hE i hlt] at hp
                    have hw := (hF i hlt).2.2.2
                    have hj : j < (F i).1.length := by rw [← hw.1]; exact (List.getElem?_eq_some_iff.1 hp).1
                    simp only [List.getD_eq_getElem?_getD, List.getElem?_eq_getElem hj, Option.getD_some]
                    exact hcl i hlt j _ (List.getElem?_eq_getElem hj))
                rw [hlen] at this
                exact this
              cases hr : rowT u with
              | true =>
                have := fin (fun i => .agg (F i).2) (fun i _ => rfl) (by
                  rw [hr]
                  have := HasC.slR cs0 ((List.range len).map fun i => (F i).2) (fun ps hp => by
                    obtain ⟨i, hi, rfl⟩ := List.mem_map.1 hp
                    exact (hF i (List.mem_range.1 hi)).2.2.1.1) (fun ps hp => by
                    obtain ⟨i, hi, rfl⟩ := List.mem_map.1 hp
                    exact (hF i (List.mem_range.1 hi)).2.2.1.2)
                  rw [List.map_map] at this
                  exact this)
                rw [hr] at this; exact this
              | false =>
                have h1 := hc3 hr
                match cs0, h1 with
                | [c], _ =>
                  have hd : ∀ i, i < len → ∃ p, (F i).2 = [p] ∧ HasC c p := by
                    intro i hlt
                    obtain ⟨p, ps', e, g1, g2⟩ := HasCs.cons.1 (hF i hlt).2.2.1
                    rw [HasCs.nil] at g2; subst g2
                    exact ⟨p, e, g1⟩
                  have := fin (fun i => ((F i).2).headD .dead) (fun i hlt => by
                    obtain ⟨p, e, g1⟩ := hd i hlt
                    simp only [e, List.headD_cons]; exact g1.flat) (by
                    rw [hr]
                    refine .sl1 c _ (fun p hp => ?_)
                    obtain ⟨i, hi, rfl⟩ := List.mem_map.1 hp
                    obtain ⟨p, e, g1⟩ := hd i (List.mem_range.1 hi)
                    simp only [e, List.headD_cons]; exact g1)
                  rw [hr] at this; exact this
        · cases h
      · cases h
    · rename_i fs hu
      split at h
      · rename_i r hr
        split at h
        · rename_i hc
          cases h
          obtain ⟨xs, n, rfl, _, hl, hlen, hf⟩ := DataW.trod_struct hu ht
          have := fields_open (enc := enc) (sp := sp) (held := held) (n := n) (fun t cs vs x h1 h2 => trod_open d t cs vs n x h1 h2) fs.toList 0 cs vs hr (by rw [hl, hc]; omega) (fun i f hi => by
            have h1 : fs[i]? = some f := by simpa using hi
            have := hf i f h1
            have hlt : i < xs.length := by rw [hlen]; exact (Array.getElem?_eq_some_iff.1 h1).1
            rw [List.getElem?_eq_getElem hlt] at this
            exact ⟨_, this⟩)
          simpa using this
        · cases h
      · cases h
    · rename_i n e hu
      split at h
      · rename_i cs0 hcs
        split at h
        · rename_i hc
          cases h
          obtain ⟨xs, m, rfl, _, hl, hlen, hf⟩ := DataW.trod_array hu ht
          refine arr_open n vs (by rw [hl, hc.2]) (fun i hlt => ?_)
          have := hf i hlt
          rw [List.getElem?_eq_getElem (by omega), hc.1] at this
          exact trod_open d e cs0 _ m _ hcs this
        · cases h
      · cases h
    · cases h
end
/-- An argument, opened. -/
theorem arg_open {H : Type} {enc : TypeId × Value → H} {P : Program} {w : World} {sp : Nat → Bool} {held : Bool} {t : TypeId} {row : Bool} {cs : List Cl} {v : Value} {d : DataW H} {ps : List MemPlace} (h : clOf P 20 t = some cs) (hrow : (P.underlying t).map rowT = some row) (hok : Value.okWide P w .any 0 t v) (ht : DataW.Trod enc P w 0 sp held t v d ps) :
    ∃ p, HasV row cs p ∧ RepI (fun _ => False) w p v := by
  obtain ⟨fuel, hf⟩ := ht
  obtain ⟨hl, qs, h1, h2⟩ := trod_open 20 t cs _ fuel _ h hf
  cases hu : P.underlying t with
  | none => rw [hu] at hrow; cases hrow
  | some u =>
    rw [hu] at hrow
    simp only [Option.map_some, Option.some.injEq] at hrow
    cases row with
    | true =>
      have hv : ∃ xs, v = .agg xs := by
        unfold Value.okWide at hok
        rw [hu] at hok
        cases u <;> simp only [rowT, Bool.false_eq_true] at hrow <;> (obtain ⟨xs, e, _⟩ := hok; exact ⟨xs, e⟩)
      obtain ⟨xs, rfl⟩ := hv
      refine ⟨.agg qs, ⟨qs, rfl, h1⟩, agg_pw.2 ⟨xs.toList, by simp, ?_⟩⟩
      simpa [Value.cells] using h2
    | false =>
      have hv : v.cells.toList = [v] := by
        have h' := h
        unfold clOf at h'
        rw [hu] at h'
        cases u <;> simp only [reduceCtorEq] at h' <;> simp only [rowT, Bool.true_eq_false] at hrow
        · obtain ⟨b, rfl⟩ := okWide_bool hu hok; rfl
        · obtain ⟨b, rfl⟩ := okWide_int hu hok; rfl
        · obtain ⟨b, rfl⟩ := okWide_string hu hok; rfl
        · obtain ⟨a, len, cap, rfl⟩ := okWide_slice hu hok; rfl
      rw [hv] at h2
      match qs, h2 with
      | [p], h2 =>
        obtain ⟨_, _, e, g1, _⟩ := pw_cons.1 h2
        cases e
        exact ⟨p, h1, g1⟩
      | [], h2 => have := h2.1; simp at this
      | _ :: _ :: _, h2 => have := h2.1; simp at this
theorem HasC.sl_inv {α : Type} {cs : List Cl} {pv : α → PV} (hof : ∀ ps, HasCs cs ps → ∃ x, PV.agg ps = pv x) {p : PV} (h : HasC (.sl true cs) p) : ∃ l : List α, p = .sl (l.map pv) := by
  cases h with
  | slR _ ess h1 h2 =>
    induction ess with
    | nil => exact ⟨[], rfl⟩
    | cons e es ih =>
      obtain ⟨l, hl⟩ := ih (fun p hp => h1 p (by simp [hp])) (fun p hp => h2 p (by simp [hp]))
      obtain ⟨x, hx⟩ := hof e ⟨h1 e (by simp), h2 e (by simp)⟩
      have hl := PV.sl.inj hl
      exact ⟨x :: l, by rw [List.map_cons, List.map_cons, hl, hx]⟩
theorem HasC.sl1_inv {α : Type} {c : Cl} {pv : α → PV} (hof : ∀ p, HasC c p → ∃ x, p = pv x) {p : PV} (h : HasC (.sl false [c]) p) : ∃ l : List α, p = .sl (l.map pv) := by
  cases h with
  | sl1 _ es h1 =>
    induction es with
    | nil => exact ⟨[], rfl⟩
    | cons e es ih =>
      obtain ⟨l, hl⟩ := ih (fun p hp => h1 p (by simp [hp]))
      obtain ⟨x, rfl⟩ := hof e (h1 e (by simp))
      have hl := PV.sl.inj hl
      exact ⟨x :: l, by rw [List.map_cons, ← hl]⟩
theorem HasC.int_inv {k : IntKind} {p : PV} (h : HasC (.i k) p) : ∃ n : Int, p = .sc (.int k n) := by
  cases h with
  | i _ n => exact ⟨n, rfl⟩
theorem HasC.bool_inv {p : PV} (h : HasC .b p) : ∃ b : Bool, p = .sc (.bool b) := by
  cases h with
  | b n => exact ⟨n, rfl⟩
theorem HasC.str_inv {p : PV} (h : HasC .s p) : ∃ s : ByteArray, p = .sc (.string s) := by
  cases h with
  | s n => exact ⟨n, rfl⟩
theorem HasV.one {c : Cl} {p : PV} (h : HasV false [c] p) : HasC c p := h.2 0 c p rfl rfl
theorem HasV.row {cs : List Cl} {p : PV} (h : HasV true cs p) : ∃ ps, p = .agg ps ∧ HasCs cs ps := h
end

section
open Go.RowKit
open Nat (reduceAdd reduceEqDiff reduceLT reduceLeDiff reduceSub reducePow reduceMul)
open Int (reduceToNat reduceLE reduceEq)
set_option linter.unusedVariables false
set_option linter.unusedSimpArgs false
set_option linter.unnecessarySimpa false


theorem AW : type_of% (And.intro (And.intro (And.intro (And.intro (And.intro (And.intro (And.intro (And.intro @initT.eq_1 @initT.eq_2) (And.intro @Nat.zero_add @Nat.add_zero)) (And.intro (And.intro @run_seq @run_skip) (And.intro @run_block @run_blk))) (And.intro (And.intro (And.intro @run_exit @run_ret) (And.intro @runX_nil @runX_code)) (And.intro (And.intro @runX_codeR @runX_lend) (And.intro @runX_lendR (And.intro @runX_blk @runX_blkR))))) (And.intro (And.intro (And.intro (And.intro @runX_codeD @runX_lendD) (And.intro @runX_blkD @endE.eq_1)) (And.intro (And.intro @endE.eq_2 @endE.eq_3) (And.intro @run_cond (And.intro @condK_true @condK_false)))) (And.intro (And.intro (And.intro @run_reg @ops_step) (And.intro @ops_slice @optK_none)) (And.intro (And.intro @aopw.eq_1 @aopw.eq_2) (And.intro @or_false (And.intro @true_or @dstV.eq_1)))))) (And.intro (And.intro (And.intro (And.intro (And.intro @dstV.eq_2 @dstV.eq_3) (And.intro @srcV.eq_1 @srcV.eq_2)) (And.intro (And.intro @ops_nil @ops_guard) (And.intro @guardK_yes @guardK_tf))) (And.intro (And.intro (And.intro @guardK_ft @guardK_undef) (And.intro @Bool.true_bne @Bool.false_bne)) (And.intro (And.intro @Bool.true_beq @Bool.false_beq) (And.intro @ne_eq.{0} (And.intro @ne_eq.{1} @not_false_eq_true))))) (And.intro (And.intro (And.intro (And.intro @scsP.eq_1 @scsP.eq_2) (And.intro @scsP.eq_3 @fitsL.eq_1)) (And.intro (And.intro @fitsL.eq_2 @fitsL.eq_3) (And.intro @Lf.fits.eq_1 (And.intro @Lf.fits.eq_2 @Lf.fits.eq_3)))) (And.intro (And.intro (And.intro @Lf.fits.eq_4 @eqV.eq_1) (And.intro @eqV.eq_2 @eqC.eq_1)) (And.intro (And.intro @eqC.eq_2 @eqC.eq_3) (And.intro @eqC.eq_4 (And.intro @implies_true.{0} @implies_true.{1}))))))) (And.intro (And.intro (And.intro (And.intro (And.intro (And.intro @aop.eq_1 @aop.eq_2) (And.intro @aop.eq_3 @aop.eq_4)) (And.intro (And.intro @aop.eq_5 @aop.eq_6) (And.intro @aop.eq_7 @aop.eq_8))) (And.intro (And.intro (And.intro @aop.eq_9 @aop.eq_10) (And.intro @aop.eq_11 @aop.eq_12)) (And.intro (And.intro @aop.eq_13 @aop.eq_14) (And.intro @aop.eq_15 (And.intro @aop.eq_16 @aop.eq_17))))) (And.intro (And.intro (And.intro (And.intro @aop.eq_18 @aop.eq_19) (And.intro @aop.eq_20 @aop.eq_21)) (And.intro (And.intro @aop.eq_22 @aop.eq_23) (And.intro @aop.eq_24 (And.intro @aop.eq_25 @aop.eq_26)))) (And.intro (And.intro (And.intro @aop.eq_27 @aop.eq_28) (And.intro @aop.eq_29 @aop.eq_30)) (And.intro (And.intro @aop.eq_31 @aop.eq_32) (And.intro @aop.eq_33 (And.intro @aop.eq_34 @aop.eq_35)))))) (And.intro (And.intro (And.intro (And.intro (And.intro @aop.eq_36 @aop.eq_37) (And.intro @aop.eq_38 @aop.eq_39)) (And.intro (And.intro @keyV.eq_1 @keyV.eq_2) (And.intro @keyV.eq_3 (And.intro @isIntB.eq_1 @isIntB.eq_2)))) (And.intro (And.intro (And.intro @St.ev.eq_1 @St.ev.eq_2) (And.intro @getT.eq_1 @getT.eq_2)) (And.intro (And.intro @Nat.one_ne_zero @if_true.{0}) (And.intro @if_true.{1} (And.intro @if_false.{0} @if_false.{1}))))) (And.intro (And.intro (And.intro (And.intro @boxCells.eq_1 @boxCells.eq_2) (And.intro @PV.cellOk.eq_1 @PV.cellOk.eq_2)) (And.intro (And.intro @PV.cellOk.eq_3 @PV.cellOk.eq_4) (And.intro @PV.cellOk.eq_5 (And.intro @Go.Value.oneCell'.eq_1 @Go.Value.oneCell'.eq_2)))) (And.intro (And.intro (And.intro @Go.Value.oneCell'.eq_3 @stepK_some) (And.intro @St.app.eq_1 @St.put.eq_1)) (And.intro (And.intro @St.put.eq_2 @addD.eq_1) (And.intro @addD.eq_2 (And.intro @skipD.eq_1 @List.foldl_cons.{0, 0})))))))) (And.intro (And.intro (And.intro (And.intro (And.intro (And.intro (And.intro @List.foldl_nil.{0, 0} @setB.eq_1) (And.intro @setB.eq_2 @look.eq_1)) (And.intro (And.intro @look.eq_2 @List.length_cons.{0}) (And.intro @List.length_nil.{0} @List.getD_cons_zero.{0}))) (And.intro (And.intro (And.intro @List.getD_cons_succ.{0} @List.take_succ_cons.{0}) (And.intro @List.take_zero.{0} @List.take_nil.{0})) (And.intro (And.intro @List.drop_succ_cons.{0} @List.drop_zero.{0}) (And.intro @List.drop_nil.{0} (And.intro @binV.eq_1 @binV.eq_2))))) (And.intro (And.intro (And.intro (And.intro @binV.eq_3 @binV.eq_4) (And.intro @binV.eq_5 @binV.eq_6)) (And.intro (And.intro @binV.eq_7 @binV.eq_8) (And.intro @binV.eq_9 (And.intro @binV.eq_10 @binV.eq_11)))) (And.intro (And.intro (And.intro @binV.eq_12 @binV.eq_13) (And.intro @binV.eq_14 @binV.eq_15)) (And.intro (And.intro @binV.eq_16 @binV.eq_17) (And.intro @binV.eq_18 (And.intro @binV.eq_19 @binV.eq_20)))))) (And.intro (And.intro (And.intro (And.intro (And.intro @binV.eq_21 @binV.eq_22) (And.intro @binV.eq_23 @unV.eq_1)) (And.intro (And.intro @unV.eq_2 @unV.eq_3) (And.intro @unV.eq_4 @unV.eq_5))) (And.intro (And.intro (And.intro @nxS.eq_1 @drOk.eq_1) (And.intro @drOk.eq_2 @true_and)) (And.intro (And.intro @and_true @callDelta.eq_1) (And.intro @flatR.eq_1 (And.intro @flatR.eq_2 @flatR.eq_3))))) (And.intro (And.intro (And.intro (And.intro @flatR.eq_4 @PV.isSc.eq_1) (And.intro @PV.isSc.eq_2 @List.all_cons.{0})) (And.intro (And.intro @List.all_nil.{0} @Bool.and_self) (And.intro @Bool.true_and (And.intro @Bool.and_true @Bool.and_false)))) (And.intro (And.intro (And.intro @Bool.false_and @List.map_cons.{0, 0}) (And.intro @List.map_nil.{0, 0} @List.flatMap_cons.{0, 0})) (And.intro (And.intro @List.flatMap_nil.{0, 0} @List.append_nil.{0}) (And.intro @List.nil_append.{0} (And.intro @List.cons_append.{0} @frzAll.eq_1))))))) (And.intro (And.intro (And.intro (And.intro (And.intro (And.intro @frzAll.eq_2 @frzUpd.eq_1) (And.intro @frzUpd.eq_2 @ownIds.eq_1)) (And.intro (And.intro @ownIds.eq_2 @ownId.eq_1) (And.intro @ownId.eq_2 @resP.eq_1))) (And.intro (And.intro (And.intro @resP.eq_2 @resC.eq_1) (And.intro @resC.eq_2 @resC.eq_3)) (And.intro (And.intro @resC.eq_4 @resC.eq_5) (And.intro @resC.eq_6 (And.intro @resC.eq_7 @resC.eq_8))))) (And.intro (And.intro (And.intro (And.intro @resC.eq_9 @resC.eq_10) (And.intro @List.mapM_cons.{0, 0, 0} @List.mapM_nil.{0, 0, 0})) (And.intro (And.intro @Option.bind_eq_bind.{0} @Option.bind_some.{0, 0}) (And.intro @Option.pure_def.{0} (And.intro @Option.map_some.{0, 0} @setAt.eq_1)))) (And.intro (And.intro (And.intro @setAt.eq_2 @List.set_cons_zero.{0}) (And.intro @List.set_cons_succ.{0} @fillP.eq_1)) (And.intro (And.intro @fillP.eq_2 @PV.flat.eq_1) (And.intro @PV.flat.eq_2 (And.intro @slView.eq_1 @slView.eq_2)))))) (And.intro (And.intro (And.intro (And.intro (And.intro @slView.eq_3 @slView.eq_4) (And.intro @bound.eq_1 @bound.eq_2)) (And.intro (And.intro @Option.isNone_none.{0} @Option.isSome_some.{0}) (And.intro @Option.isSome_none.{0} (And.intro @List.getElem?_cons_zero.{0} @List.getElem?_cons_succ.{0})))) (And.intro (And.intro (And.intro @Bool.not_true @Bool.not_false) (And.intro @endQ.eq_1 @endQ.eq_2)) (And.intro (And.intro @endQ.eq_3 @resV.eq_1) (And.intro @resT.eq_1 (And.intro @resT.eq_2 @res1.eq_1))))) (And.intro (And.intro (And.intro (And.intro @res1.eq_2 @Bool.false_eq_true) (And.intro @Option.some.injEq.{0} @List.length_map.{0, 0})) (And.intro (And.intro @and_self @bne_self_eq_false.{0}) (And.intro @beq_self_eq_true.{0} (And.intro @decide_true @decide_false)))) (And.intro (And.intro (And.intro @List.isEmpty_nil.{0} @Nat.le_refl) (And.intro @Nat.lt_add_one @Int.toNat_natCast)) (And.intro (And.intro @Int.natCast_nonneg @Int.toNat_zero) (And.intro @Int.le_refl (And.intro @gt_iff_lt.{0} @ge_iff_le.{0}))))))))) :=
 (And.intro (And.intro (And.intro (And.intro (And.intro (And.intro (And.intro (And.intro @initT.eq_1 @initT.eq_2) (And.intro @Nat.zero_add @Nat.add_zero)) (And.intro (And.intro @run_seq @run_skip) (And.intro @run_block @run_blk))) (And.intro (And.intro (And.intro @run_exit @run_ret) (And.intro @runX_nil @runX_code)) (And.intro (And.intro @runX_codeR @runX_lend) (And.intro @runX_lendR (And.intro @runX_blk @runX_blkR))))) (And.intro (And.intro (And.intro (And.intro @runX_codeD @runX_lendD) (And.intro @runX_blkD @endE.eq_1)) (And.intro (And.intro @endE.eq_2 @endE.eq_3) (And.intro @run_cond (And.intro @condK_true @condK_false)))) (And.intro (And.intro (And.intro @run_reg @ops_step) (And.intro @ops_slice @optK_none)) (And.intro (And.intro @aopw.eq_1 @aopw.eq_2) (And.intro @or_false (And.intro @true_or @dstV.eq_1)))))) (And.intro (And.intro (And.intro (And.intro (And.intro @dstV.eq_2 @dstV.eq_3) (And.intro @srcV.eq_1 @srcV.eq_2)) (And.intro (And.intro @ops_nil @ops_guard) (And.intro @guardK_yes @guardK_tf))) (And.intro (And.intro (And.intro @guardK_ft @guardK_undef) (And.intro @Bool.true_bne @Bool.false_bne)) (And.intro (And.intro @Bool.true_beq @Bool.false_beq) (And.intro @ne_eq.{0} (And.intro @ne_eq.{1} @not_false_eq_true))))) (And.intro (And.intro (And.intro (And.intro @scsP.eq_1 @scsP.eq_2) (And.intro @scsP.eq_3 @fitsL.eq_1)) (And.intro (And.intro @fitsL.eq_2 @fitsL.eq_3) (And.intro @Lf.fits.eq_1 (And.intro @Lf.fits.eq_2 @Lf.fits.eq_3)))) (And.intro (And.intro (And.intro @Lf.fits.eq_4 @eqV.eq_1) (And.intro @eqV.eq_2 @eqC.eq_1)) (And.intro (And.intro @eqC.eq_2 @eqC.eq_3) (And.intro @eqC.eq_4 (And.intro @implies_true.{0} @implies_true.{1}))))))) (And.intro (And.intro (And.intro (And.intro (And.intro (And.intro @aop.eq_1 @aop.eq_2) (And.intro @aop.eq_3 @aop.eq_4)) (And.intro (And.intro @aop.eq_5 @aop.eq_6) (And.intro @aop.eq_7 @aop.eq_8))) (And.intro (And.intro (And.intro @aop.eq_9 @aop.eq_10) (And.intro @aop.eq_11 @aop.eq_12)) (And.intro (And.intro @aop.eq_13 @aop.eq_14) (And.intro @aop.eq_15 (And.intro @aop.eq_16 @aop.eq_17))))) (And.intro (And.intro (And.intro (And.intro @aop.eq_18 @aop.eq_19) (And.intro @aop.eq_20 @aop.eq_21)) (And.intro (And.intro @aop.eq_22 @aop.eq_23) (And.intro @aop.eq_24 (And.intro @aop.eq_25 @aop.eq_26)))) (And.intro (And.intro (And.intro @aop.eq_27 @aop.eq_28) (And.intro @aop.eq_29 @aop.eq_30)) (And.intro (And.intro @aop.eq_31 @aop.eq_32) (And.intro @aop.eq_33 (And.intro @aop.eq_34 @aop.eq_35)))))) (And.intro (And.intro (And.intro (And.intro (And.intro @aop.eq_36 @aop.eq_37) (And.intro @aop.eq_38 @aop.eq_39)) (And.intro (And.intro @keyV.eq_1 @keyV.eq_2) (And.intro @keyV.eq_3 (And.intro @isIntB.eq_1 @isIntB.eq_2)))) (And.intro (And.intro (And.intro @St.ev.eq_1 @St.ev.eq_2) (And.intro @getT.eq_1 @getT.eq_2)) (And.intro (And.intro @Nat.one_ne_zero @if_true.{0}) (And.intro @if_true.{1} (And.intro @if_false.{0} @if_false.{1}))))) (And.intro (And.intro (And.intro (And.intro @boxCells.eq_1 @boxCells.eq_2) (And.intro @PV.cellOk.eq_1 @PV.cellOk.eq_2)) (And.intro (And.intro @PV.cellOk.eq_3 @PV.cellOk.eq_4) (And.intro @PV.cellOk.eq_5 (And.intro @Go.Value.oneCell'.eq_1 @Go.Value.oneCell'.eq_2)))) (And.intro (And.intro (And.intro @Go.Value.oneCell'.eq_3 @stepK_some) (And.intro @St.app.eq_1 @St.put.eq_1)) (And.intro (And.intro @St.put.eq_2 @addD.eq_1) (And.intro @addD.eq_2 (And.intro @skipD.eq_1 @List.foldl_cons.{0, 0})))))))) (And.intro (And.intro (And.intro (And.intro (And.intro (And.intro (And.intro @List.foldl_nil.{0, 0} @setB.eq_1) (And.intro @setB.eq_2 @look.eq_1)) (And.intro (And.intro @look.eq_2 @List.length_cons.{0}) (And.intro @List.length_nil.{0} @List.getD_cons_zero.{0}))) (And.intro (And.intro (And.intro @List.getD_cons_succ.{0} @List.take_succ_cons.{0}) (And.intro @List.take_zero.{0} @List.take_nil.{0})) (And.intro (And.intro @List.drop_succ_cons.{0} @List.drop_zero.{0}) (And.intro @List.drop_nil.{0} (And.intro @binV.eq_1 @binV.eq_2))))) (And.intro (And.intro (And.intro (And.intro @binV.eq_3 @binV.eq_4) (And.intro @binV.eq_5 @binV.eq_6)) (And.intro (And.intro @binV.eq_7 @binV.eq_8) (And.intro @binV.eq_9 (And.intro @binV.eq_10 @binV.eq_11)))) (And.intro (And.intro (And.intro @binV.eq_12 @binV.eq_13) (And.intro @binV.eq_14 @binV.eq_15)) (And.intro (And.intro @binV.eq_16 @binV.eq_17) (And.intro @binV.eq_18 (And.intro @binV.eq_19 @binV.eq_20)))))) (And.intro (And.intro (And.intro (And.intro (And.intro @binV.eq_21 @binV.eq_22) (And.intro @binV.eq_23 @unV.eq_1)) (And.intro (And.intro @unV.eq_2 @unV.eq_3) (And.intro @unV.eq_4 @unV.eq_5))) (And.intro (And.intro (And.intro @nxS.eq_1 @drOk.eq_1) (And.intro @drOk.eq_2 @true_and)) (And.intro (And.intro @and_true @callDelta.eq_1) (And.intro @flatR.eq_1 (And.intro @flatR.eq_2 @flatR.eq_3))))) (And.intro (And.intro (And.intro (And.intro @flatR.eq_4 @PV.isSc.eq_1) (And.intro @PV.isSc.eq_2 @List.all_cons.{0})) (And.intro (And.intro @List.all_nil.{0} @Bool.and_self) (And.intro @Bool.true_and (And.intro @Bool.and_true @Bool.and_false)))) (And.intro (And.intro (And.intro @Bool.false_and @List.map_cons.{0, 0}) (And.intro @List.map_nil.{0, 0} @List.flatMap_cons.{0, 0})) (And.intro (And.intro @List.flatMap_nil.{0, 0} @List.append_nil.{0}) (And.intro @List.nil_append.{0} (And.intro @List.cons_append.{0} @frzAll.eq_1))))))) (And.intro (And.intro (And.intro (And.intro (And.intro (And.intro @frzAll.eq_2 @frzUpd.eq_1) (And.intro @frzUpd.eq_2 @ownIds.eq_1)) (And.intro (And.intro @ownIds.eq_2 @ownId.eq_1) (And.intro @ownId.eq_2 @resP.eq_1))) (And.intro (And.intro (And.intro @resP.eq_2 @resC.eq_1) (And.intro @resC.eq_2 @resC.eq_3)) (And.intro (And.intro @resC.eq_4 @resC.eq_5) (And.intro @resC.eq_6 (And.intro @resC.eq_7 @resC.eq_8))))) (And.intro (And.intro (And.intro (And.intro @resC.eq_9 @resC.eq_10) (And.intro @List.mapM_cons.{0, 0, 0} @List.mapM_nil.{0, 0, 0})) (And.intro (And.intro @Option.bind_eq_bind.{0} @Option.bind_some.{0, 0}) (And.intro @Option.pure_def.{0} (And.intro @Option.map_some.{0, 0} @setAt.eq_1)))) (And.intro (And.intro (And.intro @setAt.eq_2 @List.set_cons_zero.{0}) (And.intro @List.set_cons_succ.{0} @fillP.eq_1)) (And.intro (And.intro @fillP.eq_2 @PV.flat.eq_1) (And.intro @PV.flat.eq_2 (And.intro @slView.eq_1 @slView.eq_2)))))) (And.intro (And.intro (And.intro (And.intro (And.intro @slView.eq_3 @slView.eq_4) (And.intro @bound.eq_1 @bound.eq_2)) (And.intro (And.intro @Option.isNone_none.{0} @Option.isSome_some.{0}) (And.intro @Option.isSome_none.{0} (And.intro @List.getElem?_cons_zero.{0} @List.getElem?_cons_succ.{0})))) (And.intro (And.intro (And.intro @Bool.not_true @Bool.not_false) (And.intro @endQ.eq_1 @endQ.eq_2)) (And.intro (And.intro @endQ.eq_3 @resV.eq_1) (And.intro @resT.eq_1 (And.intro @resT.eq_2 @res1.eq_1))))) (And.intro (And.intro (And.intro (And.intro @res1.eq_2 @Bool.false_eq_true) (And.intro @Option.some.injEq.{0} @List.length_map.{0, 0})) (And.intro (And.intro @and_self @bne_self_eq_false.{0}) (And.intro @beq_self_eq_true.{0} (And.intro @decide_true @decide_false)))) (And.intro (And.intro (And.intro @List.isEmpty_nil.{0} @Nat.le_refl) (And.intro @Nat.lt_add_one @Int.toNat_natCast)) (And.intro (And.intro @Int.natCast_nonneg @Int.toNat_zero) (And.intro @Int.le_refl (And.intro @gt_iff_lt.{0} @ge_iff_le.{0})))))))))
theorem LW : type_of% (And.intro (And.intro (And.intro (And.intro @vz.eq_1 (And.intro @enterS.eq_1 @backS.eq_1)) (And.intro @keepT.eq_1 (And.intro @St.row1.eq_1 @St.rowX.eq_1))) (And.intro (And.intro @St.rowF.eq_1 (And.intro @clean.eq_1 @clean.eq_2)) (And.intro @clean1.eq_1 (And.intro @clean1.eq_2 @clean1.eq_3)))) (And.intro (And.intro (And.intro @clean1.eq_4 (And.intro @clean1.eq_5 @clean1.eq_6)) (And.intro @clean1.eq_7 (And.intro @clean1.eq_8 @cleanB.eq_1))) (And.intro (And.intro @cleanB.eq_2 (And.intro @cleanB.eq_3 @cleanB.eq_4)) (And.intro @List.filter_cons.{0} (And.intro @List.filter_nil.{0} @decide_eq_true_eq))))) :=
 (And.intro (And.intro (And.intro (And.intro @vz.eq_1 (And.intro @enterS.eq_1 @backS.eq_1)) (And.intro @keepT.eq_1 (And.intro @St.row1.eq_1 @St.rowX.eq_1))) (And.intro (And.intro @St.rowF.eq_1 (And.intro @clean.eq_1 @clean.eq_2)) (And.intro @clean1.eq_1 (And.intro @clean1.eq_2 @clean1.eq_3)))) (And.intro (And.intro (And.intro @clean1.eq_4 (And.intro @clean1.eq_5 @clean1.eq_6)) (And.intro @clean1.eq_7 (And.intro @clean1.eq_8 @cleanB.eq_1))) (And.intro (And.intro @cleanB.eq_2 (And.intro @cleanB.eq_3 @cleanB.eq_4)) (And.intro @List.filter_cons.{0} (And.intro @List.filter_nil.{0} @decide_eq_true_eq)))))
end
end Go.Proofs.Ythgnbkcopapbmaa
