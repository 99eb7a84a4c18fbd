/-
  A ride in memory of its own.
-/
import Derived.Test.YthgnbkcopapbmaaEn
import Derived.Deep.RegionWith
import Derived.WalkLawsBesides
import Derived.WalkSpells
namespace Go.Proofs.Ythgnbkcopapbmaa
open Go.RowKit
open Nat (reduceAdd reduceEqDiff reduceLT reduceLeDiff reduceSub reducePow reduceMul)
open Int (reduceToNat reduceLE reduceEq)
set_option linter.unusedVariables false
set_option linter.unusedSimpArgs false
set_option linter.unnecessarySimpa false

theorem wp_world {P : Program} {c : Code} {Q : Exit → Act → World → Prop} {a : Act} {w : World} (h : ∀ W0, W0 = w → Code.wp P c Q a W0) : Code.wp P c Q a w := h w rfl
def RVv (r : RideS) (l p : Value) : Value := .agg #[.int .i64 r.id, .int .i64 r.rider, .int .i64 r.start.lo, .int .i64 r.start.hi, .int .i64 r.end_.lo, .int .i64 r.end_.hi, .bool r.open_, l, p, .int .i64 r.fromWhere, .int .i64 r.fromPlace, .int .i64 r.where_, .int .i64 r.place]
def rideOk (r : RideS) : Prop := I64 r.id ∧ I64 r.rider ∧ I64 r.start.lo ∧ I64 r.start.hi ∧ I64 r.end_.lo ∧ I64 r.end_.hi ∧ I64 r.fromWhere ∧ I64 r.fromPlace ∧ I64 r.where_ ∧ I64 r.place
theorem ride_vals {M : Nat → Prop} {w : World} {r : RideS} {v : Value} (h : RepI M w r.pv v) : ∃ a1 c1 a2 c2, v = RVv r (.slice a1 r.legs.length c1) (.slice a2 r.pauses.length c2) ∧ SlF w a1 c1 r.legs.length (r.legs.flatMap LegS.vals) ∧ (∀ u ∈ r.legs.flatMap LegS.vals, rngB u = true) ∧ SlF w a2 c2 r.pauses.length (r.pauses.flatMap PauseS.vals) ∧ (∀ u ∈ r.pauses.flatMap PauseS.vals, rngB u = true) ∧ rideOk r := by
  obtain ⟨us, rfl, hu⟩ := agg_pw.1 h
  obtain ⟨x0, us, rfl, r0, hu0⟩ := pw_cons.1 hu
  obtain ⟨x1, us, rfl, r1, hu1⟩ := pw_cons.1 hu0
  obtain ⟨x2, us, rfl, r2, hu2⟩ := pw_cons.1 hu1
  obtain ⟨x3, us, rfl, r3, hu3⟩ := pw_cons.1 hu2
  obtain ⟨x4, us, rfl, r4, hu4⟩ := pw_cons.1 hu3
  obtain ⟨x5, us, rfl, r5, hu5⟩ := pw_cons.1 hu4
  obtain ⟨x6, us, rfl, r6, hu6⟩ := pw_cons.1 hu5
  obtain ⟨x7, us, rfl, r7, hu7⟩ := pw_cons.1 hu6
  obtain ⟨x8, us, rfl, r8, hu8⟩ := pw_cons.1 hu7
  obtain ⟨x9, us, rfl, r9, hu9⟩ := pw_cons.1 hu8
  obtain ⟨x10, us, rfl, r10, hu10⟩ := pw_cons.1 hu9
  obtain ⟨x11, us, rfl, r11, hu11⟩ := pw_cons.1 hu10
  obtain ⟨x12, us, rfl, r12, hu12⟩ := pw_cons.1 hu11
  have e0 := r0.sc_inv; subst e0
  have e1 := r1.sc_inv; subst e1
  have e2 := r2.sc_inv; subst e2
  have e3 := r3.sc_inv; subst e3
  have e4 := r4.sc_inv; subst e4
  have e5 := r5.sc_inv; subst e5
  have e6 := r6.sc_inv; subst e6
  have e9 := r9.sc_inv; subst e9
  have e10 := r10.sc_inv; subst e10
  have e11 := r11.sc_inv; subst e11
  have e12 := r12.sc_inv; subst e12
  obtain rfl := pw_nil.1 hu12
  obtain ⟨a1, c1, rfl, s1, q1⟩ := slF_of (n := 5) (vals := LegS.vals) (pv := LegS.pv) (by decide) (fun _ => rfl) (fun _ => rfl) r7
  obtain ⟨a2, c2, rfl, s2, q2⟩ := slF_of (n := 4) (vals := PauseS.vals) (pv := PauseS.pv) (by decide) (fun _ => rfl) (fun _ => rfl) r8
  exact ⟨a1, c1, a2, c2, rfl, s1, q1, s2, q2, ⟨rng_i64.1 r0.sc_rng, rng_i64.1 r1.sc_rng, rng_i64.1 r2.sc_rng, rng_i64.1 r3.sc_rng, rng_i64.1 r4.sc_rng, rng_i64.1 r5.sc_rng, rng_i64.1 r9.sc_rng, rng_i64.1 r10.sc_rng, rng_i64.1 r11.sc_rng, rng_i64.1 r12.sc_rng⟩⟩
theorem OwnPost.sl {e : TypeId} {size n : Nat} {xs : List Value} {w w' : World} {en : Ending} (h : OwnPost e size n xs w en w') : ∃ a cap, en = .returned (.slice a n cap) ∧ Below w.heap.size w w' ∧ w'.ownsRow w.heap.size e size (.slice a n cap) n xs := by
  obtain ⟨hdr, rfl, hb, _, ho⟩ := h
  rcases ho.2 with ⟨rfl, h0⟩ | ⟨g, cap, cur, rfl, _⟩
  · subst h0; exact ⟨none, 0, rfl, hb, ho⟩
  · exact ⟨some ⟨g, 0, none⟩, cap, rfl, hb, ho⟩
theorem ownsRow_below {w w1 : World} {base : Nat} {e : TypeId} {size : Nat} {v : Value} {n : Nat} {xs : List Value} (h : w.ownsRow base e size v n xs) (hb : Below w.heap.size w w1) : w1.ownsRow base e size v n xs := by
  refine ⟨h.1, ?_⟩
  rcases h.2 with h2 | ⟨g, cap, cur, hv, hg, hh, h3⟩
  · exact .inl h2
  · exact .inr ⟨g, cap, cur, hv, hg, by rw [hb.block g (Array.getElem?_eq_some_iff.1 hh).1]; exact hh, h3⟩
theorem ownsRow_mono {w : World} {base base' : Nat} {e : TypeId} {size : Nat} {v : Value} {n : Nat} {xs : List Value} (h : w.ownsRow base e size v n xs) (hb : base' ≤ base) : w.ownsRow base' e size v n xs := by
  refine ⟨h.1, ?_⟩
  rcases h.2 with h2 | ⟨g, cap, cur, hv, hg, h3⟩
  · exact .inl h2
  · exact .inr ⟨g, cap, cur, hv, Nat.le_trans hb hg, h3⟩
theorem heap_setCell_other (w : World) (a : Addr) (g : Nat) (u : Value) (h : a.block ≠ g) : (w.setCell a u).heap[g]? = w.heap[g]? := by
  simp only [World.setCell, Array.getElem?_modify]
  rw [if_neg h]
theorem ownsRow_setCell {w : World} {base : Nat} {e : TypeId} {size : Nat} {v : Value} {n : Nat} {xs : List Value} (h : w.ownsRow base e size v n xs) (a : Addr) (u : Value) (ha : a.block < base) : (w.setCell a u).ownsRow base e size v n xs := by
  refine ⟨h.1, ?_⟩
  rcases h.2 with h2 | ⟨g, cap, cur, hv, hg, hh, h3⟩
  · exact .inl h2
  · exact .inr ⟨g, cap, cur, hv, hg, by rw [heap_setCell_other w a g u (by omega)]; exact hh, h3⟩
def CopyPost (w : World) (r : RideS) (e : Ending) (w' : World) : Prop :=
  ∃ a1 c1 a2 c2 B2, e = .returned (RVv r (.slice a1 r.legs.length c1) (.slice a2 r.pauses.length c2)) ∧ Below w.heap.size w w' ∧ w.heap.size ≤ B2 ∧ w'.ownsRow w.heap.size 59 5 (.slice a1 r.legs.length c1) r.legs.length (r.legs.flatMap LegS.vals) ∧ (∀ k, (Value.slice a1 r.legs.length c1).ownBlock = some k → k < B2) ∧ w'.ownsRow B2 102 4 (.slice a2 r.pauses.length c2) r.pauses.length (r.pauses.flatMap PauseS.vals)
theorem CopyPost.mk {w w' : World} {r : RideS} {a1 a2 : Option Addr} {c1 c2 : Nat} {B B2 : Nat} (hb : Below w.heap.size w w') (hB : w.heap.size ≤ B) (hB2 : w.heap.size ≤ B2) (h1 : w'.ownsRow B 59 5 (.slice a1 r.legs.length c1) r.legs.length (r.legs.flatMap LegS.vals)) (hlt : ∀ k, (Value.slice a1 r.legs.length c1).ownBlock = some k → k < B2) (h2 : w'.ownsRow B2 102 4 (.slice a2 r.pauses.length c2) r.pauses.length (r.pauses.flatMap PauseS.vals)) :
    CopyPost w r (.returned (RVv r (.slice a1 r.legs.length c1) (.slice a2 r.pauses.length c2))) w' :=
  ⟨a1, c1, a2, c2, B2, rfl, hb, hB2, ownsRow_mono h1 hB, hlt, h2⟩
set_option maxRecDepth 100000 in
set_option maxHeartbeats 8000000 in
theorem own_c (r : RideS) (b1 : Option Addr) (d1 : Nat) (b2 : Option Addr) (d2 : Nat) (w : World) (H1 : SlF w b1 d1 r.legs.length (r.legs.flatMap LegS.vals)) (H2 : SlF w b2 d2 r.pauses.length (r.pauses.flatMap PauseS.vals)) (hlim : r.legs.length ≤ 1000000) (hlimp : r.pauses.length ≤ 1000000) : Calls Try.prog 24 #[RVv r (.slice b1 r.legs.length d1) (.slice b2 r.pauses.length d2)] w (CopyPost w r) := by
  have HL := hide H1; have HP := hide H2
  have f1 : (r.legs.flatMap LegS.vals).length = r.legs.length * 5 := flat_len2 (vals := LegS.vals) (n := 5) (fun _ => rfl) _
  have f2 : (r.pauses.flatMap PauseS.vals).length = r.pauses.length * 4 := flat_len2 (vals := PauseS.vals) (n := 4) (fun _ => rfl) _
  clear H1 H2
  unfold RVv
  go_enter Try.func24, Try.ntmps24
  go_wp2_with fail
  refine wp_world ?_
  intro W0 hW0
  have hW0c0 := fun b o => congrArg (fun x => World.cell? x ⟨b, o, none⟩) hW0
  have hW0f0 := fun b o => congrArg (fun x => World.frozen? x ⟨b, o, none⟩) hW0
  have hW0s0 := congrArg (fun x => x.heap.size) hW0
  try simp only at hW0c0 hW0f0
  try simp at hW0s0
  have HB0 := hide (show Below w.heap.size w W0 by rw [hW0]; repeat (first | with_reducible exact (Below.refl _ _) | with_reducible refine Below.setCell ?_ ?_ _ | with_reducible refine Below.alloc ?_ ?_ _ | with_reducible refine Below.drew ?_ | with_reducible refine below_drewN ?_ _ | omega | (simp <;> omega)))
  clear hW0
  go_region_with ((first | (go_at_call 41; refine (cloneLegS_c b1 d1 r.legs _ ?_ hlim).mono ?_; (exact SlF.below (by repeat (first | with_reducible exact (HB0.out) | with_reducible refine Below.setCell ?_ ?_ _ | with_reducible refine Below.alloc ?_ ?_ _ | with_reducible refine Below.drew ?_ | with_reducible refine below_drewN ?_ _ | omega | (simp <;> omega))) f1 HL.out); (intro e w1 hpost; obtain ⟨a1, c1, rfl, hb1, ho1⟩ := hpost.sl; clear hpost; obtain ⟨hc1, hz1⟩ := bcell hb1; have hs1 := hb1.size; (try simp at hs1); have k17 := hc1 w.heap.size 7 (by first | omega | (simp <;> omega)); have k18 := hc1 w.heap.size 8 (by first | omega | (simp <;> omega)); have hq10 : w.heap.size < w1.heap.size := (by omega); have hq11 : w.heap.size + 1 < w1.heap.size := (by omega); have z17 := hz1 w.heap.size 7 (by first | omega | (simp <;> omega)); have z18 := hz1 w.heap.size 8 (by first | omega | (simp <;> omega)); have HO1 := hide ho1; have HB1 := hide hb1; clear ho1 hb1)) | (go_at_call 42; refine (clonePauseS_c b2 d2 r.pauses _ ?_ hlimp).mono ?_; (exact SlF.below (HB0.out.drew.trans (HB1.out.mono HB0.out.size)) f2 HP.out); (intro e w2 hpost; obtain ⟨a2, c2, rfl, hb2, ho2⟩ := hpost.sl; clear hpost; obtain ⟨hc2, hz2⟩ := bcell hb2; have hs2 := hb2.size; (try simp at hs2); have k27 := hc2 w.heap.size 7 (by first | omega | (simp <;> omega)); have k28 := hc2 w.heap.size 8 (by first | omega | (simp <;> omega)); have hq20 : w.heap.size < w2.heap.size := (by omega); have hq21 : w.heap.size + 1 < w2.heap.size := (by omega); have z27 := hz2 w.heap.size 7 (by first | omega | (simp <;> omega)); have z28 := hz2 w.heap.size 8 (by first | omega | (simp <;> omega)); have HO2 := hide ho2; have HB2 := hide hb2; clear ho2 hb2))))
  all_goals
    have HB3 : Hid (Below w.heap.size w w2) := (HB0.out.drew.trans (HB1.out.mono HB0.out.size)).trans (HB2.out.mono (by have := HB0.out.size; have h2 := HB1.out.size; simp at h2; omega))
    have hbs0 : w.heap.size ≤ w1.heap.size := by omega
    have HOL : Hid (w2.ownsRow (w.heap.size + 2) 59 5 (Value.slice a1 r.legs.length c1) r.legs.length (r.legs.flatMap LegS.vals)) := ownsRow_mono (ownsRow_below HO1.out HB2.out) (by simp; omega)
    have HLT : Hid (∀ k, (Value.slice a1 r.legs.length c1).ownBlock = some k → k < w1.heap.size) := fun k hk => (HO1.out.lt k hk).2
    have hw1s : w.heap.size + 2 ≤ w1.heap.size := by omega
    go_wp2
    refine bodyPost_ret (v := RVv r (.slice a1 r.legs.length c1) (.slice a2 r.pauses.length c2)) (by simp_all [results, Try.results24, go_sem, RVv]) rfl (CopyPost.mk (B := w.heap.size + 2) (B2 := w1.heap.size) ?_ (by omega) (by omega) ?_ HLT.out ?_)
    · repeat (first | with_reducible exact (HB3.out) | with_reducible refine Below.setCell ?_ ?_ _ | with_reducible refine Below.alloc ?_ ?_ _ | with_reducible refine Below.drew ?_ | with_reducible refine below_drewN ?_ _ | omega | (simp <;> omega))
    · repeat (first | with_reducible exact HOL.out | with_reducible refine ownsRow_setCell ?_ _ _ ?_ | (simp <;> omega))
    · repeat (first | with_reducible exact HO2.out | with_reducible refine ownsRow_setCell ?_ _ _ ?_ | (simp <;> omega))


end Go.Proofs.Ythgnbkcopapbmaa
