/-
  All: its closure, by hand.
-/
import Derived.Test.YthgnbkcopapbmaaEq
import Derived.Test.YthgnbkcopapbmaaEf
import Derived.Test.YthgnbkcopapbmaaEe
namespace Go.Proofs.Ythgnbkcopapbmaa
open Go.RowKit
open Nat (reduceAdd reduceEqDiff reduceLT reduceLeDiff reduceSub reducePow reduceMul)
open Int (reduceToNat reduceLE reduceEq)
set_option linter.unusedVariables false
set_option linter.unusedSimpArgs false
set_option linter.unnecessarySimpa false

theorem rep_slI {M : Nat → Prop} {L : Nat → Prop} {β : Nat → Bd} {w : World} {es : List PV} {v : Value} (h : Rep L β M w (.sl es) v) : RepI M w (.sl es) v := by
  cases h with
  | imm _ _ h => exact h
theorem own_g (r : RideS) (hl1 : r.legs.length ≤ 1000000) (hl2 : r.pauses.length ≤ 1000000) : Good Try.prog 24 [r.pv] r.pv := by
  intro M w vs hM hp hG
  refine (own_o r hl1 hl2 M w vs hM hp hG).mono ?_
  rintro en w' ⟨v, hdr, us, rfl, hb, h0, hrow, hfl, hone, hpe, hrep⟩
  refine ⟨v, rfl, hb, ?_⟩
  have hr := hrep (fun _ => True) (fun _ => ⟨0, hdr, 0⟩) M 0 0 (fun k h => .inl h) trivial rfl
  have hls : RepI M w' (.sl (r.legs.map LegS.pv)) hdr := row_repI (P := Try.prog) (H := w.heap.size) (L := fun _ => True) (β := fun _ => ⟨0, hdr, 0⟩) (M := fun k => M k ∨ hdr.ownBlock = some k) (d := ⟨0, hdr, 0⟩) (e := 59) (sz := 5) (ver := 0) ⟨rfl, h0, us, hrow, hfl, hpe.2⟩ (fun k hk hm => by
    have h1 := (hrow.lt k hk).1
    have h2 := hM k hm
    omega) (fun p v h => h.mono (Kp.refl _ _) (fun k _ hk => .inl hk))
  obtain ⟨vs', rfl, hl, hj⟩ := hr.agg_inv
  have sc : ∀ (j : Nat) (u v : Value), [PV.sc (.int .i64 r.id), .sc (.int .i64 r.rider), .sc (.int .i64 r.start.lo), .sc (.int .i64 r.start.hi), .sc (.int .i64 r.end_.lo), .sc (.int .i64 r.end_.hi), .sc (.bool r.open_), .own 0 0, .sl (r.pauses.map PauseS.pv), .sc (.int .i64 r.fromWhere), .sc (.int .i64 r.fromPlace), .sc (.int .i64 r.where_), .sc (.int .i64 r.place)][j]? = some (.sc u) → vs'[j]? = some v → RepI M w' (.sc u) v := fun j u v h1 h2 => by
    have h3 := hj j _ v h1 h2
    have h4 := h3.sc_inv; subst h4
    exact .sc _ h3.sc_rng
  refine .agg _ _ hl (fun j p v hp hv => ?_)
  match j, hp, hv with
  | 0, hp, hv => cases hp; exact sc 0 _ v rfl hv
  | 1, hp, hv => cases hp; exact sc 1 _ v rfl hv
  | 2, hp, hv => cases hp; exact sc 2 _ v rfl hv
  | 3, hp, hv => cases hp; exact sc 3 _ v rfl hv
  | 4, hp, hv => cases hp; exact sc 4 _ v rfl hv
  | 5, hp, hv => cases hp; exact sc 5 _ v rfl hv
  | 6, hp, hv => cases hp; exact sc 6 _ v rfl hv
  | 7, hp, hv =>
    cases hp
    have h3 := (hj 7 _ v rfl hv).own_inv
    rw [h3.2.2 rfl]; exact hls
  | 8, hp, hv => cases hp; exact rep_slI (hj 8 _ v rfl hv)
  | 9, hp, hv => cases hp; exact sc 9 _ v rfl hv
  | 10, hp, hv => cases hp; exact sc 10 _ v rfl hv
  | 11, hp, hv => cases hp; exact sc 11 _ v rfl hv
  | 12, hp, hv => cases hp; exact sc 12 _ v rfl hv
  | j + 13, hp, hv => simp at hp
theorem repI_below {M : Nat → Prop} {w w' : World} {p : PV} {v : Value} (hb : Below w.heap.size w w') (h : RepI M w p v) : RepI M w' p v :=
  h.mono (M := M) ⟨hb.size, fun k hk _ => hb.block k hk⟩ (fun _ _ h => h)
theorem globW_below {w w' : World} (hb : Below w.heap.size w w') (h : GlobW w w.heap.size) : GlobW w' w'.heap.size := fun g hg => by
  obtain ⟨h1, b, h2, h3⟩ := h g hg
  exact ⟨Nat.lt_of_lt_of_le h1 hb.size, b, (hb.block _ h1).trans h2, h3⟩
def rc (x : RideS) : List PV := [.sc (.int .i64 x.id), .sc (.int .i64 x.rider), .sc (.int .i64 x.start.lo), .sc (.int .i64 x.start.hi), .sc (.int .i64 x.end_.lo), .sc (.int .i64 x.end_.hi), .sc (.bool x.open_), .sl (x.legs.map LegS.pv), .sl (x.pauses.map PauseS.pv), .sc (.int .i64 x.fromWhere), .sc (.int .i64 x.fromPlace), .sc (.int .i64 x.where_), .sc (.int .i64 x.place)]
/-- What the closure leaves behind. -/
def TkPost (M : Nat → Prop) (w : World) (b : Nat) (ty : TypeId) (q : List PV) (r : Bool) (en : Ending) (w' : World) : Prop :=
  ∃ (v : Value) (xs' : List Value), en = .returned v ∧ Kp (fun k => k = b) w w' ∧ (w'.os = w.os ∧ w'.tape = w.tape ∧ w'.output = w.output) ∧ w'.heap[b]? = some (.cells xs'.toArray ty (0, 0)) ∧ Pw (RepI M w') q xs' ∧ RepI M w' (.sc (.bool r)) v
theorem TkPost.keep {M : Nat → Prop} {w W : World} {b : Nat} {ty : TypeId} {q : List PV} {xs : List Value} (h : Below w.heap.size w W) (hb : w.heap[b]? = some (.cells xs.toArray ty (0, 0))) (hx : Pw (RepI M w) q xs) : TkPost M w b ty q false (.returned (.bool false)) W := by
  have hlt := (Array.getElem?_eq_some_iff.1 hb).1
  exact ⟨_, xs, rfl, ⟨h.size, fun k hk _ => h.block k hk⟩, ⟨h.os, h.tape, h.output⟩, (h.block b hlt).trans hb, hx.mono (fun p v hr => hr.mono (M := M) ⟨h.size, fun k hk _ => h.block k hk⟩ (fun _ _ h => h)), .sc _ rfl⟩
theorem TkPost.take {M : Nat → Prop} {w w1 : World} {b : Nat} {ty : TypeId} {q : List PV} {xs ys : List Value} {ob : Obj} (h : Below w.heap.size w w1) (hb : w1.heap[b]? = some (.cells xs.toArray ty (0, 0))) (hy : setAt xs 0 ys = ys) (hq : Pw (RepI M w1) q ys) (hM : M b) : TkPost M w b ty q true (.returned (.bool true)) ((w1.setCells b 0 ys).alloc ob) := by
  obtain ⟨s1, s2, s3, s4⟩ := setCells_rest b ys 0 w1
  have hlt := (Array.getElem?_eq_some_iff.1 hb).1
  have hk : Kp (fun k => k = b) w1 ((w1.setCells b 0 ys).alloc ob) := ⟨by simp; omega, fun k hk hn => (heap_alloc_old _ ob (by omega)).trans (heap_setCells_other b ys 0 _ k hn)⟩
  refine ⟨_, ys, rfl, ⟨Nat.le_trans h.size hk.size, fun k hlt hn => (hk.block k (Nat.lt_of_lt_of_le hlt h.size) hn).trans (h.block k hlt)⟩, ⟨s1.trans h.os, s2.trans h.tape, s3.trans h.output⟩, ?_, hq.mono (fun p v hr => hr.mono (M := M) ⟨hk.size, fun k hlt hn => hk.block k hlt (fun e => hn (e ▸ hM))⟩ (fun _ _ h => h)), .sc _ rfl⟩
  have := heap_setCells b ty ys 0 w1 xs hb
  rw [hy] at this
  exact (heap_alloc_old _ ob (by omega)).trans this
set_option maxRecDepth 100000 in
set_option maxHeartbeats 4000000 in
theorem take_b (x : RideS) (e : EvS) (nv : RideS × Int) (hnv : narrowL x e = nv) : GoodB Try.prog 25 [e.pv] (rc x) (.sc (.bool (decide (nv.2 = 0)))) (rc (if nv.2 = 0 then nv.1 else x)) := by
  intro M H w us xs b ty hM hp hb hx hMb hHb hHs hG
  obtain ⟨E, us1, rfl, hE, hp⟩ := pw_cons.1 hp
  rw [pw_nil] at hp; subst hp
  have hE0 := hide hE
  obtain ⟨ue, rfl, hue⟩ := agg_pw.1 hE
  obtain ⟨rfl, hre⟩ := pw_sc.1 hue
  clear hue hre hE
  have hX : RepI M w x.pv (.agg xs.toArray) := agg_pw.2 ⟨xs, rfl, hx⟩
  obtain ⟨a1, c1, a2, c2, hxv, -⟩ := ride_vals hX
  have hxs : xs = [.int .i64 x.id, .int .i64 x.rider, .int .i64 x.start.lo, .int .i64 x.start.hi, .int .i64 x.end_.lo, .int .i64 x.end_.hi, .bool x.open_, .slice a1 x.legs.length c1, .slice a2 x.pauses.length c2, .int .i64 x.fromWhere, .int .i64 x.fromPlace, .int .i64 x.where_, .int .i64 x.place] := by
    have := hxv
    simp only [RVv, Value.agg.injEq] at this
    have h2 := congrArg Array.toList this
    simpa using h2
  subst hxs
  clear hxv
  have hlt := (Array.getElem?_eq_some_iff.1 hb).1
  have x0 : w.cell? ⟨b, 0, none⟩ = some (.int .i64 x.id) := by rw [cell_of_row w b 0 _ ty (0, 0) hb]; rfl
  have x1 : w.cell? ⟨b, 1, none⟩ = some (.int .i64 x.rider) := by rw [cell_of_row w b 1 _ ty (0, 0) hb]; rfl
  have x2 : w.cell? ⟨b, 2, none⟩ = some (.int .i64 x.start.lo) := by rw [cell_of_row w b 2 _ ty (0, 0) hb]; rfl
  have x3 : w.cell? ⟨b, 3, none⟩ = some (.int .i64 x.start.hi) := by rw [cell_of_row w b 3 _ ty (0, 0) hb]; rfl
  have x4 : w.cell? ⟨b, 4, none⟩ = some (.int .i64 x.end_.lo) := by rw [cell_of_row w b 4 _ ty (0, 0) hb]; rfl
  have x5 : w.cell? ⟨b, 5, none⟩ = some (.int .i64 x.end_.hi) := by rw [cell_of_row w b 5 _ ty (0, 0) hb]; rfl
  have x6 : w.cell? ⟨b, 6, none⟩ = some (.bool x.open_) := by rw [cell_of_row w b 6 _ ty (0, 0) hb]; rfl
  have x7 : w.cell? ⟨b, 7, none⟩ = some (.slice a1 x.legs.length c1) := by rw [cell_of_row w b 7 _ ty (0, 0) hb]; rfl
  have x8 : w.cell? ⟨b, 8, none⟩ = some (.slice a2 x.pauses.length c2) := by rw [cell_of_row w b 8 _ ty (0, 0) hb]; rfl
  have x9 : w.cell? ⟨b, 9, none⟩ = some (.int .i64 x.fromWhere) := by rw [cell_of_row w b 9 _ ty (0, 0) hb]; rfl
  have x10 : w.cell? ⟨b, 10, none⟩ = some (.int .i64 x.fromPlace) := by rw [cell_of_row w b 10 _ ty (0, 0) hb]; rfl
  have x11 : w.cell? ⟨b, 11, none⟩ = some (.int .i64 x.where_) := by rw [cell_of_row w b 11 _ ty (0, 0) hb]; rfl
  have x12 : w.cell? ⟨b, 12, none⟩ = some (.int .i64 x.place) := by rw [cell_of_row w b 12 _ ty (0, 0) hb]; rfl
  have z : ∀ j, w.frozen? ⟨b, j, none⟩ = false := fun j => by simp [World.frozen?, hb]
  have hX := hide hX; have hx := hide hx; have hM := hide hM; have hG := hide hG; have hb0 := hide hb; have hMb := hide hMb; have hHb := hide hHb; have hHs := hide hHs
  clear hb
  obtain ⟨r0, hr0⟩ : ∃ r0, decide (nv.2 = 0) = r0 := ⟨_, rfl⟩
  obtain ⟨q0, hq0⟩ : ∃ q0, rc (if nv.2 = 0 then nv.1 else x) = q0 := ⟨_, rfl⟩
  rw [hr0, hq0]
  show Calls Try.prog 25 _ w (TkPost M w b ty q0 r0)
  have hr0 := hide hr0; have hq0 := hide hq0
  have hp1 : b < w.heap.size + 1 := by omega
  have hpn : ¬ b = w.heap.size := by omega
  have hev : EvS.vals e = [.int .i64 e.ride, .int .i64 e.end_.lo, .int .i64 e.end_.hi] := rfl
  go_enter Try.func25, Try.ntmps25
  go_wp2_with fail
  generalize hW0 : w.alloc (Obj.cells #[Value.int IntKind.i64 e.ride, Value.int IntKind.i64 e.end_.lo, Value.int IntKind.i64 e.end_.hi] 52) = W0
  have s0 : W0.heap.size = w.heap.size + 1 := by rw [← hW0]; simp
  have B0 : Below w.heap.size w W0 := by rw [← hW0]; exact (Below.refl _ _).alloc (Nat.le_refl _) _
  clear hW0 x0 x1 x2 x3 x4 x5 x6 x7 x8 x9 x10 x11 x12 z
  refine (narrow_g x e M W0 [.agg #[.int .i64 x.id, .int .i64 x.rider, .int .i64 x.start.lo, .int .i64 x.start.hi, .int .i64 x.end_.lo, .int .i64 x.end_.hi, .bool x.open_, .slice a1 x.legs.length c1, .slice a2 x.pauses.length c2, .int .i64 x.fromWhere, .int .i64 x.fromPlace, .int .i64 x.where_, .int .i64 x.place], .agg #[Value.int IntKind.i64 e.ride, Value.int IntKind.i64 e.end_.lo, Value.int IntKind.i64 e.end_.hi]] ?_ ?_ ?_).mono ?_
  · intro k hk; have := hM.out k hk; omega
  · exact pw_cons.2 ⟨_, _, rfl, repI_below B0 hX.out, pw_cons.2 ⟨_, _, rfl, repI_below B0 hE0.out, pw_nil.2 rfl⟩⟩
  · exact globW_below B0 (GlobW.up hG.out hHs.out)
  rintro en w1 ⟨v, rfl, hb1, hr⟩
  have B1 : Below w.heap.size w w1 := B0.trans (hb1.mono (by omega))
  unfold narrowP at hr
  rw [hnv] at hr
  obtain ⟨y, n⟩ := nv
  simp only at hr
  obtain ⟨us, rfl, hu⟩ := tup_pw.1 hr
  obtain ⟨Y, us, rfl, hY, hu2⟩ := pw_cons.1 hu
  obtain ⟨N, us, rfl, hN, hu3⟩ := pw_cons.1 hu2
  obtain rfl := pw_nil.1 hu3
  have hN := hN.sc_inv; subst hN
  clear hr hu hu2 hu3
  have hYY := hide hY
  obtain ⟨a3, c3, a4, c4, rfl, -⟩ := ride_vals hY
  clear hY
  have hbw : w1.heap[b]? = _ := (B1.block b hlt).trans hb0.out
  have hs1 := hb1.size
  have hlw : b < w1.heap.size := by omega
  have hpw : ¬ b = w1.heap.size := by omega
  have k0 : w1.cell? ⟨b, 0, none⟩ = some (.int .i64 x.id) := by rw [cell_of_row w1 b 0 _ ty (0, 0) hbw]; rfl
  have k1 : w1.cell? ⟨b, 1, none⟩ = some (.int .i64 x.rider) := by rw [cell_of_row w1 b 1 _ ty (0, 0) hbw]; rfl
  have k2 : w1.cell? ⟨b, 2, none⟩ = some (.int .i64 x.start.lo) := by rw [cell_of_row w1 b 2 _ ty (0, 0) hbw]; rfl
  have k3 : w1.cell? ⟨b, 3, none⟩ = some (.int .i64 x.start.hi) := by rw [cell_of_row w1 b 3 _ ty (0, 0) hbw]; rfl
  have k4 : w1.cell? ⟨b, 4, none⟩ = some (.int .i64 x.end_.lo) := by rw [cell_of_row w1 b 4 _ ty (0, 0) hbw]; rfl
  have k5 : w1.cell? ⟨b, 5, none⟩ = some (.int .i64 x.end_.hi) := by rw [cell_of_row w1 b 5 _ ty (0, 0) hbw]; rfl
  have k6 : w1.cell? ⟨b, 6, none⟩ = some (.bool x.open_) := by rw [cell_of_row w1 b 6 _ ty (0, 0) hbw]; rfl
  have k7 : w1.cell? ⟨b, 7, none⟩ = some (.slice a1 x.legs.length c1) := by rw [cell_of_row w1 b 7 _ ty (0, 0) hbw]; rfl
  have k8 : w1.cell? ⟨b, 8, none⟩ = some (.slice a2 x.pauses.length c2) := by rw [cell_of_row w1 b 8 _ ty (0, 0) hbw]; rfl
  have k9 : w1.cell? ⟨b, 9, none⟩ = some (.int .i64 x.fromWhere) := by rw [cell_of_row w1 b 9 _ ty (0, 0) hbw]; rfl
  have k10 : w1.cell? ⟨b, 10, none⟩ = some (.int .i64 x.fromPlace) := by rw [cell_of_row w1 b 10 _ ty (0, 0) hbw]; rfl
  have k11 : w1.cell? ⟨b, 11, none⟩ = some (.int .i64 x.where_) := by rw [cell_of_row w1 b 11 _ ty (0, 0) hbw]; rfl
  have k12 : w1.cell? ⟨b, 12, none⟩ = some (.int .i64 x.place) := by rw [cell_of_row w1 b 12 _ ty (0, 0) hbw]; rfl
  have z : ∀ j, w1.frozen? ⟨b, j, none⟩ = false := fun j => by simp [World.frozen?, hbw]
  have hbw := hide hbw; have B1 := hide B1
  clear hb1 B0
  by_cases h0 : n = 0
  · have d0 : (n == 0) = true := by rw [beq_iff_eq]; exact h0
    obtain rfl : r0 = true := by rw [← hr0.out]; exact decide_eq_true h0
    obtain rfl : q0 = rc y := by rw [← hq0.out]; exact congrArg rc (if_pos h0)
    have h0 := hide h0
    simp only [RVv]
    go_wp2
    go_ret
    refine TkPost.take (xs := [.int .i64 x.id, .int .i64 x.rider, .int .i64 x.start.lo, .int .i64 x.start.hi, .int .i64 x.end_.lo, .int .i64 x.end_.hi, .bool x.open_, .slice a1 x.legs.length c1, .slice a2 x.pauses.length c2, .int .i64 x.fromWhere, .int .i64 x.fromPlace, .int .i64 x.where_, .int .i64 x.place]) (ys := [.int .i64 y.id, .int .i64 y.rider, .int .i64 y.start.lo, .int .i64 y.start.hi, .int .i64 y.end_.lo, .int .i64 y.end_.hi, .bool y.open_, .slice a3 y.legs.length c3, .slice a4 y.pauses.length c4, .int .i64 y.fromWhere, .int .i64 y.fromPlace, .int .i64 y.where_, .int .i64 y.place]) B1.out hbw.out rfl ?_ hMb.out
    obtain ⟨us, e1, h2⟩ := agg_pw.1 hYY.out
    have e2 : us = [.int .i64 y.id, .int .i64 y.rider, .int .i64 y.start.lo, .int .i64 y.start.hi, .int .i64 y.end_.lo, .int .i64 y.end_.hi, .bool y.open_, .slice a3 y.legs.length c3, .slice a4 y.pauses.length c4, .int .i64 y.fromWhere, .int .i64 y.fromPlace, .int .i64 y.where_, .int .i64 y.place] := by
      simp only [RVv, Value.agg.injEq] at e1
      have h3 := congrArg Array.toList e1
      simpa using h3.symm
    rw [← e2]; exact h2
  · have d0 : (n == 0) = false := by rw [beq_eq_false_iff_ne]; exact h0
    obtain rfl : r0 = false := by rw [← hr0.out]; exact decide_eq_false h0
    obtain rfl : q0 = rc x := by rw [← hq0.out]; exact congrArg rc (if_neg h0)
    have h0 := hide h0
    simp only [RVv]
    go_wp2
    go_ret
    refine TkPost.keep ?_ hb0.out hx.out
    exact B1.out.alloc B1.out.size _


end Go.Proofs.Ythgnbkcopapbmaa
