import Derived.Test.YtfpdhalfkfffnaaVo
namespace Go.Proofs.Ytfpdhalfkfffnaa
open Go.RowKit
set_option linter.unusedVariables false
set_option linter.unusedSimpArgs false
set_option linter.unnecessarySimpa false

def RideS.norm (r : RideS) : RideS := { r with legsA := none, legsC := 0, pausesA := none, pausesC := 0 }
/-- A ride with lists of its own. -/
def CopyPost (w : World) (r : RideS) (e : Ending) (w' : World) : Prop :=
  ∃ a1 c1 a2 c2 B2, e = .returned (RV { r with legsA := a1, legsC := c1, pausesA := a2, pausesC := c2 }) ∧ Below w.heap.size w w' ∧ w.heap.size ≤ B2 ∧ w'.ownsRow w.heap.size 47 5 (.slice a1 r.legs.length c1) r.legs.length (LegS.flat r.legs) ∧ (∀ k, (Value.slice a1 r.legs.length c1).ownBlock = some k → k < B2) ∧ w'.ownsRow B2 62 4 (.slice a2 r.pauses.length c2) r.pauses.length (PauseS.flat r.pauses)
theorem RideS.ok_lists {w w' : World} {r : RideS} {B B2 : Nat} {a1 a2 : Option Addr} {c1 c2 : Nat} (hb : Below w.heap.size w w') (H : RideS.ok w r) (h1 : w'.ownsRow B 47 5 (.slice a1 r.legs.length c1) r.legs.length (LegS.flat r.legs)) (h2 : w'.ownsRow B2 62 4 (.slice a2 r.pauses.length c2) r.pauses.length (PauseS.flat r.pauses)) :
    RideS.ok w' { r with legsA := a1, legsC := c1, pausesA := a2, pausesC := c2 } := by
  obtain ⟨g1, g2, g3, g4, gL, gP, g5⟩ := RideS.ok_below hb H
  exact ⟨g1, g2, g3, g4, LegS.sl_of_own h1 (fun x hx => gL.2.2.2.2 x hx), PauseS.sl_of_own h2 (fun x hx => gP.2.2.2.2 x hx), g5⟩
theorem CopyPost.mk {w w' : World} {r : RideS} {a1 a2 : Option Addr} {c1 c2 : Nat} {B B2 : Nat} (hb : Below w.heap.size w w') (hB : w.heap.size ≤ B) (hB2 : w.heap.size ≤ B2) (h1 : w'.ownsRow B 47 5 (.slice a1 r.legs.length c1) r.legs.length (LegS.flat r.legs)) (hlt : ∀ k, (Value.slice a1 r.legs.length c1).ownBlock = some k → k < B2) (h2 : w'.ownsRow B2 62 4 (.slice a2 r.pauses.length c2) r.pauses.length (PauseS.flat r.pauses)) :
    CopyPost w r (.returned (RV { r with legsA := a1, legsC := c1, pausesA := a2, pausesC := c2 })) w' :=
  ⟨a1, c1, a2, c2, B2, rfl, hb, hB2, ownsRow_mono h1 hB, hlt, h2⟩
set_option maxRecDepth 100000 in
set_option maxHeartbeats 8000000 in
theorem own_c (r : RideS) (w : World) (H : RideS.ok w r) (hlim : r.legs.length ≤ 1000000) (hlimp : r.pauses.length ≤ 1000000) : Calls Try.prog 34 #[RV r] w (CopyPost w r) := by
  have HH := hide H
  obtain ⟨h1, h2, h3, h4, hL, hP, h5⟩ := H
  have HL := hide hL; have HP := hide hP
  clear h1 h2 h3 h4 hL hP h5
  go_enter Try.func34, Try.ntmps34
  go_wp2_with fail
  refine wp_world ?_
  intro W0 hW0
  have hW0c0 := fun b o => congrArg (fun x => World.cell? x ⟨b, o, none⟩) hW0
  have hW0f0 := fun b o => congrArg (fun x => World.frozen? x ⟨b, o, none⟩) hW0
  have hW0s0 := congrArg (fun x => x.heap.size) hW0
  try simp only at hW0c0 hW0f0
  try simp at hW0s0
  have HB0 := hide (show Below w.heap.size w W0 by rw [hW0]; repeat (first | with_reducible exact (Below.refl _ _) | with_reducible refine Below.setCell ?_ ?_ _ | with_reducible refine Below.alloc ?_ ?_ _ | with_reducible refine Below.drew ?_ | with_reducible refine below_drewN ?_ _ | omega | (simp <;> omega)))
  clear hW0
  go_region_with ((first | (go_at_call 42; refine (cloneL_c r.legsA r.legsC r.legs _ ?_ hlim).mono ?_; (exact LegS.sl_below (by repeat (first | with_reducible exact (HB0.out) | with_reducible refine Below.setCell ?_ ?_ _ | with_reducible refine Below.alloc ?_ ?_ _ | with_reducible refine Below.drew ?_ | with_reducible refine below_drewN ?_ _ | omega | (simp <;> omega))) HL.out); (rintro e w1 ⟨a1, c1, rfl, hb1, ho1⟩; obtain ⟨hc1, hz1⟩ := bcell hb1; have hs1 := hb1.size; (try simp at hs1); have k17 := hc1 w.heap.size 7 (by first | omega | (simp <;> omega)); have k18 := hc1 w.heap.size 8 (by first | omega | (simp <;> omega)); have hq10 : w.heap.size < w1.heap.size := (by omega); have hq11 : w.heap.size + 1 < w1.heap.size := (by omega); have z17 := hz1 w.heap.size 7 (by first | omega | (simp <;> omega)); have z18 := hz1 w.heap.size 8 (by first | omega | (simp <;> omega)); have HO1 := hide ho1; have HB1 := hide hb1; clear ho1 hb1)) | (go_at_call 43; refine (cloneP_c r.pausesA r.pausesC r.pauses _ ?_ hlimp).mono ?_; (exact PauseS.sl_below (HB0.out.drew.trans (HB1.out.mono HB0.out.size)) HP.out); (rintro e w2 ⟨a2, c2, rfl, hb2, ho2⟩; obtain ⟨hc2, hz2⟩ := bcell hb2; have hs2 := hb2.size; (try simp at hs2); have k27 := hc2 w.heap.size 7 (by first | omega | (simp <;> omega)); have k28 := hc2 w.heap.size 8 (by first | omega | (simp <;> omega)); have hq20 : w.heap.size < w2.heap.size := (by omega); have hq21 : w.heap.size + 1 < w2.heap.size := (by omega); have z27 := hz2 w.heap.size 7 (by first | omega | (simp <;> omega)); have z28 := hz2 w.heap.size 8 (by first | omega | (simp <;> omega)); have HO2 := hide ho2; have HB2 := hide hb2; clear ho2 hb2))))
  all_goals
    have HB3 : Hid (Below w.heap.size w w2) := (HB0.out.drew.trans (HB1.out.mono HB0.out.size)).trans (HB2.out.mono (by have := HB0.out.size; have h2 := HB1.out.size; simp at h2; omega))
    have hbs0 : w.heap.size ≤ w1.heap.size := by omega
    have HOL : Hid (w2.ownsRow (w.heap.size + 2) 47 5 (Value.slice a1 r.legs.length c1) r.legs.length (LegS.flat r.legs)) := ownsRow_mono (ownsRow_below HO1.out HB2.out) (by simp; omega)
    have HLT : Hid (∀ k, (Value.slice a1 r.legs.length c1).ownBlock = some k → k < w1.heap.size) := fun k hk => (HO1.out.lt k hk).2
    have hw1s : w.heap.size + 2 ≤ w1.heap.size := by omega
    go_wp2
    refine bodyPost_ret (v := RV { r with legsA := a1, legsC := c1, pausesA := a2, pausesC := c2 }) (by simp_all [results, Try.results34, go_sem]) rfl (CopyPost.mk (B := w.heap.size + 2) (B2 := w1.heap.size) ?_ (by omega) (by omega) ?_ HLT.out ?_)
    · repeat (first | with_reducible exact (HB3.out) | with_reducible refine Below.setCell ?_ ?_ _ | with_reducible refine Below.alloc ?_ ?_ _ | with_reducible refine Below.drew ?_ | with_reducible refine below_drewN ?_ _ | omega | (simp <;> omega))
    · repeat (first | with_reducible exact HOL.out | with_reducible refine ownsRow_setCell ?_ _ _ ?_ | (simp <;> omega))
    · repeat (first | with_reducible exact HO2.out | with_reducible refine ownsRow_setCell ?_ _ _ ?_ | (simp <;> omega))


end Go.Proofs.Ytfpdhalfkfffnaa
