import Derived.Test.YtfpdhalfkfffnaaVg
namespace Go.Proofs.Ytfpdhalfkfffnaa
open Go.RowKit
set_option linter.unusedVariables false
set_option linter.unusedSimpArgs false
set_option linter.unnecessarySimpa false

def TakePost (w : World) (p : Nat) (x : RideS) (e : EvS) (en : Ending) (w' : World) : Prop :=
  ∃ x' : RideS, en = .returned (.bool ((narrowL x e).2 == 0)) ∧ w.grownBy w' (some p) ∧ x'.norm = (if (narrowL x e).2 = 0 then (narrowL x e).1 else x.norm) ∧ RideS.at w' p 0 x' ∧ (∀ j, j < 13 → w'.frozen? ⟨p, j, none⟩ = false) ∧ RideS.ok w' x' ∧ (RideS.from_ w.heap.size x' ∨ (x'.legsA = x.legsA ∧ x'.pausesA = x.pausesA)) ∧ RideS.in_ w' x'
theorem TakePost.keep {w w' : World} {p : Nat} {x : RideS} {e : EvS} {nv : RideS × Int} (hn : narrowL x e = nv) (h0 : ¬ nv.2 = 0) (hb : Below w.heap.size w w') (hp : p < w.heap.size) (hat : RideS.at w p 0 x) (hz : ∀ j, j < 13 → w.frozen? ⟨p, j, none⟩ = false) (H : RideS.ok w x) (hin : RideS.in_ w x) : TakePost w p x e (.returned (.bool false)) w' := by
  subst hn
  refine ⟨x, by rw [beq_eq_false_iff_ne.2 h0], grown_below hb p, by rw [if_neg h0], RideS.at_below hb hp hat, fun j hj => ?_, RideS.ok_below hb H, .inr ⟨rfl, rfl⟩, fun a ha => Nat.lt_of_lt_of_le (hin a ha) hb.size⟩
  rw [(bcell hb).2 _ _ hp]; exact hz j hj
theorem TakePost.take {w w' : World} {p : Nat} {x y : RideS} {e : EvS} {nv : RideS × Int} (hn : narrowL x e = nv) (h0 : nv.2 = 0) (hy : y.norm = nv.1) (hg : w.grownBy w' (some p)) (hat : RideS.at w' p 0 y) (hz : ∀ j, j < 13 → w'.frozen? ⟨p, j, none⟩ = false) (H : RideS.ok w' y) (hf : RideS.from_ w.heap.size y) (hin : RideS.in_ w' y) : TakePost w p x e (.returned (.bool true)) w' := by
  subst hn
  exact ⟨y, by rw [h0]; rfl, hg, by rw [if_pos h0]; exact hy, hat, hz, H, .inl hf, hin⟩
theorem RideS.from_mono {B B' : Nat} {x : RideS} (h : RideS.from_ B x) (hb : B' ≤ B) : RideS.from_ B' x := ⟨fun a ha => Nat.le_trans hb (h.1 a ha), fun a ha => Nat.le_trans hb (h.2 a ha)⟩
set_option maxRecDepth 100000 in
set_option maxHeartbeats 8000000 in
theorem take_c (x : RideS) (p : Nat) (e : EvS) (w : World) (hp : p < w.heap.size) (hat : RideS.at w p 0 x) (hz : ∀ j, j < 13 → w.frozen? ⟨p, j, none⟩ = false) (H : RideS.ok w x) (HE : EvS.ok w e) (hoff : RideS.off 0 p x) (hin : RideS.in_ w x) : Calls Try.prog 35 #[EV e, .pointer (some ⟨p, 0, none⟩)] w (TakePost w p x e) := by
  have HAT := hide hat
  obtain ⟨x0, x1, x2, x3, x4, x5, x6, x7, x8, x9, x10, x11, x12⟩ := hat
  simp only [Nat.zero_add] at x0 x1 x2 x3 x4 x5 x6 x7 x8 x9 x10 x11 x12
  have z0 := hz 0 (by omega)
  have z1 := hz 1 (by omega)
  have z2 := hz 2 (by omega)
  have z3 := hz 3 (by omega)
  have z4 := hz 4 (by omega)
  have z5 := hz 5 (by omega)
  have z6 := hz 6 (by omega)
  have z7 := hz 7 (by omega)
  have z8 := hz 8 (by omega)
  have z9 := hz 9 (by omega)
  have z10 := hz 10 (by omega)
  have z11 := hz 11 (by omega)
  have z12 := hz 12 (by omega)
  have HZ := hide hz; clear hz
  have HIN := hide hin; clear hin
  have HH := hide H; have HEE := hide HE; have HOFF := hide hoff; clear H HE hoff
  have hp1 : p < w.heap.size + 1 := by omega
  have hpn : ¬ p = w.heap.size := by omega
  go_enter Try.func35, Try.ntmps35
  go_wp2_with fail
  refine (narrow_c x e _ ?_ ?_).mono ?_
  · exact RideS.ok_below (by repeat (first | with_reducible exact (Below.refl _ _) | with_reducible refine Below.setCell ?_ ?_ _ | with_reducible refine Below.alloc ?_ ?_ _ | with_reducible refine Below.drew ?_ | with_reducible refine below_drewN ?_ _ | omega | (simp <;> omega))) HH.out
  · exact EvS.ok_below (by repeat (first | with_reducible exact (Below.refl _ _) | with_reducible refine Below.setCell ?_ ?_ _ | with_reducible refine Below.alloc ?_ ?_ _ | with_reducible refine Below.drew ?_ | with_reducible refine below_drewN ?_ _ | omega | (simp <;> omega))) HEE.out
  rintro e w1 ⟨y, rfl, hb, hn, hok, hfr, hiny⟩
  obtain ⟨hc1, hz1⟩ := bcell hb
  have hs1 := hb.size
  try simp at hs1
  have hqw_1 : w.heap.size < w1.heap.size := by omega
  have hqp_1 : p < w1.heap.size := by omega
  have HW1 : Hid (Below w.heap.size w w1) := (show Below w.heap.size w _ by repeat (first | with_reducible exact (Below.refl _ _) | with_reducible refine Below.setCell ?_ ?_ _ | with_reducible refine Below.alloc ?_ ?_ _ | with_reducible refine Below.drew ?_ | with_reducible refine below_drewN ?_ _ | omega | (simp <;> omega))).trans (hb.mono (by first | omega | (simp <;> omega)))
  clear hb
  obtain ⟨he1, hef1⟩ := bcell HW1.out
  simp at hfr
  have HINY := hide hiny; clear hiny
  have HN := hide hn; have HOK := hide hok; have HFR := hide hfr; clear hn hok hfr
  have k0 := hc1 p 0 (by first | omega | (simp <;> omega))
  have k1 := hc1 p 1 (by first | omega | (simp <;> omega))
  have k2 := hc1 p 2 (by first | omega | (simp <;> omega))
  have k3 := hc1 p 3 (by first | omega | (simp <;> omega))
  have k4 := hc1 p 4 (by first | omega | (simp <;> omega))
  have k5 := hc1 p 5 (by first | omega | (simp <;> omega))
  have k6 := hc1 p 6 (by first | omega | (simp <;> omega))
  have k7 := hc1 p 7 (by first | omega | (simp <;> omega))
  have k8 := hc1 p 8 (by first | omega | (simp <;> omega))
  have k9 := hc1 p 9 (by first | omega | (simp <;> omega))
  have k10 := hc1 p 10 (by first | omega | (simp <;> omega))
  have k11 := hc1 p 11 (by first | omega | (simp <;> omega))
  have k12 := hc1 p 12 (by first | omega | (simp <;> omega))
  have m0 := hz1 p 0 (by first | omega | (simp <;> omega))
  have m1 := hz1 p 1 (by first | omega | (simp <;> omega))
  have m2 := hz1 p 2 (by first | omega | (simp <;> omega))
  have m3 := hz1 p 3 (by first | omega | (simp <;> omega))
  have m4 := hz1 p 4 (by first | omega | (simp <;> omega))
  have m5 := hz1 p 5 (by first | omega | (simp <;> omega))
  have m6 := hz1 p 6 (by first | omega | (simp <;> omega))
  have m7 := hz1 p 7 (by first | omega | (simp <;> omega))
  have m8 := hz1 p 8 (by first | omega | (simp <;> omega))
  have m9 := hz1 p 9 (by first | omega | (simp <;> omega))
  have m10 := hz1 p 10 (by first | omega | (simp <;> omega))
  have m11 := hz1 p 11 (by first | omega | (simp <;> omega))
  have m12 := hz1 p 12 (by first | omega | (simp <;> omega))
  generalize hnv : narrowL x e = nv at *
  have HNV := hide hnv; clear hnv
  by_cases h0 : nv.2 = 0
  · have d0 : (nv.2 == 0) = true := by rw [beq_iff_eq]; exact h0
    have H0 := hide h0; clear h0
    go_wp2
    go_ret
    refine TakePost.take (y := y) HNV.out H0.out HN.out ?_ ?_ ?_ ?_ (RideS.from_mono HFR.out (by omega)) (fun a ha => by have := HINY.out a ha; simp; omega)
    · repeat (first | with_reducible exact (grown_below HW1.out p) | with_reducible refine grown_setCell ?_ _ _ ?_ | with_reducible refine grown_alloc ?_ _ | (simp <;> omega))
    · unfold RideS.at
      simp only [Nat.zero_add]
      go_simp
    · intro j hj
      have := HZ.out j hj
      have m := hz1 p j (by first | omega | (simp <;> omega))
      go_simp
    · have hoffy : RideS.off (w.heap.size + 1) p y := RideS.off_of_from HFR.out (by omega)
      repeat (first | with_reducible exact HOK.out | with_reducible refine RideS.ok_setCell ?_ hoffy _ _ ?_ | with_reducible refine RideS.ok_alloc ?_ _ | (simp <;> omega))
  · have d0 : (nv.2 == 0) = false := by rw [beq_eq_false_iff_ne]; exact h0
    have H0 := hide h0; clear h0
    go_wp2
    go_ret
    exact TakePost.keep HNV.out H0.out (by repeat (first | with_reducible exact (HW1.out) | with_reducible refine Below.setCell ?_ ?_ _ | with_reducible refine Below.alloc ?_ ?_ _ | with_reducible refine Below.drew ?_ | with_reducible refine below_drewN ?_ _ | omega | (simp <;> omega))) hp HAT.out HZ.out HH.out HIN.out


end Go.Proofs.Ytfpdhalfkfffnaa
