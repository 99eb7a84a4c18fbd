import Derived.Test.YtfpdhalfkfffnaaW5
namespace Go.Proofs.Ytfpdhalfkfffnaa
open Go.RowKit
set_option linter.unusedVariables false

set_option maxRecDepth 100000 in
set_option maxHeartbeats 800000 in
theorem qranged_c (r : RideS) (w : World) (H : RideS.ok w r) : Calls Try.prog 36 #[RV r] w (Ret w (.bool (rangedL r))) := by
  obtain ⟨h1, h2, h3, h4, hL, hP, -⟩ := H
  clear h1 h2 h3 h4
  have HP0 := hide hP
  rcases head_cases r with ⟨h, h1⟩ | ⟨h, h1, h2⟩ | ⟨h, h1, h2, h3⟩ | ⟨h, h1, h2, h3, h4⟩ | ⟨h1, h2, h3, h4, h⟩
  · have hV := hide (show rangedL r = false by simp [rangedL, h]); clear h
    have e1 : decide (r.id < 1) = true := by simp; omega
    go_enter Try.func36, Try.ntmps36
    go_wp2
    go_ret
    exact ⟨by rw [hV.out]; rfl, by repeat (first | with_reducible exact (Below.refl _ _) | with_reducible refine Below.setCell ?_ ?_ _ | with_reducible refine Below.alloc ?_ ?_ _ | with_reducible refine Below.drew ?_ | with_reducible refine below_drewN ?_ _ | omega | (simp <;> omega))⟩
  · have hV := hide (show rangedL r = false by simp [rangedL, h]); clear h
    have e1 : decide (r.id < 1) = false := by simp; omega
    have e2 : decide (1000000 < r.id) = true := by simp; omega
    go_enter Try.func36, Try.ntmps36
    go_wp2
    go_ret
    exact ⟨by rw [hV.out]; rfl, by repeat (first | with_reducible exact (Below.refl _ _) | with_reducible refine Below.setCell ?_ ?_ _ | with_reducible refine Below.alloc ?_ ?_ _ | with_reducible refine Below.drew ?_ | with_reducible refine below_drewN ?_ _ | omega | (simp <;> omega))⟩
  · have hV := hide (show rangedL r = false by simp [rangedL, h]); clear h
    go_enter Try.func36, Try.ntmps36
    go_wp2
    go_ret
    exact ⟨by rw [hV.out]; rfl, by repeat (first | with_reducible exact (Below.refl _ _) | with_reducible refine Below.setCell ?_ ?_ _ | with_reducible refine Below.alloc ?_ ?_ _ | with_reducible refine Below.drew ?_ | with_reducible refine below_drewN ?_ _ | omega | (simp <;> omega))⟩
  · have hV := hide (show rangedL r = false by simp [rangedL, h]); clear h
    go_enter Try.func36, Try.ntmps36
    go_wp2
    go_ret
    exact ⟨by rw [hV.out]; rfl, by repeat (first | with_reducible exact (Below.refl _ _) | with_reducible refine Below.setCell ?_ ?_ _ | with_reducible refine Below.alloc ?_ ?_ _ | with_reducible refine Below.drew ?_ | with_reducible refine below_drewN ?_ _ | omega | (simp <;> omega))⟩
  · have hh := hide h; clear h
    go_enter Try.func36, Try.ntmps36
    go_wp2_with fail
    refine (span_c _ _ _).mono ?_
    rintro e w1 ⟨rfl, hb⟩
    obtain ⟨hc, hz⟩ := bcell hb
    have hs := hb.size
    simp at hs
    have HB := hide hb; clear hb
    rcases hh.out with ⟨hv, hV0⟩ | ⟨hv, hv2, hV0⟩ | ⟨hv, hv2, hV0⟩
    · have hV := hide (show rangedL r = false by simp [rangedL, hV0]); clear hV0 hh
      have hv' : validL { lo := r.start.lo, hi := r.start.hi } = false := hv
      go_wp2
      go_ret
      exact ⟨by rw [hV.out]; rfl, by repeat (first | with_reducible exact (((Below.refl _ _).alloc (Nat.le_refl _) _).trans (HB.out.mono (by simp))) | with_reducible refine Below.setCell ?_ ?_ _ | with_reducible refine Below.alloc ?_ ?_ _ | with_reducible refine Below.drew ?_ | with_reducible refine below_drewN ?_ _ | omega | (simp <;> omega))⟩
    · have hV := hide (show rangedL r = false by simp [rangedL, hV0]); clear hV0 hh
      have hv' : validL { lo := r.start.lo, hi := r.start.hi } = true := hv
      go_wp2_with fail
      refine (span_c _ _ _).mono ?_
      rintro e w2 ⟨rfl, hb2⟩
      have hv2' : validL { lo := r.end_.lo, hi := r.end_.hi } = false := hv2
      go_wp2
      go_ret
      exact ⟨by rw [hV.out]; rfl, by repeat (first | with_reducible exact (((Below.refl _ _).alloc (Nat.le_refl _) _).trans ((HB.out.trans (hb2.mono (by first | omega | (simp <;> omega)))).mono (by simp))) | with_reducible refine Below.setCell ?_ ?_ _ | with_reducible refine Below.alloc ?_ ?_ _ | with_reducible refine Below.drew ?_ | with_reducible refine below_drewN ?_ _ | omega | (simp <;> omega))⟩
    · have hv' : validL { lo := r.start.lo, hi := r.start.hi } = true := hv
      go_wp2_with fail
      refine (span_c _ _ _).mono ?_
      rintro e w2 ⟨rfl, hb2⟩
      have hb3 := HB.out.trans (hb2.mono (by first | omega | (simp <;> omega)))
      clear hb2 hc hz
      obtain ⟨hc, hz⟩ := bcell hb3
      have hs2 := hb3.size
      simp at hs2
      have hv2' : validL { lo := r.end_.lo, hi := r.end_.hi } = true := hv2
      have hV := hide hV0; clear hV0 hh HB
      have HB := hide hb3; clear hb3
      clear hs
      go_wp2_with fail
      have hwB : Below w.heap.size w w2 := ((Below.refl _ _).alloc (Nat.le_refl _) _).trans (HB.out.mono (by simp))
      have hL2 := LegS.sl_below hwB hL
      have hP2 := PauseS.sl_below hwB hP
      have HW := hide hwB
      clear hL hP hwB HB
      obtain ⟨hl1, hl2, -, hL, -⟩ := hL2
      have hlen := Nat.le_trans hl1 hl2
      unfold maxLen at hlen
      clear hl1 hl2
      clear hP2
      have hV' := hide hV.out
      clear hV
      have hs0 : w.heap.size < w2.heap.size := by omega
      have hs1 : w.heap.size < w.heap.size + 1 := by omega
      clear hs2
      go_loopw [3] (fun i wr => ∃ k : Nat, k ≤ r.legs.length ∧ i = .int .i64 k ∧ Below w2.heap.size w2 wr ∧ Hid (∀ j (h : j < r.legs.length), j < k → legV r.legs[j] = true)) (fun i wr => r.legs.length - (intOf i).toNat)
      case atStart => exact ⟨0, Nat.zero_le _, rfl, Below.refl _ _, fun _ _ h => absurd h (Nat.not_lt_zero _)⟩
      case round =>
        obtain ⟨k, hk, rfl, hb, hno⟩ := hrel
        obtain ⟨hd, hy⟩ := bcell hb
        have ht := hb.size
        have ht0 : w.heap.size < wr.heap.size := by omega
        have HB := hide hb; clear hb
        by_cases hlt : k < r.legs.length
        · obtain ⟨b, o, e0, hbw, hf⟩ := hL (by omega)
          have hbw1 : b < wr.heap.size := by omega
          obtain ⟨f0, f1, f2, f3, f4⟩ := hf k hlt
          generalize hfk : r.legs[k] = f at *
          have H2 := hide hf; clear hf
          have H3 := hide hfk; clear hfk
          go_wp2_with fail
          refine (span_c _ _ _).mono ?_
          rintro e w3 ⟨rfl, hb3⟩
          obtain ⟨hc3, hz3⟩ := bcell hb3
          have hs3 := hb3.size
          try simp at hs3
          have hs4 : True := trivial
          have hs5 : wr.heap.size ≤ w3.heap.size := by omega
          have hs6 : w.heap.size < wr.heap.size + 1 := by omega
          have hs7 : w.heap.size < w3.heap.size := by omega
          have HB3 := hide hb3; clear hb3
          have HB4 : Hid (Below w2.heap.size w2 w3) := HB.out.trans (HB3.out.mono HB.out.size)
          cases hv1 : validL { lo := f.from_.lo, hi := f.from_.hi }
          · have hV := hide (show rangedL r = false by
              have := H3.out; subst this; simp only [rangedL, all_false legV r.legs k hlt (by simp only [legV]; rw [show validL r.legs[k].from_ = false from hv1]; rfl), Bool.and_false, Bool.false_and])
            go_wp2
            go_ret
            exact ⟨by rw [hV.out]; rfl, by repeat (first | with_reducible exact (HW.out.trans (HB4.out.mono HW.out.size)) | with_reducible refine Below.setCell ?_ ?_ _ | with_reducible refine Below.alloc ?_ ?_ _ | with_reducible refine Below.drew ?_ | with_reducible refine below_drewN ?_ _ | omega | (simp <;> omega))⟩
          · go_wp2_with fail
            refine (span_c _ _ _).mono ?_
            rintro e w4 ⟨rfl, hb3⟩
            have hb4 := HB3.out.trans (hb3.mono (by first | omega | (simp <;> omega)))
            obtain ⟨hc3, hz3⟩ := bcell hb4
            have ht4 := hb3.size
            try simp at ht4
            have hs5 : wr.heap.size ≤ w4.heap.size := by omega
            have hs7 : w.heap.size < w4.heap.size := by omega
            have HB5 : Hid (Below w2.heap.size w2 w4) := HB4.out.trans (hb3.mono HB4.out.size)
            clear hb3 hb4 HB3 HB4
            cases hv2 : validL { lo := f.to_.lo, hi := f.to_.hi }
            · have hV := hide (show rangedL r = false by
                have := H3.out; subst this; simp only [rangedL, all_false legV r.legs k hlt (by simp only [legV]; rw [show validL r.legs[k].to_ = false from hv2]; simp only [Bool.and_false]), Bool.and_false, Bool.false_and])
              go_wp2
              go_ret
              exact ⟨by rw [hV.out]; rfl, by repeat (first | with_reducible exact (HW.out.trans (HB5.out.mono HW.out.size)) | with_reducible refine Below.setCell ?_ ?_ _ | with_reducible refine Below.alloc ?_ ?_ _ | with_reducible refine Below.drew ?_ | with_reducible refine below_drewN ?_ _ | omega | (simp <;> omega))⟩
            · go_wp2
              try rw [e0]
              go_roundw
              case rel =>
                refine ⟨k+1, by omega, by go_num, HB5.out, ?_⟩
                intro j h hj
                by_cases e : j = k
                · subst e; have := H3.out; subst this; simp only [legV]; rw [show validL r.legs[j].from_ = true from hv1, show validL r.legs[j].to_ = true from hv2]; rfl
                · exact hno.out j h (by omega)
              case measure => simp [intOf]; omega
        · obtain rfl : k = r.legs.length := by omega
          have hLt := hide (all_true legV r.legs (fun j hj => hno.out j hj hj))
          go_wp2_with fail
          have HW' : Hid (Below w.heap.size w wr) := HW.out.trans (HB.out.mono HW.out.size)
          have hP3 := PauseS.sl_below HW'.out ((show PauseS.sl w r.pausesA r.pausesC r.pauses from HP0.out))
          clear hL hno HW
          have HW := HW'; clear HW'
          obtain ⟨hl1, hl2, -, hL, -⟩ := hP3
          have hlep := Nat.le_trans hl1 hl2
          unfold maxLen at hlep
          clear hl1 hl2
          obtain ⟨wo, hwo⟩ : ∃ wo, wo = wr := ⟨_, rfl⟩
          subst hwo
          go_loopw [4] (fun i wr => ∃ k : Nat, k ≤ r.pauses.length ∧ i = .int .i64 k ∧ Below wo.heap.size wo wr ∧ Hid (∀ j (h : j < r.pauses.length), j < k → pauseV r.pauses[j] = true)) (fun i wr => r.pauses.length - (intOf i).toNat)
          case atStart => exact ⟨0, Nat.zero_le _, rfl, Below.refl _ _, fun _ _ h => absurd h (Nat.not_lt_zero _)⟩
          case round =>
            obtain ⟨k, hk, rfl, hb, hno⟩ := hrel
            clear HB
            obtain ⟨hd', hy'⟩ := bcell hb
            have ht' := hb.size
            have ht0' : w.heap.size < wr.heap.size := by omega
            have HB := hide hb; clear hb
            by_cases hlt : k < r.pauses.length
            · obtain ⟨b, o, e0, hbw, hf⟩ := hL (by omega)
              have hbw1 : b < wr.heap.size := by omega
              obtain ⟨f0, f1, f2, f3⟩ := hf k hlt
              generalize hfk : r.pauses[k] = f at *
              have H2 := hide hf; clear hf
              have H3 := hide hfk; clear hfk
              go_wp2_with fail
              refine (span_c _ _ _).mono ?_
              rintro e w3 ⟨rfl, hb3⟩
              obtain ⟨hc3, hz3⟩ := bcell hb3
              have hs3 := hb3.size
              try simp at hs3
              have hs4 : True := trivial
              have hs5 : wr.heap.size ≤ w3.heap.size := by omega
              have hs6 : w.heap.size < wr.heap.size + 1 := by omega
              have hs7 : w.heap.size < w3.heap.size := by omega
              have HB3 := hide hb3; clear hb3
              have HB4 : Hid (Below wo.heap.size wo w3) := HB.out.trans (HB3.out.mono HB.out.size)
              cases hv1 : validL { lo := f.from_.lo, hi := f.from_.hi }
              · have hV := hide (show rangedL r = false by
                  have := H3.out; subst this; simp only [rangedL, all_false pauseV r.pauses k hlt (by simp only [pauseV]; rw [show validL r.pauses[k].from_ = false from hv1]; rfl), Bool.and_false])
                go_wp2
                go_ret
                exact ⟨by rw [hV.out]; rfl, by repeat (first | with_reducible exact (HW.out.trans (HB4.out.mono HW.out.size)) | with_reducible refine Below.setCell ?_ ?_ _ | with_reducible refine Below.alloc ?_ ?_ _ | with_reducible refine Below.drew ?_ | with_reducible refine below_drewN ?_ _ | omega | (simp <;> omega))⟩
              · go_wp2_with fail
                refine (span_c _ _ _).mono ?_
                rintro e w4 ⟨rfl, hb3⟩
                have hb4 := HB3.out.trans (hb3.mono (by first | omega | (simp <;> omega)))
                obtain ⟨hc3, hz3⟩ := bcell hb4
                have ht4 := hb3.size
                try simp at ht4
                have hs5 : wr.heap.size ≤ w4.heap.size := by omega
                have hs7 : w.heap.size < w4.heap.size := by omega
                have HB5 : Hid (Below wo.heap.size wo w4) := HB4.out.trans (hb3.mono HB4.out.size)
                clear hb3 hb4 HB3 HB4
                cases hv2 : validL { lo := f.to_.lo, hi := f.to_.hi }
                · have hV := hide (show rangedL r = false by
                    have := H3.out; subst this; simp only [rangedL, all_false pauseV r.pauses k hlt (by simp only [pauseV]; rw [show validL r.pauses[k].to_ = false from hv2]; simp only [Bool.and_false]), Bool.and_false])
                  go_wp2
                  go_ret
                  exact ⟨by rw [hV.out]; rfl, by repeat (first | with_reducible exact (HW.out.trans (HB5.out.mono HW.out.size)) | with_reducible refine Below.setCell ?_ ?_ _ | with_reducible refine Below.alloc ?_ ?_ _ | with_reducible refine Below.drew ?_ | with_reducible refine below_drewN ?_ _ | omega | (simp <;> omega))⟩
                · go_wp2
                  try rw [e0]
                  go_roundw
                  case rel =>
                    refine ⟨k+1, by omega, by go_num, HB5.out, ?_⟩
                    intro j h hj
                    by_cases e : j = k
                    · subst e; have := H3.out; subst this; simp only [pauseV]; rw [show validL r.pauses[j].from_ = true from hv1, show validL r.pauses[j].to_ = true from hv2]; rfl
                    · exact hno.out j h (by omega)
                  case measure => simp [intOf]; omega
            · obtain rfl : k = r.pauses.length := by omega
              have hV := hide (show rangedL r = true by
                rw [rangedL, hLt.out, all_true pauseV r.pauses (fun j hj => hno.out j hj hj), hV'.out]; rfl)
              go_wp2
              go_ret
              exact ⟨by rw [hV.out]; rfl, by repeat (first | with_reducible exact (HW.out.trans (HB.out.mono HW.out.size)) | with_reducible refine Below.setCell ?_ ?_ _ | with_reducible refine Below.alloc ?_ ?_ _ | with_reducible refine Below.drew ?_ | with_reducible refine below_drewN ?_ _ | omega | (simp <;> omega))⟩
end Go.Proofs.Ytfpdhalfkfffnaa
