import Derived.Test.YtfpdhalfkfffnaaPq
namespace Go.Proofs.Ytfpdhalfkfffnaa
open Go.RowKit
set_option linter.unusedVariables false
set_option linter.unusedSimpArgs false
set_option linter.unnecessarySimpa false

set_option maxHeartbeats 8000000 in
theorem qcheck_c (r : RideS) (w : World) (H : RideS.ok w r) : Calls Try.prog 21 #[RV r] w (Ret w (.int .i64 (checkL r))) := by
  have HH := hide H; clear H
  go_enter Try.func21, Try.ntmps21
  go_wp2_with fail
  refine (qranged_c r _ ?_).mono ?_
  · exact RideS.ok_below (by repeat (first | with_reducible exact (Below.refl _ _) | with_reducible refine Below.setCell ?_ ?_ _ | with_reducible refine Below.alloc ?_ ?_ _ | with_reducible refine Below.drew ?_ | with_reducible refine below_drewN ?_ _ | omega | (simp <;> omega))) HH.out
  rintro e w1 ⟨rfl, hb⟩
  obtain ⟨hc0, hz0⟩ := bcell hb
  have hs0 := hb.size
  try simp at hs0
  have hq0 : w.heap.size < w1.heap.size := by omega
  have HB1 : Hid (Below w.heap.size w w1) := (show Below w.heap.size w _ by repeat (first | with_reducible exact (Below.refl _ _) | with_reducible refine Below.setCell ?_ ?_ _ | with_reducible refine Below.alloc ?_ ?_ _ | with_reducible refine Below.drew ?_ | with_reducible refine below_drewN ?_ _ | omega | (simp <;> omega))).trans (hb.mono (by first | omega | (simp <;> omega)))
  clear hb
  cases hr1 : rangedL r
  · have hV := hide (show checkL r = 1 by simp [checkL, hr1])
    go_wp2
    go_ret
    exact ⟨by rw [hV.out]; rfl, by repeat (first | with_reducible exact HB1.out | with_reducible refine Below.setCell ?_ ?_ _ | with_reducible refine Below.alloc ?_ ?_ _ | with_reducible refine Below.drew ?_ | with_reducible refine below_drewN ?_ _ | omega | (simp <;> omega))⟩
  · go_wp2_with fail
    refine (qjoined_c r _ ?_).mono ?_
    · exact RideS.ok_below (by repeat (first | with_reducible exact HB1.out | with_reducible refine Below.setCell ?_ ?_ _ | with_reducible refine Below.alloc ?_ ?_ _ | with_reducible refine Below.drew ?_ | with_reducible refine below_drewN ?_ _ | omega | (simp <;> omega))) HH.out
    rintro e w2 ⟨rfl, hb⟩
    obtain ⟨hc1, hz1⟩ := bcell hb
    have hs1 := hb.size
    try simp at hs1
    have hq1 : w.heap.size < w2.heap.size := by omega
    have HB2 : Hid (Below w.heap.size w w2) := (show Below w.heap.size w _ by repeat (first | with_reducible exact HB1.out | with_reducible refine Below.setCell ?_ ?_ _ | with_reducible refine Below.alloc ?_ ?_ _ | with_reducible refine Below.drew ?_ | with_reducible refine below_drewN ?_ _ | omega | (simp <;> omega))).trans (hb.mono (by first | omega | (simp <;> omega)))
    clear hb
    cases hr2 : joinedL r
    · have hV := hide (show checkL r = 3 by simp [checkL, hr1, hr2])
      go_wp2
      go_ret
      exact ⟨by rw [hV.out]; rfl, by repeat (first | with_reducible exact HB2.out | with_reducible refine Below.setCell ?_ ?_ _ | with_reducible refine Below.alloc ?_ ?_ _ | with_reducible refine Below.drew ?_ | with_reducible refine below_drewN ?_ _ | omega | (simp <;> omega))⟩
    · go_wp2_with fail
      refine (qorderedC r _ ?_ hr2).mono ?_
      · exact RideS.ok_below (by repeat (first | with_reducible exact HB2.out | with_reducible refine Below.setCell ?_ ?_ _ | with_reducible refine Below.alloc ?_ ?_ _ | with_reducible refine Below.drew ?_ | with_reducible refine below_drewN ?_ _ | omega | (simp <;> omega))) HH.out
      rintro e w3 ⟨rfl, hb⟩
      obtain ⟨hc2, hz2⟩ := bcell hb
      have hs2 := hb.size
      try simp at hs2
      have hq2 : w.heap.size < w3.heap.size := by omega
      have HB3 : Hid (Below w.heap.size w w3) := (show Below w.heap.size w _ by repeat (first | with_reducible exact HB2.out | with_reducible refine Below.setCell ?_ ?_ _ | with_reducible refine Below.alloc ?_ ?_ _ | with_reducible refine Below.drew ?_ | with_reducible refine below_drewN ?_ _ | omega | (simp <;> omega))).trans (hb.mono (by first | omega | (simp <;> omega)))
      clear hb
      cases hr3 : orderedL r
      · have hV := hide (show checkL r = 9 by simp [checkL, hr1, hr2, hr3])
        go_wp2
        go_ret
        exact ⟨by rw [hV.out]; rfl, by repeat (first | with_reducible exact HB3.out | with_reducible refine Below.setCell ?_ ?_ _ | with_reducible refine Below.alloc ?_ ?_ _ | with_reducible refine Below.drew ?_ | with_reducible refine below_drewN ?_ _ | omega | (simp <;> omega))⟩
      · have hV := hide (show checkL r = if badL r = true then 12 else 0 by simp [checkL, hr1, hr2, hr3])
        cases ho : r.open_
        · have he : True := trivial
          by_cases hw : r.where_ = 3
          · have hw' : (r.where_ == 3) = true := by rw [hw]; rfl
            have hb := hide (show badL r = true by simp [badL, ho, hw', he])
            go_wp2
            go_ret
            exact ⟨by rw [hV.out, hb.out]; rfl, by repeat (first | with_reducible exact HB3.out | with_reducible refine Below.setCell ?_ ?_ _ | with_reducible refine Below.alloc ?_ ?_ _ | with_reducible refine Below.drew ?_ | with_reducible refine below_drewN ?_ _ | omega | (simp <;> omega))⟩
          · have hw' : (r.where_ == 3) = false := by rw [beq_eq_false_iff_ne]; exact hw
            have hb := hide (show badL r = false by simp [badL, ho, hw', he])
            go_wp2
            go_ret
            exact ⟨by rw [hV.out, hb.out]; rfl, by repeat (first | with_reducible exact HB3.out | with_reducible refine Below.setCell ?_ ?_ _ | with_reducible refine Below.alloc ?_ ?_ _ | with_reducible refine Below.drew ?_ | with_reducible refine below_drewN ?_ _ | omega | (simp <;> omega))⟩
        · by_cases h1 : r.end_.lo = 0
          · by_cases h2 : r.end_.hi = 0
            · have he : eqS r.end_ ⟨0, 0⟩ = true := by simp [eqS, h1, h2]
              by_cases hw : r.where_ = 3
              · have hw' : (r.where_ == 3) = true := by rw [hw]; rfl
                have hb := hide (show badL r = false by simp [badL, ho, hw', he])
                go_wp2
                go_ret
                exact ⟨by rw [hV.out, hb.out]; rfl, by repeat (first | with_reducible exact HB3.out | with_reducible refine Below.setCell ?_ ?_ _ | with_reducible refine Below.alloc ?_ ?_ _ | with_reducible refine Below.drew ?_ | with_reducible refine below_drewN ?_ _ | omega | (simp <;> omega))⟩
              · have hw' : (r.where_ == 3) = false := by rw [beq_eq_false_iff_ne]; exact hw
                have hb := hide (show badL r = true by simp [badL, ho, hw', he])
                go_wp2
                go_ret
                exact ⟨by rw [hV.out, hb.out]; rfl, by repeat (first | with_reducible exact HB3.out | with_reducible refine Below.setCell ?_ ?_ _ | with_reducible refine Below.alloc ?_ ?_ _ | with_reducible refine Below.drew ?_ | with_reducible refine below_drewN ?_ _ | omega | (simp <;> omega))⟩
            · have he : eqS r.end_ ⟨0, 0⟩ = false := by simp [eqS, h1, h2]
              by_cases hw : r.where_ = 3
              · have hw' : (r.where_ == 3) = true := by rw [hw]; rfl
                have hb := hide (show badL r = true by simp [badL, ho, hw', he])
                go_wp2
                go_ret
                exact ⟨by rw [hV.out, hb.out]; rfl, by repeat (first | with_reducible exact HB3.out | with_reducible refine Below.setCell ?_ ?_ _ | with_reducible refine Below.alloc ?_ ?_ _ | with_reducible refine Below.drew ?_ | with_reducible refine below_drewN ?_ _ | omega | (simp <;> omega))⟩
              · have hw' : (r.where_ == 3) = false := by rw [beq_eq_false_iff_ne]; exact hw
                have hb := hide (show badL r = true by simp [badL, ho, hw', he])
                go_wp2
                go_ret
                exact ⟨by rw [hV.out, hb.out]; rfl, by repeat (first | with_reducible exact HB3.out | with_reducible refine Below.setCell ?_ ?_ _ | with_reducible refine Below.alloc ?_ ?_ _ | with_reducible refine Below.drew ?_ | with_reducible refine below_drewN ?_ _ | omega | (simp <;> omega))⟩
          · have he : eqS r.end_ ⟨0, 0⟩ = false := by simp [eqS, h1]
            by_cases hw : r.where_ = 3
            · have hw' : (r.where_ == 3) = true := by rw [hw]; rfl
              have hb := hide (show badL r = true by simp [badL, ho, hw', he])
              go_wp2
              go_ret
              exact ⟨by rw [hV.out, hb.out]; rfl, by repeat (first | with_reducible exact HB3.out | with_reducible refine Below.setCell ?_ ?_ _ | with_reducible refine Below.alloc ?_ ?_ _ | with_reducible refine Below.drew ?_ | with_reducible refine below_drewN ?_ _ | omega | (simp <;> omega))⟩
            · have hw' : (r.where_ == 3) = false := by rw [beq_eq_false_iff_ne]; exact hw
              have hb := hide (show badL r = true by simp [badL, ho, hw', he])
              go_wp2
              go_ret
              exact ⟨by rw [hV.out, hb.out]; rfl, by repeat (first | with_reducible exact HB3.out | with_reducible refine Below.setCell ?_ ?_ _ | with_reducible refine Below.alloc ?_ ?_ _ | with_reducible refine Below.drew ?_ | with_reducible refine below_drewN ?_ _ | omega | (simp <;> omega))⟩



end Go.Proofs.Ytfpdhalfkfffnaa
