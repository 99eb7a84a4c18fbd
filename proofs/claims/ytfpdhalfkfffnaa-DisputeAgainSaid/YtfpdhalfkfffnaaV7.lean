import Derived.Test.YtfpdhalfkfffnaaV6
namespace Go.Proofs.Ytfpdhalfkfffnaa
open Go.RowKit
set_option linter.unusedVariables false
set_option linter.unusedSimpArgs false
set_option linter.unnecessarySimpa false

theorem fewRL_no (l : List RideS) (most : Int) (k : Nat) (h : k < l.length) (h2 : ¬ (l[k].legs.length ≤ 40 ∧ l[k].pauses.length ≤ 40)) : fewRL l most = false := by
  simp only [fewRL, Bool.and_eq_false_iff]; left
  rw [List.all_eq_false]
  exact ⟨l[k], List.getElem_mem h, by simp only [Bool.and_eq_true, decide_eq_true_eq]; exact h2⟩
theorem fewRL_yes (l : List RideS) (most : Int) (h : ∀ j (hj : j < l.length), l[j].legs.length ≤ 40 ∧ l[j].pauses.length ≤ 40) : fewRL l most = decide ((l.length : Int) ≤ most) := by
  have : l.all (fun r => decide (r.legs.length ≤ 40) && decide (r.pauses.length ≤ 40)) = true := by
    rw [List.all_eq_true]; intro x hx
    obtain ⟨j, hj, rfl⟩ := List.getElem_of_mem hx
    simp only [Bool.and_eq_true, decide_eq_true_eq]; exact h j hj
  simp only [fewRL, this, Bool.true_and]
theorem ridesLen {w : World} {x : RideS} (h : RideS.ok w x) : x.legs.length ≤ 9223372036854775807 ∧ x.pauses.length ≤ 9223372036854775807 := by
  obtain ⟨-, -, -, -, ⟨h1, h2, -⟩, ⟨h3, h4, -⟩, -⟩ := h
  unfold maxLen at h2 h4
  omega
theorem RideS.sl_one {X : World} {g : Nat} {r : RideS} (hg : g < X.heap.size) (hat : RideS.at X g 0 r) (hok : RideS.ok X r) : RideS.sl X (some ⟨g, 0, none⟩) 1 [r] := by
  refine ⟨Nat.le_refl _, by unfold maxLen; simp, nofun, fun _ => ⟨g, 0, rfl, hg, ?_⟩, ?_⟩
  · intro i h
    obtain rfl : i = 0 := by simp at h; exact h
    simpa using hat
  · intro x hx; simp at hx; subst hx; exact hok
set_option maxRecDepth 100000 in
set_option maxHeartbeats 1600000 in
theorem fewR_c (a : Option Addr) (cap : Nat) (l : List RideS) (most : Int) (w : World) (H : RideS.sl w a cap l) : Calls Try.prog 25 #[.slice a l.length cap, .int .i64 most] w (Ret w (.bool (fewRL l most))) := by
  obtain ⟨h1, h2, -, hL, hok⟩ := H
  have HOK := hide hok; clear hok
  have hlen := Nat.le_trans h1 h2
  unfold maxLen at hlen
  clear h1 h2
  go_enter Try.func25, Try.ntmps25
  go_wp2_with fail
  go_loopw [5] (fun i wr => ∃ k : Nat, k ≤ l.length ∧ i = .int .i64 k ∧ Below w.heap.size w wr ∧ Hid (∀ j (hj : j < l.length), j < k → l[j].legs.length ≤ 40 ∧ l[j].pauses.length ≤ 40)) (fun i wr => l.length - (intOf i).toNat)
  case atStart => exact ⟨0, Nat.zero_le _, rfl, Below.refl _ _, fun _ _ h => absurd h (Nat.not_lt_zero _)⟩
  case round =>
    obtain ⟨k, hk, rfl, hb, hno⟩ := hrel
    obtain ⟨hd, hy⟩ := bcell hb
    have HB := hide hb; clear hb
    by_cases hlt : k < l.length
    · obtain ⟨ab, ao, ae, abw, af⟩ := hL (by omega)
      obtain ⟨f0, f1, f2, f3, f4, f5, f6, f7, f8, f9, f10, f11, f12⟩ := af k hlt
      have hln := ridesLen (HOK.out l[k] (List.getElem_mem hlt))
      generalize hx : l[k] = x at *
      have HX := hide hx; clear hx af
      obtain ⟨hl1, hl2⟩ := hln
      by_cases h1 : x.legs.length ≤ 40
      · have d1 : decide ((40 : Int) < x.legs.length) = false := by rw [decide_eq_false_iff_not]; omega
        by_cases h2 : x.pauses.length ≤ 40
        · have d2 : decide ((40 : Int) < x.pauses.length) = false := by rw [decide_eq_false_iff_not]; omega
          have HE := hide (And.intro h1 h2)
          go_wp2
          try rw [ae]
          go_roundw
          case rel =>
            refine ⟨k+1, by omega, by go_num, ?_, ?_⟩
            · repeat (first | with_reducible exact (HB.out) | with_reducible refine Below.setCell ?_ ?_ _ | with_reducible refine Below.alloc ?_ ?_ _ | with_reducible refine Below.drew ?_ | with_reducible refine below_drewN ?_ _ | omega | (simp <;> omega))
            · intro j h hj
              by_cases e : j = k
              · subst e; rw [HX.out]; exact HE.out
              · exact hno.out j h (by omega)
          case measure => simp [intOf]; omega
        · have d2 : decide ((40 : Int) < x.pauses.length) = true := by rw [decide_eq_true_eq]; omega
          have hV := hide (fewRL_no l most k hlt (by rw [HX.out]; omega))
          clear hno HX
          go_wp2
          go_ret
          exact ⟨by rw [hV.out]; rfl, by repeat (first | with_reducible exact (HB.out) | with_reducible refine Below.setCell ?_ ?_ _ | with_reducible refine Below.alloc ?_ ?_ _ | with_reducible refine Below.drew ?_ | with_reducible refine below_drewN ?_ _ | omega | (simp <;> omega))⟩
      · have d1 : decide ((40 : Int) < x.legs.length) = true := by rw [decide_eq_true_eq]; omega
        have hV := hide (fewRL_no l most k hlt (by rw [HX.out]; omega))
        clear hno HX
        go_wp2
        go_ret
        exact ⟨by rw [hV.out]; rfl, by repeat (first | with_reducible exact (HB.out) | with_reducible refine Below.setCell ?_ ?_ _ | with_reducible refine Below.alloc ?_ ?_ _ | with_reducible refine Below.drew ?_ | with_reducible refine below_drewN ?_ _ | omega | (simp <;> omega))⟩
    · have hV := hide (fewRL_yes l most (fun j hj => hno.out j hj (by omega)))
      clear hno
      go_wp2
      go_ret
      exact ⟨by rw [hV.out]; rfl, by repeat (first | with_reducible exact (HB.out) | with_reducible refine Below.setCell ?_ ?_ _ | with_reducible refine Below.alloc ?_ ?_ _ | with_reducible refine Below.drew ?_ | with_reducible refine below_drewN ?_ _ | omega | (simp <;> omega))⟩
set_option maxRecDepth 100000 in
set_option maxHeartbeats 1600000 in
theorem light_c (r : RideS) (w : World) (H : RideS.ok w r) : Calls Try.prog 10 #[RV r] w (Ret w (.bool (fewRL [r] 1))) := by
  have HH := hide H; clear H
  go_enter Try.func10, Try.ntmps10
  go_wp2_with fail
  refine (fewR_c (some ⟨w.heap.size + 1, 0, none⟩) 1 [r] 1 _ ?_).mono ?_
  · exact RideS.sl_one (by simp) (by unfold RideS.at; go_simp) (RideS.ok_below (by repeat (first | with_reducible exact (Below.refl _ _) | with_reducible refine Below.setCell ?_ ?_ _ | with_reducible refine Below.alloc ?_ ?_ _ | with_reducible refine Below.drew ?_ | with_reducible refine below_drewN ?_ _ | omega | (simp <;> omega))) HH.out)
  rintro e w1 ⟨rfl, hb⟩
  obtain ⟨hc1, hz1⟩ := bcell hb
  have hs1 := hb.size
  try simp at hs1
  have HW1 : Hid (Below w.heap.size w w1) := (show Below w.heap.size w _ by repeat (first | with_reducible exact (Below.refl _ _) | with_reducible refine Below.setCell ?_ ?_ _ | with_reducible refine Below.alloc ?_ ?_ _ | with_reducible refine Below.drew ?_ | with_reducible refine below_drewN ?_ _ | omega | (simp <;> omega))).trans (hb.mono (by first | omega | (simp <;> omega)))
  clear hb
  obtain ⟨he1, hef1⟩ := bcell HW1.out
  go_wp2
  go_ret
  exact ⟨rfl, by repeat (first | with_reducible exact (HW1.out) | with_reducible refine Below.setCell ?_ ?_ _ | with_reducible refine Below.alloc ?_ ?_ _ | with_reducible refine Below.drew ?_ | with_reducible refine below_drewN ?_ _ | omega | (simp <;> omega))⟩


end Go.Proofs.Ytfpdhalfkfffnaa
