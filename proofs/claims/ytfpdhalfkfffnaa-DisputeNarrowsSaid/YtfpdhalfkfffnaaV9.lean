import Derived.Test.YtfpdhalfkfffnaaV8
import Derived.Test.YtfpdhalfkfffnaaW8
namespace Go.Proofs.Ytfpdhalfkfffnaa
open Go.RowKit
set_option linter.unusedVariables false
set_option linter.unusedSimpArgs false
set_option linter.unnecessarySimpa false

def markOrd (r : RideS) (i : Nat) : Prop := ∀ h : i < (marksL r).length, (i = 0 → r.start.lo ≤ (marksL r)[i]) ∧ (∀ h2 : 0 < i, (marksL r)[i - 1] ≤ (marksL r)[i]) ∧ (r.open_ = false → (marksL r)[i] ≤ r.end_.lo)
open Classical in
noncomputable def qorderedL (r : RideS) : Bool := decide (∀ k, legOrd r k) && decide (∀ i, markOrd r i)
theorem qordered_noleg {r : RideS} (k : Nat) (h : ¬ legOrd r k) : qorderedL r = false := by
  have : ¬ ∀ k, legOrd r k := fun hh => h (hh k)
  simp [qorderedL, this]
theorem qordered_nomark {r : RideS} (k : Nat) (h : ¬ markOrd r k) : qorderedL r = false := by
  have : ¬ ∀ k, markOrd r k := fun hh => h (hh k)
  simp [qorderedL, this]
theorem qordered_yes {r : RideS} (h0 : ∀ k, legOrd r k) (h : ∀ k, markOrd r k) : qorderedL r = true := by
  simp [qorderedL, h0, h]
set_option maxRecDepth 100000 in
set_option maxHeartbeats 8000000 in
theorem qordered_c (r : RideS) (w : World) (H : RideS.ok w r) (hlim : r.pauses.length ≤ 512) : Calls Try.prog 38 #[RV r] w (Ret w (.bool (qorderedL r))) := by
  have HH := hide H
  obtain ⟨h1, h2, h3, h4, hL, hP, -⟩ := H
  clear h1 h2 h3 h4 hP
  obtain ⟨hl1, hl2, -, hL, -⟩ := hL
  have hlen := Nat.le_trans hl1 hl2
  unfold maxLen at hlen
  clear hl1 hl2
  go_enter Try.func38, Try.ntmps38
  go_wp2_with fail
  refine wp_world ?_
  intro W0 hW0
  have hW0c0 := fun b o => congrArg (fun x => World.cell? x ⟨b, o, none⟩) hW0
  have hW0f0 := fun b o => congrArg (fun x => World.frozen? x ⟨b, o, none⟩) hW0
  have hW0s0 := congrArg (fun x => x.heap.size) hW0
  try simp only at hW0c0 hW0f0
  try simp at hW0s0
  have HB0 := hide (show Below w.heap.size w W0 by rw [hW0]; repeat (first | with_reducible exact (Below.refl _ _) | with_reducible refine Below.setCell ?_ ?_ _ | with_reducible refine Below.alloc ?_ ?_ _ | with_reducible refine Below.drew ?_ | with_reducible refine below_drewN ?_ _ | omega | (simp <;> omega)))
  clear hW0
  go_loopw [3] (fun i wr => ∃ k : Nat, k ≤ r.legs.length ∧ i = .int .i64 k ∧ Below W0.heap.size W0 wr ∧ Hid (∀ j, j < k → legOrd r j)) (fun i wr => r.legs.length - (intOf i).toNat)
  case atStart => exact ⟨0, Nat.zero_le _, rfl, Below.refl _ _, fun _ h => absurd h (Nat.not_lt_zero _)⟩
  case round =>
    obtain ⟨k, hk, rfl, hb, hno⟩ := hrel
    obtain ⟨hd0, hy0⟩ := bcell hb
    have ht0 := hb.size
    have hq0_0 : w.heap.size < wr.heap.size := by omega
    have HW0 : Hid (Below w.heap.size w wr) := HB0.out.trans (hb.mono HB0.out.size)
    have HB := hide hb; clear hb
    obtain ⟨he0, hef0⟩ := bcell HW0.out
    have hwl : 0 < r.legs.length → IntKind.i64.wrap ((r.legs.length : Int) - 1) = (r.legs.length : Int) - 1 := fun _ => IntWalk.i64_in _ (by omega)
    by_cases hlt : k < r.legs.length
    · have hwl := hwl (by omega)
      obtain ⟨b, o, e0, hbw, hf⟩ := hL (by omega)
      obtain ⟨f0, f1, f2, f3, f4⟩ := hf k hlt
      generalize hfk : r.legs[k] = f at *
      have H3 := hide hfk; clear hfk hf
      by_cases hl : (r.legs.length : Int) - 1 = k
      · have l1 : ((k : Int) == (r.legs.length : Int) - 1) = true := by rw [beq_iff_eq]; omega
        have HL := hide hl; clear hl
        cases ho : r.open_
        · by_cases q : f.to_.lo < f.from_.lo
          · have q1 : decide (f.to_.lo < f.from_.lo) = true := by rw [decide_eq_true_eq]; exact q
            have hV := hide (show qorderedL r = false from qordered_noleg k (by intro hh; have := hh hlt; rw [H3.out, ho] at this; simp at this; omega))
            clear hno H3
            go_wp2
            go_quiet (fail)
            go_wp2
            try rw [e0]
            go_ret
            exact ⟨by rw [hV.out]; rfl, by repeat (first | with_reducible exact (HW0.out) | with_reducible refine Below.setCell ?_ ?_ _ | with_reducible refine Below.alloc ?_ ?_ _ | with_reducible refine Below.drew ?_ | with_reducible refine below_drewN ?_ _ | omega | (simp <;> omega))⟩
          · have q1 : decide (f.to_.lo < f.from_.lo) = false := by rw [decide_eq_false_iff_not]; exact q
            have HE := hide (show f.from_.lo ≤ f.to_.lo ∨ (r.open_ = true ∧ k + 1 = r.legs.length) from .inl (by omega))
            go_wp2
            go_quiet (fail)
            go_wp2
            try rw [e0]
            go_roundw
            case rel =>
              refine ⟨k+1, by omega, by go_num, ?_, ?_⟩
              · repeat (first | with_reducible exact (HB.out) | with_reducible refine Below.setCell ?_ ?_ _ | with_reducible refine Below.alloc ?_ ?_ _ | with_reducible refine Below.drew ?_ | with_reducible refine below_drewN ?_ _ | omega | (simp <;> omega))
              · intro j hj
                by_cases e : j = k
                · subst e; intro hh; have := H3.out; subst this; exact HE.out
                · exact hno.out j (by omega)
            case measure => simp [intOf]; omega
        · have HE := hide (show f.from_.lo ≤ f.to_.lo ∨ (r.open_ = true ∧ k + 1 = r.legs.length) from .inr ⟨ho, by have := HL.out; omega⟩)
          go_wp2
          go_quiet (fail)
          go_wp2
          try rw [e0]
          go_roundw
          case rel =>
            refine ⟨k+1, by omega, by go_num, ?_, ?_⟩
            · repeat (first | with_reducible exact (HB.out) | with_reducible refine Below.setCell ?_ ?_ _ | with_reducible refine Below.alloc ?_ ?_ _ | with_reducible refine Below.drew ?_ | with_reducible refine below_drewN ?_ _ | omega | (simp <;> omega))
            · intro j hj
              by_cases e : j = k
              · subst e; intro hh; have := H3.out; subst this; exact HE.out
              · exact hno.out j (by omega)
          case measure => simp [intOf]; omega
      · have l1 : ((k : Int) == (r.legs.length : Int) - 1) = false := by rw [beq_eq_false_iff_ne]; omega
        by_cases q : f.to_.lo < f.from_.lo
        · have q1 : decide (f.to_.lo < f.from_.lo) = true := by rw [decide_eq_true_eq]; exact q
          have hV := hide (show qorderedL r = false from qordered_noleg k (by intro hh; have := hh hlt; rw [H3.out] at this; omega))
          clear hno H3
          go_wp2
          go_quiet (fail)
          go_wp2
          try rw [e0]
          go_ret
          exact ⟨by rw [hV.out]; rfl, by repeat (first | with_reducible exact (HW0.out) | with_reducible refine Below.setCell ?_ ?_ _ | with_reducible refine Below.alloc ?_ ?_ _ | with_reducible refine Below.drew ?_ | with_reducible refine below_drewN ?_ _ | omega | (simp <;> omega))⟩
        · have q1 : decide (f.to_.lo < f.from_.lo) = false := by rw [decide_eq_false_iff_not]; exact q
          have HE := hide (show f.from_.lo ≤ f.to_.lo ∨ (r.open_ = true ∧ k + 1 = r.legs.length) from .inl (by omega))
          go_wp2
          go_quiet (fail)
          go_wp2
          try rw [e0]
          go_roundw
          case rel =>
            refine ⟨k+1, by omega, by go_num, ?_, ?_⟩
            · repeat (first | with_reducible exact (HB.out) | with_reducible refine Below.setCell ?_ ?_ _ | with_reducible refine Below.alloc ?_ ?_ _ | with_reducible refine Below.drew ?_ | with_reducible refine below_drewN ?_ _ | omega | (simp <;> omega))
            · intro j hj
              by_cases e : j = k
              · subst e; intro hh; have := H3.out; subst this; exact HE.out
              · exact hno.out j (by omega)
          case measure => simp [intOf]; omega
    · obtain rfl : k = r.legs.length := by omega
      have hLt := hide (show ∀ j, legOrd r j from fun j hj => hno.out j hj hj)
      clear hno hL hwl
      go_wp2_with fail
      refine (marks_c r _ (RideS.ok_below HW0.out HH.out) hlim).mono ?_
      rintro e w1 ⟨ma, mc, rfl, hb, hsl⟩
      obtain ⟨hc1, hz1⟩ := bcell hb
      have hs1 := hb.size
      try simp at hs1
      have hqw_1 : w.heap.size < w1.heap.size := by omega
      have hps := (HW0.out).size
      have HW1 : Hid (Below w.heap.size w w1) := (show Below w.heap.size w _ by repeat (first | with_reducible exact (HW0.out) | with_reducible refine Below.setCell ?_ ?_ _ | with_reducible refine Below.alloc ?_ ?_ _ | with_reducible refine Below.drew ?_ | with_reducible refine below_drewN ?_ _ | omega | (simp <;> omega))).trans (hb.mono (by first | omega | (simp <;> omega)))
      have HSL := hide hsl; clear hsl
      clear hb hps
      obtain ⟨he1, hef1⟩ := bcell HW1.out
      obtain ⟨hm1, hm2, -, hM, hI⟩ := HSL.out
      have hlem := Nat.le_trans hm1 hm2
      unfold maxLen at hlem
      clear hm1 hm2 HSL HB
      generalize hml : marksL r = ml at *
      have HML := hide hml; clear hml hI
      go_wp2_with fail
      refine wp_world ?_
      intro W2 hW0
      have hW0c2 := fun b o => congrArg (fun x => World.cell? x ⟨b, o, none⟩) hW0
      have hW0f2 := fun b o => congrArg (fun x => World.frozen? x ⟨b, o, none⟩) hW0
      have hW0s2 := congrArg (fun x => x.heap.size) hW0
      try simp only at hW0c2 hW0f2
      try simp at hW0s2
      have HB2 := hide (show Below w.heap.size w W2 by rw [hW0]; repeat (first | with_reducible exact (HW1.out) | with_reducible refine Below.setCell ?_ ?_ _ | with_reducible refine Below.alloc ?_ ?_ _ | with_reducible refine Below.drew ?_ | with_reducible refine below_drewN ?_ _ | omega | (simp <;> omega)))
      clear hW0
      go_loopw [6] (fun i wr => ∃ k : Nat, k ≤ ml.length ∧ i = .int .i64 k ∧ Below W2.heap.size W2 wr ∧ Hid (∀ j, j < k → markOrd r j)) (fun i wr => ml.length - (intOf i).toNat)
      case atStart => exact ⟨0, Nat.zero_le _, rfl, Below.refl _ _, fun _ h => absurd h (Nat.not_lt_zero _)⟩
      case round =>
        obtain ⟨k, hk, rfl, hb, hno⟩ := hrel
        obtain ⟨hd2, hy2⟩ := bcell hb
        have ht2 := hb.size
        have hq0_2 : w.heap.size < wr.heap.size := by omega
        have HW2 : Hid (Below w.heap.size w wr) := HB2.out.trans (hb.mono HB2.out.size)
        have HB := hide hb; clear hb
        obtain ⟨he2, hef2⟩ := bcell HW2.out
        by_cases hlt : k < ml.length
        · obtain ⟨b, o, e0, hbw, hf⟩ := hM (by omega)
          have f0 := hf k hlt
          have hlt' : k < (marksL r).length := by rw [HML.out]; exact hlt
          by_cases hk0 : k = 0
          · subst hk0
            simp only [Nat.add_zero] at f0
            have H3 := hide (show (marksL r)[0] = ml[0] by simp only [HML.out])
            generalize ml[0] = x at *
            clear hf hM
            have l0 : (((0 : Nat) : Int) == 0) = true := rfl
            have l1 : decide ((0 : Int) < ((0 : Nat) : Int)) = false := rfl
            by_cases q : x < r.start.lo
            · have q1 : decide (x < r.start.lo) = true := by rw [decide_eq_true_eq]; exact q
              have hV := hide (show qorderedL r = false from qordered_nomark 0 (by intro hh; have := (hh hlt').1 rfl; rw [H3.out] at this; omega))
              clear hno H3
              go_wp2
              go_quiet (fail)
              go_wp2
              go_ret
              exact ⟨by rw [hV.out]; rfl, by repeat (first | with_reducible exact (HW2.out) | with_reducible refine Below.setCell ?_ ?_ _ | with_reducible refine Below.alloc ?_ ?_ _ | with_reducible refine Below.drew ?_ | with_reducible refine below_drewN ?_ _ | omega | (simp <;> omega))⟩
            · have q1 : decide (x < r.start.lo) = false := by rw [decide_eq_false_iff_not]; exact q
              cases ho : r.open_
              · by_cases q2 : r.end_.lo < x
                · have e2 : decide (r.end_.lo < x) = true := by rw [decide_eq_true_eq]; exact q2
                  have hV := hide (show qorderedL r = false from qordered_nomark 0 (by intro hh; have := (hh hlt').2.2 ho; rw [H3.out] at this; omega))
                  clear hno H3
                  go_wp2
                  go_quiet (fail)
                  go_wp2
                  go_ret
                  exact ⟨by rw [hV.out]; rfl, by repeat (first | with_reducible exact (HW2.out) | with_reducible refine Below.setCell ?_ ?_ _ | with_reducible refine Below.alloc ?_ ?_ _ | with_reducible refine Below.drew ?_ | with_reducible refine below_drewN ?_ _ | omega | (simp <;> omega))⟩
                · have e2 : decide (r.end_.lo < x) = false := by rw [decide_eq_false_iff_not]; exact q2
                  have HE := hide (show markOrd r 0 by intro h; rw [H3.out]; exact ⟨fun _ => by omega, fun h => absurd h (Nat.lt_irrefl 0), fun _ => by omega⟩)
                  go_wp2
                  go_quiet (fail)
                  go_wp2
                  try rw [e0]
                  go_roundw
                  case rel =>
                    refine ⟨0 + 1, by omega, by go_num, ?_, ?_⟩
                    · repeat (first | with_reducible exact (HB.out) | with_reducible refine Below.setCell ?_ ?_ _ | with_reducible refine Below.alloc ?_ ?_ _ | with_reducible refine Below.drew ?_ | with_reducible refine below_drewN ?_ _ | omega | (simp <;> omega))
                    · intro j hj
                      by_cases e : j = 0
                      · subst e; exact HE.out
                      · exact hno.out j (by omega)
                  case measure => simp [intOf]; omega
              · have HE := hide (show markOrd r 0 by intro h; rw [H3.out]; exact ⟨fun _ => by omega, fun h => absurd h (Nat.lt_irrefl 0), fun h => by rw [ho] at h; cases h⟩)
                go_wp2
                go_quiet (fail)
                go_wp2
                try rw [e0]
                go_roundw
                case rel =>
                  refine ⟨0 + 1, by omega, by go_num, ?_, ?_⟩
                  · repeat (first | with_reducible exact (HB.out) | with_reducible refine Below.setCell ?_ ?_ _ | with_reducible refine Below.alloc ?_ ?_ _ | with_reducible refine Below.drew ?_ | with_reducible refine below_drewN ?_ _ | omega | (simp <;> omega))
                  · intro j hj
                    by_cases e : j = 0
                    · subst e; exact HE.out
                    · exact hno.out j (by omega)
                case measure => simp [intOf]; omega
          · obtain ⟨k2, hk2⟩ : ∃ k2, k2 + 1 = k := ⟨k - 1, by omega⟩
            have f1 := hf k2 (by omega)
            have H3 := hide (show (marksL r)[k] = ml[k] by simp only [HML.out])
            have H4 := hide (show (marksL r)[k - 1]'(Nat.lt_of_le_of_lt (Nat.sub_le _ _) hlt') = ml[k2]'(by omega) by simp only [HML.out, ← hk2, Nat.add_sub_cancel])
            have f1 := f1
            generalize ml[k] = x at *
            generalize ml[k2]'(by omega) = y at *
            clear hf hM
            have l0 : ((k : Int) == 0) = false := by rw [beq_eq_false_iff_ne]; omega
            have l1 : decide ((0 : Int) < (k : Int)) = true := by rw [decide_eq_true_eq]; omega
            have l2 : IntKind.i64.wrap ((k : Int) - 1) = k2 := by rw [IntWalk.i64_in _ (by omega)]; omega
            have hk2lt : k2 < ml.length := by omega
            have hkpos : 0 < k := by omega
            clear hk2 hk0
            by_cases q : x < y
            · have q1 : decide (x < y) = true := by rw [decide_eq_true_eq]; exact q
              have hV := hide (show qorderedL r = false from qordered_nomark k (by intro hh; have := (hh hlt').2.1 (by omega); rw [H3.out, H4.out] at this; omega))
              clear hno H3
              go_wp2
              go_quiet (fail)
              go_wp2
              go_ret
              exact ⟨by rw [hV.out]; rfl, by repeat (first | with_reducible exact (HW2.out) | with_reducible refine Below.setCell ?_ ?_ _ | with_reducible refine Below.alloc ?_ ?_ _ | with_reducible refine Below.drew ?_ | with_reducible refine below_drewN ?_ _ | omega | (simp <;> omega))⟩
            · have q1 : decide (x < y) = false := by rw [decide_eq_false_iff_not]; exact q
              cases ho : r.open_
              · by_cases q2 : r.end_.lo < x
                · have e2 : decide (r.end_.lo < x) = true := by rw [decide_eq_true_eq]; exact q2
                  have hV := hide (show qorderedL r = false from qordered_nomark k (by intro hh; have := (hh hlt').2.2 ho; rw [H3.out] at this; omega))
                  clear hno H3
                  go_wp2
                  go_quiet (fail)
                  go_wp2
                  go_ret
                  exact ⟨by rw [hV.out]; rfl, by repeat (first | with_reducible exact (HW2.out) | with_reducible refine Below.setCell ?_ ?_ _ | with_reducible refine Below.alloc ?_ ?_ _ | with_reducible refine Below.drew ?_ | with_reducible refine below_drewN ?_ _ | omega | (simp <;> omega))⟩
                · have e2 : decide (r.end_.lo < x) = false := by rw [decide_eq_false_iff_not]; exact q2
                  have HE := hide (show markOrd r k by intro h; rw [H3.out]; exact ⟨fun h => absurd h (by omega), fun _ => by rw [H4.out]; omega, fun _ => by omega⟩)
                  go_wp2
                  go_quiet (fail)
                  go_wp2
                  try rw [e0]
                  go_roundw
                  case rel =>
                    refine ⟨k + 1, by omega, by go_num, ?_, ?_⟩
                    · repeat (first | with_reducible exact (HB.out) | with_reducible refine Below.setCell ?_ ?_ _ | with_reducible refine Below.alloc ?_ ?_ _ | with_reducible refine Below.drew ?_ | with_reducible refine below_drewN ?_ _ | omega | (simp <;> omega))
                    · intro j hj
                      by_cases e : j = k
                      · subst e; exact HE.out
                      · exact hno.out j (by omega)
                  case measure => simp [intOf]; omega
              · have HE := hide (show markOrd r k by intro h; rw [H3.out]; exact ⟨fun h => absurd h (by omega), fun _ => by rw [H4.out]; omega, fun h => by rw [ho] at h; cases h⟩)
                go_wp2
                go_quiet (fail)
                go_wp2
                try rw [e0]
                go_roundw
                case rel =>
                  refine ⟨k + 1, by omega, by go_num, ?_, ?_⟩
                  · repeat (first | with_reducible exact (HB.out) | with_reducible refine Below.setCell ?_ ?_ _ | with_reducible refine Below.alloc ?_ ?_ _ | with_reducible refine Below.drew ?_ | with_reducible refine below_drewN ?_ _ | omega | (simp <;> omega))
                  · intro j hj
                    by_cases e : j = k
                    · subst e; exact HE.out
                    · exact hno.out j (by omega)
                case measure => simp [intOf]; omega
        · obtain rfl : k = ml.length := by omega
          have hV := hide (qordered_yes hLt.out (fun j hj => hno.out j (by rw [HML.out] at hj; exact hj) hj))
          clear hno hLt
          go_wp2
          go_ret
          exact ⟨by rw [hV.out]; rfl, by repeat (first | with_reducible exact (HW2.out) | with_reducible refine Below.setCell ?_ ?_ _ | with_reducible refine Below.alloc ?_ ?_ _ | with_reducible refine Below.drew ?_ | with_reducible refine below_drewN ?_ _ | omega | (simp <;> omega))⟩


end Go.Proofs.Ytfpdhalfkfffnaa
