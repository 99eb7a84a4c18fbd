import Derived.Test.YtfpdhalfkfffnaaW3
namespace Go.Proofs.Ytfpdhalfkfffnaa
open Go.RowKit
set_option linter.unusedVariables false

def lastS (r : RideS) : Nat → Int
  | 0 => r.start.lo
  | k+1 => ((r.pauses[k]?).map (fun p => p.to_.lo)).getD r.start.lo
theorem lastS_succ (r : RideS) (k : Nat) (h : k < r.pauses.length) : lastS r (k+1) = r.pauses[k].to_.lo := by simp [lastS, h]
def legOrd (r : RideS) (k : Nat) : Prop := ∀ h : k < r.legs.length, r.legs[k].from_.lo ≤ r.legs[k].to_.lo ∨ (r.open_ = true ∧ k + 1 = r.legs.length)
def pauseOrd (r : RideS) (k : Nat) : Prop := ∀ h : k < r.pauses.length, lastS r k ≤ r.pauses[k].from_.lo ∧ (r.pauses[k].from_.lo ≤ r.pauses[k].to_.lo ∨ (r.open_ = true ∧ k + 1 = r.pauses.length ∧ r.pauses[k].to_.lo = 0))
open Classical in
noncomputable def orderedL (r : RideS) : Bool := decide (∀ k, legOrd r k) && decide (∀ k, pauseOrd r k) && (r.open_ || decide (r.pauses.length = 0) || decide (lastS r r.pauses.length ≤ r.end_.lo))
theorem ordered_noleg {r : RideS} (k : Nat) (h : ¬ legOrd r k) : orderedL r = false := by
  have : ¬ ∀ k, legOrd r k := fun hh => h (hh k)
  simp [orderedL, this]
theorem ordered_nopause {r : RideS} (k : Nat) (h : ¬ pauseOrd r k) : orderedL r = false := by
  have : ¬ ∀ k, pauseOrd r k := fun hh => h (hh k)
  simp [orderedL, this]
theorem ordered_yes {r : RideS} (h0 : ∀ k, legOrd r k) (h : ∀ k, pauseOrd r k) : orderedL r = (r.open_ || decide (r.pauses.length = 0) || decide (lastS r r.pauses.length ≤ r.end_.lo)) := by
  simp [orderedL, h0, h]

set_option maxRecDepth 100000 in
set_option maxHeartbeats 1600000 in
theorem rordered_c (r : RideS) (w : World) (H : RideS.ok w r) : Calls Try.prog 41 #[RV r] w (Ret w (.bool (orderedL r))) := by
  obtain ⟨h1, h2, h3, h4, hL, hP, -⟩ := H
  clear h1 h2 h3 h4
  have HP0 := hide hP; clear hP
  obtain ⟨hl1, hl2, -, hL, -⟩ := hL
  have hlen := Nat.le_trans hl1 hl2
  unfold maxLen at hlen
  clear hl1 hl2
  go_enter Try.func41, Try.ntmps41
  go_wp2_with fail
  go_loopw [11] (fun i wr => ∃ k : Nat, k ≤ r.legs.length ∧ i = .int .i64 k ∧ Below (w.heap.size + 1) (w.alloc (Obj.cells #[Value.int IntKind.i64 r.id, Value.int IntKind.i64 r.rider, Value.int IntKind.i64 r.start.lo, Value.int IntKind.i64 r.start.hi, Value.int IntKind.i64 r.end_.lo, Value.int IntKind.i64 r.end_.hi, Value.bool r.open_, Value.slice r.legsA r.legs.length r.legsC, Value.slice r.pausesA r.pauses.length r.pausesC, Value.int IntKind.i64 r.fromWhere, Value.int IntKind.i64 r.fromPlace, Value.int IntKind.i64 r.where_, Value.int IntKind.i64 r.place] 27)) wr ∧ Hid (∀ j, j < k → legOrd r j)) (fun i wr => r.legs.length - (intOf i).toNat)
  case atStart =>
    refine ⟨0, Nat.zero_le _, rfl, ?_, fun _ h => absurd h (Nat.not_lt_zero _)⟩
    repeat (first | with_reducible exact (Below.refl _ _) | with_reducible refine Below.setCell ?_ ?_ _ | with_reducible refine Below.alloc ?_ ?_ _ | with_reducible refine Below.drew ?_ | with_reducible refine below_drewN ?_ _ | omega | (simp <;> omega))
  case round =>
    obtain ⟨k, hk, rfl, hb, hno⟩ := hrel
    obtain ⟨hc, hz⟩ := bcell hb
    have hs := hb.size
    simp at hs
    have hs1 : w.heap.size < w.heap.size + 1 := by omega
    have hs2 : w.heap.size < wr.heap.size := by omega
    have HB := hide hb; clear hb hs
    have HW : Hid (Below w.heap.size w wr) := ((Below.refl _ _).alloc (Nat.le_refl _) _).trans (HB.out.mono (by simp))
    by_cases hlt : k < r.legs.length
    · obtain ⟨b, o, e0, hbw, hf⟩ := hL (by omega)
      have hbw1 : b < w.heap.size + 1 := by omega
      have hbw2 : b < wr.heap.size := by omega
      obtain ⟨f0, f1, f2, f3, f4⟩ := hf k hlt
      generalize hfk : r.legs[k] = f at *
      have H2 := hide hf; clear hf
      have H3 := hide hfk; clear hfk
      by_cases hn : f.to_.lo < f.from_.lo
      · cases ho : r.open_
        · have hV := hide (show orderedL r = false from ordered_noleg k (by intro hh; have := hh hlt; have e := H3.out; subst e; rw [ho] at this; simp at this; omega))
          clear hno H2 H3
          go_wp2
          go_ret
          exact ⟨by rw [hV.out]; rfl, by repeat (first | with_reducible exact HW.out | with_reducible refine Below.setCell ?_ ?_ _ | with_reducible refine Below.alloc ?_ ?_ _ | with_reducible refine Below.drew ?_ | with_reducible refine below_drewN ?_ _ | omega | (simp <;> omega))⟩
        · by_cases hl : (r.legs.length : Int) - 1 = k
          · have HO := hide ho
            have HL := hide hl
            go_wp2
            try rw [e0]
            go_roundw
            case rel =>
              refine ⟨k+1, by omega, by go_num, ?_, ?_⟩
              · have hB2 := HB.out
                rw [HO.out] at hB2
                rw [← e0]
                repeat (first | with_reducible exact hB2 | with_reducible refine Below.setCell ?_ ?_ _ | with_reducible refine Below.alloc ?_ ?_ _ | with_reducible refine Below.drew ?_ | with_reducible refine below_drewN ?_ _ | omega | (simp <;> omega))
              · intro j hj
                by_cases e : j = k
                · subst e; intro hh; have := H3.out; subst this; exact Or.inr ⟨HO.out, by have := HL.out; omega⟩
                · exact hno.out j (by omega)
            case measure => simp [intOf]; omega
          · have hV := hide (show orderedL r = false from ordered_noleg k (by intro hh; have := hh hlt; have e := H3.out; subst e; rcases this with h | ⟨_, h⟩ <;> omega))
            have hl' : ((k : Int) == (r.legs.length : Int) - 1) = false := by simp; omega
            clear hno H2 H3
            go_wp2
            go_ret
            exact ⟨by rw [hV.out]; rfl, by repeat (first | with_reducible exact HW.out | with_reducible refine Below.setCell ?_ ?_ _ | with_reducible refine Below.alloc ?_ ?_ _ | with_reducible refine Below.drew ?_ | with_reducible refine below_drewN ?_ _ | omega | (simp <;> omega))⟩
      · have HN := hide hn
        go_wp2
        try rw [e0]
        go_roundw
        case rel =>
          refine ⟨k+1, by omega, by go_num, ?_, ?_⟩
          · rw [← e0]
            repeat (first | with_reducible exact HB.out | with_reducible refine Below.setCell ?_ ?_ _ | with_reducible refine Below.alloc ?_ ?_ _ | with_reducible refine Below.drew ?_ | with_reducible refine below_drewN ?_ _ | omega | (simp <;> omega))
          · intro j hj
            by_cases e : j = k
            · subst e; intro hh; have := H3.out; subst this; exact Or.inl (by have := HN.out; omega)
            · exact hno.out j (by omega)
        case measure => simp [intOf]; omega
    · obtain rfl : k = r.legs.length := by omega
      have hLt := hide (show ∀ j, legOrd r j from fun j hj => hno.out j hj hj)
      clear hno hL
      go_wp2_with fail
      obtain ⟨hl1, hl2, -, hL, -⟩ := (PauseS.sl_below HW.out HP0.out)
      have hlep := Nat.le_trans hl1 hl2
      unfold maxLen at hlep
      clear hl1 hl2 HB
      obtain ⟨wo, hwo⟩ : ∃ wo, wo = wr := ⟨_, rfl⟩
      subst hwo
      go_loopw [43, 5] (fun i v wr => ∃ k : Nat, k ≤ r.pauses.length ∧ i = .int .i64 k ∧ v = .int .i64 (lastS r k) ∧ Below wo.heap.size wo wr ∧ Hid (∀ j, j < k → pauseOrd r j)) (fun i v wr => r.pauses.length - (intOf i).toNat)
      case atStart => exact ⟨0, Nat.zero_le _, rfl, rfl, Below.refl _ _, fun _ h => absurd h (Nat.not_lt_zero _)⟩
      case round =>
        obtain ⟨k, hk, rfl, rfl, hb, hno⟩ := hrel
        obtain ⟨hd, hy⟩ := bcell hb
        have ht := hb.size
        have ht1 : w.heap.size < wr.heap.size := by omega
        have HB := hide hb; clear hb
        by_cases hlt : k < r.pauses.length
        · obtain ⟨b, o, e0, hbw, hf⟩ := hL (by omega)
          have hbw2 : b < wr.heap.size := by omega
          obtain ⟨f0, f1, f2, f3⟩ := hf k hlt
          have H0 := hide (lastS_succ r k hlt)
          generalize hfk : r.pauses[k] = f at *
          generalize hpk : lastS r k = p at *
          have H2 := hide hf; clear hf
          have H3 := hide hfk; clear hfk
          have H4 := hide hpk; clear hpk
          by_cases hp : f.from_.lo < p
          · have hV := hide (show orderedL r = false from ordered_nopause k (by intro hh; have := hh hlt; have e := H3.out; subst e; have e := H4.out; subst e; omega))
            clear hno H2 H3 H0
            go_wp2
            go_ret
            exact ⟨by rw [hV.out]; rfl, by repeat (first | with_reducible exact (HW.out.trans (HB.out.mono HW.out.size)) | with_reducible refine Below.setCell ?_ ?_ _ | with_reducible refine Below.alloc ?_ ?_ _ | with_reducible refine Below.drew ?_ | with_reducible refine below_drewN ?_ _ | omega | (simp <;> omega))⟩
          have HF := hide hp
          cases ho : r.open_
          · have HO := hide ho
            by_cases hn : f.to_.lo < f.from_.lo
            · have hV := hide (show orderedL r = false from ordered_nopause k (by intro hh; have := hh hlt; have e := H3.out; subst e; have e := H4.out; subst e; rcases this.2 with h | ⟨h, _, _⟩; omega; (rw [HO.out] at h; cases h)))
              clear hno H2 H3 H0
              go_wp2
              go_ret
              exact ⟨by rw [hV.out]; rfl, by repeat (first | with_reducible exact (HW.out.trans (HB.out.mono HW.out.size)) | with_reducible refine Below.setCell ?_ ?_ _ | with_reducible refine Below.alloc ?_ ?_ _ | with_reducible refine Below.drew ?_ | with_reducible refine below_drewN ?_ _ | omega | (simp <;> omega))⟩
            · have HN := hide hn
              go_wp2
              try rw [e0]
              go_roundw
              case rel =>
                refine ⟨k+1, by omega, by go_num, by rw [H0.out], ?_, ?_⟩
                · repeat (first | with_reducible exact HB.out | with_reducible refine Below.setCell ?_ ?_ _ | with_reducible refine Below.alloc ?_ ?_ _ | with_reducible refine Below.drew ?_ | with_reducible refine below_drewN ?_ _ | omega | (simp <;> omega))
                · intro j hj
                  by_cases e : j = k
                  · subst e; intro hh; have := H3.out; subst this; have := H4.out; subst this; exact ⟨by have := HF.out; omega, Or.inl (by have := HN.out; omega)⟩
                  · exact hno.out j (by omega)
              case measure => simp [intOf]; omega
          · have HO := hide ho
            by_cases hl : (r.pauses.length : Int) - 1 = k
            · have HL := hide hl
              by_cases ht0 : f.to_.lo = 0
              · have hV := hide (show orderedL r = true by
                  rw [ordered_yes hLt.out, HO.out]
                  · rfl
                  · intro j hj
                    by_cases e : j = k
                    · subst e; have := H3.out; subst this; have := H4.out; subst this; exact ⟨by have := HF.out; omega, Or.inr ⟨HO.out, by have := HL.out; omega, ht0⟩⟩
                    · exact hno.out j (by have := HL.out; omega) hj)
                clear hno H2 H3 H0
                go_wp2
                go_ret
                exact ⟨by rw [hV.out]; rfl, by repeat (first | with_reducible exact (HW.out.trans (HB.out.mono HW.out.size)) | with_reducible refine Below.setCell ?_ ?_ _ | with_reducible refine Below.alloc ?_ ?_ _ | with_reducible refine Below.drew ?_ | with_reducible refine below_drewN ?_ _ | omega | (simp <;> omega))⟩
              · have HT := hide ht0
                by_cases hn : f.to_.lo < f.from_.lo
                · have hV := hide (show orderedL r = false from ordered_nopause k (by intro hh; have := hh hlt; have e := H3.out; subst e; have e := H4.out; subst e; rcases this.2 with h | ⟨_, h, h2⟩ <;> omega))
                  clear hno H2 H3 H0
                  go_wp2
                  go_ret
                  exact ⟨by rw [hV.out]; rfl, by repeat (first | with_reducible exact (HW.out.trans (HB.out.mono HW.out.size)) | with_reducible refine Below.setCell ?_ ?_ _ | with_reducible refine Below.alloc ?_ ?_ _ | with_reducible refine Below.drew ?_ | with_reducible refine below_drewN ?_ _ | omega | (simp <;> omega))⟩
                · have HN := hide hn
                  go_wp2
                  try rw [e0]
                  go_roundw
                  case rel =>
                    refine ⟨k+1, by omega, by go_num, by rw [H0.out], ?_, ?_⟩
                    · repeat (first | with_reducible exact HB.out | with_reducible refine Below.setCell ?_ ?_ _ | with_reducible refine Below.alloc ?_ ?_ _ | with_reducible refine Below.drew ?_ | with_reducible refine below_drewN ?_ _ | omega | (simp <;> omega))
                    · intro j hj
                      by_cases e : j = k
                      · subst e; intro hh; have := H3.out; subst this; have := H4.out; subst this; exact ⟨by have := HF.out; omega, Or.inl (by have := HN.out; omega)⟩
                      · exact hno.out j (by omega)
                  case measure => simp [intOf]; omega
            · have HL := hide hl
              have hl' : ((k : Int) == (r.pauses.length : Int) - 1) = false := by simp; omega
              by_cases hn : f.to_.lo < f.from_.lo
              · have hV := hide (show orderedL r = false from ordered_nopause k (by intro hh; have := hh hlt; have e := H3.out; subst e; have e := H4.out; subst e; rcases this.2 with h | ⟨_, h, h2⟩ <;> omega))
                clear hno H2 H3 H0
                go_wp2
                go_ret
                exact ⟨by rw [hV.out]; rfl, by repeat (first | with_reducible exact (HW.out.trans (HB.out.mono HW.out.size)) | with_reducible refine Below.setCell ?_ ?_ _ | with_reducible refine Below.alloc ?_ ?_ _ | with_reducible refine Below.drew ?_ | with_reducible refine below_drewN ?_ _ | omega | (simp <;> omega))⟩
              · have HN := hide hn
                go_wp2
                try rw [e0]
                go_roundw
                case rel =>
                  refine ⟨k+1, by omega, by go_num, by rw [H0.out], ?_, ?_⟩
                  · repeat (first | with_reducible exact HB.out | with_reducible refine Below.setCell ?_ ?_ _ | with_reducible refine Below.alloc ?_ ?_ _ | with_reducible refine Below.drew ?_ | with_reducible refine below_drewN ?_ _ | omega | (simp <;> omega))
                  · intro j hj
                    by_cases e : j = k
                    · subst e; intro hh; have := H3.out; subst this; have := H4.out; subst this; exact ⟨by have := HF.out; omega, Or.inl (by have := HN.out; omega)⟩
                    · exact hno.out j (by omega)
                case measure => simp [intOf]; omega
        · obtain rfl : k = r.pauses.length := by omega
          have hV := hide (ordered_yes hLt.out (fun j hj => hno.out j hj hj))
          generalize hpk : lastS r r.pauses.length = p at *
          cases ho : r.open_
          · rw [ho] at hV
            by_cases hz0 : r.pauses.length = 0
            · have hV := hide (show orderedL r = true by rw [hV.out, decide_eq_true hz0]; rfl)
              go_wp2
              go_ret
              exact ⟨by rw [hV.out]; rfl, by repeat (first | with_reducible exact (HW.out.trans (HB.out.mono HW.out.size)) | with_reducible refine Below.setCell ?_ ?_ _ | with_reducible refine Below.alloc ?_ ?_ _ | with_reducible refine Below.drew ?_ | with_reducible refine below_drewN ?_ _ | omega | (simp <;> omega))⟩
            · have hz' : ((r.pauses.length : Int) == 0) = false := by rw [beq_eq_false_iff_ne]; omega
              by_cases hl : p ≤ r.end_.lo
              · have hV := hide (show orderedL r = true by rw [hV.out, decide_eq_true hl, Bool.or_true])
                go_wp2
                go_ret
                exact ⟨by rw [hV.out]; rfl, by repeat (first | with_reducible exact (HW.out.trans (HB.out.mono HW.out.size)) | with_reducible refine Below.setCell ?_ ?_ _ | with_reducible refine Below.alloc ?_ ?_ _ | with_reducible refine Below.drew ?_ | with_reducible refine below_drewN ?_ _ | omega | (simp <;> omega))⟩
              · have hV := hide (show orderedL r = false by rw [hV.out, decide_eq_false hl, decide_eq_false hz0]; rfl)
                go_wp2
                go_ret
                exact ⟨by rw [hV.out]; rfl, by repeat (first | with_reducible exact (HW.out.trans (HB.out.mono HW.out.size)) | with_reducible refine Below.setCell ?_ ?_ _ | with_reducible refine Below.alloc ?_ ?_ _ | with_reducible refine Below.drew ?_ | with_reducible refine below_drewN ?_ _ | omega | (simp <;> omega))⟩
          · have hV := hide (show orderedL r = true by rw [hV.out, ho]; rfl)
            go_wp2
            go_ret
            exact ⟨by rw [hV.out]; rfl, by repeat (first | with_reducible exact (HW.out.trans (HB.out.mono HW.out.size)) | with_reducible refine Below.setCell ?_ ?_ _ | with_reducible refine Below.alloc ?_ ?_ _ | with_reducible refine Below.drew ?_ | with_reducible refine below_drewN ?_ _ | omega | (simp <;> omega))⟩
end Go.Proofs.Ytfpdhalfkfffnaa
