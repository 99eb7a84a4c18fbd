import Derived.Test.YtfpdhalfkfffnaaW6
namespace Go.Proofs.Ytfpdhalfkfffnaa
open Go.RowKit
set_option linter.unusedVariables false

theorem joined_end {r : RideS} (n : Nat) (hn : n + 1 = r.legs.length) (h : (r.legs[n]'(by omega)).to_ ≠ r.end_) : joinedL r = false := by
  have : eqS (prevS r r.legs.length) r.end_ = false := by
    rw [eqS_false, ← hn, prevS_succ r n (by omega)]; exact h
  simp [joinedL, this]
theorem joined_all {r : RideS} (h0 : lensL r = true) (n : Nat) (hn : n + 1 = r.legs.length) (h1 : (r.legs[n]'(by omega)).to_ = r.end_) (h : ∀ k (hk : k < r.legs.length), r.legs[k].from_ = prevS r k) : joinedL r = true := by
  rw [joined_yes h0 h, eqS_iff, ← hn, prevS_succ r n (by omega)]; exact h1

set_option maxRecDepth 100000 in
set_option maxHeartbeats 1600000 in
theorem qjoined_c (r : RideS) (w : World) (H : RideS.ok w r) : Calls Try.prog 37 #[RV r] w (Ret w (.bool (joinedL r))) := by
  obtain ⟨h1, h2, h3, h4, hL, hP, -⟩ := H
  clear h1 h2 h3 h4
  obtain ⟨hl1, hl2, -, hL, -⟩ := hL
  have hlen := Nat.le_trans hl1 hl2
  obtain ⟨hp1, hp2, -, -, -⟩ := hP
  have hlep := Nat.le_trans hp1 hp2
  unfold maxLen at hlen hlep
  clear hl1 hl2 hp1 hp2
  rcases lens_cases r with ⟨h, h1⟩ | ⟨h, h1, h2⟩ | ⟨h, h1, h2, h3⟩ | ⟨h, h1, h2, h3⟩
  · have hV := hide (joined_of_lens h); clear h
    have d1 : decide ((r.legs.length : Int) < 1) = true := by rw [decide_eq_true_eq]; omega
    go_enter Try.func37, Try.ntmps37
    go_wp2
    go_quiet (fail)
    go_wp2
    go_ret
    exact ⟨by rw [hV.out]; rfl, by repeat (first | with_reducible exact (Below.refl _ _) | with_reducible refine Below.setCell ?_ ?_ _ | with_reducible refine Below.alloc ?_ ?_ _ | with_reducible refine Below.drew ?_ | with_reducible refine below_drewN ?_ _ | omega | (simp <;> omega))⟩
  · have hV := hide (joined_of_lens h); clear h
    have d1 : decide ((r.legs.length : Int) < 1) = false := by rw [decide_eq_false_iff_not]; omega
    have d2 : decide (512 < (r.legs.length : Int)) = true := by rw [decide_eq_true_eq]; omega
    go_enter Try.func37, Try.ntmps37
    go_wp2
    go_quiet (fail)
    go_wp2
    go_ret
    exact ⟨by rw [hV.out]; rfl, by repeat (first | with_reducible exact (Below.refl _ _) | with_reducible refine Below.setCell ?_ ?_ _ | with_reducible refine Below.alloc ?_ ?_ _ | with_reducible refine Below.drew ?_ | with_reducible refine below_drewN ?_ _ | omega | (simp <;> omega))⟩
  · have hV := hide (joined_of_lens h); clear h
    have d1 : decide ((r.legs.length : Int) < 1) = false := by rw [decide_eq_false_iff_not]; omega
    have d2 : decide (512 < (r.legs.length : Int)) = false := by rw [decide_eq_false_iff_not]; omega
    have d3 : decide (512 < (r.pauses.length : Int)) = true := by rw [decide_eq_true_eq]; omega
    go_enter Try.func37, Try.ntmps37
    go_wp2
    go_quiet (fail)
    go_wp2
    go_ret
    exact ⟨by rw [hV.out]; rfl, by repeat (first | with_reducible exact (Below.refl _ _) | with_reducible refine Below.setCell ?_ ?_ _ | with_reducible refine Below.alloc ?_ ?_ _ | with_reducible refine Below.drew ?_ | with_reducible refine below_drewN ?_ _ | omega | (simp <;> omega))⟩
  · have hh := hide h; clear h
    obtain ⟨b, o, e0, hbw, hf⟩ := hL (by omega)
    have hbw1 : b < w.heap.size + 1 := by omega
    obtain ⟨m, hm⟩ : ∃ m, m + 1 = r.legs.length := ⟨r.legs.length - 1, by omega⟩
    have g := hf 0 (by omega)
    have g' := hf m (by omega)
    have HF := hide hf; clear hf
    generalize hx : r.legs[0] = x at *
    generalize hy : r.legs[m] = y at *
    have HX := hide hx; have HY := hide hy; clear hx hy
    obtain ⟨g0, g1, g2, g3, g4⟩ := g
    obtain ⟨g0', g1', g2', g3', g4'⟩ := g'
    simp only [Nat.zero_mul, Nat.add_zero] at g0 g1 g2 g3 g4
    have hwr : IntKind.i64.wrap ((r.legs.length : Int) - 1) = m := by rw [IntWalk.i64_in _ (by omega)]; omega
    clear hL
    have d1 : decide ((r.legs.length : Int) < 1) = false := by rw [decide_eq_false_iff_not]; omega
    have d2 : decide (512 < (r.legs.length : Int)) = false := by rw [decide_eq_false_iff_not]; omega
    have d3 : decide (512 < (r.pauses.length : Int)) = false := by rw [decide_eq_false_iff_not]; omega
    by_cases hn : x.from_.lo = r.start.lo
    rotate_left
    · have hV := hide (show joinedL r = false from joined_no 0 (by omega) (by have := HX.out; subst this; intro e; exact hn (by rw [e]; rfl)))
      have hn' : (x.from_.lo == r.start.lo) = false := by rw [beq_eq_false_iff_ne]; exact hn
      go_enter Try.func37, Try.ntmps37
      go_wp2
      go_quiet (fail)
      go_wp2
      go_ret
      exact ⟨by rw [hV.out]; rfl, by repeat (first | with_reducible exact (Below.refl _ _) | with_reducible refine Below.setCell ?_ ?_ _ | with_reducible refine Below.alloc ?_ ?_ _ | with_reducible refine Below.drew ?_ | with_reducible refine below_drewN ?_ _ | omega | (simp <;> omega))⟩
    have hn' : (x.from_.lo == r.start.lo) = true := by rw [beq_iff_eq]; exact hn
    by_cases hn2 : x.from_.hi = r.start.hi
    rotate_left
    · have hV := hide (show joinedL r = false from joined_no 0 (by omega) (by have := HX.out; subst this; intro e; exact hn2 (by rw [e]; rfl)))
      have hn2' : (x.from_.hi == r.start.hi) = false := by rw [beq_eq_false_iff_ne]; exact hn2
      go_enter Try.func37, Try.ntmps37
      go_wp2
      go_quiet (fail)
      go_wp2
      go_ret
      exact ⟨by rw [hV.out]; rfl, by repeat (first | with_reducible exact (Below.refl _ _) | with_reducible refine Below.setCell ?_ ?_ _ | with_reducible refine Below.alloc ?_ ?_ _ | with_reducible refine Below.drew ?_ | with_reducible refine below_drewN ?_ _ | omega | (simp <;> omega))⟩
    have hn2' : (x.from_.hi == r.start.hi) = true := by rw [beq_iff_eq]; exact hn2
    by_cases hn3 : y.to_.lo = r.end_.lo
    rotate_left
    · have hV := hide (show joinedL r = false from joined_end m hm (by have := HY.out; subst this; intro e; exact hn3 (by rw [e])))
      have hn3' : (y.to_.lo == r.end_.lo) = false := by rw [beq_eq_false_iff_ne]; exact hn3
      go_enter Try.func37, Try.ntmps37
      go_wp2
      go_quiet (fail)
      go_wp2
      go_ret
      exact ⟨by rw [hV.out]; rfl, by repeat (first | with_reducible exact (Below.refl _ _) | with_reducible refine Below.setCell ?_ ?_ _ | with_reducible refine Below.alloc ?_ ?_ _ | with_reducible refine Below.drew ?_ | with_reducible refine below_drewN ?_ _ | omega | (simp <;> omega))⟩
    have hn3' : (y.to_.lo == r.end_.lo) = true := by rw [beq_iff_eq]; exact hn3
    by_cases hn4 : y.to_.hi = r.end_.hi
    rotate_left
    · have hV := hide (show joinedL r = false from joined_end m hm (by have := HY.out; subst this; intro e; exact hn4 (by rw [e])))
      have hn4' : (y.to_.hi == r.end_.hi) = false := by rw [beq_eq_false_iff_ne]; exact hn4
      go_enter Try.func37, Try.ntmps37
      go_wp2
      go_quiet (fail)
      go_wp2
      go_ret
      exact ⟨by rw [hV.out]; rfl, by repeat (first | with_reducible exact (Below.refl _ _) | with_reducible refine Below.setCell ?_ ?_ _ | with_reducible refine Below.alloc ?_ ?_ _ | with_reducible refine Below.drew ?_ | with_reducible refine below_drewN ?_ _ | omega | (simp <;> omega))⟩
    have hn4' : (y.to_.hi == r.end_.hi) = true := by rw [beq_iff_eq]; exact hn4
    have HJ := hide (show (r.legs[m]'(by omega)).to_ = r.end_ by rw [HY.out]; exact eqS_iff.1 (by simp [eqS, hn3, hn4]))
    have HJ0 := hide (show (r.legs[0]'(by omega)).from_ = r.start by rw [HX.out]; exact eqS_iff.1 (by simp [eqS, hn, hn2]))
    go_enter Try.func37, Try.ntmps37
    go_wp2
    go_quiet (fail)
    clear hn hn2 hn3 hn4 hn' hn2' hn3' hn4' d1 d2 d3 g0 g1 g2 g3 g4 g0' g1' g2' g3' g4'
    go_wp2_with fail
    go_loopw [4] (fun i wr => ∃ k : Nat, k + 1 ≤ r.legs.length ∧ i = .int .i64 ((k + 1 : Nat) : Int) ∧ Below (w.heap.size + 1) (w.alloc (Obj.cells #[Value.int IntKind.i64 r.id, Value.int IntKind.i64 r.rider, Value.int IntKind.i64 r.start.lo, Value.int IntKind.i64 r.start.hi, Value.int IntKind.i64 r.end_.lo, Value.int IntKind.i64 r.end_.hi, Value.bool r.open_, Value.slice r.legsA r.legs.length r.legsC, Value.slice r.pausesA r.pauses.length r.pausesC, Value.int IntKind.i64 r.fromWhere, Value.int IntKind.i64 r.fromPlace, Value.int IntKind.i64 r.where_, Value.int IntKind.i64 r.place] 27)) wr ∧ Hid (∀ j (h : j < r.legs.length), j < k + 1 → r.legs[j].from_ = prevS r j)) (fun i wr => r.legs.length - (intOf i).toNat)
    case atStart =>
      refine ⟨0, by omega, rfl, ?_, ?_⟩
      · rw [e0]
        repeat (first | with_reducible exact (Below.refl _ _) | with_reducible refine Below.setCell ?_ ?_ _ | with_reducible refine Below.alloc ?_ ?_ _ | with_reducible refine Below.drew ?_ | with_reducible refine below_drewN ?_ _ | omega | (simp <;> omega))
      · intro j h h0
        obtain rfl : j = 0 := by omega
        exact HJ0.out
    case round =>
      obtain ⟨k, hk, rfl, hb, hno⟩ := hrel
      obtain ⟨hc, hz⟩ := bcell hb
      have hs := hb.size
      simp at hs
      have hs1 : w.heap.size < w.heap.size + 1 := by omega
      have hs2 : w.heap.size < wr.heap.size := by omega
      have HB := hide hb; clear hb hs
      have HW : Hid (Below w.heap.size w wr) := ((Below.refl _ _).alloc (Nat.le_refl _) _).trans (HB.out.mono (by simp))
      by_cases hlt : k + 1 < r.legs.length
      · have hbw2 : b < wr.heap.size := by omega
        have g := HF.out (k+1) hlt
        have g' := HF.out k (by omega)
        generalize hx : r.legs[k+1] = x at *
        generalize hy : r.legs[k] = y at *
        have HX := hide hx; have HY := hide hy; clear hx hy
        obtain ⟨g0, g1, g2, g3, g4⟩ := g
        obtain ⟨g0', g1', g2', g3', g4'⟩ := g'
        have hwk : IntKind.i64.wrap (((k + 1 : Nat) : Int) - 1) = k := by rw [IntWalk.i64_in _ (by omega)]; omega
        by_cases hn : x.from_.lo = y.to_.lo
        rotate_left
        · have hV := hide (show joinedL r = false from joined_no (k+1) hlt (by have := HX.out; subst this; rw [prevS_succ r k (by omega)]; have := HY.out; subst this; intro e; exact hn (by rw [e])))
          have hn' : (x.from_.lo == y.to_.lo) = false := by rw [beq_eq_false_iff_ne]; exact hn
          clear hno
          go_wp2
          go_quiet (fail)
          go_wp2
          go_ret
          exact ⟨by rw [hV.out]; rfl, by repeat (first | with_reducible exact HW.out | with_reducible refine Below.setCell ?_ ?_ _ | with_reducible refine Below.alloc ?_ ?_ _ | with_reducible refine Below.drew ?_ | with_reducible refine below_drewN ?_ _ | omega | (simp <;> omega))⟩
        have hn' : (x.from_.lo == y.to_.lo) = true := by rw [beq_iff_eq]; exact hn
        by_cases hn2 : x.from_.hi = y.to_.hi
        rotate_left
        · have hV := hide (show joinedL r = false from joined_no (k+1) hlt (by have := HX.out; subst this; rw [prevS_succ r k (by omega)]; have := HY.out; subst this; intro e; exact hn2 (by rw [e])))
          have hn2' : (x.from_.hi == y.to_.hi) = false := by rw [beq_eq_false_iff_ne]; exact hn2
          clear hno
          go_wp2
          go_quiet (fail)
          go_wp2
          go_ret
          exact ⟨by rw [hV.out]; rfl, by repeat (first | with_reducible exact HW.out | with_reducible refine Below.setCell ?_ ?_ _ | with_reducible refine Below.alloc ?_ ?_ _ | with_reducible refine Below.drew ?_ | with_reducible refine below_drewN ?_ _ | omega | (simp <;> omega))⟩
        have hn2' : (x.from_.hi == y.to_.hi) = true := by rw [beq_iff_eq]; exact hn2
        have HE := hide (show x.from_ = y.to_ from eqS_iff.1 (by simp [eqS, hn, hn2]))
        go_wp2
        go_quiet (fail)
        go_wp2
        go_roundw
        case rel =>
          refine ⟨k+1, by omega, by go_num, ?_, ?_⟩
          · repeat (first | with_reducible exact HB.out | with_reducible refine Below.setCell ?_ ?_ _ | with_reducible refine Below.alloc ?_ ?_ _ | with_reducible refine Below.drew ?_ | with_reducible refine below_drewN ?_ _ | omega | (simp <;> omega))
          · intro j h hj
            by_cases e : j = k + 1
            · subst e; have := HX.out; subst this; rw [prevS_succ r k (by omega)]; have := HY.out; subst this; exact HE.out
            · exact hno.out j h (by omega)
        case measure => simp [intOf]; omega
      · obtain rfl : k = m := by omega
        have hV := hide (joined_all hh.out k hm HJ.out (fun j hj => hno.out j hj (by omega)))
        go_wp2
        go_ret
        exact ⟨by rw [hV.out]; rfl, by repeat (first | with_reducible exact HW.out | with_reducible refine Below.setCell ?_ ?_ _ | with_reducible refine Below.alloc ?_ ?_ _ | with_reducible refine Below.drew ?_ | with_reducible refine below_drewN ?_ _ | omega | (simp <;> omega))⟩
end Go.Proofs.Ytfpdhalfkfffnaa
