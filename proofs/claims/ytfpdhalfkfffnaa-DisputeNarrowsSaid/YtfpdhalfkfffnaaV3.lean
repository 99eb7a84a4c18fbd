import Derived.Test.YtfpdhalfkfffnaaV2
namespace Go.Proofs.Ytfpdhalfkfffnaa
open Go.RowKit
set_option linter.unusedVariables false
set_option linter.unusedSimpArgs false
set_option linter.unnecessarySimpa false

set_option maxRecDepth 100000 in
set_option maxHeartbeats 8000000 in
theorem same_yes (a b : RideS) (w : World) (HA : RideS.ok w a) (HB : RideS.ok w b) (hh : sameHead a b = true) : Calls Try.prog 14 #[RV a, RV b] w (Ret w (.bool (sameL a b))) := by
  have hV := hide (show sameL a b = (decide (a.legs = b.legs) && decide (a.pauses = b.pauses)) by simp only [sameL, hh, Bool.true_and])
  simp only [sameHead, eqS, Bool.and_eq_true] at hh
  obtain ⟨h0, h1, ⟨h2, h3⟩, ⟨h4, h5⟩, h6, h7, h8, h9, h10, h11, h12⟩ := hh
  have g0 : (a.id != b.id) = false := by simp only [bne, h0, Bool.not_true]
  have g1 : (a.rider != b.rider) = false := by simp only [bne, h1, Bool.not_true]
  have g2 : (a.start.lo != b.start.lo) = false := by simp only [bne, h2, Bool.not_true]
  have g3 : (a.start.hi != b.start.hi) = false := by simp only [bne, h3, Bool.not_true]
  have g4 : (a.end_.lo != b.end_.lo) = false := by simp only [bne, h4, Bool.not_true]
  have g5 : (a.end_.hi != b.end_.hi) = false := by simp only [bne, h5, Bool.not_true]
  have g6 : (a.open_ != b.open_) = false := by simp only [bne, h6, Bool.not_true]
  have g7 : (a.fromWhere != b.fromWhere) = false := by simp only [bne, h7, Bool.not_true]
  have g8 : (a.fromPlace != b.fromPlace) = false := by simp only [bne, h8, Bool.not_true]
  have g9 : (a.where_ != b.where_) = false := by simp only [bne, h9, Bool.not_true]
  have g10 : (a.place != b.place) = false := by simp only [bne, h10, Bool.not_true]
  have g11 : (a.legs.length != b.legs.length) = false := by simp only [bne, h11, Bool.not_true]
  have k11 : ((a.legs.length : Int) != (b.legs.length : Int)) = false := by have := h11; rw [beq_iff_eq] at this; rw [this]; exact bne_self_eq_false _
  have H11 := hide (show a.legs.length = b.legs.length by simpa using h11)
  have g12 : (a.pauses.length != b.pauses.length) = false := by simp only [bne, h12, Bool.not_true]
  have k12 : ((a.pauses.length : Int) != (b.pauses.length : Int)) = false := by have := h12; rw [beq_iff_eq] at this; rw [this]; exact bne_self_eq_false _
  have H12 := hide (show a.pauses.length = b.pauses.length by simpa using h12)
  go_enter Try.func14, Try.ntmps14
  go_wp2_with fail
  clear h0 h1 h2 h3 h4 h5 h6 h7 h8 h9 h10 h11 h12 g0 g1 g2 g3 g4 g5 g6 g7 g8 g9 g10 g11 g12 k11 k12
  obtain ⟨-, -, -, -, ⟨al1, al2, -, La, -⟩, ⟨ap1, ap2, -, Pa, -⟩, -⟩ := HA
  obtain ⟨-, -, -, -, ⟨bl1, bl2, -, Lb, -⟩, ⟨bp1, bp2, -, Pb, -⟩, -⟩ := HB
  have hla := Nat.le_trans al1 al2
  have hlb := Nat.le_trans bl1 bl2
  have hpa := Nat.le_trans ap1 ap2
  have hpb := Nat.le_trans bp1 bp2
  unfold maxLen at hla hlb hpa hpb
  clear al1 al2 ap1 ap2 bl1 bl2 bp1 bp2
  refine wp_world ?_
  intro W0 hW0
  have hW0c0 := fun b o => congrArg (fun x => World.cell? x ⟨b, o, none⟩) hW0
  have hW0f0 := fun b o => congrArg (fun x => World.frozen? x ⟨b, o, none⟩) hW0
  have hW0s0 := congrArg (fun x => x.heap.size) hW0
  try simp only at hW0c0 hW0f0
  try simp at hW0s0
  have HB0 := hide (show Below w.heap.size w W0 by rw [hW0]; repeat (first | with_reducible exact (Below.refl _ _) | with_reducible refine Below.setCell ?_ ?_ _ | with_reducible refine Below.alloc ?_ ?_ _ | with_reducible refine Below.drew ?_ | with_reducible refine below_drewN ?_ _ | omega | (simp <;> omega)))
  clear hW0
  go_loopw [5] (fun i wr => ∃ k : Nat, k ≤ a.legs.length ∧ i = .int .i64 k ∧ Below W0.heap.size W0 wr ∧ Hid (∀ j (h : j < a.legs.length) (h' : j < b.legs.length), j < k → a.legs[j] = b.legs[j])) (fun i wr => a.legs.length - (intOf i).toNat)
  case atStart => exact ⟨0, Nat.zero_le _, rfl, Below.refl _ _, fun _ _ _ h => absurd h (Nat.not_lt_zero _)⟩
  case round =>
    obtain ⟨k, hk, rfl, hb, hno⟩ := hrel
    obtain ⟨hd0, hy0⟩ := bcell hb
    have ht0 := hb.size
    have hq00 : w.heap.size < wr.heap.size := by omega
    have hq10 : w.heap.size + 1 < wr.heap.size := by omega
    have HW0 : Hid (Below w.heap.size w wr) := HB0.out.trans (hb.mono HB0.out.size)
    have HB := hide hb; clear hb
    obtain ⟨he0, hef0⟩ := bcell HW0.out
    by_cases hlt : k < a.legs.length
    · have hlt' : k < b.legs.length := by have := H11.out; omega
      obtain ⟨ab, ao, ae, abw, af⟩ := La (by omega)
      obtain ⟨bb, bo, be, bbw, bf⟩ := Lb (by omega)
      obtain ⟨f0, f1, f2, f3, f4⟩ := af k hlt
      obtain ⟨g0, g1, g2, g3, g4⟩ := bf k hlt'
      generalize hx : a.legs[k] = x at *
      generalize hy : b.legs[k] = y at *
      have HX := hide hx; have HY := hide hy; clear hx hy af bf
      cases q0 : (x.bike == y.bike)
      · have hV := hide (show sameL a b = false by
          rw [hV.out]
          have : a.legs ≠ b.legs := by
            intro e
            have e2 : a.legs[k] = b.legs[k] := by simp only [e]
            rw [HX.out, HY.out] at e2
            rw [e2] at q0
            simp at q0
          simp only [decide_eq_false this, Bool.false_and, Bool.and_false])
        clear hno HX HY
        go_wp2
        go_quiet (fail)
        go_wp2
        try rw [ae]
        try rw [be]
        go_ret
        exact ⟨by rw [hV.out]; rfl, by repeat (first | with_reducible exact (HW0.out) | with_reducible refine Below.setCell ?_ ?_ _ | with_reducible refine Below.alloc ?_ ?_ _ | with_reducible refine Below.drew ?_ | with_reducible refine below_drewN ?_ _ | omega | (simp <;> omega))⟩
      cases q1 : (x.from_.lo == y.from_.lo)
      · have hV := hide (show sameL a b = false by
          rw [hV.out]
          have : a.legs ≠ b.legs := by
            intro e
            have e2 : a.legs[k] = b.legs[k] := by simp only [e]
            rw [HX.out, HY.out] at e2
            rw [e2] at q1
            simp at q1
          simp only [decide_eq_false this, Bool.false_and, Bool.and_false])
        clear hno HX HY
        go_wp2
        go_quiet (fail)
        go_wp2
        try rw [ae]
        try rw [be]
        go_ret
        exact ⟨by rw [hV.out]; rfl, by repeat (first | with_reducible exact (HW0.out) | with_reducible refine Below.setCell ?_ ?_ _ | with_reducible refine Below.alloc ?_ ?_ _ | with_reducible refine Below.drew ?_ | with_reducible refine below_drewN ?_ _ | omega | (simp <;> omega))⟩
      cases q2 : (x.from_.hi == y.from_.hi)
      · have hV := hide (show sameL a b = false by
          rw [hV.out]
          have : a.legs ≠ b.legs := by
            intro e
            have e2 : a.legs[k] = b.legs[k] := by simp only [e]
            rw [HX.out, HY.out] at e2
            rw [e2] at q2
            simp at q2
          simp only [decide_eq_false this, Bool.false_and, Bool.and_false])
        clear hno HX HY
        go_wp2
        go_quiet (fail)
        go_wp2
        try rw [ae]
        try rw [be]
        go_ret
        exact ⟨by rw [hV.out]; rfl, by repeat (first | with_reducible exact (HW0.out) | with_reducible refine Below.setCell ?_ ?_ _ | with_reducible refine Below.alloc ?_ ?_ _ | with_reducible refine Below.drew ?_ | with_reducible refine below_drewN ?_ _ | omega | (simp <;> omega))⟩
      cases q3 : (x.to_.lo == y.to_.lo)
      · have hV := hide (show sameL a b = false by
          rw [hV.out]
          have : a.legs ≠ b.legs := by
            intro e
            have e2 : a.legs[k] = b.legs[k] := by simp only [e]
            rw [HX.out, HY.out] at e2
            rw [e2] at q3
            simp at q3
          simp only [decide_eq_false this, Bool.false_and, Bool.and_false])
        clear hno HX HY
        go_wp2
        go_quiet (fail)
        go_wp2
        try rw [ae]
        try rw [be]
        go_ret
        exact ⟨by rw [hV.out]; rfl, by repeat (first | with_reducible exact (HW0.out) | with_reducible refine Below.setCell ?_ ?_ _ | with_reducible refine Below.alloc ?_ ?_ _ | with_reducible refine Below.drew ?_ | with_reducible refine below_drewN ?_ _ | omega | (simp <;> omega))⟩
      cases q4 : (x.to_.hi == y.to_.hi)
      · have hV := hide (show sameL a b = false by
          rw [hV.out]
          have : a.legs ≠ b.legs := by
            intro e
            have e2 : a.legs[k] = b.legs[k] := by simp only [e]
            rw [HX.out, HY.out] at e2
            rw [e2] at q4
            simp at q4
          simp only [decide_eq_false this, Bool.false_and, Bool.and_false])
        clear hno HX HY
        go_wp2
        go_quiet (fail)
        go_wp2
        try rw [ae]
        try rw [be]
        go_ret
        exact ⟨by rw [hV.out]; rfl, by repeat (first | with_reducible exact (HW0.out) | with_reducible refine Below.setCell ?_ ?_ _ | with_reducible refine Below.alloc ?_ ?_ _ | with_reducible refine Below.drew ?_ | with_reducible refine below_drewN ?_ _ | omega | (simp <;> omega))⟩
      have HE := hide (show x = y by
        simp only [beq_iff_eq] at q0 q1 q2 q3 q4
        obtain ⟨x0, ⟨x1, x2⟩, ⟨x3, x4⟩⟩ := x; obtain ⟨y0, ⟨y1, y2⟩, ⟨y3, y4⟩⟩ := y
        simp only at q0 q1 q2 q3 q4
        subst_vars; rfl)
      go_wp2
      go_quiet (fail)
      go_wp2
      try rw [ae]
      try rw [be]
      go_roundw
      case rel =>
        refine ⟨k+1, by omega, by go_num, ?_, ?_⟩
        · repeat (first | with_reducible exact (HB.out) | with_reducible refine Below.setCell ?_ ?_ _ | with_reducible refine Below.alloc ?_ ?_ _ | with_reducible refine Below.drew ?_ | with_reducible refine below_drewN ?_ _ | omega | (simp <;> omega))
        · intro j h h' hj
          by_cases e : j = k
          · subst e; have e1 := HX.out; have e2 := HY.out; rw [e1, e2]; exact HE.out
          · exact hno.out j h h' (by omega)
      case measure => simp [intOf]; omega
    · obtain rfl : k = a.legs.length := by omega
      have HEQ0 := hide (show a.legs = b.legs from List.ext_getElem H11.out (fun j h1 h2 => hno.out j h1 h2 h1))
      clear hno
      go_wp2_with fail
      clear HB
      refine wp_world ?_
      intro W1 hW0
      have hW0c1 := fun b o => congrArg (fun x => World.cell? x ⟨b, o, none⟩) hW0
      have hW0f1 := fun b o => congrArg (fun x => World.frozen? x ⟨b, o, none⟩) hW0
      have hW0s1 := congrArg (fun x => x.heap.size) hW0
      try simp only at hW0c1 hW0f1
      try simp at hW0s1
      have HB1 := hide (show Below w.heap.size w W1 by rw [hW0]; repeat (first | with_reducible exact (HW0.out) | with_reducible refine Below.setCell ?_ ?_ _ | with_reducible refine Below.alloc ?_ ?_ _ | with_reducible refine Below.drew ?_ | with_reducible refine below_drewN ?_ _ | omega | (simp <;> omega)))
      clear hW0
      go_loopw [6] (fun i wr => ∃ k : Nat, k ≤ a.pauses.length ∧ i = .int .i64 k ∧ Below W1.heap.size W1 wr ∧ Hid (∀ j (h : j < a.pauses.length) (h' : j < b.pauses.length), j < k → a.pauses[j] = b.pauses[j])) (fun i wr => a.pauses.length - (intOf i).toNat)
      case atStart => exact ⟨0, Nat.zero_le _, rfl, Below.refl _ _, fun _ _ _ h => absurd h (Nat.not_lt_zero _)⟩
      case round =>
        obtain ⟨k, hk, rfl, hb, hno⟩ := hrel
        obtain ⟨hd1, hy1⟩ := bcell hb
        have ht1 := hb.size
        have hq01 : w.heap.size < wr.heap.size := by omega
        have hq11 : w.heap.size + 1 < wr.heap.size := by omega
        have HW1 : Hid (Below w.heap.size w wr) := HB1.out.trans (hb.mono HB1.out.size)
        have HB := hide hb; clear hb
        obtain ⟨he1, hef1⟩ := bcell HW1.out
        by_cases hlt : k < a.pauses.length
        · have hlt' : k < b.pauses.length := by have := H12.out; omega
          obtain ⟨ab, ao, ae, abw, af⟩ := Pa (by omega)
          obtain ⟨bb, bo, be, bbw, bf⟩ := Pb (by omega)
          obtain ⟨f0, f1, f2, f3⟩ := af k hlt
          obtain ⟨g0, g1, g2, g3⟩ := bf k hlt'
          generalize hx : a.pauses[k] = x at *
          generalize hy : b.pauses[k] = y at *
          have HX := hide hx; have HY := hide hy; clear hx hy af bf
          cases q0 : (x.from_.lo == y.from_.lo)
          · have hV := hide (show sameL a b = false by
              rw [hV.out]
              have : a.pauses ≠ b.pauses := by
                intro e
                have e2 : a.pauses[k] = b.pauses[k] := by simp only [e]
                rw [HX.out, HY.out] at e2
                rw [e2] at q0
                simp at q0
              simp only [decide_eq_false this, Bool.false_and, Bool.and_false])
            clear hno HX HY
            go_wp2
            go_quiet (fail)
            go_wp2
            try rw [ae]
            try rw [be]
            go_ret
            exact ⟨by rw [hV.out]; rfl, by repeat (first | with_reducible exact (HW1.out) | with_reducible refine Below.setCell ?_ ?_ _ | with_reducible refine Below.alloc ?_ ?_ _ | with_reducible refine Below.drew ?_ | with_reducible refine below_drewN ?_ _ | omega | (simp <;> omega))⟩
          cases q1 : (x.from_.hi == y.from_.hi)
          · have hV := hide (show sameL a b = false by
              rw [hV.out]
              have : a.pauses ≠ b.pauses := by
                intro e
                have e2 : a.pauses[k] = b.pauses[k] := by simp only [e]
                rw [HX.out, HY.out] at e2
                rw [e2] at q1
                simp at q1
              simp only [decide_eq_false this, Bool.false_and, Bool.and_false])
            clear hno HX HY
            go_wp2
            go_quiet (fail)
            go_wp2
            try rw [ae]
            try rw [be]
            go_ret
            exact ⟨by rw [hV.out]; rfl, by repeat (first | with_reducible exact (HW1.out) | with_reducible refine Below.setCell ?_ ?_ _ | with_reducible refine Below.alloc ?_ ?_ _ | with_reducible refine Below.drew ?_ | with_reducible refine below_drewN ?_ _ | omega | (simp <;> omega))⟩
          cases q2 : (x.to_.lo == y.to_.lo)
          · have hV := hide (show sameL a b = false by
              rw [hV.out]
              have : a.pauses ≠ b.pauses := by
                intro e
                have e2 : a.pauses[k] = b.pauses[k] := by simp only [e]
                rw [HX.out, HY.out] at e2
                rw [e2] at q2
                simp at q2
              simp only [decide_eq_false this, Bool.false_and, Bool.and_false])
            clear hno HX HY
            go_wp2
            go_quiet (fail)
            go_wp2
            try rw [ae]
            try rw [be]
            go_ret
            exact ⟨by rw [hV.out]; rfl, by repeat (first | with_reducible exact (HW1.out) | with_reducible refine Below.setCell ?_ ?_ _ | with_reducible refine Below.alloc ?_ ?_ _ | with_reducible refine Below.drew ?_ | with_reducible refine below_drewN ?_ _ | omega | (simp <;> omega))⟩
          cases q3 : (x.to_.hi == y.to_.hi)
          · have hV := hide (show sameL a b = false by
              rw [hV.out]
              have : a.pauses ≠ b.pauses := by
                intro e
                have e2 : a.pauses[k] = b.pauses[k] := by simp only [e]
                rw [HX.out, HY.out] at e2
                rw [e2] at q3
                simp at q3
              simp only [decide_eq_false this, Bool.false_and, Bool.and_false])
            clear hno HX HY
            go_wp2
            go_quiet (fail)
            go_wp2
            try rw [ae]
            try rw [be]
            go_ret
            exact ⟨by rw [hV.out]; rfl, by repeat (first | with_reducible exact (HW1.out) | with_reducible refine Below.setCell ?_ ?_ _ | with_reducible refine Below.alloc ?_ ?_ _ | with_reducible refine Below.drew ?_ | with_reducible refine below_drewN ?_ _ | omega | (simp <;> omega))⟩
          have HE := hide (show x = y by
            simp only [beq_iff_eq] at q0 q1 q2 q3
            obtain ⟨⟨x1, x2⟩, ⟨x3, x4⟩⟩ := x; obtain ⟨⟨y1, y2⟩, ⟨y3, y4⟩⟩ := y
            simp only at q0 q1 q2 q3
            subst_vars; rfl)
          go_wp2
          go_quiet (fail)
          go_wp2
          try rw [ae]
          try rw [be]
          go_roundw
          case rel =>
            refine ⟨k+1, by omega, by go_num, ?_, ?_⟩
            · repeat (first | with_reducible exact (HB.out) | with_reducible refine Below.setCell ?_ ?_ _ | with_reducible refine Below.alloc ?_ ?_ _ | with_reducible refine Below.drew ?_ | with_reducible refine below_drewN ?_ _ | omega | (simp <;> omega))
            · intro j h h' hj
              by_cases e : j = k
              · subst e; have e1 := HX.out; have e2 := HY.out; rw [e1, e2]; exact HE.out
              · exact hno.out j h h' (by omega)
          case measure => simp [intOf]; omega
        · obtain rfl : k = a.pauses.length := by omega
          have HEQ1 := hide (show a.pauses = b.pauses from List.ext_getElem H12.out (fun j h1 h2 => hno.out j h1 h2 h1))
          clear hno
          have hV := hide (show sameL a b = true by rw [hV.out, decide_eq_true HEQ0.out, decide_eq_true HEQ1.out]; rfl)
          go_wp2
          go_ret
          exact ⟨by rw [hV.out]; rfl, by repeat (first | with_reducible exact (HW1.out) | with_reducible refine Below.setCell ?_ ?_ _ | with_reducible refine Below.alloc ?_ ?_ _ | with_reducible refine Below.drew ?_ | with_reducible refine below_drewN ?_ _ | omega | (simp <;> omega))⟩


end Go.Proofs.Ytfpdhalfkfffnaa
