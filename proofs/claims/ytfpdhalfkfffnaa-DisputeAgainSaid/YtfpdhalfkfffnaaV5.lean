import Derived.Test.YtfpdhalfkfffnaaV4
namespace Go.Proofs.Ytfpdhalfkfffnaa
open Go.RowKit
set_option linter.unusedVariables false
set_option linter.unusedSimpArgs false
set_option linter.unnecessarySimpa false

def fewL (l : List EvS) : Bool := decide (l.length ≤ 60) || (decide (512 < l.length) && decide (l.length ≤ 520))
def foldS (l : List EvS) : SpanS := l.foldl (fun a e => commonL a e.end_) ⟨0, 4294943999⟩
def agreeL (l : List EvS) : Bool := decide ((foldS l).lo ≤ (foldS l).hi)
theorem foldS_succ (l : List EvS) (k : Nat) (h : k < l.length) : foldS (l.take (k+1)) = commonL (foldS (l.take k)) l[k].end_ := by
  unfold foldS; rw [List.take_succ_eq_append_getElem h, List.foldl_append]; rfl
def fewRL (l : List RideS) (most : Int) : Bool := l.all (fun r => decide (r.legs.length ≤ 40) && decide (r.pauses.length ≤ 40)) && decide ((l.length : Int) ≤ most)

set_option maxRecDepth 100000 in
set_option maxHeartbeats 1600000 in
theorem few_c (a : Option Addr) (cap : Nat) (l : List EvS) (w : World) (H : EvS.sl w a cap l) : Calls Try.prog 15 #[.slice a l.length cap] w (Ret w (.bool (fewL l))) := by
  obtain ⟨h1, h2, -⟩ := H
  have hlen := Nat.le_trans h1 h2
  unfold maxLen at hlen
  clear h1 h2
  by_cases h1 : l.length ≤ 60
  · have hV := hide (show fewL l = true by simp [fewL, h1])
    have d1 : decide ((l.length : Int) ≤ 60) = true := by rw [decide_eq_true_eq]; omega
    go_enter Try.func15, Try.ntmps15
    go_wp2
    go_ret
    exact ⟨by rw [hV.out]; rfl, by repeat (first | with_reducible exact (Below.refl _ _) | with_reducible refine Below.setCell ?_ ?_ _ | with_reducible refine Below.alloc ?_ ?_ _ | with_reducible refine Below.drew ?_ | with_reducible refine below_drewN ?_ _ | omega | (simp <;> omega))⟩
  · have d1 : decide ((l.length : Int) ≤ 60) = false := by rw [decide_eq_false_iff_not]; omega
    by_cases h2 : 512 < l.length
    · have hV := hide (show fewL l = decide (l.length ≤ 520) by simp [fewL, h1, h2])
      have d2 : decide ((512 : Int) < l.length) = true := by rw [decide_eq_true_eq]; omega
      by_cases h3 : l.length ≤ 520
      · have hV := hide (show fewL l = true by rw [hV.out]; simpa using h3)
        have d3 : decide ((l.length : Int) ≤ 520) = true := by rw [decide_eq_true_eq]; omega
        go_enter Try.func15, Try.ntmps15
        go_wp2
        go_ret
        exact ⟨by rw [hV.out]; rfl, by repeat (first | with_reducible exact (Below.refl _ _) | with_reducible refine Below.setCell ?_ ?_ _ | with_reducible refine Below.alloc ?_ ?_ _ | with_reducible refine Below.drew ?_ | with_reducible refine below_drewN ?_ _ | omega | (simp <;> omega))⟩
      · have hV := hide (show fewL l = false by rw [hV.out]; simpa using h3)
        have d3 : decide ((l.length : Int) ≤ 520) = false := by rw [decide_eq_false_iff_not]; omega
        go_enter Try.func15, Try.ntmps15
        go_wp2
        go_ret
        exact ⟨by rw [hV.out]; rfl, by repeat (first | with_reducible exact (Below.refl _ _) | with_reducible refine Below.setCell ?_ ?_ _ | with_reducible refine Below.alloc ?_ ?_ _ | with_reducible refine Below.drew ?_ | with_reducible refine below_drewN ?_ _ | omega | (simp <;> omega))⟩
    · have hV := hide (show fewL l = false by simp [fewL, h1, h2])
      have d2 : decide ((512 : Int) < l.length) = false := by rw [decide_eq_false_iff_not]; omega
      go_enter Try.func15, Try.ntmps15
      go_wp2
      go_ret
      exact ⟨by rw [hV.out]; rfl, by repeat (first | with_reducible exact (Below.refl _ _) | with_reducible refine Below.setCell ?_ ?_ _ | with_reducible refine Below.alloc ?_ ?_ _ | with_reducible refine Below.drew ?_ | with_reducible refine below_drewN ?_ _ | omega | (simp <;> omega))⟩
set_option maxRecDepth 100000 in
set_option maxHeartbeats 1600000 in
theorem sameI_c (a b : Option Addr) (ac bc : Nat) (l m : List Int) (w : World) (HA : SlI w a ac l) (HB : SlI w b bc m) : Calls Try.prog 18 #[.slice a l.length ac, .slice b m.length bc] w (Ret w (.bool (decide (l = m)))) := by
  obtain ⟨al1, al2, -, La, -⟩ := HA
  obtain ⟨bl1, bl2, -, Lb, -⟩ := HB
  have hla := Nat.le_trans al1 al2
  have hlb := Nat.le_trans bl1 bl2
  unfold maxLen at hla hlb
  clear al1 al2 bl1 bl2
  by_cases hl : l.length = m.length
  rotate_left
  · have hV := hide (show decide (l = m) = false by rw [decide_eq_false_iff_not]; intro e; exact hl (by rw [e]))
    have d1 : ((l.length : Int) != (m.length : Int)) = true := by rw [bne_iff_ne]; omega
    clear hl
    go_enter Try.func18, Try.ntmps18
    go_wp2
    go_ret
    exact ⟨by rw [hV.out]; rfl, by repeat (first | with_reducible exact (Below.refl _ _) | with_reducible refine Below.setCell ?_ ?_ _ | with_reducible refine Below.alloc ?_ ?_ _ | with_reducible refine Below.drew ?_ | with_reducible refine below_drewN ?_ _ | omega | (simp <;> omega))⟩
  have d1 : ((l.length : Int) != (m.length : Int)) = false := by rw [hl]; exact bne_self_eq_false _
  have HL := hide hl; clear hl
  go_enter Try.func18, Try.ntmps18
  go_wp2_with fail
  clear d1
  go_loopw [5] (fun i wr => ∃ k : Nat, k ≤ l.length ∧ i = .int .i64 k ∧ Below w.heap.size w wr ∧ Hid (∀ j (h : j < l.length) (h2 : j < m.length), j < k → l[j] = m[j])) (fun i wr => l.length - (intOf i).toNat)
  case atStart => exact ⟨0, Nat.zero_le _, rfl, Below.refl _ _, fun _ _ _ h => absurd h (Nat.not_lt_zero _)⟩
  case round =>
    obtain ⟨k, hk, rfl, hb, hno⟩ := hrel
    obtain ⟨hd, hy⟩ := bcell hb
    have HB := hide hb; clear hb
    by_cases hlt : k < l.length
    · have hlt2 : k < m.length := by have := HL.out; omega
      obtain ⟨ab, ao, ae, abw, af⟩ := La (by omega)
      obtain ⟨bb, bo, be, bbw, bf⟩ := Lb (by omega)
      have f := af k hlt
      have g := bf k hlt2
      generalize hx : l[k] = x at *
      generalize hy : m[k] = y at *
      have HX := hide hx; have HY := hide hy; clear hx hy af bf
      by_cases q : x = y
      · have HE := hide q
        have q1 : (x == y) = true := by rw [beq_iff_eq]; exact q
        have q2 : (x != y) = false := by rw [q]; exact bne_self_eq_false _
        clear q
        go_wp2
        go_quiet (fail)
        go_wp2
        try rw [ae]
        try rw [be]
        go_roundw
        case rel =>
          refine ⟨k+1, by omega, by go_num, ?_, ?_⟩
          · repeat (first | with_reducible exact (HB.out) | with_reducible refine Below.setCell ?_ ?_ _ | with_reducible refine Below.alloc ?_ ?_ _ | with_reducible refine Below.drew ?_ | with_reducible refine below_drewN ?_ _ | omega | (simp <;> omega))
          · intro j h h2 hj
            by_cases e : j = k
            · subst e; rw [HX.out, HY.out]; exact HE.out
            · exact hno.out j h h2 (by omega)
        case measure => simp [intOf]; omega
      · have hV := hide (show decide (l = m) = false by
          rw [decide_eq_false_iff_not]; intro e
          have e2 : l[k] = m[k] := by simp only [e]
          rw [HX.out, HY.out] at e2; exact q e2)
        have q1 : (x == y) = false := by rw [beq_eq_false_iff_ne]; exact q
        have q2 : (x != y) = true := by rw [bne_iff_ne]; exact q
        clear q hno HX HY
        go_wp2
        go_quiet (fail)
        go_wp2
        try rw [ae]
        try rw [be]
        go_ret
        exact ⟨by rw [hV.out]; rfl, by repeat (first | with_reducible exact (HB.out) | with_reducible refine Below.setCell ?_ ?_ _ | with_reducible refine Below.alloc ?_ ?_ _ | with_reducible refine Below.drew ?_ | with_reducible refine below_drewN ?_ _ | omega | (simp <;> omega))⟩
    · have hV := hide (show decide (l = m) = true by rw [decide_eq_true_eq]; exact List.ext_getElem HL.out (fun j h1 h2 => hno.out j h1 h2 (by omega)))
      go_wp2
      go_ret
      exact ⟨by rw [hV.out]; rfl, by repeat (first | with_reducible exact (HB.out) | with_reducible refine Below.setCell ?_ ?_ _ | with_reducible refine Below.alloc ?_ ?_ _ | with_reducible refine Below.drew ?_ | with_reducible refine below_drewN ?_ _ | omega | (simp <;> omega))⟩


end Go.Proofs.Ytfpdhalfkfffnaa
