import Derived.Test.YtfpdhalfkfffnaaW2
namespace Go.Proofs.Ytfpdhalfkfffnaa
open Go.RowKit
set_option linter.unusedVariables false

def prevS (r : RideS) : Nat → SpanS
  | 0 => r.start
  | k+1 => ((r.legs[k]?).map LegS.to_).getD r.start
theorem prevS_succ (r : RideS) (k : Nat) (h : k < r.legs.length) : prevS r (k+1) = r.legs[k].to_ := by simp [prevS, h]
def eqS (a b : SpanS) : Bool := a.lo == b.lo && a.hi == b.hi
theorem eqS_iff {a b : SpanS} : eqS a b = true ↔ a = b := by cases a; cases b; simp [eqS]
theorem eqS_false {a b : SpanS} : eqS a b = false ↔ a ≠ b := by rw [← Bool.not_eq_true, eqS_iff]
def lensL (r : RideS) : Bool := decide (1 ≤ r.legs.length) && decide (r.legs.length ≤ 512) && decide (r.pauses.length ≤ 512)
def joinK (r : RideS) (k : Nat) : Prop := ∀ h : k < r.legs.length, r.legs[k].from_ = prevS r k
open Classical in
noncomputable def joinedL (r : RideS) : Bool := lensL r && decide (∀ k, joinK r k) && eqS (prevS r r.legs.length) r.end_

theorem lens_cases (r : RideS) : (lensL r = false ∧ r.legs.length < 1) ∨ (lensL r = false ∧ 1 ≤ r.legs.length ∧ 512 < r.legs.length) ∨ (lensL r = false ∧ 1 ≤ r.legs.length ∧ r.legs.length ≤ 512 ∧ 512 < r.pauses.length) ∨ (lensL r = true ∧ 1 ≤ r.legs.length ∧ r.legs.length ≤ 512 ∧ r.pauses.length ≤ 512) := by
  simp only [lensL, Bool.and_eq_false_iff, decide_eq_false_iff_not, Bool.and_eq_true, decide_eq_true_eq]
  omega
theorem joined_of_lens {r : RideS} (h : lensL r = false) : joinedL r = false := by simp [joinedL, h]
theorem joined_no {r : RideS} (k : Nat) (hk : k < r.legs.length) (h : r.legs[k].from_ ≠ prevS r k) : joinedL r = false := by
  have : ¬ ∀ k, joinK r k := fun hh => h (hh k hk)
  simp [joinedL, this]
theorem joined_yes {r : RideS} (h0 : lensL r = true) (h : ∀ k (hk : k < r.legs.length), r.legs[k].from_ = prevS r k) : joinedL r = eqS (prevS r r.legs.length) r.end_ := by
  have : ∀ k, joinK r k := fun k hk => h k hk
  simp [joinedL, this, h0]

set_option maxHeartbeats 800000 in
theorem rjoined_c (r : RideS) (w : World) (H : RideS.ok w r) : Calls Try.prog 40 #[RV r] w (Ret w (.bool (joinedL r))) := by
  obtain ⟨h1, h2, h3, h4, hL, hP, -⟩ := H
  clear h1 h2 h3 h4
  obtain ⟨hl1, hl2, -, hL, -⟩ := hL
  have hlen := Nat.le_trans hl1 hl2
  obtain ⟨hp1, hp2, -, -, -⟩ := hP
  have hlep := Nat.le_trans hp1 hp2
  unfold maxLen at hlen hlep
  clear hl1 hl2 hp1 hp2
  rcases lens_cases r with ⟨h, h1⟩ | ⟨h, h1, h2⟩ | ⟨h, h1, h2, h3⟩ | ⟨h, h1, h2, h3⟩
  · have hV := hide (joined_of_lens h); clear h
    go_enter Try.func40, Try.ntmps40
    go_wp2
    go_ret
    exact ⟨by rw [hV.out]; rfl, by repeat (first | with_reducible exact (Below.refl _ _) | with_reducible refine Below.setCell ?_ ?_ _ | with_reducible refine Below.alloc ?_ ?_ _ | with_reducible refine Below.drew ?_ | with_reducible refine below_drewN ?_ _ | omega | (simp <;> omega))⟩
  · have hV := hide (joined_of_lens h); clear h
    go_enter Try.func40, Try.ntmps40
    go_wp2
    go_ret
    exact ⟨by rw [hV.out]; rfl, by repeat (first | with_reducible exact (Below.refl _ _) | with_reducible refine Below.setCell ?_ ?_ _ | with_reducible refine Below.alloc ?_ ?_ _ | with_reducible refine Below.drew ?_ | with_reducible refine below_drewN ?_ _ | omega | (simp <;> omega))⟩
  · have hV := hide (joined_of_lens h); clear h
    go_enter Try.func40, Try.ntmps40
    go_wp2
    go_ret
    exact ⟨by rw [hV.out]; rfl, by repeat (first | with_reducible exact (Below.refl _ _) | with_reducible refine Below.setCell ?_ ?_ _ | with_reducible refine Below.alloc ?_ ?_ _ | with_reducible refine Below.drew ?_ | with_reducible refine below_drewN ?_ _ | omega | (simp <;> omega))⟩
  · have hh := hide h; clear h
    go_enter Try.func40, Try.ntmps40
    go_wp2_with fail
    go_loopw [27] (fun i wr => ∃ k : Nat, k ≤ r.legs.length ∧ i = .int .i64 k ∧ Below (w.heap.size + 1) (w.alloc (Obj.cells #[Value.int IntKind.i64 r.id, Value.int IntKind.i64 r.rider, Value.int IntKind.i64 r.start.lo, Value.int IntKind.i64 r.start.hi, Value.int IntKind.i64 r.end_.lo, Value.int IntKind.i64 r.end_.hi, Value.bool r.open_, Value.slice r.legsA r.legs.length r.legsC, Value.slice r.pausesA r.pauses.length r.pausesC, Value.int IntKind.i64 r.fromWhere, Value.int IntKind.i64 r.fromPlace, Value.int IntKind.i64 r.where_, Value.int IntKind.i64 r.place] 27)) wr ∧ w.heap.size + 1 < wr.heap.size ∧ wr.cell? ⟨w.heap.size + 1, 0, none⟩ = some (.int .i64 (prevS r k).lo) ∧ wr.cell? ⟨w.heap.size + 1, 1, none⟩ = some (.int .i64 (prevS r k).hi) ∧ wr.frozen? ⟨w.heap.size + 1, 0, none⟩ = false ∧ wr.frozen? ⟨w.heap.size + 1, 1, none⟩ = false ∧ Hid (∀ j (h : j < r.legs.length), j < k → r.legs[j].from_ = prevS r j)) (fun i wr => r.legs.length - (intOf i).toNat)
    case atStart =>
      refine ⟨0, Nat.zero_le _, rfl, ?_, ?_, ?_, ?_, ?_, ?_, fun _ _ h => absurd h (Nat.not_lt_zero _)⟩
      · repeat (first | with_reducible exact (Below.refl _ _) | with_reducible refine Below.setCell ?_ ?_ _ | with_reducible refine Below.alloc ?_ ?_ _ | with_reducible refine Below.drew ?_ | with_reducible refine below_drewN ?_ _ | omega | (simp <;> omega))
      all_goals simp [prevS]
    case round =>
      obtain ⟨k, hk, rfl, hb, hz1, e1, e2, e3, e4, hno⟩ := hrel
      obtain ⟨hc, hz⟩ := bcell hb
      have hs1 : w.heap.size < w.heap.size + 1 := by omega
      have hs2 : w.heap.size < wr.heap.size := by omega
      have HB := hide hb; clear hb
      by_cases hlt : k < r.legs.length
      · obtain ⟨b, o, e0, hbw, hf⟩ := hL (by omega)
        have hbw1 : b < w.heap.size + 1 := by omega
        have hbw2 : b < wr.heap.size := by omega
        obtain ⟨f0, f1, f2, f3, f4⟩ := hf k hlt
        have H0 := hide (prevS_succ r k hlt)
        generalize hfk : r.legs[k] = f at *
        generalize hpk : prevS r k = p at *
        have H2 := hide hf; clear hf
        have H3 := hide hfk; clear hfk
        have H4 := hide hpk; clear hpk
        have HW : Hid (Below w.heap.size w wr) := ((Below.refl _ _).alloc (Nat.le_refl _) _).trans (HB.out.mono (by simp))
        by_cases hn : f.from_.lo = p.lo
        rotate_left
        · have hn' := hn
          have hV := hide (show joinedL r = false from joined_no k hlt (by have := H3.out; subst this; have := H4.out; subst this; intro e; exact hn (by rw [e])))
          clear hno H0 H2 H3 H4
          go_wp2
          go_ret
          exact ⟨by rw [hV.out]; rfl, by repeat (first | with_reducible exact HW.out | with_reducible refine Below.setCell ?_ ?_ _ | with_reducible refine Below.alloc ?_ ?_ _ | with_reducible refine Below.drew ?_ | with_reducible refine below_drewN ?_ _ | omega | (simp <;> omega))⟩
        by_cases hn2 : f.from_.hi = p.hi
        rotate_left
        · have hn' := hn2
          have hV := hide (show joinedL r = false from joined_no k hlt (by have := H3.out; subst this; have := H4.out; subst this; intro e; exact hn2 (by rw [e])))
          clear hno H0 H2 H3 H4
          go_wp2
          go_ret
          exact ⟨by rw [hV.out]; rfl, by repeat (first | with_reducible exact HW.out | with_reducible refine Below.setCell ?_ ?_ _ | with_reducible refine Below.alloc ?_ ?_ _ | with_reducible refine Below.drew ?_ | with_reducible refine below_drewN ?_ _ | omega | (simp <;> omega))⟩
        have he := hide (show f.from_ = p from eqS_iff.1 (by simp [eqS, hn, hn2]))
        go_wp2
        rw [e0]
        go_roundw
        case rel =>
          refine ⟨k+1, by omega, by go_num, ?_, ?_, ?_, ?_, ?_, ?_, ?_⟩
          · rw [← e0]
            repeat (first | with_reducible exact HB.out | with_reducible refine Below.setCell ?_ ?_ _ | with_reducible refine Below.alloc ?_ ?_ _ | with_reducible refine Below.drew ?_ | with_reducible refine below_drewN ?_ _ | omega | (simp <;> omega))
          · simp; omega
          · rw [H0.out]; simp [go_sem, e1, e2, e3, e4, hz1]
          · rw [H0.out]; simp [go_sem, e1, e2, e3, e4, hz1]
          · simp [go_sem, e1, e2, e3, e4, hz1]
          · simp [go_sem, e1, e2, e3, e4, hz1]
          · intro j h hj
            by_cases e : j = k
            · subst e; have := H3.out; subst this; have := H4.out; subst this; exact he.out
            · exact hno.out j h (by omega)
        case measure => simp [intOf]; omega
      · obtain rfl : k = r.legs.length := by omega
        have hV := hide (joined_yes hh.out (fun j hj => hno.out j hj hj))
        have HW : Hid (Below w.heap.size w wr) := ((Below.refl _ _).alloc (Nat.le_refl _) _).trans (HB.out.mono (by simp))
        generalize hpk : prevS r r.legs.length = p at *
        by_cases hn : p.lo = r.end_.lo
        · by_cases hn2 : p.hi = r.end_.hi
          · have he := hide (show eqS p r.end_ = true by simp [eqS, hn, hn2])
            go_wp2
            go_ret
            exact ⟨by rw [hV.out, he.out]; rfl, by repeat (first | with_reducible exact HW.out | with_reducible refine Below.setCell ?_ ?_ _ | with_reducible refine Below.alloc ?_ ?_ _ | with_reducible refine Below.drew ?_ | with_reducible refine below_drewN ?_ _ | omega | (simp <;> omega))⟩
          · have he := hide (show eqS p r.end_ = false by simp [eqS, hn, hn2])
            go_wp2
            go_ret
            exact ⟨by rw [hV.out, he.out]; rfl, by repeat (first | with_reducible exact HW.out | with_reducible refine Below.setCell ?_ ?_ _ | with_reducible refine Below.alloc ?_ ?_ _ | with_reducible refine Below.drew ?_ | with_reducible refine below_drewN ?_ _ | omega | (simp <;> omega))⟩
        · have he := hide (show eqS p r.end_ = false by simp [eqS, hn])
          go_wp2
          go_ret
          exact ⟨by rw [hV.out, he.out]; rfl, by repeat (first | with_reducible exact HW.out | with_reducible refine Below.setCell ?_ ?_ _ | with_reducible refine Below.alloc ?_ ?_ _ | with_reducible refine Below.drew ?_ | with_reducible refine below_drewN ?_ _ | omega | (simp <;> omega))⟩
end Go.Proofs.Ytfpdhalfkfffnaa
