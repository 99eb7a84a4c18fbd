import Derived.Test.YtfpdhalfkfffnaaBase
namespace Go.Proofs.Ytfpdhalfkfffnaa
open Go.RowKit
set_option linter.unusedVariables false

@[reducible] def SV (s : SpanS) : Value := .agg #[.int .i64 s.lo, .int .i64 s.hi]
@[reducible] def RV (r : RideS) : Value := .agg #[.int .i64 r.id, .int .i64 r.rider, .int .i64 r.start.lo, .int .i64 r.start.hi, .int .i64 r.end_.lo, .int .i64 r.end_.hi, .bool r.open_, .slice r.legsA r.legs.length r.legsC, .slice r.pausesA r.pauses.length r.pausesC, .int .i64 r.fromWhere, .int .i64 r.fromPlace, .int .i64 r.where_, .int .i64 r.place]

def validL (s : SpanS) : Bool := decide (0 ≤ s.lo) && decide (s.lo ≤ s.hi) && decide (s.hi ≤ 4294943999)
theorem valid_cases (s : SpanS) : (validL s = false ∧ s.lo < 0) ∨ (validL s = false ∧ 0 ≤ s.lo ∧ s.hi < s.lo) ∨ (validL s = false ∧ 0 ≤ s.lo ∧ s.lo ≤ s.hi ∧ 4294943999 < s.hi) ∨ (validL s = true ∧ 0 ≤ s.lo ∧ s.lo ≤ s.hi ∧ s.hi ≤ 4294943999) := by
  by_cases h1 : s.lo < 0
  · left; simp [validL]; omega
  · by_cases h2 : s.hi < s.lo
    · right; left; simp [validL]; omega
    · by_cases h3 : 4294943999 < s.hi
      · right; right; left; simp [validL]; omega
      · right; right; right; simp [validL]; omega

set_option maxHeartbeats 400000 in
theorem valid_c (lo hi : Int) (w : World) : Calls Try.prog 46 #[.agg #[.int .i64 lo, .int .i64 hi]] w (Ret w (.bool (validL ⟨lo, hi⟩))) := by
  rcases valid_cases ⟨lo, hi⟩ with ⟨h, h1⟩ | ⟨h, h1, h2⟩ | ⟨h, h1, h2, h3⟩ | ⟨h, h1, h2, h3⟩
  all_goals
    rw [h]
    clear h
    simp only at *
    go_enter Try.func46, Try.ntmps46
    go_wp2
    go_ret
    refine ⟨by first | rfl | (congr 2; simp; omega), ?_⟩
    repeat (first | with_reducible exact Below.refl _ _ | with_reducible refine Below.setCell ?_ ?_ _ | with_reducible refine Below.alloc ?_ ?_ _ | omega | (simp <;> omega))
set_option maxHeartbeats 400000 in
theorem span_c (lo hi : Int) (w : World) : Calls Try.prog 44 #[.agg #[.int .i64 lo, .int .i64 hi]] w (Ret w (.bool (validL ⟨lo, hi⟩))) := by
  rcases valid_cases ⟨lo, hi⟩ with ⟨h, h1⟩ | ⟨h, h1, h2⟩ | ⟨h, h1, h2, h3⟩ | ⟨h, h1, h2, h3⟩
  all_goals
    rw [h]
    clear h
    simp only at *
    go_enter Try.func44, Try.ntmps44
    go_wp2
    go_ret
    refine ⟨by first | rfl | (congr 2; simp; omega), ?_⟩
    repeat (first | with_reducible exact Below.refl _ _ | with_reducible refine Below.setCell ?_ ?_ _ | with_reducible refine Below.alloc ?_ ?_ _ | omega | (simp <;> omega))
end Go.Proofs.Ytfpdhalfkfffnaa
